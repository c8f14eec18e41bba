/- ShamirMerge: the statement: for every input the law returns true, and the arguments read as before. -/
import Derived.Test.YtjfaaicbojnpaaaMrgG
import Derived.Test.YtjfaaicbojnpaaaOpen
import Derived.Test.YtjfaaicbojnpaaaRows
namespace Go.Proofs.Ytjfaaicbojnpaaa.lawMerge
open Go.ChangeShapes Go.WideShapes Go.ChangeAt Go.RowKit Num
set_option linter.unusedSimpArgs false
set_option linter.unusedVariables false

theorem mallS_same {P Q : Int} {A O : Dl} (hx : O.xs = A.xs) (hy : O.ys = A.ys) (t : List Dl) : mallS P Q O (O :: t) = mallS P Q A (A :: t) := by
  simp only [mallS, hx, hy, List.all_cons]
theorem mergeS_same {P Q G : Int} {A O : Dl} (hx : O.xs = A.xs) (hy : O.ys = A.ys) (t : List Dl) : mergeS P Q G (O :: t) = mergeS P Q G (A :: t) := by
  have h := mallS_same (P := P) (Q := Q) hx hy t
  unfold mergeS
  split
  · simp only [h, hx, hy, List.length_cons]
  · rfl
set_option maxRecDepth 100000 in
set_option maxHeartbeats 12800000 in
theorem walk (P Q G : Int) (A B C : Dl) (w : World) (uP : U64 P) (uQ : U64 Q) (uG : U64 G) (hA : DlA w A) (hB : DlA w B) (hC : DlA w C) :
    Calls Try.prog 3 #[.agg #[.int .u64 P, .int .u64 Q, .int .u64 G], .agg #[.slice A.a A.n A.c, .slice A.b A.m A.d], .agg #[.slice B.a B.n B.c, .slice B.b B.m B.d], .agg #[.slice C.a C.n C.c, .slice C.b C.m C.d]] w fun e w' => e = .returned (.bool true) ∧ Below w.heap.size w w' := by
  have hP := uP.1
  have hQ := uQ.1
  have hG := uG.1
  have HA := Lib.hid hA
  have HB := Lib.hid hB
  have HC := Lib.hid hC
  clear hA hB hC
  by_cases hg0 : 100 < A.n
  case pos =>
    have HG0 := Lib.hid (show decide (100 < A.n) = true by simpa using hg0)
    have F_g := Lib.hid (show Boxed ((((w.alloc (.cells #[.int .u64 P, .int .u64 Q, .int .u64 G] 24)).alloc (.cells #[.slice A.a A.n A.c, .slice A.b A.m A.d] 27)).alloc (.cells #[.slice B.a B.n B.c, .slice B.b B.m B.d] 27)).alloc (.cells #[.slice C.a C.n C.c, .slice C.b C.m C.d] 27)) w.heap.size P Q G from (((Boxed.at _ P Q G _ w.heap.size (by simp)).alloc _).alloc _).alloc _)
    have F_a := Lib.hid (show DealBox ((((w.alloc (.cells #[.int .u64 P, .int .u64 Q, .int .u64 G] 24)).alloc (.cells #[.slice A.a A.n A.c, .slice A.b A.m A.d] 27)).alloc (.cells #[.slice B.a B.n B.c, .slice B.b B.m B.d] 27)).alloc (.cells #[.slice C.a C.n C.c, .slice C.b C.m C.d] 27)) (w.heap.size + 1) (.slice A.a A.n A.c) (.slice A.b A.m A.d) from ((DealBox.at _ _ _ _ (w.heap.size + 1) (by simp)).alloc _).alloc _)
    have F_b := Lib.hid (show DealBox ((((w.alloc (.cells #[.int .u64 P, .int .u64 Q, .int .u64 G] 24)).alloc (.cells #[.slice A.a A.n A.c, .slice A.b A.m A.d] 27)).alloc (.cells #[.slice B.a B.n B.c, .slice B.b B.m B.d] 27)).alloc (.cells #[.slice C.a C.n C.c, .slice C.b C.m C.d] 27)) (w.heap.size + 1 + 1) (.slice B.a B.n B.c) (.slice B.b B.m B.d) from (DealBox.at _ _ _ _ (w.heap.size + 1 + 1) (by simp)).alloc _)
    have F_c := Lib.hid (show DealBox ((((w.alloc (.cells #[.int .u64 P, .int .u64 Q, .int .u64 G] 24)).alloc (.cells #[.slice A.a A.n A.c, .slice A.b A.m A.d] 27)).alloc (.cells #[.slice B.a B.n B.c, .slice B.b B.m B.d] 27)).alloc (.cells #[.slice C.a C.n C.c, .slice C.b C.m C.d] 27)) (w.heap.size + 1 + 1 + 1) (.slice C.a C.n C.c) (.slice C.b C.m C.d) from DealBox.at _ _ _ _ (w.heap.size + 1 + 1 + 1) (by simp))
    have HBW := Lib.hid (show Below w.heap.size w ((((w.alloc (.cells #[.int .u64 P, .int .u64 Q, .int .u64 G] 24)).alloc (.cells #[.slice A.a A.n A.c, .slice A.b A.m A.d] 27)).alloc (.cells #[.slice B.a B.n B.c, .slice B.b B.m B.d] 27)).alloc (.cells #[.slice C.a C.n C.c, .slice C.b C.m C.d] 27)) from ((((Below.refl _ _).alloc (by simp <;> omega) _).alloc (by simp <;> omega) _).alloc (by simp <;> omega) _).alloc (by simp <;> omega) _)
    go_enter Try.func3, Try.ntmps3
    obtain ⟨x0a, x0b, x0c, -⟩ := id F_g.out
    obtain ⟨x1a, x1b, x1c, x1d, -⟩ := id F_a.out
    obtain ⟨x2a, x2b, x2c, x2d, -⟩ := id F_b.out
    obtain ⟨x3a, x3b, x3c, x3d, -⟩ := id F_c.out
    go_wp2_with fail
    clear x0a x0b x0c x1a x1b x1c x1d x2a x2b x2c x2d x3a x3b x3c x3d
    refine (rgreat34_any _ HG0.out).mono ?_
    rintro e w1 ⟨rfl, rfl⟩
    obtain ⟨x0a, x0b, x0c, -⟩ := id F_g.out
    obtain ⟨x1a, x1b, x1c, x1d, -⟩ := id F_a.out
    obtain ⟨x2a, x2b, x2c, x2d, -⟩ := id F_b.out
    obtain ⟨x3a, x3b, x3c, x3d, -⟩ := id F_c.out
    go_wp2_with fail
    go_ret
    exact ⟨rfl, HBW.out⟩
  case neg =>
    have HG0 := Lib.hid (show decide (100 < A.n) = false by simpa using hg0)
    by_cases hg1 : 100 < A.m
    case pos =>
      have HG1 := Lib.hid (show decide (100 < A.m) = true by simpa using hg1)
      have F_g := Lib.hid (show Boxed ((((w.alloc (.cells #[.int .u64 P, .int .u64 Q, .int .u64 G] 24)).alloc (.cells #[.slice A.a A.n A.c, .slice A.b A.m A.d] 27)).alloc (.cells #[.slice B.a B.n B.c, .slice B.b B.m B.d] 27)).alloc (.cells #[.slice C.a C.n C.c, .slice C.b C.m C.d] 27)) w.heap.size P Q G from (((Boxed.at _ P Q G _ w.heap.size (by simp)).alloc _).alloc _).alloc _)
      have F_a := Lib.hid (show DealBox ((((w.alloc (.cells #[.int .u64 P, .int .u64 Q, .int .u64 G] 24)).alloc (.cells #[.slice A.a A.n A.c, .slice A.b A.m A.d] 27)).alloc (.cells #[.slice B.a B.n B.c, .slice B.b B.m B.d] 27)).alloc (.cells #[.slice C.a C.n C.c, .slice C.b C.m C.d] 27)) (w.heap.size + 1) (.slice A.a A.n A.c) (.slice A.b A.m A.d) from ((DealBox.at _ _ _ _ (w.heap.size + 1) (by simp)).alloc _).alloc _)
      have F_b := Lib.hid (show DealBox ((((w.alloc (.cells #[.int .u64 P, .int .u64 Q, .int .u64 G] 24)).alloc (.cells #[.slice A.a A.n A.c, .slice A.b A.m A.d] 27)).alloc (.cells #[.slice B.a B.n B.c, .slice B.b B.m B.d] 27)).alloc (.cells #[.slice C.a C.n C.c, .slice C.b C.m C.d] 27)) (w.heap.size + 1 + 1) (.slice B.a B.n B.c) (.slice B.b B.m B.d) from (DealBox.at _ _ _ _ (w.heap.size + 1 + 1) (by simp)).alloc _)
      have F_c := Lib.hid (show DealBox ((((w.alloc (.cells #[.int .u64 P, .int .u64 Q, .int .u64 G] 24)).alloc (.cells #[.slice A.a A.n A.c, .slice A.b A.m A.d] 27)).alloc (.cells #[.slice B.a B.n B.c, .slice B.b B.m B.d] 27)).alloc (.cells #[.slice C.a C.n C.c, .slice C.b C.m C.d] 27)) (w.heap.size + 1 + 1 + 1) (.slice C.a C.n C.c) (.slice C.b C.m C.d) from DealBox.at _ _ _ _ (w.heap.size + 1 + 1 + 1) (by simp))
      have HBW := Lib.hid (show Below w.heap.size w ((((w.alloc (.cells #[.int .u64 P, .int .u64 Q, .int .u64 G] 24)).alloc (.cells #[.slice A.a A.n A.c, .slice A.b A.m A.d] 27)).alloc (.cells #[.slice B.a B.n B.c, .slice B.b B.m B.d] 27)).alloc (.cells #[.slice C.a C.n C.c, .slice C.b C.m C.d] 27)) from ((((Below.refl _ _).alloc (by simp <;> omega) _).alloc (by simp <;> omega) _).alloc (by simp <;> omega) _).alloc (by simp <;> omega) _)
      go_enter Try.func3, Try.ntmps3
      obtain ⟨x0a, x0b, x0c, -⟩ := id F_g.out
      obtain ⟨x1a, x1b, x1c, x1d, -⟩ := id F_a.out
      obtain ⟨x2a, x2b, x2c, x2d, -⟩ := id F_b.out
      obtain ⟨x3a, x3b, x3c, x3d, -⟩ := id F_c.out
      go_wp2_with fail
      clear x0a x0b x0c x1a x1b x1c x1d x2a x2b x2c x2d x3a x3b x3c x3d
      refine (rgreat34_any _ HG0.out).mono ?_
      rintro e w1 ⟨rfl, rfl⟩
      obtain ⟨x0a, x0b, x0c, -⟩ := id F_g.out
      obtain ⟨x1a, x1b, x1c, x1d, -⟩ := id F_a.out
      obtain ⟨x2a, x2b, x2c, x2d, -⟩ := id F_b.out
      obtain ⟨x3a, x3b, x3c, x3d, -⟩ := id F_c.out
      go_wp2_with fail
      clear x0a x0b x0c x1a x1b x1c x1d x2a x2b x2c x2d x3a x3b x3c x3d
      refine (rgreat34_any _ HG1.out).mono ?_
      rintro e w2 ⟨rfl, rfl⟩
      obtain ⟨x0a, x0b, x0c, -⟩ := id F_g.out
      obtain ⟨x1a, x1b, x1c, x1d, -⟩ := id F_a.out
      obtain ⟨x2a, x2b, x2c, x2d, -⟩ := id F_b.out
      obtain ⟨x3a, x3b, x3c, x3d, -⟩ := id F_c.out
      go_wp2_with fail
      go_ret
      exact ⟨rfl, HBW.out⟩
    case neg =>
      have HG1 := Lib.hid (show decide (100 < A.m) = false by simpa using hg1)
      by_cases hg2 : 100 < B.n
      case pos =>
        have HG2 := Lib.hid (show decide (100 < B.n) = true by simpa using hg2)
        have F_g := Lib.hid (show Boxed ((((w.alloc (.cells #[.int .u64 P, .int .u64 Q, .int .u64 G] 24)).alloc (.cells #[.slice A.a A.n A.c, .slice A.b A.m A.d] 27)).alloc (.cells #[.slice B.a B.n B.c, .slice B.b B.m B.d] 27)).alloc (.cells #[.slice C.a C.n C.c, .slice C.b C.m C.d] 27)) w.heap.size P Q G from (((Boxed.at _ P Q G _ w.heap.size (by simp)).alloc _).alloc _).alloc _)
        have F_a := Lib.hid (show DealBox ((((w.alloc (.cells #[.int .u64 P, .int .u64 Q, .int .u64 G] 24)).alloc (.cells #[.slice A.a A.n A.c, .slice A.b A.m A.d] 27)).alloc (.cells #[.slice B.a B.n B.c, .slice B.b B.m B.d] 27)).alloc (.cells #[.slice C.a C.n C.c, .slice C.b C.m C.d] 27)) (w.heap.size + 1) (.slice A.a A.n A.c) (.slice A.b A.m A.d) from ((DealBox.at _ _ _ _ (w.heap.size + 1) (by simp)).alloc _).alloc _)
        have F_b := Lib.hid (show DealBox ((((w.alloc (.cells #[.int .u64 P, .int .u64 Q, .int .u64 G] 24)).alloc (.cells #[.slice A.a A.n A.c, .slice A.b A.m A.d] 27)).alloc (.cells #[.slice B.a B.n B.c, .slice B.b B.m B.d] 27)).alloc (.cells #[.slice C.a C.n C.c, .slice C.b C.m C.d] 27)) (w.heap.size + 1 + 1) (.slice B.a B.n B.c) (.slice B.b B.m B.d) from (DealBox.at _ _ _ _ (w.heap.size + 1 + 1) (by simp)).alloc _)
        have F_c := Lib.hid (show DealBox ((((w.alloc (.cells #[.int .u64 P, .int .u64 Q, .int .u64 G] 24)).alloc (.cells #[.slice A.a A.n A.c, .slice A.b A.m A.d] 27)).alloc (.cells #[.slice B.a B.n B.c, .slice B.b B.m B.d] 27)).alloc (.cells #[.slice C.a C.n C.c, .slice C.b C.m C.d] 27)) (w.heap.size + 1 + 1 + 1) (.slice C.a C.n C.c) (.slice C.b C.m C.d) from DealBox.at _ _ _ _ (w.heap.size + 1 + 1 + 1) (by simp))
        have HBW := Lib.hid (show Below w.heap.size w ((((w.alloc (.cells #[.int .u64 P, .int .u64 Q, .int .u64 G] 24)).alloc (.cells #[.slice A.a A.n A.c, .slice A.b A.m A.d] 27)).alloc (.cells #[.slice B.a B.n B.c, .slice B.b B.m B.d] 27)).alloc (.cells #[.slice C.a C.n C.c, .slice C.b C.m C.d] 27)) from ((((Below.refl _ _).alloc (by simp <;> omega) _).alloc (by simp <;> omega) _).alloc (by simp <;> omega) _).alloc (by simp <;> omega) _)
        go_enter Try.func3, Try.ntmps3
        obtain ⟨x0a, x0b, x0c, -⟩ := id F_g.out
        obtain ⟨x1a, x1b, x1c, x1d, -⟩ := id F_a.out
        obtain ⟨x2a, x2b, x2c, x2d, -⟩ := id F_b.out
        obtain ⟨x3a, x3b, x3c, x3d, -⟩ := id F_c.out
        go_wp2_with fail
        clear x0a x0b x0c x1a x1b x1c x1d x2a x2b x2c x2d x3a x3b x3c x3d
        refine (rgreat34_any _ HG0.out).mono ?_
        rintro e w1 ⟨rfl, rfl⟩
        obtain ⟨x0a, x0b, x0c, -⟩ := id F_g.out
        obtain ⟨x1a, x1b, x1c, x1d, -⟩ := id F_a.out
        obtain ⟨x2a, x2b, x2c, x2d, -⟩ := id F_b.out
        obtain ⟨x3a, x3b, x3c, x3d, -⟩ := id F_c.out
        go_wp2_with fail
        clear x0a x0b x0c x1a x1b x1c x1d x2a x2b x2c x2d x3a x3b x3c x3d
        refine (rgreat34_any _ HG1.out).mono ?_
        rintro e w2 ⟨rfl, rfl⟩
        obtain ⟨x0a, x0b, x0c, -⟩ := id F_g.out
        obtain ⟨x1a, x1b, x1c, x1d, -⟩ := id F_a.out
        obtain ⟨x2a, x2b, x2c, x2d, -⟩ := id F_b.out
        obtain ⟨x3a, x3b, x3c, x3d, -⟩ := id F_c.out
        go_wp2_with fail
        clear x0a x0b x0c x1a x1b x1c x1d x2a x2b x2c x2d x3a x3b x3c x3d
        refine (rgreat34_any _ HG2.out).mono ?_
        rintro e w3 ⟨rfl, rfl⟩
        obtain ⟨x0a, x0b, x0c, -⟩ := id F_g.out
        obtain ⟨x1a, x1b, x1c, x1d, -⟩ := id F_a.out
        obtain ⟨x2a, x2b, x2c, x2d, -⟩ := id F_b.out
        obtain ⟨x3a, x3b, x3c, x3d, -⟩ := id F_c.out
        go_wp2_with fail
        go_ret
        exact ⟨rfl, HBW.out⟩
      case neg =>
        have HG2 := Lib.hid (show decide (100 < B.n) = false by simpa using hg2)
        by_cases hg3 : 100 < B.m
        case pos =>
          have HG3 := Lib.hid (show decide (100 < B.m) = true by simpa using hg3)
          have F_g := Lib.hid (show Boxed ((((w.alloc (.cells #[.int .u64 P, .int .u64 Q, .int .u64 G] 24)).alloc (.cells #[.slice A.a A.n A.c, .slice A.b A.m A.d] 27)).alloc (.cells #[.slice B.a B.n B.c, .slice B.b B.m B.d] 27)).alloc (.cells #[.slice C.a C.n C.c, .slice C.b C.m C.d] 27)) w.heap.size P Q G from (((Boxed.at _ P Q G _ w.heap.size (by simp)).alloc _).alloc _).alloc _)
          have F_a := Lib.hid (show DealBox ((((w.alloc (.cells #[.int .u64 P, .int .u64 Q, .int .u64 G] 24)).alloc (.cells #[.slice A.a A.n A.c, .slice A.b A.m A.d] 27)).alloc (.cells #[.slice B.a B.n B.c, .slice B.b B.m B.d] 27)).alloc (.cells #[.slice C.a C.n C.c, .slice C.b C.m C.d] 27)) (w.heap.size + 1) (.slice A.a A.n A.c) (.slice A.b A.m A.d) from ((DealBox.at _ _ _ _ (w.heap.size + 1) (by simp)).alloc _).alloc _)
          have F_b := Lib.hid (show DealBox ((((w.alloc (.cells #[.int .u64 P, .int .u64 Q, .int .u64 G] 24)).alloc (.cells #[.slice A.a A.n A.c, .slice A.b A.m A.d] 27)).alloc (.cells #[.slice B.a B.n B.c, .slice B.b B.m B.d] 27)).alloc (.cells #[.slice C.a C.n C.c, .slice C.b C.m C.d] 27)) (w.heap.size + 1 + 1) (.slice B.a B.n B.c) (.slice B.b B.m B.d) from (DealBox.at _ _ _ _ (w.heap.size + 1 + 1) (by simp)).alloc _)
          have F_c := Lib.hid (show DealBox ((((w.alloc (.cells #[.int .u64 P, .int .u64 Q, .int .u64 G] 24)).alloc (.cells #[.slice A.a A.n A.c, .slice A.b A.m A.d] 27)).alloc (.cells #[.slice B.a B.n B.c, .slice B.b B.m B.d] 27)).alloc (.cells #[.slice C.a C.n C.c, .slice C.b C.m C.d] 27)) (w.heap.size + 1 + 1 + 1) (.slice C.a C.n C.c) (.slice C.b C.m C.d) from DealBox.at _ _ _ _ (w.heap.size + 1 + 1 + 1) (by simp))
          have HBW := Lib.hid (show Below w.heap.size w ((((w.alloc (.cells #[.int .u64 P, .int .u64 Q, .int .u64 G] 24)).alloc (.cells #[.slice A.a A.n A.c, .slice A.b A.m A.d] 27)).alloc (.cells #[.slice B.a B.n B.c, .slice B.b B.m B.d] 27)).alloc (.cells #[.slice C.a C.n C.c, .slice C.b C.m C.d] 27)) from ((((Below.refl _ _).alloc (by simp <;> omega) _).alloc (by simp <;> omega) _).alloc (by simp <;> omega) _).alloc (by simp <;> omega) _)
          go_enter Try.func3, Try.ntmps3
          obtain ⟨x0a, x0b, x0c, -⟩ := id F_g.out
          obtain ⟨x1a, x1b, x1c, x1d, -⟩ := id F_a.out
          obtain ⟨x2a, x2b, x2c, x2d, -⟩ := id F_b.out
          obtain ⟨x3a, x3b, x3c, x3d, -⟩ := id F_c.out
          go_wp2_with fail
          clear x0a x0b x0c x1a x1b x1c x1d x2a x2b x2c x2d x3a x3b x3c x3d
          refine (rgreat34_any _ HG0.out).mono ?_
          rintro e w1 ⟨rfl, rfl⟩
          obtain ⟨x0a, x0b, x0c, -⟩ := id F_g.out
          obtain ⟨x1a, x1b, x1c, x1d, -⟩ := id F_a.out
          obtain ⟨x2a, x2b, x2c, x2d, -⟩ := id F_b.out
          obtain ⟨x3a, x3b, x3c, x3d, -⟩ := id F_c.out
          go_wp2_with fail
          clear x0a x0b x0c x1a x1b x1c x1d x2a x2b x2c x2d x3a x3b x3c x3d
          refine (rgreat34_any _ HG1.out).mono ?_
          rintro e w2 ⟨rfl, rfl⟩
          obtain ⟨x0a, x0b, x0c, -⟩ := id F_g.out
          obtain ⟨x1a, x1b, x1c, x1d, -⟩ := id F_a.out
          obtain ⟨x2a, x2b, x2c, x2d, -⟩ := id F_b.out
          obtain ⟨x3a, x3b, x3c, x3d, -⟩ := id F_c.out
          go_wp2_with fail
          clear x0a x0b x0c x1a x1b x1c x1d x2a x2b x2c x2d x3a x3b x3c x3d
          refine (rgreat34_any _ HG2.out).mono ?_
          rintro e w3 ⟨rfl, rfl⟩
          obtain ⟨x0a, x0b, x0c, -⟩ := id F_g.out
          obtain ⟨x1a, x1b, x1c, x1d, -⟩ := id F_a.out
          obtain ⟨x2a, x2b, x2c, x2d, -⟩ := id F_b.out
          obtain ⟨x3a, x3b, x3c, x3d, -⟩ := id F_c.out
          go_wp2_with fail
          clear x0a x0b x0c x1a x1b x1c x1d x2a x2b x2c x2d x3a x3b x3c x3d
          refine (rgreat34_any _ HG3.out).mono ?_
          rintro e w4 ⟨rfl, rfl⟩
          obtain ⟨x0a, x0b, x0c, -⟩ := id F_g.out
          obtain ⟨x1a, x1b, x1c, x1d, -⟩ := id F_a.out
          obtain ⟨x2a, x2b, x2c, x2d, -⟩ := id F_b.out
          obtain ⟨x3a, x3b, x3c, x3d, -⟩ := id F_c.out
          go_wp2_with fail
          go_ret
          exact ⟨rfl, HBW.out⟩
        case neg =>
          have HG3 := Lib.hid (show decide (100 < B.m) = false by simpa using hg3)
          by_cases hg4 : 100 < C.n
          case pos =>
            have HG4 := Lib.hid (show decide (100 < C.n) = true by simpa using hg4)
            have F_g := Lib.hid (show Boxed ((((w.alloc (.cells #[.int .u64 P, .int .u64 Q, .int .u64 G] 24)).alloc (.cells #[.slice A.a A.n A.c, .slice A.b A.m A.d] 27)).alloc (.cells #[.slice B.a B.n B.c, .slice B.b B.m B.d] 27)).alloc (.cells #[.slice C.a C.n C.c, .slice C.b C.m C.d] 27)) w.heap.size P Q G from (((Boxed.at _ P Q G _ w.heap.size (by simp)).alloc _).alloc _).alloc _)
            have F_a := Lib.hid (show DealBox ((((w.alloc (.cells #[.int .u64 P, .int .u64 Q, .int .u64 G] 24)).alloc (.cells #[.slice A.a A.n A.c, .slice A.b A.m A.d] 27)).alloc (.cells #[.slice B.a B.n B.c, .slice B.b B.m B.d] 27)).alloc (.cells #[.slice C.a C.n C.c, .slice C.b C.m C.d] 27)) (w.heap.size + 1) (.slice A.a A.n A.c) (.slice A.b A.m A.d) from ((DealBox.at _ _ _ _ (w.heap.size + 1) (by simp)).alloc _).alloc _)
            have F_b := Lib.hid (show DealBox ((((w.alloc (.cells #[.int .u64 P, .int .u64 Q, .int .u64 G] 24)).alloc (.cells #[.slice A.a A.n A.c, .slice A.b A.m A.d] 27)).alloc (.cells #[.slice B.a B.n B.c, .slice B.b B.m B.d] 27)).alloc (.cells #[.slice C.a C.n C.c, .slice C.b C.m C.d] 27)) (w.heap.size + 1 + 1) (.slice B.a B.n B.c) (.slice B.b B.m B.d) from (DealBox.at _ _ _ _ (w.heap.size + 1 + 1) (by simp)).alloc _)
            have F_c := Lib.hid (show DealBox ((((w.alloc (.cells #[.int .u64 P, .int .u64 Q, .int .u64 G] 24)).alloc (.cells #[.slice A.a A.n A.c, .slice A.b A.m A.d] 27)).alloc (.cells #[.slice B.a B.n B.c, .slice B.b B.m B.d] 27)).alloc (.cells #[.slice C.a C.n C.c, .slice C.b C.m C.d] 27)) (w.heap.size + 1 + 1 + 1) (.slice C.a C.n C.c) (.slice C.b C.m C.d) from DealBox.at _ _ _ _ (w.heap.size + 1 + 1 + 1) (by simp))
            have HBW := Lib.hid (show Below w.heap.size w ((((w.alloc (.cells #[.int .u64 P, .int .u64 Q, .int .u64 G] 24)).alloc (.cells #[.slice A.a A.n A.c, .slice A.b A.m A.d] 27)).alloc (.cells #[.slice B.a B.n B.c, .slice B.b B.m B.d] 27)).alloc (.cells #[.slice C.a C.n C.c, .slice C.b C.m C.d] 27)) from ((((Below.refl _ _).alloc (by simp <;> omega) _).alloc (by simp <;> omega) _).alloc (by simp <;> omega) _).alloc (by simp <;> omega) _)
            go_enter Try.func3, Try.ntmps3
            obtain ⟨x0a, x0b, x0c, -⟩ := id F_g.out
            obtain ⟨x1a, x1b, x1c, x1d, -⟩ := id F_a.out
            obtain ⟨x2a, x2b, x2c, x2d, -⟩ := id F_b.out
            obtain ⟨x3a, x3b, x3c, x3d, -⟩ := id F_c.out
            go_wp2_with fail
            clear x0a x0b x0c x1a x1b x1c x1d x2a x2b x2c x2d x3a x3b x3c x3d
            refine (rgreat34_any _ HG0.out).mono ?_
            rintro e w1 ⟨rfl, rfl⟩
            obtain ⟨x0a, x0b, x0c, -⟩ := id F_g.out
            obtain ⟨x1a, x1b, x1c, x1d, -⟩ := id F_a.out
            obtain ⟨x2a, x2b, x2c, x2d, -⟩ := id F_b.out
            obtain ⟨x3a, x3b, x3c, x3d, -⟩ := id F_c.out
            go_wp2_with fail
            clear x0a x0b x0c x1a x1b x1c x1d x2a x2b x2c x2d x3a x3b x3c x3d
            refine (rgreat34_any _ HG1.out).mono ?_
            rintro e w2 ⟨rfl, rfl⟩
            obtain ⟨x0a, x0b, x0c, -⟩ := id F_g.out
            obtain ⟨x1a, x1b, x1c, x1d, -⟩ := id F_a.out
            obtain ⟨x2a, x2b, x2c, x2d, -⟩ := id F_b.out
            obtain ⟨x3a, x3b, x3c, x3d, -⟩ := id F_c.out
            go_wp2_with fail
            clear x0a x0b x0c x1a x1b x1c x1d x2a x2b x2c x2d x3a x3b x3c x3d
            refine (rgreat34_any _ HG2.out).mono ?_
            rintro e w3 ⟨rfl, rfl⟩
            obtain ⟨x0a, x0b, x0c, -⟩ := id F_g.out
            obtain ⟨x1a, x1b, x1c, x1d, -⟩ := id F_a.out
            obtain ⟨x2a, x2b, x2c, x2d, -⟩ := id F_b.out
            obtain ⟨x3a, x3b, x3c, x3d, -⟩ := id F_c.out
            go_wp2_with fail
            clear x0a x0b x0c x1a x1b x1c x1d x2a x2b x2c x2d x3a x3b x3c x3d
            refine (rgreat34_any _ HG3.out).mono ?_
            rintro e w4 ⟨rfl, rfl⟩
            obtain ⟨x0a, x0b, x0c, -⟩ := id F_g.out
            obtain ⟨x1a, x1b, x1c, x1d, -⟩ := id F_a.out
            obtain ⟨x2a, x2b, x2c, x2d, -⟩ := id F_b.out
            obtain ⟨x3a, x3b, x3c, x3d, -⟩ := id F_c.out
            go_wp2_with fail
            clear x0a x0b x0c x1a x1b x1c x1d x2a x2b x2c x2d x3a x3b x3c x3d
            refine (rgreat34_any _ HG4.out).mono ?_
            rintro e w5 ⟨rfl, rfl⟩
            obtain ⟨x0a, x0b, x0c, -⟩ := id F_g.out
            obtain ⟨x1a, x1b, x1c, x1d, -⟩ := id F_a.out
            obtain ⟨x2a, x2b, x2c, x2d, -⟩ := id F_b.out
            obtain ⟨x3a, x3b, x3c, x3d, -⟩ := id F_c.out
            go_wp2_with fail
            go_ret
            exact ⟨rfl, HBW.out⟩
          case neg =>
            have HG4 := Lib.hid (show decide (100 < C.n) = false by simpa using hg4)
            by_cases hg5 : 100 < C.m
            case pos =>
              have HG5 := Lib.hid (show decide (100 < C.m) = true by simpa using hg5)
              have F_g := Lib.hid (show Boxed ((((w.alloc (.cells #[.int .u64 P, .int .u64 Q, .int .u64 G] 24)).alloc (.cells #[.slice A.a A.n A.c, .slice A.b A.m A.d] 27)).alloc (.cells #[.slice B.a B.n B.c, .slice B.b B.m B.d] 27)).alloc (.cells #[.slice C.a C.n C.c, .slice C.b C.m C.d] 27)) w.heap.size P Q G from (((Boxed.at _ P Q G _ w.heap.size (by simp)).alloc _).alloc _).alloc _)
              have F_a := Lib.hid (show DealBox ((((w.alloc (.cells #[.int .u64 P, .int .u64 Q, .int .u64 G] 24)).alloc (.cells #[.slice A.a A.n A.c, .slice A.b A.m A.d] 27)).alloc (.cells #[.slice B.a B.n B.c, .slice B.b B.m B.d] 27)).alloc (.cells #[.slice C.a C.n C.c, .slice C.b C.m C.d] 27)) (w.heap.size + 1) (.slice A.a A.n A.c) (.slice A.b A.m A.d) from ((DealBox.at _ _ _ _ (w.heap.size + 1) (by simp)).alloc _).alloc _)
              have F_b := Lib.hid (show DealBox ((((w.alloc (.cells #[.int .u64 P, .int .u64 Q, .int .u64 G] 24)).alloc (.cells #[.slice A.a A.n A.c, .slice A.b A.m A.d] 27)).alloc (.cells #[.slice B.a B.n B.c, .slice B.b B.m B.d] 27)).alloc (.cells #[.slice C.a C.n C.c, .slice C.b C.m C.d] 27)) (w.heap.size + 1 + 1) (.slice B.a B.n B.c) (.slice B.b B.m B.d) from (DealBox.at _ _ _ _ (w.heap.size + 1 + 1) (by simp)).alloc _)
              have F_c := Lib.hid (show DealBox ((((w.alloc (.cells #[.int .u64 P, .int .u64 Q, .int .u64 G] 24)).alloc (.cells #[.slice A.a A.n A.c, .slice A.b A.m A.d] 27)).alloc (.cells #[.slice B.a B.n B.c, .slice B.b B.m B.d] 27)).alloc (.cells #[.slice C.a C.n C.c, .slice C.b C.m C.d] 27)) (w.heap.size + 1 + 1 + 1) (.slice C.a C.n C.c) (.slice C.b C.m C.d) from DealBox.at _ _ _ _ (w.heap.size + 1 + 1 + 1) (by simp))
              have HBW := Lib.hid (show Below w.heap.size w ((((w.alloc (.cells #[.int .u64 P, .int .u64 Q, .int .u64 G] 24)).alloc (.cells #[.slice A.a A.n A.c, .slice A.b A.m A.d] 27)).alloc (.cells #[.slice B.a B.n B.c, .slice B.b B.m B.d] 27)).alloc (.cells #[.slice C.a C.n C.c, .slice C.b C.m C.d] 27)) from ((((Below.refl _ _).alloc (by simp <;> omega) _).alloc (by simp <;> omega) _).alloc (by simp <;> omega) _).alloc (by simp <;> omega) _)
              go_enter Try.func3, Try.ntmps3
              obtain ⟨x0a, x0b, x0c, -⟩ := id F_g.out
              obtain ⟨x1a, x1b, x1c, x1d, -⟩ := id F_a.out
              obtain ⟨x2a, x2b, x2c, x2d, -⟩ := id F_b.out
              obtain ⟨x3a, x3b, x3c, x3d, -⟩ := id F_c.out
              go_wp2_with fail
              clear x0a x0b x0c x1a x1b x1c x1d x2a x2b x2c x2d x3a x3b x3c x3d
              refine (rgreat34_any _ HG0.out).mono ?_
              rintro e w1 ⟨rfl, rfl⟩
              obtain ⟨x0a, x0b, x0c, -⟩ := id F_g.out
              obtain ⟨x1a, x1b, x1c, x1d, -⟩ := id F_a.out
              obtain ⟨x2a, x2b, x2c, x2d, -⟩ := id F_b.out
              obtain ⟨x3a, x3b, x3c, x3d, -⟩ := id F_c.out
              go_wp2_with fail
              clear x0a x0b x0c x1a x1b x1c x1d x2a x2b x2c x2d x3a x3b x3c x3d
              refine (rgreat34_any _ HG1.out).mono ?_
              rintro e w2 ⟨rfl, rfl⟩
              obtain ⟨x0a, x0b, x0c, -⟩ := id F_g.out
              obtain ⟨x1a, x1b, x1c, x1d, -⟩ := id F_a.out
              obtain ⟨x2a, x2b, x2c, x2d, -⟩ := id F_b.out
              obtain ⟨x3a, x3b, x3c, x3d, -⟩ := id F_c.out
              go_wp2_with fail
              clear x0a x0b x0c x1a x1b x1c x1d x2a x2b x2c x2d x3a x3b x3c x3d
              refine (rgreat34_any _ HG2.out).mono ?_
              rintro e w3 ⟨rfl, rfl⟩
              obtain ⟨x0a, x0b, x0c, -⟩ := id F_g.out
              obtain ⟨x1a, x1b, x1c, x1d, -⟩ := id F_a.out
              obtain ⟨x2a, x2b, x2c, x2d, -⟩ := id F_b.out
              obtain ⟨x3a, x3b, x3c, x3d, -⟩ := id F_c.out
              go_wp2_with fail
              clear x0a x0b x0c x1a x1b x1c x1d x2a x2b x2c x2d x3a x3b x3c x3d
              refine (rgreat34_any _ HG3.out).mono ?_
              rintro e w4 ⟨rfl, rfl⟩
              obtain ⟨x0a, x0b, x0c, -⟩ := id F_g.out
              obtain ⟨x1a, x1b, x1c, x1d, -⟩ := id F_a.out
              obtain ⟨x2a, x2b, x2c, x2d, -⟩ := id F_b.out
              obtain ⟨x3a, x3b, x3c, x3d, -⟩ := id F_c.out
              go_wp2_with fail
              clear x0a x0b x0c x1a x1b x1c x1d x2a x2b x2c x2d x3a x3b x3c x3d
              refine (rgreat34_any _ HG4.out).mono ?_
              rintro e w5 ⟨rfl, rfl⟩
              obtain ⟨x0a, x0b, x0c, -⟩ := id F_g.out
              obtain ⟨x1a, x1b, x1c, x1d, -⟩ := id F_a.out
              obtain ⟨x2a, x2b, x2c, x2d, -⟩ := id F_b.out
              obtain ⟨x3a, x3b, x3c, x3d, -⟩ := id F_c.out
              go_wp2_with fail
              clear x0a x0b x0c x1a x1b x1c x1d x2a x2b x2c x2d x3a x3b x3c x3d
              refine (rgreat34_any _ HG5.out).mono ?_
              rintro e w6 ⟨rfl, rfl⟩
              obtain ⟨x0a, x0b, x0c, -⟩ := id F_g.out
              obtain ⟨x1a, x1b, x1c, x1d, -⟩ := id F_a.out
              obtain ⟨x2a, x2b, x2c, x2d, -⟩ := id F_b.out
              obtain ⟨x3a, x3b, x3c, x3d, -⟩ := id F_c.out
              go_wp2_with fail
              go_ret
              exact ⟨rfl, HBW.out⟩
            case neg =>
              have HG5 := Lib.hid (show decide (100 < C.m) = false by simpa using hg5)
              obtain ⟨e2, p2, s2, hv2⟩ : ∃ e p s, mergeS P Q G [A, B] = (e, p, s) := ⟨_, _, _, rfl⟩
              obtain ⟨e3, p3, s3, hv3⟩ : ∃ e p s, mergeS P Q G [A, B, C] = (e, p, s) := ⟨_, _, _, rfl⟩
              obtain ⟨e0, p0, s0, hv0⟩ : ∃ e p s, mergeS P Q G [] = (e, p, s) := ⟨_, _, _, rfl⟩
              obtain ⟨l20, l21⟩ := mergeS_len hv2
              obtain ⟨l30, l31⟩ := mergeS_len hv3
              have HV2 := Lib.hid hv2
              have HV3 := Lib.hid hv3
              have HV0 := Lib.hid hv0
              have HLA1 := Lib.hid HA.out.h1.len
              have HLA2 := Lib.hid HA.out.h2.len
              clear hv2 hv3 hv0
              have F_g := Lib.hid (show Boxed ((((w.alloc (.cells #[.int .u64 P, .int .u64 Q, .int .u64 G] 24)).alloc (.cells #[.slice A.a A.n A.c, .slice A.b A.m A.d] 27)).alloc (.cells #[.slice B.a B.n B.c, .slice B.b B.m B.d] 27)).alloc (.cells #[.slice C.a C.n C.c, .slice C.b C.m C.d] 27)) w.heap.size P Q G from (((Boxed.at _ P Q G _ w.heap.size (by simp)).alloc _).alloc _).alloc _)
              have F_a := Lib.hid (show DealBox ((((w.alloc (.cells #[.int .u64 P, .int .u64 Q, .int .u64 G] 24)).alloc (.cells #[.slice A.a A.n A.c, .slice A.b A.m A.d] 27)).alloc (.cells #[.slice B.a B.n B.c, .slice B.b B.m B.d] 27)).alloc (.cells #[.slice C.a C.n C.c, .slice C.b C.m C.d] 27)) (w.heap.size + 1) (.slice A.a A.n A.c) (.slice A.b A.m A.d) from ((DealBox.at _ _ _ _ (w.heap.size + 1) (by simp)).alloc _).alloc _)
              have F_b := Lib.hid (show DealBox ((((w.alloc (.cells #[.int .u64 P, .int .u64 Q, .int .u64 G] 24)).alloc (.cells #[.slice A.a A.n A.c, .slice A.b A.m A.d] 27)).alloc (.cells #[.slice B.a B.n B.c, .slice B.b B.m B.d] 27)).alloc (.cells #[.slice C.a C.n C.c, .slice C.b C.m C.d] 27)) (w.heap.size + 1 + 1) (.slice B.a B.n B.c) (.slice B.b B.m B.d) from (DealBox.at _ _ _ _ (w.heap.size + 1 + 1) (by simp)).alloc _)
              have F_c := Lib.hid (show DealBox ((((w.alloc (.cells #[.int .u64 P, .int .u64 Q, .int .u64 G] 24)).alloc (.cells #[.slice A.a A.n A.c, .slice A.b A.m A.d] 27)).alloc (.cells #[.slice B.a B.n B.c, .slice B.b B.m B.d] 27)).alloc (.cells #[.slice C.a C.n C.c, .slice C.b C.m C.d] 27)) (w.heap.size + 1 + 1 + 1) (.slice C.a C.n C.c) (.slice C.b C.m C.d) from DealBox.at _ _ _ _ (w.heap.size + 1 + 1 + 1) (by simp))
              have HBW := Lib.hid (show Below w.heap.size w ((((w.alloc (.cells #[.int .u64 P, .int .u64 Q, .int .u64 G] 24)).alloc (.cells #[.slice A.a A.n A.c, .slice A.b A.m A.d] 27)).alloc (.cells #[.slice B.a B.n B.c, .slice B.b B.m B.d] 27)).alloc (.cells #[.slice C.a C.n C.c, .slice C.b C.m C.d] 27)) from ((((Below.refl _ _).alloc (by simp <;> omega) _).alloc (by simp <;> omega) _).alloc (by simp <;> omega) _).alloc (by simp <;> omega) _)
              go_enter Try.func3, Try.ntmps3
              obtain ⟨x0a, x0b, x0c, -⟩ := id F_g.out
              obtain ⟨x1a, x1b, x1c, x1d, -⟩ := id F_a.out
              obtain ⟨x2a, x2b, x2c, x2d, -⟩ := id F_b.out
              obtain ⟨x3a, x3b, x3c, x3d, -⟩ := id F_c.out
              go_wp2_with fail
              clear x0a x0b x0c x1a x1b x1c x1d x2a x2b x2c x2d x3a x3b x3c x3d
              refine (rgreat34_any _ HG0.out).mono ?_
              rintro e w1 ⟨rfl, rfl⟩
              obtain ⟨x0a, x0b, x0c, -⟩ := id F_g.out
              obtain ⟨x1a, x1b, x1c, x1d, -⟩ := id F_a.out
              obtain ⟨x2a, x2b, x2c, x2d, -⟩ := id F_b.out
              obtain ⟨x3a, x3b, x3c, x3d, -⟩ := id F_c.out
              go_wp2_with fail
              clear x0a x0b x0c x1a x1b x1c x1d x2a x2b x2c x2d x3a x3b x3c x3d
              refine (rgreat34_any _ HG1.out).mono ?_
              rintro e w2 ⟨rfl, rfl⟩
              obtain ⟨x0a, x0b, x0c, -⟩ := id F_g.out
              obtain ⟨x1a, x1b, x1c, x1d, -⟩ := id F_a.out
              obtain ⟨x2a, x2b, x2c, x2d, -⟩ := id F_b.out
              obtain ⟨x3a, x3b, x3c, x3d, -⟩ := id F_c.out
              go_wp2_with fail
              clear x0a x0b x0c x1a x1b x1c x1d x2a x2b x2c x2d x3a x3b x3c x3d
              refine (rgreat34_any _ HG2.out).mono ?_
              rintro e w3 ⟨rfl, rfl⟩
              obtain ⟨x0a, x0b, x0c, -⟩ := id F_g.out
              obtain ⟨x1a, x1b, x1c, x1d, -⟩ := id F_a.out
              obtain ⟨x2a, x2b, x2c, x2d, -⟩ := id F_b.out
              obtain ⟨x3a, x3b, x3c, x3d, -⟩ := id F_c.out
              go_wp2_with fail
              clear x0a x0b x0c x1a x1b x1c x1d x2a x2b x2c x2d x3a x3b x3c x3d
              refine (rgreat34_any _ HG3.out).mono ?_
              rintro e w4 ⟨rfl, rfl⟩
              obtain ⟨x0a, x0b, x0c, -⟩ := id F_g.out
              obtain ⟨x1a, x1b, x1c, x1d, -⟩ := id F_a.out
              obtain ⟨x2a, x2b, x2c, x2d, -⟩ := id F_b.out
              obtain ⟨x3a, x3b, x3c, x3d, -⟩ := id F_c.out
              go_wp2_with fail
              clear x0a x0b x0c x1a x1b x1c x1d x2a x2b x2c x2d x3a x3b x3c x3d
              refine (rgreat34_any _ HG4.out).mono ?_
              rintro e w5 ⟨rfl, rfl⟩
              obtain ⟨x0a, x0b, x0c, -⟩ := id F_g.out
              obtain ⟨x1a, x1b, x1c, x1d, -⟩ := id F_a.out
              obtain ⟨x2a, x2b, x2c, x2d, -⟩ := id F_b.out
              obtain ⟨x3a, x3b, x3c, x3d, -⟩ := id F_c.out
              go_wp2_with fail
              clear x0a x0b x0c x1a x1b x1c x1d x2a x2b x2c x2d x3a x3b x3c x3d
              refine (rgreat34_any _ HG5.out).mono ?_
              rintro e w6 ⟨rfl, rfl⟩
              obtain ⟨x0a, x0b, x0c, -⟩ := id F_g.out
              obtain ⟨x1a, x1b, x1c, x1d, -⟩ := id F_a.out
              obtain ⟨x2a, x2b, x2c, x2d, -⟩ := id F_b.out
              obtain ⟨x3a, x3b, x3c, x3d, -⟩ := id F_c.out
              go_wp2_with fail
              clear x0a x0b x0c x1a x1b x1c x1d x2a x2b x2c x2d x3a x3b x3c x3d
              refine (rtwin_gen _ (HA.out.h1.keep HBW.out) (HA.out.h2.keep HBW.out) HA.out.z1 HA.out.z2 (by omega) (by omega)).mono ?_
              rintro e w7 ⟨v1, v2, rfl, ho1, ho2, hb7⟩
              replace F_g := Lib.hid (F_g.out.keep hb7)
              replace F_a := Lib.hid (F_a.out.keep hb7)
              replace F_b := Lib.hid (F_b.out.keep hb7)
              replace F_c := Lib.hid (F_c.out.keep hb7)
              replace HBW := Lib.hid (HBW.out.trans (hb7.mono HBW.out.size))
              clear hb7
              obtain ⟨oa, oc, rfl, hs1⟩ := ho1.shI
              obtain ⟨ob, od, rfl, hs2⟩ := ho2.shI
              rw [← HLA1.out] at hs1 ⊢
              rw [← HLA2.out] at hs2 ⊢
              have F_p := Lib.hid hs1
              have F_q := Lib.hid hs2
              clear ho1 ho2 hs1 hs2
              replace F_g := Lib.hid (F_g.out.alloc (.cells #[.slice oa A.n oc, .slice ob A.m od] 27))
              replace F_a := Lib.hid (F_a.out.alloc (.cells #[.slice oa A.n oc, .slice ob A.m od] 27))
              replace F_b := Lib.hid (F_b.out.alloc (.cells #[.slice oa A.n oc, .slice ob A.m od] 27))
              replace F_c := Lib.hid (F_c.out.alloc (.cells #[.slice oa A.n oc, .slice ob A.m od] 27))
              replace F_p := Lib.hid (F_p.out.alloc (.cells #[.slice oa A.n oc, .slice ob A.m od] 27))
              replace F_q := Lib.hid (F_q.out.alloc (.cells #[.slice oa A.n oc, .slice ob A.m od] 27))
              have F_o := Lib.hid (DealBox.at w7 (.slice oa A.n oc) (.slice ob A.m od) 27 (w7.heap.size) (by simp))
              replace HBW := Lib.hid (HBW.out.alloc HBW.out.size (.cells #[.slice oa A.n oc, .slice ob A.m od] 27))
              obtain ⟨x0a, x0b, x0c, -⟩ := id F_g.out
              obtain ⟨x1a, x1b, x1c, x1d, -⟩ := id F_a.out
              obtain ⟨x2a, x2b, x2c, x2d, -⟩ := id F_b.out
              obtain ⟨x3a, x3b, x3c, x3d, -⟩ := id F_c.out
              obtain ⟨x6a, x6b, x6c, x6d, -⟩ := id F_o.out
              go_wp2_with fail
              clear x0a x0b x0c x1a x1b x1c x1d x2a x2b x2c x2d x3a x3b x3c x3d x6a x6b x6c x6d
              have F_l := Lib.hid (show DRow ((w7.alloc (.cells #[.slice oa A.n oc, .slice ob A.m od] 27)).alloc (.cells #[.slice oa A.n oc, .slice ob A.m od, .slice B.a B.n B.c, .slice B.b B.m B.d] 27)) (w7.heap.size + 1) 0 [(Dl.mk oa A.n oc A.xs ob A.m od A.ys), B] from by have h := DRow.two (W := (w7.alloc (.cells #[.slice oa A.n oc, .slice ob A.m od] 27))) (A := (Dl.mk oa A.n oc A.xs ob A.m od A.ys)) (B := B) 27 ⟨F_p.out, F_q.out, (by show A.n ≤ 1000000; omega), (by show A.m ≤ 1000000; omega), HA.out.u1, HA.out.u2⟩ ⟨HB.out.h1.keep HBW.out, HB.out.h2.keep HBW.out, (by omega), (by omega), HB.out.u1, HB.out.u2⟩; rw [World.size_alloc] at h; exact h)
              replace F_g := Lib.hid (F_g.out.alloc (.cells #[.slice oa A.n oc, .slice ob A.m od, .slice B.a B.n B.c, .slice B.b B.m B.d] 27))
              replace F_a := Lib.hid (F_a.out.alloc (.cells #[.slice oa A.n oc, .slice ob A.m od, .slice B.a B.n B.c, .slice B.b B.m B.d] 27))
              replace F_b := Lib.hid (F_b.out.alloc (.cells #[.slice oa A.n oc, .slice ob A.m od, .slice B.a B.n B.c, .slice B.b B.m B.d] 27))
              replace F_c := Lib.hid (F_c.out.alloc (.cells #[.slice oa A.n oc, .slice ob A.m od, .slice B.a B.n B.c, .slice B.b B.m B.d] 27))
              replace F_p := Lib.hid (F_p.out.alloc (.cells #[.slice oa A.n oc, .slice ob A.m od, .slice B.a B.n B.c, .slice B.b B.m B.d] 27))
              replace F_q := Lib.hid (F_q.out.alloc (.cells #[.slice oa A.n oc, .slice ob A.m od, .slice B.a B.n B.c, .slice B.b B.m B.d] 27))
              replace F_o := Lib.hid (F_o.out.alloc (.cells #[.slice oa A.n oc, .slice ob A.m od, .slice B.a B.n B.c, .slice B.b B.m B.d] 27))
              replace HBW := Lib.hid (HBW.out.alloc HBW.out.size (.cells #[.slice oa A.n oc, .slice ob A.m od, .slice B.a B.n B.c, .slice B.b B.m B.d] 27))
              refine (smerge_any (k := 2) (cap := 2) (E := (Dl.mk oa A.n oc A.xs ob A.m od A.ys)) (l := [(Dl.mk oa A.n oc A.xs ob A.m od A.ys), B]) _ hP hQ hG F_l.out rfl rfl (by decide) (by decide) (by decide) ((mergeS_same rfl rfl _).trans HV2.out)).mono ?_
              rintro e w8 ⟨v1, v2, rfl, ho1, ho2, hb8⟩
              replace F_g := Lib.hid (F_g.out.keep hb8)
              replace F_a := Lib.hid (F_a.out.keep hb8)
              replace F_b := Lib.hid (F_b.out.keep hb8)
              replace F_c := Lib.hid (F_c.out.keep hb8)
              replace F_p := Lib.hid (F_p.out.keep hb8)
              replace F_q := Lib.hid (F_q.out.keep hb8)
              replace F_o := Lib.hid (F_o.out.keep hb8)
              replace HBW := Lib.hid (HBW.out.trans (hb8.mono HBW.out.size))
              clear hb8
              obtain ⟨xa, xc, rfl, hs1⟩ := ho1.shI
              obtain ⟨xb, xd, rfl, hs2⟩ := ho2.shI
              have F_x1 := Lib.hid hs1
              have F_x2 := Lib.hid hs2
              clear ho1 ho2 hs1 hs2 F_l
              replace F_g := Lib.hid (F_g.out.alloc (.cells #[.slice xa p2.length xc, .slice xb s2.length xd] 27))
              replace F_a := Lib.hid (F_a.out.alloc (.cells #[.slice xa p2.length xc, .slice xb s2.length xd] 27))
              replace F_b := Lib.hid (F_b.out.alloc (.cells #[.slice xa p2.length xc, .slice xb s2.length xd] 27))
              replace F_c := Lib.hid (F_c.out.alloc (.cells #[.slice xa p2.length xc, .slice xb s2.length xd] 27))
              replace F_p := Lib.hid (F_p.out.alloc (.cells #[.slice xa p2.length xc, .slice xb s2.length xd] 27))
              replace F_q := Lib.hid (F_q.out.alloc (.cells #[.slice xa p2.length xc, .slice xb s2.length xd] 27))
              replace F_o := Lib.hid (F_o.out.alloc (.cells #[.slice xa p2.length xc, .slice xb s2.length xd] 27))
              replace F_x1 := Lib.hid (F_x1.out.alloc (.cells #[.slice xa p2.length xc, .slice xb s2.length xd] 27))
              replace F_x2 := Lib.hid (F_x2.out.alloc (.cells #[.slice xa p2.length xc, .slice xb s2.length xd] 27))
              have F_x := Lib.hid (DealBox.at w8 (.slice xa p2.length xc) (.slice xb s2.length xd) 27 (w8.heap.size) (by simp))
              replace HBW := Lib.hid (HBW.out.alloc HBW.out.size (.cells #[.slice xa p2.length xc, .slice xb s2.length xd] 27))
              obtain ⟨x0a, x0b, x0c, -⟩ := id F_g.out
              obtain ⟨x1a, x1b, x1c, x1d, -⟩ := id F_a.out
              obtain ⟨x2a, x2b, x2c, x2d, -⟩ := id F_b.out
              obtain ⟨x3a, x3b, x3c, x3d, -⟩ := id F_c.out
              obtain ⟨x6a, x6b, x6c, x6d, -⟩ := id F_o.out
              obtain ⟨x9a, x9b, x9c, x9d, -⟩ := id F_x.out
              go_wp2_with fail
              clear x0a x0b x0c x1a x1b x1c x1d x2a x2b x2c x2d x3a x3b x3c x3d x6a x6b x6c x6d x9a x9b x9c x9d
              have F_l := Lib.hid (show DRow ((w8.alloc (.cells #[.slice xa p2.length xc, .slice xb s2.length xd] 27)).alloc (.cells #[.slice A.a A.n A.c, .slice A.b A.m A.d, .slice B.a B.n B.c, .slice B.b B.m B.d] 27)) (w8.heap.size + 1) 0 [A, B] from by have h := DRow.two (W := (w8.alloc (.cells #[.slice xa p2.length xc, .slice xb s2.length xd] 27))) (A := A) (B := B) 27 ⟨HA.out.h1.keep HBW.out, HA.out.h2.keep HBW.out, (by omega), (by omega), HA.out.u1, HA.out.u2⟩ ⟨HB.out.h1.keep HBW.out, HB.out.h2.keep HBW.out, (by omega), (by omega), HB.out.u1, HB.out.u2⟩; rw [World.size_alloc] at h; exact h)
              replace F_g := Lib.hid (F_g.out.alloc (.cells #[.slice A.a A.n A.c, .slice A.b A.m A.d, .slice B.a B.n B.c, .slice B.b B.m B.d] 27))
              replace F_a := Lib.hid (F_a.out.alloc (.cells #[.slice A.a A.n A.c, .slice A.b A.m A.d, .slice B.a B.n B.c, .slice B.b B.m B.d] 27))
              replace F_b := Lib.hid (F_b.out.alloc (.cells #[.slice A.a A.n A.c, .slice A.b A.m A.d, .slice B.a B.n B.c, .slice B.b B.m B.d] 27))
              replace F_c := Lib.hid (F_c.out.alloc (.cells #[.slice A.a A.n A.c, .slice A.b A.m A.d, .slice B.a B.n B.c, .slice B.b B.m B.d] 27))
              replace F_p := Lib.hid (F_p.out.alloc (.cells #[.slice A.a A.n A.c, .slice A.b A.m A.d, .slice B.a B.n B.c, .slice B.b B.m B.d] 27))
              replace F_q := Lib.hid (F_q.out.alloc (.cells #[.slice A.a A.n A.c, .slice A.b A.m A.d, .slice B.a B.n B.c, .slice B.b B.m B.d] 27))
              replace F_o := Lib.hid (F_o.out.alloc (.cells #[.slice A.a A.n A.c, .slice A.b A.m A.d, .slice B.a B.n B.c, .slice B.b B.m B.d] 27))
              replace F_x1 := Lib.hid (F_x1.out.alloc (.cells #[.slice A.a A.n A.c, .slice A.b A.m A.d, .slice B.a B.n B.c, .slice B.b B.m B.d] 27))
              replace F_x2 := Lib.hid (F_x2.out.alloc (.cells #[.slice A.a A.n A.c, .slice A.b A.m A.d, .slice B.a B.n B.c, .slice B.b B.m B.d] 27))
              replace F_x := Lib.hid (F_x.out.alloc (.cells #[.slice A.a A.n A.c, .slice A.b A.m A.d, .slice B.a B.n B.c, .slice B.b B.m B.d] 27))
              replace HBW := Lib.hid (HBW.out.alloc HBW.out.size (.cells #[.slice A.a A.n A.c, .slice A.b A.m A.d, .slice B.a B.n B.c, .slice B.b B.m B.d] 27))
              refine (rmerge_any (k := 2) (cap := 2) (E := A) (l := [A, B]) _ hP hQ hG F_l.out rfl rfl (by decide) (by decide) HV2.out).mono ?_
              rintro e w9 ⟨v1, v2, rfl, ho1, ho2, hb9⟩
              replace F_g := Lib.hid (F_g.out.keep hb9)
              replace F_a := Lib.hid (F_a.out.keep hb9)
              replace F_b := Lib.hid (F_b.out.keep hb9)
              replace F_c := Lib.hid (F_c.out.keep hb9)
              replace F_p := Lib.hid (F_p.out.keep hb9)
              replace F_q := Lib.hid (F_q.out.keep hb9)
              replace F_o := Lib.hid (F_o.out.keep hb9)
              replace F_x1 := Lib.hid (F_x1.out.keep hb9)
              replace F_x2 := Lib.hid (F_x2.out.keep hb9)
              replace F_x := Lib.hid (F_x.out.keep hb9)
              replace HBW := Lib.hid (HBW.out.trans (hb9.mono HBW.out.size))
              clear hb9
              obtain ⟨ya, yc, rfl, hs1⟩ := ho1.shI
              obtain ⟨yb, yd, rfl, hs2⟩ := ho2.shI
              have F_y1 := Lib.hid hs1
              have F_y2 := Lib.hid hs2
              clear ho1 ho2 hs1 hs2 F_l
              replace F_g := Lib.hid (F_g.out.alloc (.cells #[.slice ya p2.length yc, .slice yb s2.length yd] 27))
              replace F_a := Lib.hid (F_a.out.alloc (.cells #[.slice ya p2.length yc, .slice yb s2.length yd] 27))
              replace F_b := Lib.hid (F_b.out.alloc (.cells #[.slice ya p2.length yc, .slice yb s2.length yd] 27))
              replace F_c := Lib.hid (F_c.out.alloc (.cells #[.slice ya p2.length yc, .slice yb s2.length yd] 27))
              replace F_p := Lib.hid (F_p.out.alloc (.cells #[.slice ya p2.length yc, .slice yb s2.length yd] 27))
              replace F_q := Lib.hid (F_q.out.alloc (.cells #[.slice ya p2.length yc, .slice yb s2.length yd] 27))
              replace F_o := Lib.hid (F_o.out.alloc (.cells #[.slice ya p2.length yc, .slice yb s2.length yd] 27))
              replace F_x1 := Lib.hid (F_x1.out.alloc (.cells #[.slice ya p2.length yc, .slice yb s2.length yd] 27))
              replace F_x2 := Lib.hid (F_x2.out.alloc (.cells #[.slice ya p2.length yc, .slice yb s2.length yd] 27))
              replace F_x := Lib.hid (F_x.out.alloc (.cells #[.slice ya p2.length yc, .slice yb s2.length yd] 27))
              replace F_y1 := Lib.hid (F_y1.out.alloc (.cells #[.slice ya p2.length yc, .slice yb s2.length yd] 27))
              replace F_y2 := Lib.hid (F_y2.out.alloc (.cells #[.slice ya p2.length yc, .slice yb s2.length yd] 27))
              have F_y := Lib.hid (DealBox.at w9 (.slice ya p2.length yc) (.slice yb s2.length yd) 27 (w9.heap.size) (by simp))
              replace HBW := Lib.hid (HBW.out.alloc HBW.out.size (.cells #[.slice ya p2.length yc, .slice yb s2.length yd] 27))
              obtain ⟨x0a, x0b, x0c, -⟩ := id F_g.out
              obtain ⟨x1a, x1b, x1c, x1d, -⟩ := id F_a.out
              obtain ⟨x2a, x2b, x2c, x2d, -⟩ := id F_b.out
              obtain ⟨x3a, x3b, x3c, x3d, -⟩ := id F_c.out
              obtain ⟨x6a, x6b, x6c, x6d, -⟩ := id F_o.out
              obtain ⟨x9a, x9b, x9c, x9d, -⟩ := id F_x.out
              obtain ⟨x12a, x12b, x12c, x12d, -⟩ := id F_y.out
              go_wp2_with fail
              clear x0a x0b x0c x1a x1b x1c x1d x2a x2b x2c x2d x3a x3b x3c x3d x6a x6b x6c x6d x9a x9b x9c x9d x12a x12b x12c x12d
              have F_l := Lib.hid (show DRow ((w9.alloc (.cells #[.slice ya p2.length yc, .slice yb s2.length yd] 27)).alloc (.cells #[.slice oa A.n oc, .slice ob A.m od, .slice B.a B.n B.c, .slice B.b B.m B.d, .slice C.a C.n C.c, .slice C.b C.m C.d] 27)) (w9.heap.size + 1) 0 [(Dl.mk oa A.n oc A.xs ob A.m od A.ys), B, C] from by have h := DRow.three (W := (w9.alloc (.cells #[.slice ya p2.length yc, .slice yb s2.length yd] 27))) (A := (Dl.mk oa A.n oc A.xs ob A.m od A.ys)) (B := B) (C := C) 27 ⟨F_p.out, F_q.out, (by show A.n ≤ 1000000; omega), (by show A.m ≤ 1000000; omega), HA.out.u1, HA.out.u2⟩ ⟨HB.out.h1.keep HBW.out, HB.out.h2.keep HBW.out, (by omega), (by omega), HB.out.u1, HB.out.u2⟩ ⟨HC.out.h1.keep HBW.out, HC.out.h2.keep HBW.out, (by omega), (by omega), HC.out.u1, HC.out.u2⟩; rw [World.size_alloc] at h; exact h)
              replace F_g := Lib.hid (F_g.out.alloc (.cells #[.slice oa A.n oc, .slice ob A.m od, .slice B.a B.n B.c, .slice B.b B.m B.d, .slice C.a C.n C.c, .slice C.b C.m C.d] 27))
              replace F_a := Lib.hid (F_a.out.alloc (.cells #[.slice oa A.n oc, .slice ob A.m od, .slice B.a B.n B.c, .slice B.b B.m B.d, .slice C.a C.n C.c, .slice C.b C.m C.d] 27))
              replace F_b := Lib.hid (F_b.out.alloc (.cells #[.slice oa A.n oc, .slice ob A.m od, .slice B.a B.n B.c, .slice B.b B.m B.d, .slice C.a C.n C.c, .slice C.b C.m C.d] 27))
              replace F_c := Lib.hid (F_c.out.alloc (.cells #[.slice oa A.n oc, .slice ob A.m od, .slice B.a B.n B.c, .slice B.b B.m B.d, .slice C.a C.n C.c, .slice C.b C.m C.d] 27))
              replace F_p := Lib.hid (F_p.out.alloc (.cells #[.slice oa A.n oc, .slice ob A.m od, .slice B.a B.n B.c, .slice B.b B.m B.d, .slice C.a C.n C.c, .slice C.b C.m C.d] 27))
              replace F_q := Lib.hid (F_q.out.alloc (.cells #[.slice oa A.n oc, .slice ob A.m od, .slice B.a B.n B.c, .slice B.b B.m B.d, .slice C.a C.n C.c, .slice C.b C.m C.d] 27))
              replace F_o := Lib.hid (F_o.out.alloc (.cells #[.slice oa A.n oc, .slice ob A.m od, .slice B.a B.n B.c, .slice B.b B.m B.d, .slice C.a C.n C.c, .slice C.b C.m C.d] 27))
              replace F_x1 := Lib.hid (F_x1.out.alloc (.cells #[.slice oa A.n oc, .slice ob A.m od, .slice B.a B.n B.c, .slice B.b B.m B.d, .slice C.a C.n C.c, .slice C.b C.m C.d] 27))
              replace F_x2 := Lib.hid (F_x2.out.alloc (.cells #[.slice oa A.n oc, .slice ob A.m od, .slice B.a B.n B.c, .slice B.b B.m B.d, .slice C.a C.n C.c, .slice C.b C.m C.d] 27))
              replace F_x := Lib.hid (F_x.out.alloc (.cells #[.slice oa A.n oc, .slice ob A.m od, .slice B.a B.n B.c, .slice B.b B.m B.d, .slice C.a C.n C.c, .slice C.b C.m C.d] 27))
              replace F_y1 := Lib.hid (F_y1.out.alloc (.cells #[.slice oa A.n oc, .slice ob A.m od, .slice B.a B.n B.c, .slice B.b B.m B.d, .slice C.a C.n C.c, .slice C.b C.m C.d] 27))
              replace F_y2 := Lib.hid (F_y2.out.alloc (.cells #[.slice oa A.n oc, .slice ob A.m od, .slice B.a B.n B.c, .slice B.b B.m B.d, .slice C.a C.n C.c, .slice C.b C.m C.d] 27))
              replace F_y := Lib.hid (F_y.out.alloc (.cells #[.slice oa A.n oc, .slice ob A.m od, .slice B.a B.n B.c, .slice B.b B.m B.d, .slice C.a C.n C.c, .slice C.b C.m C.d] 27))
              replace HBW := Lib.hid (HBW.out.alloc HBW.out.size (.cells #[.slice oa A.n oc, .slice ob A.m od, .slice B.a B.n B.c, .slice B.b B.m B.d, .slice C.a C.n C.c, .slice C.b C.m C.d] 27))
              refine (smerge_any (k := 3) (cap := 3) (E := (Dl.mk oa A.n oc A.xs ob A.m od A.ys)) (l := [(Dl.mk oa A.n oc A.xs ob A.m od A.ys), B, C]) _ hP hQ hG F_l.out rfl rfl (by decide) (by decide) (by decide) ((mergeS_same rfl rfl _).trans HV3.out)).mono ?_
              rintro e w10 ⟨v1, v2, rfl, ho1, ho2, hb10⟩
              replace F_g := Lib.hid (F_g.out.keep hb10)
              replace F_a := Lib.hid (F_a.out.keep hb10)
              replace F_b := Lib.hid (F_b.out.keep hb10)
              replace F_c := Lib.hid (F_c.out.keep hb10)
              replace F_p := Lib.hid (F_p.out.keep hb10)
              replace F_q := Lib.hid (F_q.out.keep hb10)
              replace F_o := Lib.hid (F_o.out.keep hb10)
              replace F_x1 := Lib.hid (F_x1.out.keep hb10)
              replace F_x2 := Lib.hid (F_x2.out.keep hb10)
              replace F_x := Lib.hid (F_x.out.keep hb10)
              replace F_y1 := Lib.hid (F_y1.out.keep hb10)
              replace F_y2 := Lib.hid (F_y2.out.keep hb10)
              replace F_y := Lib.hid (F_y.out.keep hb10)
              replace HBW := Lib.hid (HBW.out.trans (hb10.mono HBW.out.size))
              clear hb10
              obtain ⟨za, zc, rfl, hs1⟩ := ho1.shI
              obtain ⟨zb, zd, rfl, hs2⟩ := ho2.shI
              have F_z1 := Lib.hid hs1
              have F_z2 := Lib.hid hs2
              clear ho1 ho2 hs1 hs2 F_l
              replace F_g := Lib.hid (F_g.out.alloc (.cells #[.slice za p3.length zc, .slice zb s3.length zd] 27))
              replace F_a := Lib.hid (F_a.out.alloc (.cells #[.slice za p3.length zc, .slice zb s3.length zd] 27))
              replace F_b := Lib.hid (F_b.out.alloc (.cells #[.slice za p3.length zc, .slice zb s3.length zd] 27))
              replace F_c := Lib.hid (F_c.out.alloc (.cells #[.slice za p3.length zc, .slice zb s3.length zd] 27))
              replace F_p := Lib.hid (F_p.out.alloc (.cells #[.slice za p3.length zc, .slice zb s3.length zd] 27))
              replace F_q := Lib.hid (F_q.out.alloc (.cells #[.slice za p3.length zc, .slice zb s3.length zd] 27))
              replace F_o := Lib.hid (F_o.out.alloc (.cells #[.slice za p3.length zc, .slice zb s3.length zd] 27))
              replace F_x1 := Lib.hid (F_x1.out.alloc (.cells #[.slice za p3.length zc, .slice zb s3.length zd] 27))
              replace F_x2 := Lib.hid (F_x2.out.alloc (.cells #[.slice za p3.length zc, .slice zb s3.length zd] 27))
              replace F_x := Lib.hid (F_x.out.alloc (.cells #[.slice za p3.length zc, .slice zb s3.length zd] 27))
              replace F_y1 := Lib.hid (F_y1.out.alloc (.cells #[.slice za p3.length zc, .slice zb s3.length zd] 27))
              replace F_y2 := Lib.hid (F_y2.out.alloc (.cells #[.slice za p3.length zc, .slice zb s3.length zd] 27))
              replace F_y := Lib.hid (F_y.out.alloc (.cells #[.slice za p3.length zc, .slice zb s3.length zd] 27))
              replace F_z1 := Lib.hid (F_z1.out.alloc (.cells #[.slice za p3.length zc, .slice zb s3.length zd] 27))
              replace F_z2 := Lib.hid (F_z2.out.alloc (.cells #[.slice za p3.length zc, .slice zb s3.length zd] 27))
              have F_z := Lib.hid (DealBox.at w10 (.slice za p3.length zc) (.slice zb s3.length zd) 27 (w10.heap.size) (by simp))
              replace HBW := Lib.hid (HBW.out.alloc HBW.out.size (.cells #[.slice za p3.length zc, .slice zb s3.length zd] 27))
              obtain ⟨x0a, x0b, x0c, -⟩ := id F_g.out
              obtain ⟨x1a, x1b, x1c, x1d, -⟩ := id F_a.out
              obtain ⟨x2a, x2b, x2c, x2d, -⟩ := id F_b.out
              obtain ⟨x3a, x3b, x3c, x3d, -⟩ := id F_c.out
              obtain ⟨x6a, x6b, x6c, x6d, -⟩ := id F_o.out
              obtain ⟨x9a, x9b, x9c, x9d, -⟩ := id F_x.out
              obtain ⟨x12a, x12b, x12c, x12d, -⟩ := id F_y.out
              obtain ⟨x15a, x15b, x15c, x15d, -⟩ := id F_z.out
              go_wp2_with fail
              clear x0a x0b x0c x1a x1b x1c x1d x2a x2b x2c x2d x3a x3b x3c x3d x6a x6b x6c x6d x9a x9b x9c x9d x12a x12b x12c x12d x15a x15b x15c x15d
              have F_l := Lib.hid (show DRow ((w10.alloc (.cells #[.slice za p3.length zc, .slice zb s3.length zd] 27)).alloc (.cells #[.slice A.a A.n A.c, .slice A.b A.m A.d, .slice B.a B.n B.c, .slice B.b B.m B.d, .slice C.a C.n C.c, .slice C.b C.m C.d] 27)) (w10.heap.size + 1) 0 [A, B, C] from by have h := DRow.three (W := (w10.alloc (.cells #[.slice za p3.length zc, .slice zb s3.length zd] 27))) (A := A) (B := B) (C := C) 27 ⟨HA.out.h1.keep HBW.out, HA.out.h2.keep HBW.out, (by omega), (by omega), HA.out.u1, HA.out.u2⟩ ⟨HB.out.h1.keep HBW.out, HB.out.h2.keep HBW.out, (by omega), (by omega), HB.out.u1, HB.out.u2⟩ ⟨HC.out.h1.keep HBW.out, HC.out.h2.keep HBW.out, (by omega), (by omega), HC.out.u1, HC.out.u2⟩; rw [World.size_alloc] at h; exact h)
              replace F_g := Lib.hid (F_g.out.alloc (.cells #[.slice A.a A.n A.c, .slice A.b A.m A.d, .slice B.a B.n B.c, .slice B.b B.m B.d, .slice C.a C.n C.c, .slice C.b C.m C.d] 27))
              replace F_a := Lib.hid (F_a.out.alloc (.cells #[.slice A.a A.n A.c, .slice A.b A.m A.d, .slice B.a B.n B.c, .slice B.b B.m B.d, .slice C.a C.n C.c, .slice C.b C.m C.d] 27))
              replace F_b := Lib.hid (F_b.out.alloc (.cells #[.slice A.a A.n A.c, .slice A.b A.m A.d, .slice B.a B.n B.c, .slice B.b B.m B.d, .slice C.a C.n C.c, .slice C.b C.m C.d] 27))
              replace F_c := Lib.hid (F_c.out.alloc (.cells #[.slice A.a A.n A.c, .slice A.b A.m A.d, .slice B.a B.n B.c, .slice B.b B.m B.d, .slice C.a C.n C.c, .slice C.b C.m C.d] 27))
              replace F_p := Lib.hid (F_p.out.alloc (.cells #[.slice A.a A.n A.c, .slice A.b A.m A.d, .slice B.a B.n B.c, .slice B.b B.m B.d, .slice C.a C.n C.c, .slice C.b C.m C.d] 27))
              replace F_q := Lib.hid (F_q.out.alloc (.cells #[.slice A.a A.n A.c, .slice A.b A.m A.d, .slice B.a B.n B.c, .slice B.b B.m B.d, .slice C.a C.n C.c, .slice C.b C.m C.d] 27))
              replace F_o := Lib.hid (F_o.out.alloc (.cells #[.slice A.a A.n A.c, .slice A.b A.m A.d, .slice B.a B.n B.c, .slice B.b B.m B.d, .slice C.a C.n C.c, .slice C.b C.m C.d] 27))
              replace F_x1 := Lib.hid (F_x1.out.alloc (.cells #[.slice A.a A.n A.c, .slice A.b A.m A.d, .slice B.a B.n B.c, .slice B.b B.m B.d, .slice C.a C.n C.c, .slice C.b C.m C.d] 27))
              replace F_x2 := Lib.hid (F_x2.out.alloc (.cells #[.slice A.a A.n A.c, .slice A.b A.m A.d, .slice B.a B.n B.c, .slice B.b B.m B.d, .slice C.a C.n C.c, .slice C.b C.m C.d] 27))
              replace F_x := Lib.hid (F_x.out.alloc (.cells #[.slice A.a A.n A.c, .slice A.b A.m A.d, .slice B.a B.n B.c, .slice B.b B.m B.d, .slice C.a C.n C.c, .slice C.b C.m C.d] 27))
              replace F_y1 := Lib.hid (F_y1.out.alloc (.cells #[.slice A.a A.n A.c, .slice A.b A.m A.d, .slice B.a B.n B.c, .slice B.b B.m B.d, .slice C.a C.n C.c, .slice C.b C.m C.d] 27))
              replace F_y2 := Lib.hid (F_y2.out.alloc (.cells #[.slice A.a A.n A.c, .slice A.b A.m A.d, .slice B.a B.n B.c, .slice B.b B.m B.d, .slice C.a C.n C.c, .slice C.b C.m C.d] 27))
              replace F_y := Lib.hid (F_y.out.alloc (.cells #[.slice A.a A.n A.c, .slice A.b A.m A.d, .slice B.a B.n B.c, .slice B.b B.m B.d, .slice C.a C.n C.c, .slice C.b C.m C.d] 27))
              replace F_z1 := Lib.hid (F_z1.out.alloc (.cells #[.slice A.a A.n A.c, .slice A.b A.m A.d, .slice B.a B.n B.c, .slice B.b B.m B.d, .slice C.a C.n C.c, .slice C.b C.m C.d] 27))
              replace F_z2 := Lib.hid (F_z2.out.alloc (.cells #[.slice A.a A.n A.c, .slice A.b A.m A.d, .slice B.a B.n B.c, .slice B.b B.m B.d, .slice C.a C.n C.c, .slice C.b C.m C.d] 27))
              replace F_z := Lib.hid (F_z.out.alloc (.cells #[.slice A.a A.n A.c, .slice A.b A.m A.d, .slice B.a B.n B.c, .slice B.b B.m B.d, .slice C.a C.n C.c, .slice C.b C.m C.d] 27))
              replace HBW := Lib.hid (HBW.out.alloc HBW.out.size (.cells #[.slice A.a A.n A.c, .slice A.b A.m A.d, .slice B.a B.n B.c, .slice B.b B.m B.d, .slice C.a C.n C.c, .slice C.b C.m C.d] 27))
              refine (rmerge_any (k := 3) (cap := 3) (E := A) (l := [A, B, C]) _ hP hQ hG F_l.out rfl rfl (by decide) (by decide) HV3.out).mono ?_
              rintro e w11 ⟨v1, v2, rfl, ho1, ho2, hb11⟩
              replace F_g := Lib.hid (F_g.out.keep hb11)
              replace F_a := Lib.hid (F_a.out.keep hb11)
              replace F_b := Lib.hid (F_b.out.keep hb11)
              replace F_c := Lib.hid (F_c.out.keep hb11)
              replace F_p := Lib.hid (F_p.out.keep hb11)
              replace F_q := Lib.hid (F_q.out.keep hb11)
              replace F_o := Lib.hid (F_o.out.keep hb11)
              replace F_x1 := Lib.hid (F_x1.out.keep hb11)
              replace F_x2 := Lib.hid (F_x2.out.keep hb11)
              replace F_x := Lib.hid (F_x.out.keep hb11)
              replace F_y1 := Lib.hid (F_y1.out.keep hb11)
              replace F_y2 := Lib.hid (F_y2.out.keep hb11)
              replace F_y := Lib.hid (F_y.out.keep hb11)
              replace F_z1 := Lib.hid (F_z1.out.keep hb11)
              replace F_z2 := Lib.hid (F_z2.out.keep hb11)
              replace F_z := Lib.hid (F_z.out.keep hb11)
              replace HBW := Lib.hid (HBW.out.trans (hb11.mono HBW.out.size))
              clear hb11
              obtain ⟨ua, uc, rfl, hs1⟩ := ho1.shI
              obtain ⟨ub, ud, rfl, hs2⟩ := ho2.shI
              have F_u1 := Lib.hid hs1
              have F_u2 := Lib.hid hs2
              clear ho1 ho2 hs1 hs2 F_l
              replace F_g := Lib.hid (F_g.out.alloc (.cells #[.slice ua p3.length uc, .slice ub s3.length ud] 27))
              replace F_a := Lib.hid (F_a.out.alloc (.cells #[.slice ua p3.length uc, .slice ub s3.length ud] 27))
              replace F_b := Lib.hid (F_b.out.alloc (.cells #[.slice ua p3.length uc, .slice ub s3.length ud] 27))
              replace F_c := Lib.hid (F_c.out.alloc (.cells #[.slice ua p3.length uc, .slice ub s3.length ud] 27))
              replace F_p := Lib.hid (F_p.out.alloc (.cells #[.slice ua p3.length uc, .slice ub s3.length ud] 27))
              replace F_q := Lib.hid (F_q.out.alloc (.cells #[.slice ua p3.length uc, .slice ub s3.length ud] 27))
              replace F_o := Lib.hid (F_o.out.alloc (.cells #[.slice ua p3.length uc, .slice ub s3.length ud] 27))
              replace F_x1 := Lib.hid (F_x1.out.alloc (.cells #[.slice ua p3.length uc, .slice ub s3.length ud] 27))
              replace F_x2 := Lib.hid (F_x2.out.alloc (.cells #[.slice ua p3.length uc, .slice ub s3.length ud] 27))
              replace F_x := Lib.hid (F_x.out.alloc (.cells #[.slice ua p3.length uc, .slice ub s3.length ud] 27))
              replace F_y1 := Lib.hid (F_y1.out.alloc (.cells #[.slice ua p3.length uc, .slice ub s3.length ud] 27))
              replace F_y2 := Lib.hid (F_y2.out.alloc (.cells #[.slice ua p3.length uc, .slice ub s3.length ud] 27))
              replace F_y := Lib.hid (F_y.out.alloc (.cells #[.slice ua p3.length uc, .slice ub s3.length ud] 27))
              replace F_z1 := Lib.hid (F_z1.out.alloc (.cells #[.slice ua p3.length uc, .slice ub s3.length ud] 27))
              replace F_z2 := Lib.hid (F_z2.out.alloc (.cells #[.slice ua p3.length uc, .slice ub s3.length ud] 27))
              replace F_z := Lib.hid (F_z.out.alloc (.cells #[.slice ua p3.length uc, .slice ub s3.length ud] 27))
              replace F_u1 := Lib.hid (F_u1.out.alloc (.cells #[.slice ua p3.length uc, .slice ub s3.length ud] 27))
              replace F_u2 := Lib.hid (F_u2.out.alloc (.cells #[.slice ua p3.length uc, .slice ub s3.length ud] 27))
              have F_u := Lib.hid (DealBox.at w11 (.slice ua p3.length uc) (.slice ub s3.length ud) 27 (w11.heap.size) (by simp))
              replace HBW := Lib.hid (HBW.out.alloc HBW.out.size (.cells #[.slice ua p3.length uc, .slice ub s3.length ud] 27))
              obtain ⟨x0a, x0b, x0c, -⟩ := id F_g.out
              obtain ⟨x1a, x1b, x1c, x1d, -⟩ := id F_a.out
              obtain ⟨x2a, x2b, x2c, x2d, -⟩ := id F_b.out
              obtain ⟨x3a, x3b, x3c, x3d, -⟩ := id F_c.out
              obtain ⟨x6a, x6b, x6c, x6d, -⟩ := id F_o.out
              obtain ⟨x9a, x9b, x9c, x9d, -⟩ := id F_x.out
              obtain ⟨x12a, x12b, x12c, x12d, -⟩ := id F_y.out
              obtain ⟨x15a, x15b, x15c, x15d, -⟩ := id F_z.out
              obtain ⟨x18a, x18b, x18c, x18d, -⟩ := id F_u.out
              go_wp2_with fail
              clear x0a x0b x0c x1a x1b x1c x1d x2a x2b x2c x2d x3a x3b x3c x3d x6a x6b x6c x6d x9a x9b x9c x9d x12a x12b x12c x12d x15a x15b x15c x15d x18a x18b x18c x18d
              refine (smerge_nil _ hP hQ hG HV0.out).mono ?_
              rintro e w12 ⟨v1, v2, rfl, ho1, ho2, hb12⟩
              replace F_g := Lib.hid (F_g.out.keep hb12)
              replace F_a := Lib.hid (F_a.out.keep hb12)
              replace F_b := Lib.hid (F_b.out.keep hb12)
              replace F_c := Lib.hid (F_c.out.keep hb12)
              replace F_p := Lib.hid (F_p.out.keep hb12)
              replace F_q := Lib.hid (F_q.out.keep hb12)
              replace F_o := Lib.hid (F_o.out.keep hb12)
              replace F_x1 := Lib.hid (F_x1.out.keep hb12)
              replace F_x2 := Lib.hid (F_x2.out.keep hb12)
              replace F_x := Lib.hid (F_x.out.keep hb12)
              replace F_y1 := Lib.hid (F_y1.out.keep hb12)
              replace F_y2 := Lib.hid (F_y2.out.keep hb12)
              replace F_y := Lib.hid (F_y.out.keep hb12)
              replace F_z1 := Lib.hid (F_z1.out.keep hb12)
              replace F_z2 := Lib.hid (F_z2.out.keep hb12)
              replace F_z := Lib.hid (F_z.out.keep hb12)
              replace F_u1 := Lib.hid (F_u1.out.keep hb12)
              replace F_u2 := Lib.hid (F_u2.out.keep hb12)
              replace F_u := Lib.hid (F_u.out.keep hb12)
              replace HBW := Lib.hid (HBW.out.trans (hb12.mono HBW.out.size))
              clear hb12
              obtain ⟨ja, jc, rfl, hs1⟩ := ho1.shI
              obtain ⟨jb, jd, rfl, hs2⟩ := ho2.shI
              have F_j1 := Lib.hid hs1
              have F_j2 := Lib.hid hs2
              clear ho1 ho2 hs1 hs2
              replace F_g := Lib.hid (F_g.out.alloc (.cells #[.slice ja p0.length jc, .slice jb s0.length jd] 27))
              replace F_a := Lib.hid (F_a.out.alloc (.cells #[.slice ja p0.length jc, .slice jb s0.length jd] 27))
              replace F_b := Lib.hid (F_b.out.alloc (.cells #[.slice ja p0.length jc, .slice jb s0.length jd] 27))
              replace F_c := Lib.hid (F_c.out.alloc (.cells #[.slice ja p0.length jc, .slice jb s0.length jd] 27))
              replace F_p := Lib.hid (F_p.out.alloc (.cells #[.slice ja p0.length jc, .slice jb s0.length jd] 27))
              replace F_q := Lib.hid (F_q.out.alloc (.cells #[.slice ja p0.length jc, .slice jb s0.length jd] 27))
              replace F_o := Lib.hid (F_o.out.alloc (.cells #[.slice ja p0.length jc, .slice jb s0.length jd] 27))
              replace F_x1 := Lib.hid (F_x1.out.alloc (.cells #[.slice ja p0.length jc, .slice jb s0.length jd] 27))
              replace F_x2 := Lib.hid (F_x2.out.alloc (.cells #[.slice ja p0.length jc, .slice jb s0.length jd] 27))
              replace F_x := Lib.hid (F_x.out.alloc (.cells #[.slice ja p0.length jc, .slice jb s0.length jd] 27))
              replace F_y1 := Lib.hid (F_y1.out.alloc (.cells #[.slice ja p0.length jc, .slice jb s0.length jd] 27))
              replace F_y2 := Lib.hid (F_y2.out.alloc (.cells #[.slice ja p0.length jc, .slice jb s0.length jd] 27))
              replace F_y := Lib.hid (F_y.out.alloc (.cells #[.slice ja p0.length jc, .slice jb s0.length jd] 27))
              replace F_z1 := Lib.hid (F_z1.out.alloc (.cells #[.slice ja p0.length jc, .slice jb s0.length jd] 27))
              replace F_z2 := Lib.hid (F_z2.out.alloc (.cells #[.slice ja p0.length jc, .slice jb s0.length jd] 27))
              replace F_z := Lib.hid (F_z.out.alloc (.cells #[.slice ja p0.length jc, .slice jb s0.length jd] 27))
              replace F_u1 := Lib.hid (F_u1.out.alloc (.cells #[.slice ja p0.length jc, .slice jb s0.length jd] 27))
              replace F_u2 := Lib.hid (F_u2.out.alloc (.cells #[.slice ja p0.length jc, .slice jb s0.length jd] 27))
              replace F_u := Lib.hid (F_u.out.alloc (.cells #[.slice ja p0.length jc, .slice jb s0.length jd] 27))
              replace F_j1 := Lib.hid (F_j1.out.alloc (.cells #[.slice ja p0.length jc, .slice jb s0.length jd] 27))
              replace F_j2 := Lib.hid (F_j2.out.alloc (.cells #[.slice ja p0.length jc, .slice jb s0.length jd] 27))
              have F_j := Lib.hid (DealBox.at w12 (.slice ja p0.length jc) (.slice jb s0.length jd) 27 (w12.heap.size) (by simp))
              replace HBW := Lib.hid (HBW.out.alloc HBW.out.size (.cells #[.slice ja p0.length jc, .slice jb s0.length jd] 27))
              obtain ⟨x0a, x0b, x0c, -⟩ := id F_g.out
              obtain ⟨x1a, x1b, x1c, x1d, -⟩ := id F_a.out
              obtain ⟨x2a, x2b, x2c, x2d, -⟩ := id F_b.out
              obtain ⟨x3a, x3b, x3c, x3d, -⟩ := id F_c.out
              obtain ⟨x6a, x6b, x6c, x6d, -⟩ := id F_o.out
              obtain ⟨x9a, x9b, x9c, x9d, -⟩ := id F_x.out
              obtain ⟨x12a, x12b, x12c, x12d, -⟩ := id F_y.out
              obtain ⟨x15a, x15b, x15c, x15d, -⟩ := id F_z.out
              obtain ⟨x18a, x18b, x18c, x18d, -⟩ := id F_u.out
              obtain ⟨x21a, x21b, x21c, x21d, -⟩ := id F_j.out
              go_wp2_with fail
              clear x0a x0b x0c x1a x1b x1c x1d x2a x2b x2c x2d x3a x3b x3c x3d x6a x6b x6c x6d x9a x9b x9c x9d x12a x12b x12c x12d x15a x15b x15c x15d x18a x18b x18c x18d x21a x21b x21c x21d
              refine (rmerge_nil _ hP hQ hG HV0.out).mono ?_
              rintro e w13 ⟨v1, v2, rfl, ho1, ho2, hb13⟩
              replace F_g := Lib.hid (F_g.out.keep hb13)
              replace F_a := Lib.hid (F_a.out.keep hb13)
              replace F_b := Lib.hid (F_b.out.keep hb13)
              replace F_c := Lib.hid (F_c.out.keep hb13)
              replace F_p := Lib.hid (F_p.out.keep hb13)
              replace F_q := Lib.hid (F_q.out.keep hb13)
              replace F_o := Lib.hid (F_o.out.keep hb13)
              replace F_x1 := Lib.hid (F_x1.out.keep hb13)
              replace F_x2 := Lib.hid (F_x2.out.keep hb13)
              replace F_x := Lib.hid (F_x.out.keep hb13)
              replace F_y1 := Lib.hid (F_y1.out.keep hb13)
              replace F_y2 := Lib.hid (F_y2.out.keep hb13)
              replace F_y := Lib.hid (F_y.out.keep hb13)
              replace F_z1 := Lib.hid (F_z1.out.keep hb13)
              replace F_z2 := Lib.hid (F_z2.out.keep hb13)
              replace F_z := Lib.hid (F_z.out.keep hb13)
              replace F_u1 := Lib.hid (F_u1.out.keep hb13)
              replace F_u2 := Lib.hid (F_u2.out.keep hb13)
              replace F_u := Lib.hid (F_u.out.keep hb13)
              replace F_j1 := Lib.hid (F_j1.out.keep hb13)
              replace F_j2 := Lib.hid (F_j2.out.keep hb13)
              replace F_j := Lib.hid (F_j.out.keep hb13)
              replace HBW := Lib.hid (HBW.out.trans (hb13.mono HBW.out.size))
              clear hb13
              obtain ⟨ka, kc, rfl, hs1⟩ := ho1.shI
              obtain ⟨kb, kd, rfl, hs2⟩ := ho2.shI
              have F_k1 := Lib.hid hs1
              have F_k2 := Lib.hid hs2
              clear ho1 ho2 hs1 hs2
              replace F_g := Lib.hid (F_g.out.alloc (.cells #[.slice ka p0.length kc, .slice kb s0.length kd] 27))
              replace F_a := Lib.hid (F_a.out.alloc (.cells #[.slice ka p0.length kc, .slice kb s0.length kd] 27))
              replace F_b := Lib.hid (F_b.out.alloc (.cells #[.slice ka p0.length kc, .slice kb s0.length kd] 27))
              replace F_c := Lib.hid (F_c.out.alloc (.cells #[.slice ka p0.length kc, .slice kb s0.length kd] 27))
              replace F_p := Lib.hid (F_p.out.alloc (.cells #[.slice ka p0.length kc, .slice kb s0.length kd] 27))
              replace F_q := Lib.hid (F_q.out.alloc (.cells #[.slice ka p0.length kc, .slice kb s0.length kd] 27))
              replace F_o := Lib.hid (F_o.out.alloc (.cells #[.slice ka p0.length kc, .slice kb s0.length kd] 27))
              replace F_x1 := Lib.hid (F_x1.out.alloc (.cells #[.slice ka p0.length kc, .slice kb s0.length kd] 27))
              replace F_x2 := Lib.hid (F_x2.out.alloc (.cells #[.slice ka p0.length kc, .slice kb s0.length kd] 27))
              replace F_x := Lib.hid (F_x.out.alloc (.cells #[.slice ka p0.length kc, .slice kb s0.length kd] 27))
              replace F_y1 := Lib.hid (F_y1.out.alloc (.cells #[.slice ka p0.length kc, .slice kb s0.length kd] 27))
              replace F_y2 := Lib.hid (F_y2.out.alloc (.cells #[.slice ka p0.length kc, .slice kb s0.length kd] 27))
              replace F_y := Lib.hid (F_y.out.alloc (.cells #[.slice ka p0.length kc, .slice kb s0.length kd] 27))
              replace F_z1 := Lib.hid (F_z1.out.alloc (.cells #[.slice ka p0.length kc, .slice kb s0.length kd] 27))
              replace F_z2 := Lib.hid (F_z2.out.alloc (.cells #[.slice ka p0.length kc, .slice kb s0.length kd] 27))
              replace F_z := Lib.hid (F_z.out.alloc (.cells #[.slice ka p0.length kc, .slice kb s0.length kd] 27))
              replace F_u1 := Lib.hid (F_u1.out.alloc (.cells #[.slice ka p0.length kc, .slice kb s0.length kd] 27))
              replace F_u2 := Lib.hid (F_u2.out.alloc (.cells #[.slice ka p0.length kc, .slice kb s0.length kd] 27))
              replace F_u := Lib.hid (F_u.out.alloc (.cells #[.slice ka p0.length kc, .slice kb s0.length kd] 27))
              replace F_j1 := Lib.hid (F_j1.out.alloc (.cells #[.slice ka p0.length kc, .slice kb s0.length kd] 27))
              replace F_j2 := Lib.hid (F_j2.out.alloc (.cells #[.slice ka p0.length kc, .slice kb s0.length kd] 27))
              replace F_j := Lib.hid (F_j.out.alloc (.cells #[.slice ka p0.length kc, .slice kb s0.length kd] 27))
              replace F_k1 := Lib.hid (F_k1.out.alloc (.cells #[.slice ka p0.length kc, .slice kb s0.length kd] 27))
              replace F_k2 := Lib.hid (F_k2.out.alloc (.cells #[.slice ka p0.length kc, .slice kb s0.length kd] 27))
              have F_k := Lib.hid (DealBox.at w13 (.slice ka p0.length kc) (.slice kb s0.length kd) 27 (w13.heap.size) (by simp))
              replace HBW := Lib.hid (HBW.out.alloc HBW.out.size (.cells #[.slice ka p0.length kc, .slice kb s0.length kd] 27))
              obtain ⟨x0a, x0b, x0c, -⟩ := id F_g.out
              obtain ⟨x1a, x1b, x1c, x1d, -⟩ := id F_a.out
              obtain ⟨x2a, x2b, x2c, x2d, -⟩ := id F_b.out
              obtain ⟨x3a, x3b, x3c, x3d, -⟩ := id F_c.out
              obtain ⟨x6a, x6b, x6c, x6d, -⟩ := id F_o.out
              obtain ⟨x9a, x9b, x9c, x9d, -⟩ := id F_x.out
              obtain ⟨x12a, x12b, x12c, x12d, -⟩ := id F_y.out
              obtain ⟨x15a, x15b, x15c, x15d, -⟩ := id F_z.out
              obtain ⟨x18a, x18b, x18c, x18d, -⟩ := id F_u.out
              obtain ⟨x21a, x21b, x21c, x21d, -⟩ := id F_j.out
              obtain ⟨x24a, x24b, x24c, x24d, -⟩ := id F_k.out
              go_wp2_with fail
              clear x0a x0b x0c x1a x1b x1c x1d x2a x2b x2c x2d x3a x3b x3c x3d x6a x6b x6c x6d x9a x9b x9c x9d x12a x12b x12c x12d x15a x15b x15c x15d x18a x18b x18c x18d x21a x21b x21c x21d x24a x24b x24c x24d
              refine (rsame34_any _ F_x1.out F_y1.out F_x2.out F_y2.out (by omega) (by omega)).mono ?_
              rintro e w14 ⟨rfl, hb14⟩
              replace F_g := Lib.hid (F_g.out.keep hb14)
              replace F_a := Lib.hid (F_a.out.keep hb14)
              replace F_b := Lib.hid (F_b.out.keep hb14)
              replace F_c := Lib.hid (F_c.out.keep hb14)
              replace F_p := Lib.hid (F_p.out.keep hb14)
              replace F_q := Lib.hid (F_q.out.keep hb14)
              replace F_o := Lib.hid (F_o.out.keep hb14)
              replace F_x1 := Lib.hid (F_x1.out.keep hb14)
              replace F_x2 := Lib.hid (F_x2.out.keep hb14)
              replace F_x := Lib.hid (F_x.out.keep hb14)
              replace F_y1 := Lib.hid (F_y1.out.keep hb14)
              replace F_y2 := Lib.hid (F_y2.out.keep hb14)
              replace F_y := Lib.hid (F_y.out.keep hb14)
              replace F_z1 := Lib.hid (F_z1.out.keep hb14)
              replace F_z2 := Lib.hid (F_z2.out.keep hb14)
              replace F_z := Lib.hid (F_z.out.keep hb14)
              replace F_u1 := Lib.hid (F_u1.out.keep hb14)
              replace F_u2 := Lib.hid (F_u2.out.keep hb14)
              replace F_u := Lib.hid (F_u.out.keep hb14)
              replace F_j1 := Lib.hid (F_j1.out.keep hb14)
              replace F_j2 := Lib.hid (F_j2.out.keep hb14)
              replace F_j := Lib.hid (F_j.out.keep hb14)
              replace F_k1 := Lib.hid (F_k1.out.keep hb14)
              replace F_k2 := Lib.hid (F_k2.out.keep hb14)
              replace F_k := Lib.hid (F_k.out.keep hb14)
              replace HBW := Lib.hid (HBW.out.trans (hb14.mono HBW.out.size))
              clear hb14
              obtain ⟨x0a, x0b, x0c, -⟩ := id F_g.out
              obtain ⟨x1a, x1b, x1c, x1d, -⟩ := id F_a.out
              obtain ⟨x2a, x2b, x2c, x2d, -⟩ := id F_b.out
              obtain ⟨x3a, x3b, x3c, x3d, -⟩ := id F_c.out
              obtain ⟨x6a, x6b, x6c, x6d, -⟩ := id F_o.out
              obtain ⟨x9a, x9b, x9c, x9d, -⟩ := id F_x.out
              obtain ⟨x12a, x12b, x12c, x12d, -⟩ := id F_y.out
              obtain ⟨x15a, x15b, x15c, x15d, -⟩ := id F_z.out
              obtain ⟨x18a, x18b, x18c, x18d, -⟩ := id F_u.out
              obtain ⟨x21a, x21b, x21c, x21d, -⟩ := id F_j.out
              obtain ⟨x24a, x24b, x24c, x24d, -⟩ := id F_k.out
              go_wp2_with fail
              clear x0a x0b x0c x1a x1b x1c x1d x2a x2b x2c x2d x3a x3b x3c x3d x6a x6b x6c x6d x9a x9b x9c x9d x12a x12b x12c x12d x15a x15b x15c x15d x18a x18b x18c x18d x21a x21b x21c x21d x24a x24b x24c x24d
              refine (rsame34_any _ F_z1.out F_u1.out F_z2.out F_u2.out (by omega) (by omega)).mono ?_
              rintro e w15 ⟨rfl, hb15⟩
              replace F_g := Lib.hid (F_g.out.keep hb15)
              replace F_a := Lib.hid (F_a.out.keep hb15)
              replace F_b := Lib.hid (F_b.out.keep hb15)
              replace F_c := Lib.hid (F_c.out.keep hb15)
              replace F_p := Lib.hid (F_p.out.keep hb15)
              replace F_q := Lib.hid (F_q.out.keep hb15)
              replace F_o := Lib.hid (F_o.out.keep hb15)
              replace F_x1 := Lib.hid (F_x1.out.keep hb15)
              replace F_x2 := Lib.hid (F_x2.out.keep hb15)
              replace F_x := Lib.hid (F_x.out.keep hb15)
              replace F_y1 := Lib.hid (F_y1.out.keep hb15)
              replace F_y2 := Lib.hid (F_y2.out.keep hb15)
              replace F_y := Lib.hid (F_y.out.keep hb15)
              replace F_z1 := Lib.hid (F_z1.out.keep hb15)
              replace F_z2 := Lib.hid (F_z2.out.keep hb15)
              replace F_z := Lib.hid (F_z.out.keep hb15)
              replace F_u1 := Lib.hid (F_u1.out.keep hb15)
              replace F_u2 := Lib.hid (F_u2.out.keep hb15)
              replace F_u := Lib.hid (F_u.out.keep hb15)
              replace F_j1 := Lib.hid (F_j1.out.keep hb15)
              replace F_j2 := Lib.hid (F_j2.out.keep hb15)
              replace F_j := Lib.hid (F_j.out.keep hb15)
              replace F_k1 := Lib.hid (F_k1.out.keep hb15)
              replace F_k2 := Lib.hid (F_k2.out.keep hb15)
              replace F_k := Lib.hid (F_k.out.keep hb15)
              replace HBW := Lib.hid (HBW.out.trans (hb15.mono HBW.out.size))
              clear hb15
              obtain ⟨x0a, x0b, x0c, -⟩ := id F_g.out
              obtain ⟨x1a, x1b, x1c, x1d, -⟩ := id F_a.out
              obtain ⟨x2a, x2b, x2c, x2d, -⟩ := id F_b.out
              obtain ⟨x3a, x3b, x3c, x3d, -⟩ := id F_c.out
              obtain ⟨x6a, x6b, x6c, x6d, -⟩ := id F_o.out
              obtain ⟨x9a, x9b, x9c, x9d, -⟩ := id F_x.out
              obtain ⟨x12a, x12b, x12c, x12d, -⟩ := id F_y.out
              obtain ⟨x15a, x15b, x15c, x15d, -⟩ := id F_z.out
              obtain ⟨x18a, x18b, x18c, x18d, -⟩ := id F_u.out
              obtain ⟨x21a, x21b, x21c, x21d, -⟩ := id F_j.out
              obtain ⟨x24a, x24b, x24c, x24d, -⟩ := id F_k.out
              go_wp2_with fail
              clear x0a x0b x0c x1a x1b x1c x1d x2a x2b x2c x2d x3a x3b x3c x3d x6a x6b x6c x6d x9a x9b x9c x9d x12a x12b x12c x12d x15a x15b x15c x15d x18a x18b x18c x18d x21a x21b x21c x21d x24a x24b x24c x24d
              refine (rsame34_any _ F_p.out (HA.out.h1.keep HBW.out) F_q.out (HA.out.h2.keep HBW.out) (by omega) (by omega)).mono ?_
              rintro e w16 ⟨rfl, hb16⟩
              replace F_g := Lib.hid (F_g.out.keep hb16)
              replace F_a := Lib.hid (F_a.out.keep hb16)
              replace F_b := Lib.hid (F_b.out.keep hb16)
              replace F_c := Lib.hid (F_c.out.keep hb16)
              replace F_p := Lib.hid (F_p.out.keep hb16)
              replace F_q := Lib.hid (F_q.out.keep hb16)
              replace F_o := Lib.hid (F_o.out.keep hb16)
              replace F_x1 := Lib.hid (F_x1.out.keep hb16)
              replace F_x2 := Lib.hid (F_x2.out.keep hb16)
              replace F_x := Lib.hid (F_x.out.keep hb16)
              replace F_y1 := Lib.hid (F_y1.out.keep hb16)
              replace F_y2 := Lib.hid (F_y2.out.keep hb16)
              replace F_y := Lib.hid (F_y.out.keep hb16)
              replace F_z1 := Lib.hid (F_z1.out.keep hb16)
              replace F_z2 := Lib.hid (F_z2.out.keep hb16)
              replace F_z := Lib.hid (F_z.out.keep hb16)
              replace F_u1 := Lib.hid (F_u1.out.keep hb16)
              replace F_u2 := Lib.hid (F_u2.out.keep hb16)
              replace F_u := Lib.hid (F_u.out.keep hb16)
              replace F_j1 := Lib.hid (F_j1.out.keep hb16)
              replace F_j2 := Lib.hid (F_j2.out.keep hb16)
              replace F_j := Lib.hid (F_j.out.keep hb16)
              replace F_k1 := Lib.hid (F_k1.out.keep hb16)
              replace F_k2 := Lib.hid (F_k2.out.keep hb16)
              replace F_k := Lib.hid (F_k.out.keep hb16)
              replace HBW := Lib.hid (HBW.out.trans (hb16.mono HBW.out.size))
              clear hb16
              obtain ⟨x0a, x0b, x0c, -⟩ := id F_g.out
              obtain ⟨x1a, x1b, x1c, x1d, -⟩ := id F_a.out
              obtain ⟨x2a, x2b, x2c, x2d, -⟩ := id F_b.out
              obtain ⟨x3a, x3b, x3c, x3d, -⟩ := id F_c.out
              obtain ⟨x6a, x6b, x6c, x6d, -⟩ := id F_o.out
              obtain ⟨x9a, x9b, x9c, x9d, -⟩ := id F_x.out
              obtain ⟨x12a, x12b, x12c, x12d, -⟩ := id F_y.out
              obtain ⟨x15a, x15b, x15c, x15d, -⟩ := id F_z.out
              obtain ⟨x18a, x18b, x18c, x18d, -⟩ := id F_u.out
              obtain ⟨x21a, x21b, x21c, x21d, -⟩ := id F_j.out
              obtain ⟨x24a, x24b, x24c, x24d, -⟩ := id F_k.out
              go_wp2_with fail
              go_ret
              exact ⟨rfl, HBW.out⟩


set_option maxRecDepth 100000 in
theorem lifted (os : Os) (started : os.Started) (H : Type) (enc : TypeId × Value → H) :
    ReturnsInHanded {} Try.checked os 3 .any (Rows.shamirMergeSpec.pre6 enc Try.prog Try.f3 Rows.shamirMergeRow.domain false) (Rows.shamirMergeSpec.post enc Try.prog Try.f3 false true false false) := by
  refine returnsInHanded_of_change (C := Try.checked) own started (by kernel_rfl) Try.func3
    (ChangeSpec.witness6 (enc := enc) (C := Try.checked) false ⟨#[], #[.agg #[.int .u64 0, .int .u64 0, .int .u64 0], .agg #[.slice none 0 0, .slice none 0 0], .agg #[.slice none 0 0, .slice none 0 0], .agg #[.slice none 0 0, .slice none 0 0]], []⟩ 8 (by kernel_rfl) (by kernel_rfl) (by kernel_rfl) (by kernel_rfl)) ?_
  intro W base args ds gs before hval0 hW _ _
  have hval : ∀ (j : Nat) t v, Try.f3.params[j]? = some t → args[j]? = some v → Value.okWide Try.prog W .any base t v := hval0
  have hW' := hW
  obtain ⟨p, q, hA0, hV, rfl, hfz, hnd⟩ := hW
  have hA : DataW.TrodAll enc Try.prog W 0 (fun _ => true) true Try.f3.params.toList args.toList ds p := hA0
  rw [Try.params3] at hA hval
  have hK := hA
  obtain ⟨v0, vs0, d0, ds0, p0, q0, hargs, rfl, rfl, h0, r0⟩ := trodAll_cons hA
  obtain ⟨v1, vs1, d1, ds1, p1, q1, rfl, rfl, rfl, h1, r1⟩ := trodAll_cons r0
  obtain ⟨v2, vs2, d2, ds2, p2, q2, rfl, rfl, rfl, h2, r2⟩ := trodAll_cons r1
  obtain ⟨v3, vs3, d3, ds3, p3, q3, rfl, rfl, rfl, h3, r3⟩ := trodAll_cons r2
  obtain ⟨rfl, rfl, rfl⟩ := trodAll_nil r3
  obtain rfl : args = #[v0, v1, v2, v3] := by cases args; simp_all
  obtain ⟨rfl, rfl⟩ := trodVars_none hV
  obtain ⟨P, Q, G, rfl, uP, uQ, uG⟩ := open_group (hval 0 24 v0 rfl rfl) h0
  obtain ⟨A_, rfl, hA_⟩ := open_deal (hval 1 27 v1 rfl rfl) h1
  obtain ⟨B_, rfl, hB_⟩ := open_deal (hval 2 27 v2 rfl rfl) h2
  obtain ⟨C_, rfl, hC_⟩ := open_deal (hval 3 27 v3 rfl rfl) h3
  clear hA0 hval0
  refine (walk P Q G A_ B_ C_ W uP uQ uG hA_ hB_ hC_).mono fun e W' ⟨he, bel⟩ => ?_
  subst he
  exact ⟨_, rfl, _, _, _, [], _, [], hW', trodAll_mk1 (shut_bool Try.underlying4 _), trodAll_stays laidOut (by kernel_rfl) hK bel, rfl, bel.frame _, fun h => by cases h⟩

theorem over : Rows.shamirMergeRow.holds Try.pinned (OpenSpec.ofChange Rows.shamirMergeSpec) :=
  OpenClaim.holds_of_wide 3 Try.f3 rfl rfl rfl rfl rfl rfl rfl ⟨rfl, rfl, rfl, rfl, rfl⟩ rfl rfl rfl rfl rfl (by kernel_rfl) Try.func3 (by kernel_rfl)
    (of_decide_eq_true (by kernel_rfl)) (by unfold Func.isWrapper; first | (rw [if_pos (by decide +kernel)]; kernel_rfl) | (rw [if_neg (by decide +kernel)]; exact ⟨rfl, rfl⟩))
    (fun os started H enc _ => lifted os started H enc)

theorem proved : Rows.ShamirMergeSaid := over
#print axioms proved
end Go.Proofs.Ytjfaaicbojnpaaa.lawMerge
