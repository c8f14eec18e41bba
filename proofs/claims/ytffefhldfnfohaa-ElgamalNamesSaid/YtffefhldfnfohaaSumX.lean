/- elgamal.Sum's early errors, whatever the slice holds. -/
import Derived.Test.YtffefhldfnfohaaSumE
namespace Go.Proofs.Ytffefhldfnfohaa
open Go.RowKit Num
set_option linter.unusedSimpArgs false
set_option linter.unusedVariables false

set_option maxHeartbeats 2000000 in
theorem esum_no {P Q G : Int} {a : Option Addr} {n c : Nat} (w : World) (hP : 0 ≤ P) (hQ : 0 ≤ Q) (hG : 0 ≤ G) (hH : ¬ Has P Q G) :
    Calls Try.prog 15 #[.agg #[.int .u64 P, .int .u64 Q, .int .u64 G], .slice a n c] w fun e w' => e = .returned (.tuple #[.agg #[.int .u64 0, .int .u64 0], .int .i64 300]) ∧ Below w.heap.size w w' := by
  have HR := Lib.hid (show askS P Q G [] [] = 300 from askS_no hH)
  clear hH
  have F_g := Lib.hid (show Boxed ((w.alloc (.cells #[.int .u64 P, .int .u64 Q, .int .u64 G] 24)).alloc (.cells #[.int .u64 0, .int .u64 0] 26)) (w.heap.size) P Q G from (Boxed.at _ P Q G _ (w.heap.size) (by simp)).alloc _)
  have F_r := Lib.hid (show Pair ((w.alloc (.cells #[.int .u64 P, .int .u64 Q, .int .u64 G] 24)).alloc (.cells #[.int .u64 0, .int .u64 0] 26)) (w.heap.size + 1) 0 0 from Pair.at _ 0 0 _ (w.heap.size + 1) (by simp))
  have HBW := Lib.hid (show Below w.heap.size w ((w.alloc (.cells #[.int .u64 P, .int .u64 Q, .int .u64 G] 24)).alloc (.cells #[.int .u64 0, .int .u64 0] 26)) from ((Below.refl _ _).alloc (by simp <;> omega) _).alloc (by simp <;> omega) _)
  go_enter Try.func15, Try.ntmps15
  obtain ⟨x0a, x0b, x0c, -⟩ := id F_g.out
  obtain ⟨x1a, x1b, x1c, x1d, -⟩ := id F_r.out
  go_wp2_with fail
  clear x0a x0b x0c x1a x1b x1c x1d
  refine (echeck_any _ hP hQ hG (ShL.nil _) (ShL.nil _) (by simp) (by simp) HR.out).mono ?_
  rintro e w1 ⟨rfl, hb1⟩
  replace F_g := Lib.hid (F_g.out.keep hb1)
  replace F_r := Lib.hid (F_r.out.keep hb1)
  replace HBW := Lib.hid (HBW.out.trans (hb1.mono HBW.out.size))
  clear hb1
  obtain ⟨x0a, x0b, x0c, -⟩ := id F_g.out
  obtain ⟨x1a, x1b, x1c, x1d, -⟩ := id F_r.out
  go_wp2_with fail
  exact bodyPost_ret (res_pair rfl (F_r.out.stored 0 0) _ rfl rfl) rfl ⟨rfl, (HBW.out.setCell (by simp <;> omega) _).setCell (by simp <;> omega) _⟩

set_option maxHeartbeats 2000000 in
theorem esum_many {P Q G : Int} {a : Option Addr} {n c : Nat} (w : World) (hP : 0 ≤ P) (hQ : 0 ≤ Q) (hG : 0 ≤ G) (hH : Has P Q G) (hn : 4096 < n) :
    Calls Try.prog 15 #[.agg #[.int .u64 P, .int .u64 Q, .int .u64 G], .slice a n c] w fun e w' => e = .returned (.tuple #[.agg #[.int .u64 0, .int .u64 0], .int .i64 4]) ∧ Below w.heap.size w w' := by
  have HR := Lib.hid (show askS P Q G [] [] = 0 from askS_ok hH (by simp) (by simp))
  have hn1 : (4096 : Int) < (n : Int) := by omega
  clear hH hn
  have F_g := Lib.hid (show Boxed ((w.alloc (.cells #[.int .u64 P, .int .u64 Q, .int .u64 G] 24)).alloc (.cells #[.int .u64 0, .int .u64 0] 26)) (w.heap.size) P Q G from (Boxed.at _ P Q G _ (w.heap.size) (by simp)).alloc _)
  have F_r := Lib.hid (show Pair ((w.alloc (.cells #[.int .u64 P, .int .u64 Q, .int .u64 G] 24)).alloc (.cells #[.int .u64 0, .int .u64 0] 26)) (w.heap.size + 1) 0 0 from Pair.at _ 0 0 _ (w.heap.size + 1) (by simp))
  have HBW := Lib.hid (show Below w.heap.size w ((w.alloc (.cells #[.int .u64 P, .int .u64 Q, .int .u64 G] 24)).alloc (.cells #[.int .u64 0, .int .u64 0] 26)) from ((Below.refl _ _).alloc (by simp <;> omega) _).alloc (by simp <;> omega) _)
  go_enter Try.func15, Try.ntmps15
  obtain ⟨x0a, x0b, x0c, -⟩ := id F_g.out
  obtain ⟨x1a, x1b, x1c, x1d, -⟩ := id F_r.out
  go_wp2_with fail
  clear x0a x0b x0c x1a x1b x1c x1d
  refine (echeck_any _ hP hQ hG (ShL.nil _) (ShL.nil _) (by simp) (by simp) HR.out).mono ?_
  rintro e w1 ⟨rfl, hb1⟩
  replace F_g := Lib.hid (F_g.out.keep hb1)
  replace F_r := Lib.hid (F_r.out.keep hb1)
  replace HBW := Lib.hid (HBW.out.trans (hb1.mono HBW.out.size))
  clear hb1
  obtain ⟨x0a, x0b, x0c, -⟩ := id F_g.out
  obtain ⟨x1a, x1b, x1c, x1d, -⟩ := id F_r.out
  go_wp2_with fail
  exact bodyPost_ret (res_pair rfl (F_r.out.stored 0 0) _ rfl rfl) rfl ⟨rfl, (HBW.out.setCell (by simp <;> omega) _).setCell (by simp <;> omega) _⟩
end Go.Proofs.Ytffefhldfnfohaa
