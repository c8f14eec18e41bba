/- The reference's Power. -/
import Derived.Test.YtjfaaicbojnpaaaPairZ
import Derived.Test.YtjfaaicbojnpaaaRefD
namespace Go.Proofs.Ytjfaaicbojnpaaa
open Go.RowKit Num
set_option linter.unusedSimpArgs false
set_option linter.unusedVariables false

set_option maxHeartbeats 1000000 in
theorem r31Power_any {P Q G a x r : Int} (w : World) (m1 : 1 ≤ P) (m3 : P < 2147483648) (a0 : 0 ≤ a) (a1 : a < 2147483648) (hx : U64 x) (hr : powm a x P = r) :
    Calls Try.prog 66 #[.agg #[.int .u64 P, .int .u64 Q, .int .u64 G], .int .u64 a, .int .u64 x] w fun e w' => e = .returned (.int .u64 r) ∧ Below w.heap.size w w' := by
  have HR := Lib.hid hr
  have HX := Lib.hid hx
  clear hr hx
  have F_g := Lib.hid (show Boxed (w.alloc (.cells #[.int .u64 P, .int .u64 Q, .int .u64 G] 24)) (w.heap.size) P Q G from Boxed.at _ P Q G _ (w.heap.size) (by simp))
  have HBW := Lib.hid (show Below w.heap.size w (w.alloc (.cells #[.int .u64 P, .int .u64 Q, .int .u64 G] 24)) from (Below.refl _ _).alloc (by simp <;> omega) _)
  go_enter Try.func66, Try.ntmps66
  obtain ⟨x0a, x0b, x0c, -⟩ := id F_g.out
  go_wp2_with fail
  clear x0a x0b x0c
  refine (rPower_any P a x r _ m1 m3 a0 a1 HX.out HR.out).mono ?_
  rintro e w1 ⟨rfl, rfl⟩
  obtain ⟨x0a, x0b, x0c, -⟩ := id F_g.out
  go_wp2_with fail
  go_ret
  exact ⟨rfl, HBW.out⟩
end Go.Proofs.Ytjfaaicbojnpaaa
