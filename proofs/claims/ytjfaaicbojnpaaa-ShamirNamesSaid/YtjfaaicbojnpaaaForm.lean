/- group.Form: 0 for a group that has the form of a group, 300 for any other. -/
import Derived.Test.YtjfaaicbojnpaaaBase
namespace Go.Proofs.Ytjfaaicbojnpaaa
open Go.RowKit

set_option maxHeartbeats 400000 in
theorem form_yes (P Q G : Int) (w : World) (h : Has P Q G) :
    Calls Try.prog 47 #[.agg #[.int .u64 P, .int .u64 Q, .int .u64 G]] w fun e w' => e = .returned (.int .i64 0) ∧ Below w.heap.size w w' := by
  obtain ⟨a, b, c, d, e, f⟩ := h
  have d' : ¬ (P ≠ 2 * Q + 1) := by omega
  go_enter Try.func47, Try.ntmps47
  go_wp2
  go_ret
  exact ⟨rfl, (Below.refl _ _).alloc (Nat.le_refl _) _⟩

set_option maxHeartbeats 400000 in
theorem form_no (P Q G : Int) (w : World) (hP : 0 ≤ P) (hQ : 0 ≤ Q) (hG : 0 ≤ G) (h : ¬ Has P Q G) :
    Calls Try.prog 47 #[.agg #[.int .u64 P, .int .u64 Q, .int .u64 G]] w fun e w' => e = .returned (.int .i64 300) ∧ Below w.heap.size w w' := by
  have h' : ¬ (5 ≤ P ∧ P < 2147483648 ∧ 0 ≤ Q ∧ P = 2 * Q + 1 ∧ 2 ≤ G ∧ G < P) := h
  clear h
  go_enter Try.func47, Try.ntmps47
  go_wp2
  all_goals
    go_ret
    exact ⟨rfl, (Below.refl _ _).alloc (Nat.le_refl _) _⟩

/-- What Form gives. -/
def formS (P Q G : Int) : Int := if Has P Q G then 0 else 300
theorem form_any (P Q G : Int) (w : World) (hP : 0 ≤ P) (hQ : 0 ≤ Q) (hG : 0 ≤ G) :
    Calls Try.prog 47 #[.agg #[.int .u64 P, .int .u64 Q, .int .u64 G]] w fun e w' => e = .returned (.int .i64 (formS P Q G)) ∧ Below w.heap.size w w' := by
  unfold formS
  split
  · exact form_yes P Q G w ‹_›
  · exact form_no P Q G w hP hQ hG ‹_›
end Go.Proofs.Ytjfaaicbojnpaaa
