/- slices.Chunk over bytes. -/
import Derived.Test.YtmcpfinnhgbcpaaDoorDigC
import Derived.Test.YtmcpfinnhgbcpaaDoorDigD
import Derived.Test.YtmcpfinnhgbcpaaDoorStageIn
import Derived.RangeFuncNested
import Derived.RangeFuncBound
import Derived.RangeFuncCalls
import Derived.RangeFuncLeaves
import Derived.RangeFuncBox
import Derived.RangeFuncWrites
import Derived.Shelf.Abstract
import Derived.WalkKit
import Derived.BigQuiet
import Derived.OwnWalkIn
import Derived.TacticsInMore
import Derived.LoopNIn
import Derived.LoopIn
namespace Go.Proofs.YtmcpfinnhgbcpaaDoor
open Go.RowKit Go.Shelf
set_option linter.unusedSimpArgs false
set_option linter.unusedVariables false

attribute [local go_sem] Oper.semAt_some

/-- What has come when k rounds are over. -/
def firstN {α : Type} (f : Nat → α) (k : Nat) : List α := (List.range k).map f
theorem firstN_succ {α : Type} (f : Nat → α) (k : Nat) : firstN f (k + 1) = firstN f k ++ [f k] := by simp [firstN, List.range_succ]
theorem firstN_length {α : Type} (f : Nat → α) (k : Nat) : (firstN f k).length = k := by simp [firstN]

/-- What a round keeps: the cells of three blocks. -/
def Kp3 (A B C : Nat) (W W' : World) : Prop := (∀ o, W'.cell? ⟨A, o, none⟩ = W.cell? ⟨A, o, none⟩) ∧ (∀ o, W'.cell? ⟨B, o, none⟩ = W.cell? ⟨B, o, none⟩) ∧ ∀ o, W'.cell? ⟨C, o, none⟩ = W.cell? ⟨C, o, none⟩
theorem Kp3.refl (A B C : Nat) (W : World) : Kp3 A B C W W := ⟨fun _ => rfl, fun _ => rfl, fun _ => rfl⟩
theorem Kp3.trans {A B C : Nat} {W1 W2 W3 : World} (h : Kp3 A B C W1 W2) (k : Kp3 A B C W2 W3) : Kp3 A B C W1 W3 := ⟨fun o => (k.1 o).trans (h.1 o), fun o => (k.2.1 o).trans (h.2.1 o), fun o => (k.2.2 o).trans (h.2.2 o)⟩
theorem Kp3.put {A B C : Nat} {w : World} (hA : A < w.heap.size) (hB : B < w.heap.size) (hC : C < w.heap.size) (W : World) (l : Nat) (o o' : Obj) (hl : w.heap.size ≤ l) (h : W.heap[l]? = some o) (_ : o.isCells = false) (_ : o.isWalk = false) : Kp3 A B C W (W.putObj l o') := by
  have hg := grownBy_putObj' W l o'
  have key : ∀ b, b < w.heap.size → ∀ o, (W.putObj l o').cell? ⟨b, o, none⟩ = W.cell? ⟨b, o, none⟩ := fun b hb o => World.cell?_of_block (hg.block b (by have := (Array.getElem?_eq_some_iff.1 h).1; omega) (fun e => by cases e; omega))
  exact ⟨key A hA, key B hB, key C hC⟩
theorem Kp3.below {A B C : Nat} {W W' : World} (h : Below W.heap.size W W') (hA : A < W.heap.size) (hB : B < W.heap.size) (hC : C < W.heap.size) : Kp3 A B C W W' :=
  ⟨fun o => h.cell (p := ⟨A, o, none⟩) hA, fun o => h.cell (p := ⟨B, o, none⟩) hB, fun o => h.cell (p := ⟨C, o, none⟩) hC⟩

theorem grownBy_drewN (W : World) (k : Nat) : W.grownBy (W.drewN k) none := ⟨rfl, rfl, rfl, Nat.le_refl _, fun _ _ _ => rfl⟩

set_option maxRecDepth 100000 in
set_option maxHeartbeats 4000000 in
theorem chunk1_in (n : Nat) (hn : 1 ≤ n) (l Bs Bn b cap m : Nat) (hm : m ≤ 100000) (hcap : 64 * m ≤ cap) {α : Type} (ix : α → Nat) (f : Nat → α) (hf : ∀ k, k < m → ix (f k) = k) (J Jx : List α → World → Prop)
    (hY : ∀ pre x W, J pre W → pre.length < m → YieldAt Fence.wide (n - 1) Tryd.prog l #[.slice (some ⟨b, 64 * ix x, none⟩) 64 64] W fun e W' =>
      (e = .returned (.bool true) ∧ J (pre ++ [x]) W' ∧ Kp3 Bs Bn b W W') ∨ (e = .returned (.bool false) ∧ Jx (pre ++ [x]) W'))
    (hJd : ∀ pre W k, J pre W → J pre (W.drewN k))
    (W : World) (hBs : W.cell? ⟨Bs, 0, none⟩ = some (.slice (some ⟨b, 0, none⟩) (64 * m) cap)) (hBn : W.cell? ⟨Bn, 0, none⟩ = some (.int .i64 64)) (h0 : J [] W) :
    CallsIn Fence.wide n Tryd.prog 91 #[.func (.yield l) #[] #[], .pointer (some ⟨Bs, 0, none⟩), .pointer (some ⟨Bn, 0, none⟩)] W fun e W' => (∃ v, e = .returned v) ∧
      ((∃ ys, ys = firstN f m ∧ J ys W') ∨ (∃ pre, (∃ k, k ≤ m ∧ pre = firstN f k) ∧ Jx pre W')) := by
  refine callsIn_of_wp Tryd.func91 rfl trivial ?_ rfl
  simp only [Tryd.ntmps91, List.size_toArray, List.length_cons, List.length_nil, Nat.reduceAdd, Nat.reduceSub, Array.replicate_succ, Array.replicate_zero, List.push_toArray, List.append_toArray, List.nil_append, List.cons_append]
  gi_wp2
  gi_loopw [4] (fun i wr => ∃ k : Nat, k ≤ m ∧ i = .int .i64 ((64 * k : Nat) : Int) ∧ J (firstN f k) wr ∧ Kp3 Bs Bn b W wr) (fun i _ => 64 * m - (intOf i).toNat)
  case atStart => exact ⟨0, Nat.zero_le _, rfl, h0, Kp3.refl _ _ _ _⟩
  case round =>
    obtain ⟨k, hk, rfl, hJs, hnx⟩ := hrel
    have cs : wr.cell? ⟨Bs, 0, none⟩ = some (.slice (some ⟨b, 0, none⟩) (64 * m) cap) := (hnx.1 0).trans hBs
    have cn : wr.cell? ⟨Bn, 0, none⟩ = some (.int .i64 64) := (hnx.2.1 0).trans hBn
    obtain ⟨i, hi⟩ : ∃ i, 64 * k = i := ⟨_, rfl⟩
    rw [hi]
    by_cases hlt : k < m
    · have i0 : (0 : Int) ≤ (i : Int) := by omega
      have hl1 : (i : Int) < ((64 * m : Nat) : Int) := by omega
      have hl2 : (i : Int) ≤ ((64 * m : Nat) : Int) := by omega
      have hl4 : i < cap := by omega
      have hl3 : (i : Int) + 64 ≤ 64 * (m : Int) := by omega
      have hl5 : i ≤ cap := by omega
      have hl6 : ¬ i = cap := by omega
      have hmin : min (64 : Int) (((64 * m - i : Nat) : Nat) : Int) = 64 := by omega
      have hmin2 : min (64 : Int) (64 * (m : Int) - (i : Int)) = 64 := by omega
      have hwi : IntKind.i64.wrap ((i : Int) + 64) = (i : Int) + 64 := IntWalk.i64_in _ (by omega)
      gi_wp2_with fail
      refine wpIn_wide.2 ?_
      go_quiet (fail)
      obtain ⟨fn, tmps, assign, body, hy, hR⟩ := hY _ (f k) (wr.drewN nq) (hJd _ _ nq hJs) (by rw [firstN_length]; exact hlt)
      rw [hf k hlt, hi] at hy
      gi_wp2
      refine hR.mono ?_
      rintro e W3 (⟨rfl, hJ3, hk3⟩ | ⟨rfl, hJx3⟩)
      · have cn3 : W3.cell? ⟨Bn, 0, none⟩ = some (.int .i64 64) := (hk3.2.1 0).trans cn
        gi_wp2
        go_roundw
        case rel => exact ⟨k + 1, by omega, by go_num, by rw [firstN_succ]; exact hJ3, hnx.trans ((show Kp3 Bs Bn b wr (wr.drewN nq) from ⟨fun _ => rfl, fun _ => rfl, fun _ => rfl⟩).trans hk3)⟩
        case measure => simp [intOf]; omega
      · gi_wp2
        refine bodyPost_ret (results_none rfl _ _ _) rfl ?_
        exact ⟨⟨_, rfl⟩, .inr ⟨_, ⟨k + 1, by omega, (firstN_succ _ _).symm⟩, hJx3⟩⟩
    · obtain rfl : k = m := by omega
      subst hi
      have hl7 : ¬ (((64 * k : Nat) : Int) < 64 * (k : Int)) := by omega
      gi_wp2
      go_end0
      first | exact ⟨⟨_, rfl⟩, .inl hJs⟩ | exact ⟨⟨_, rfl⟩, .inl ⟨_, rfl, hJs⟩⟩

set_option maxHeartbeats 1000000 in
theorem chunk_in (n : Nat) (a : Option Addr) (len cap : Nat) (w : World) :
    CallsIn Fence.wide n Tryd.prog 85 #[.slice a len cap, .int .i64 64] w fun e w' => e = .returned (.func (.func 91) #[] #[.pointer (some ⟨w.heap.size, 0, none⟩), .pointer (some ⟨w.heap.size + 1, 0, none⟩)]) ∧ w' = (w.alloc (.cells #[.slice a len cap] 27)).alloc (.cells #[.int .i64 64] 3) := by
  refine callsIn_of_wp Tryd.func85 rfl trivial ?_ rfl
  simp only [Tryd.ntmps85, List.size_toArray, List.length_cons, List.length_nil, Nat.reduceAdd, Nat.reduceSub, Array.replicate_succ, Array.replicate_zero, List.push_toArray, List.append_toArray, List.nil_append, List.cons_append]
  gi_wp2
  go_ret
  exact ⟨rfl, rfl⟩

theorem chunk_stops (n : Nat) (hn : 1 ≤ n) (Bs Bn b cap m : Nat) (hm : m ≤ 100000) (hcap : 64 * m ≤ cap) {α : Type} (ix : α → Nat) (f : Nat → α) (hf : ∀ k, k < m → ix (f k) = k) (w : World) (hBs : Bs < w.heap.size) (hBn : Bn < w.heap.size) (hb : b < w.heap.size)
    (hc : w.cell? ⟨Bs, 0, none⟩ = some (.slice (some ⟨b, 0, none⟩) (64 * m) cap)) (hc2 : w.cell? ⟨Bn, 0, none⟩ = some (.int .i64 64)) :
    SeqStopsK Fence.wide n Tryd.prog 91 #[.pointer (some ⟨Bs, 0, none⟩), .pointer (some ⟨Bn, 0, none⟩)] (fun x : α => #[Value.slice (some ⟨b, 64 * ix x, none⟩) 64 64]) (Kp3 Bs Bn b) (fun ys => ys = firstN f m) (fun pre => ∃ k, k ≤ m ∧ pre = firstN f k) m w := fun l J Jx W hW hJo _ hY h0 => by
  have hc' := (hW.cell (p := ⟨Bs, 0, none⟩) hBs).trans hc
  have hc2' := (hW.cell (p := ⟨Bn, 0, none⟩) hBn).trans hc2
  refine (chunk1_in n hn l Bs Bn b cap m hm hcap ix f hf J Jx hY (fun pre W k h => hJo pre W (W.drewN k) none h (grownBy_drewN W k) (fun r e => by cases e)) W hc' hc2' h0).mono ?_
  rintro e W' ⟨he, ⟨ys, rfl, hj⟩ | ⟨pre, hk, hj⟩⟩
  · exact ⟨he, .inl ⟨_, rfl, hj⟩⟩
  · exact ⟨he, .inr ⟨_, hk, hj⟩⟩
end Go.Proofs.YtmcpfinnhgbcpaaDoor
