/- slices.Backward over a slice of numbers; shamir.value. -/
import Derived.Test.YtjfaaicbojnpaaaShaA
import Derived.Test.YtjfaaicbojnpaaaStageG
namespace Go.Proofs.Ytjfaaicbojnpaaa
open Go.RowKit Go.Shelf Num
set_option linter.unusedSimpArgs false
set_option linter.unusedVariables false

attribute [local go_sem] Oper.semAt_some

/-- What a round keeps: the cells of two blocks. -/
def KpC (Bs b : Nat) (W W' : World) : Prop := (∀ o, W'.cell? ⟨Bs, o, none⟩ = W.cell? ⟨Bs, o, none⟩) ∧ ∀ o, W'.cell? ⟨b, o, none⟩ = W.cell? ⟨b, o, none⟩
theorem KpC.refl (Bs b : Nat) (W : World) : KpC Bs b W W := ⟨fun _ => rfl, fun _ => rfl⟩
theorem KpC.trans {Bs b : Nat} {A B C : World} (h : KpC Bs b A B) (k : KpC Bs b B C) : KpC Bs b A C := ⟨fun o => (k.1 o).trans (h.1 o), fun o => (k.2 o).trans (h.2 o)⟩
theorem KpC.put {Bs b : Nat} {w : World} (hB : Bs < w.heap.size) (hb : b < w.heap.size) (W : World) (l : Nat) (o o' : Obj) (hl : w.heap.size ≤ l) (h : W.heap[l]? = some o) (_ : o.isCells = false) (_ : o.isWalk = false) : KpC Bs b W (W.putObj l o') := by
  have hlt := (Array.getElem?_eq_some_iff.1 h).1
  have hg := grownBy_putObj' W l o'
  exact ⟨fun o => World.cell?_of_block (hg.block Bs (by omega) (fun e => by cases e; omega)), fun o => World.cell?_of_block (hg.block b (by omega) (fun e => by cases e; omega))⟩
theorem KpC.below {Bs b : Nat} {A B : World} (h : Below A.heap.size A B) (hB : Bs < A.heap.size) (hb : b < A.heap.size) : KpC Bs b A B :=
  ⟨fun o => h.cell (p := ⟨Bs, o, none⟩) hB, fun o => h.cell (p := ⟨b, o, none⟩) hb⟩

/-- The k-th pair that comes from behind: its index, its element. -/
def BackOf {α : Type} (ix : α → Nat) (el : α → Int) (f : Nat → α) (zs : List Int) : Prop := ∀ k, k < zs.length → ix (f k) = zs.length - 1 - k ∧ el (f k) = zs[zs.length - 1 - k]?.getD 0

set_option maxRecDepth 100000 in
set_option maxHeartbeats 2000000 in
theorem back1_in (F : Fence) (n : Nat) (h7 : F.fn 99) (hro : F.round = none) (hn : 1 ≤ n) (l Bs b off cap : Nat) {α : Type} (ix : α → Nat) (el : α → Int) (f : Nat → α) (zs : List Int) (hf : BackOf ix el f zs) (hreach : zs.length ≤ 1000000) (J Jx : List α → World → Prop)
    (hY : ∀ pre x W, J pre W → pre.length < zs.length → YieldAt F (n - 1) Try.prog l #[.int .i64 (ix x : Nat), .int .u64 (el x)] W fun e W' =>
      (e = .returned (.bool true) ∧ J (pre ++ [x]) W' ∧ KpC Bs b W W') ∨ (e = .returned (.bool false) ∧ Jx (pre ++ [x]) W'))
    (W : World) (hBs : W.cell? ⟨Bs, 0, none⟩ = some (.slice (some ⟨b, off, none⟩) zs.length cap)) (hc : ∀ j, j < zs.length → W.cell? ⟨b, off + j, none⟩ = some (.int .u64 (zs[j]?.getD 0))) (h0 : J [] W) :
    CallsIn F n Try.prog 99 #[.func (.yield l) #[] #[], .pointer (some ⟨Bs, 0, none⟩)] W fun e W' => (∃ v, e = .returned v) ∧
      ((∃ ys, ys = upTo f zs.length ∧ J ys W') ∨ (∃ pre, (∃ k, k ≤ zs.length ∧ pre = upTo f k) ∧ Jx pre W')) := by
  refine callsIn_of_wp Try.func99 rfl h7 ?_ hro
  simp only [Try.ntmps99, List.size_toArray, List.length_cons, List.length_nil, Nat.reduceAdd, Nat.reduceSub, Array.replicate_succ, Array.replicate_zero, List.push_toArray, List.append_toArray, List.nil_append, List.cons_append]
  gi_wp2
  gi_loopw [3] (fun i wr => ∃ j : Nat, j ≤ zs.length ∧ i = .int .i64 ((j : Int) - 1) ∧ J (upTo f (zs.length - j)) wr ∧ KpC Bs b W wr)
    (fun i _ => (intOf i + 1).toNat)
  case atStart => exact ⟨zs.length, Nat.le_refl _, by go_num, by rw [Nat.sub_self]; exact h0, KpC.refl _ _ _⟩
  case round =>
    obtain ⟨j, hj, rfl, hJs, hnx⟩ := hrel
    cases j with
    | zero =>
      have e9 : ((0 : Nat) : Int) - 1 = -1 := rfl
      rw [e9]
      gi_wp2
      go_end0
      exact ⟨⟨_, rfl⟩, .inl ⟨_, rfl, hJs⟩⟩
    | succ j =>
      have e9 : ((j + 1 : Nat) : Int) - 1 = (j : Int) := by omega
      rw [e9]
      have hBs' : wr.cell? ⟨Bs, 0, none⟩ = some (.slice (some ⟨b, off, none⟩) zs.length cap) := (hnx.1 0).trans hBs
      have hcj : wr.cell? ⟨b, off + j, none⟩ = some (.int .u64 (zs[j]?.getD 0)) := (hnx.2 _).trans (hc j (by omega))
      have hk0 : (0 : Int) ≤ (j : Int) := by omega
      have hk1 : (j : Int) < (zs.length : Int) := by omega
      obtain ⟨e1, e2⟩ := hf (zs.length - (j + 1)) (by omega)
      rw [show zs.length - 1 - (zs.length - (j + 1)) = j by omega] at e1 e2
      obtain ⟨fn, tmps, assign, body, hy, hR⟩ := hY _ (f (zs.length - (j + 1))) wr hJs (by rw [upTo_length]; omega)
      rw [e1, e2] at hy
      clear e1 e2
      gi_wp2
      refine hR.mono ?_
      rintro e W3 (⟨rfl, hJ3, hk3⟩ | ⟨rfl, hJx3⟩)
      · gi_wp2
        go_roundw
        case rel => exact ⟨j, by omega, by go_num, by rw [show zs.length - j = zs.length - (j + 1) + 1 by omega, upTo_succ]; exact hJ3, hnx.trans hk3⟩
        case measure => first | (simp [intOf]; omega) | simp [intOf]
      · gi_wp2
        refine bodyPost_ret (results_none rfl _ _ _) rfl ?_
        exact ⟨⟨_, rfl⟩, .inr ⟨_, ⟨zs.length - (j + 1) + 1, by omega, by rw [upTo_succ]⟩, hJx3⟩⟩

set_option maxHeartbeats 1000000 in
theorem back_in (F : Fence) (n : Nat) (h5 : F.fn 87) (hro : F.round = none) (a : Option Addr) (len cap : Nat) (w : World) :
    CallsIn F n Try.prog 87 #[.slice a len cap] w fun e w' => e = .returned (.func (.func 99) #[] #[.pointer (some ⟨w.heap.size, 0, none⟩)]) ∧ w' = w.alloc (.cells #[.slice a len cap] 25) := by
  refine callsIn_of_wp Try.func87 rfl h5 ?_ hro
  simp only [Try.ntmps87, List.size_toArray, List.length_cons, List.length_nil, Nat.reduceAdd, Nat.reduceSub, Array.replicate_succ, Array.replicate_zero, List.push_toArray, List.append_toArray, List.nil_append, List.cons_append]
  gi_wp2
  go_ret
  exact ⟨rfl, rfl⟩

theorem back_stops (F : Fence) (n : Nat) (h7 : F.fn 99) (hro : F.round = none) (hn : 1 ≤ n) (Bs b off cap : Nat) {α : Type} (ix : α → Nat) (el : α → Int) (f : Nat → α) (zs : List Int) (hf : BackOf ix el f zs) (hreach : zs.length ≤ 1000000) (w : World) (hBs : Bs < w.heap.size) (hb : b < w.heap.size)
    (hc : w.cell? ⟨Bs, 0, none⟩ = some (.slice (some ⟨b, off, none⟩) zs.length cap)) (hI : ∀ j, j < zs.length → w.cell? ⟨b, off + j, none⟩ = some (.int .u64 (zs[j]?.getD 0))) :
    SeqStopsK F n Try.prog 99 #[.pointer (some ⟨Bs, 0, none⟩)] (fun x : α => #[Value.int .i64 (ix x : Nat), Value.int .u64 (el x)]) (KpC Bs b) (fun ys => ys = upTo f zs.length) (fun pre => ∃ k, k ≤ zs.length ∧ pre = upTo f k) zs.length w := fun l J Jx W hW _ _ hY h0 => by
  have hc' := (hW.cell (p := ⟨Bs, 0, none⟩) hBs).trans hc
  have hcs : ∀ j, j < zs.length → W.cell? ⟨b, off + j, none⟩ = some (.int .u64 (zs[j]?.getD 0)) := fun j hj => (hW.cell (p := ⟨b, off + j, none⟩) hb).trans (hI j hj)
  refine (back1_in F n h7 hro hn l Bs b off cap ix el f zs hf hreach J Jx hY W hc' hcs h0).mono ?_
  rintro e W' ⟨he, ⟨ys, rfl, hj⟩ | ⟨pre, hk, hj⟩⟩
  · exact ⟨he, .inl ⟨_, rfl, hj⟩⟩
  · exact ⟨he, .inr ⟨_, hk, hj⟩⟩
end Go.Proofs.Ytjfaaicbojnpaaa
