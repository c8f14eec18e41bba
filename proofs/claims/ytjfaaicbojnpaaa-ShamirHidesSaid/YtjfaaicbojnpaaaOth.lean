/- shamir.others: the elements of a list but one, for every loop body. -/
import Derived.Test.YtjfaaicbojnpaaaVal
namespace Go.Proofs.Ytjfaaicbojnpaaa
open Go.RowKit Go.Shelf Num
set_option linter.unusedSimpArgs false
set_option linter.unusedVariables false

attribute [local go_sem] Oper.semAt_some

/-- What a round keeps: the cells of some blocks. -/
def KpL (bs : List Nat) (W W' : World) : Prop := ∀ b, b ∈ bs → ∀ o, W'.cell? ⟨b, o, none⟩ = W.cell? ⟨b, o, none⟩
theorem KpL.refl (bs : List Nat) (W : World) : KpL bs W W := fun _ _ _ => rfl
theorem KpL.trans {bs : List Nat} {A B C : World} (h : KpL bs A B) (k : KpL bs B C) : KpL bs A C := fun b hb o => (k b hb o).trans (h b hb o)
theorem KpL.put {bs : List Nat} {w : World} (hB : ∀ b, b ∈ bs → b < w.heap.size) (W : World) (l : Nat) (o o' : Obj) (hl : w.heap.size ≤ l) (h : W.heap[l]? = some o) (_ : o.isCells = false) (_ : o.isWalk = false) : KpL bs W (W.putObj l o') := by
  have hlt := (Array.getElem?_eq_some_iff.1 h).1
  have hg := grownBy_putObj' W l o'
  intro b hb o
  have := hB b hb
  exact World.cell?_of_block (hg.block b (by omega) (fun e => by cases e; omega))
theorem KpL.below {bs : List Nat} {A B : World} (h : Below A.heap.size A B) (hB : ∀ b, b ∈ bs → b < A.heap.size) : KpL bs A B :=
  fun b hb o => h.cell (p := ⟨b, o, none⟩) (hB b hb)

/-- What has come when k elements are over. -/
def upToF {α : Type} (el : α → Int) (f : Nat → α) (i : Int) (k : Nat) : List α := ((List.range k).map f).filter fun x => decide (el x ≠ i)
theorem upToF_succ_in {α : Type} {el : α → Int} {f : Nat → α} {i : Int} {k : Nat} (h : el (f k) ≠ i) : upToF el f i (k + 1) = upToF el f i k ++ [f k] := by
  simp [upToF, List.range_succ, List.filter_append, h]
theorem upToF_succ_out {α : Type} {el : α → Int} {f : Nat → α} {i : Int} {k : Nat} (h : el (f k) = i) : upToF el f i (k + 1) = upToF el f i k := by
  simp [upToF, List.range_succ, List.filter_append, h]
theorem upToF_le {α : Type} (el : α → Int) (f : Nat → α) (i : Int) (k : Nat) : (upToF el f i k).length ≤ k := by
  refine Nat.le_trans (List.length_filter_le _ _) ?_
  simp

set_option maxRecDepth 100000 in
set_option maxHeartbeats 4000000 in
theorem oth1_in (F : Fence) (n : Nat) (h7 : F.fn 89) (hro : F.round = none) (hn : 1 ≤ n) (l B1 B2 b off cap : Nat) {α : Type} (el : α → Int) (f : Nat → α) (zs : List Int) (i : Int) (hf : ∀ k, k < zs.length → el (f k) = zs[k]?.getD 0) (hreach : zs.length ≤ 1000000) (J Jx : List α → World → Prop)
    (hY : ∀ pre x W, J pre W → pre.length < zs.length → YieldAt F (n - 1) Try.prog l #[.int .i64 (el x)] W fun e W' =>
      (e = .returned (.bool true) ∧ J (pre ++ [x]) W' ∧ KpL [B1, B2, b] W W') ∨ (e = .returned (.bool false) ∧ Jx (pre ++ [x]) W'))
    (W : World) (hB1 : W.cell? ⟨B1, 0, none⟩ = some (.slice (some ⟨b, off, none⟩) zs.length cap)) (hB2 : W.cell? ⟨B2, 0, none⟩ = some (.int .i64 i)) (hc : ∀ j, j < zs.length → W.cell? ⟨b, off + j, none⟩ = some (.int .i64 (zs[j]?.getD 0))) (h0 : J [] W) :
    CallsIn F n Try.prog 89 #[.func (.yield l) #[] #[], .pointer (some ⟨B1, 0, none⟩), .pointer (some ⟨B2, 0, none⟩)] W fun e W' => (∃ v, e = .returned v) ∧
      ((∃ ys, ys = upToF el f i zs.length ∧ J ys W') ∨ (∃ pre, (∃ k, k ≤ zs.length ∧ pre = upToF el f i k) ∧ Jx pre W')) := by
  refine callsIn_of_wp Try.func89 rfl h7 ?_ hro
  simp only [Try.ntmps89, List.size_toArray, List.length_cons, List.length_nil, Nat.reduceAdd, Nat.reduceSub, Array.replicate_succ, Array.replicate_zero, List.push_toArray, List.append_toArray, List.nil_append, List.cons_append]
  gi_wp2
  gi_loopw [5, 8] (fun _ c wr => ∃ k : Nat, k ≤ zs.length ∧ c = .int .i64 k ∧ J (upToF el f i k) wr ∧ KpL [B1, B2, b] W wr)
    (fun _ c _ => zs.length - (intOf c).toNat)
  case atStart => exact ⟨0, Nat.zero_le _, rfl, h0, KpL.refl _ _⟩
  case round =>
    obtain ⟨k, hk, rfl, hJs, hnx⟩ := hrel
    by_cases hlt : k < zs.length
    · have hcx : wr.cell? ⟨b, off + k, none⟩ = some (.int .i64 (zs[k]?.getD 0)) := (hnx b (by simp) _).trans (hc k hlt)
      have hbx : wr.cell? ⟨B2, 0, none⟩ = some (.int .i64 i) := (hnx B2 (by simp) _).trans hB2
      have e1 := hf k hlt
      obtain ⟨z, hz⟩ : ∃ z, zs[k]?.getD 0 = z := ⟨_, rfl⟩
      rw [hz] at hcx e1
      clear hz
      by_cases hi : el (f k) = i
      · have hx : (z != i) = false := by rw [← e1]; simpa using hi
        have HI := Lib.hid hi
        clear e1 hi
        gi_wp2
        refine ⟨fun _ h => (by cases h), ?_⟩
        gi_wp2
        go_roundw
        case rel => exact ⟨k + 1, by omega, by simp, by rw [upToF_succ_out HI.out]; exact hJs, hnx⟩
        case measure => simp [intOf]; omega
      · have hx : (z != i) = true := by rw [← e1]; simpa using hi
        obtain ⟨fn, tmps, assign, body, hy, hR⟩ := hY _ (f k) wr hJs (by have := upToF_le el f i k; omega)
        rw [e1] at hy
        have HI := Lib.hid hi
        clear e1 hi
        gi_wp2
        refine hR.mono ?_
        rintro e W3 (⟨rfl, hJ3, hk3⟩ | ⟨rfl, hJx3⟩)
        · gi_wp2
          go_roundw
          case rel => exact ⟨k + 1, by omega, by simp, by rw [upToF_succ_in HI.out]; exact hJ3, hnx.trans hk3⟩
          case measure => simp [intOf]; omega
        · gi_wp2
          refine bodyPost_ret (results_none rfl _ _ _) rfl ?_
          exact ⟨⟨_, rfl⟩, .inr ⟨_, ⟨k + 1, by omega, (upToF_succ_in HI.out).symm⟩, hJx3⟩⟩
    · obtain rfl : k = zs.length := by omega
      gi_wp2
      go_end0
      exact ⟨⟨_, rfl⟩, .inl ⟨_, rfl, hJs⟩⟩

set_option maxHeartbeats 1000000 in
theorem oth_in (F : Fence) (n : Nat) (h5 : F.fn 68) (hro : F.round = none) (a : Option Addr) (len cap : Nat) (i : Int) (w : World) :
    CallsIn F n Try.prog 68 #[.slice a len cap, .int .i64 i] w fun e w' => e = .returned (.func (.func 89) #[] #[.pointer (some ⟨w.heap.size, 0, none⟩), .pointer (some ⟨w.heap.size + 1, 0, none⟩)]) ∧ w' = (w.alloc (.cells #[.slice a len cap] 51)).alloc (.cells #[.int .i64 i] 3) := by
  refine callsIn_of_wp Try.func68 rfl h5 ?_ hro
  simp only [Try.ntmps68, List.size_toArray, List.length_cons, List.length_nil, Nat.reduceAdd, Nat.reduceSub, Array.replicate_succ, Array.replicate_zero, List.push_toArray, List.append_toArray, List.nil_append, List.cons_append]
  gi_wp2
  go_ret
  exact ⟨rfl, rfl⟩

theorem oth_stops (F : Fence) (n : Nat) (h7 : F.fn 89) (hro : F.round = none) (hn : 1 ≤ n) (B1 B2 b off cap : Nat) {α : Type} (el : α → Int) (f : Nat → α) (zs : List Int) (i : Int) (hf : ∀ k, k < zs.length → el (f k) = zs[k]?.getD 0) (hreach : zs.length ≤ 1000000) (w : World) (hl1 : B1 < w.heap.size) (hl2 : B2 < w.heap.size) (hb : b < w.heap.size)
    (hc1 : w.cell? ⟨B1, 0, none⟩ = some (.slice (some ⟨b, off, none⟩) zs.length cap)) (hc2 : w.cell? ⟨B2, 0, none⟩ = some (.int .i64 i)) (hI : ∀ j, j < zs.length → w.cell? ⟨b, off + j, none⟩ = some (.int .i64 (zs[j]?.getD 0))) :
    SeqStopsK F n Try.prog 89 #[.pointer (some ⟨B1, 0, none⟩), .pointer (some ⟨B2, 0, none⟩)] (fun x : α => #[Value.int .i64 (el x)]) (KpL [B1, B2, b]) (fun ys => ys = upToF el f i zs.length) (fun pre => ∃ k, k ≤ zs.length ∧ pre = upToF el f i k) zs.length w := fun l J Jx W hW _ _ hY h0 => by
  refine (oth1_in F n h7 hro hn l B1 B2 b off cap el f zs i hf hreach J Jx hY W ((hW.cell (p := ⟨B1, 0, none⟩) hl1).trans hc1) ((hW.cell (p := ⟨B2, 0, none⟩) hl2).trans hc2) (fun j hj => (hW.cell (p := ⟨b, off + j, none⟩) hb).trans (hI j hj)) h0).mono ?_
  rintro e W' ⟨he, ⟨ys, rfl, hj⟩ | ⟨pre, hk, hj⟩⟩
  · exact ⟨he, .inl ⟨_, rfl, hj⟩⟩
  · exact ⟨he, .inr ⟨_, hk, hj⟩⟩
end Go.Proofs.Ytjfaaicbojnpaaa
