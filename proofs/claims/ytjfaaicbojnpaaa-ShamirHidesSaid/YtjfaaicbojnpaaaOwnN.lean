/- Own slices that are written in place; slices.Clone. -/
import Derived.Test.YtjfaaicbojnpaaaNewt
import Derived.Test.YtjfaaicbojnpaaaDeal
import Derived.OneCell
import Derived.Laws.OwnMore
import Derived.Lib.SliceRun
namespace Go.Proofs.Ytjfaaicbojnpaaa
open Go.RowKit Num
set_option linter.unusedSimpArgs false
set_option linter.unusedVariables false

/-- A slice of N numbers that the call itself made, in block g. -/
structure OwnN (W : World) (n₀ g N cap : Nat) (xs : List Int) : Prop where
  len : xs.length = N
  row : W.ownsRow n₀ 22 1 (.slice (some ⟨g, 0, none⟩) N cap) N (xs.map (Value.int IntKind.u64))
theorem OwnN.at {W : World} {n₀ g N cap k : Nat} {xs : List Int} (h : OwnN W n₀ g N cap xs) (hk : k < N) : W.cell? ⟨g, k, none⟩ = some (.int .u64 (xs.getD k 0)) := by
  rw [h.row.cellAt k (by omega), List.getElem?_map, List.getElem?_eq_getElem (by rw [h.len]; exact hk), getD_at (by rw [h.len]; exact hk)]
  rfl
theorem OwnN.fz {W : World} {n₀ g N cap : Nat} {xs : List Int} (h : OwnN W n₀ g N cap xs) (k : Nat) : W.frozen? ⟨g, k, none⟩ = false := h.row.frozenAt k
theorem OwnN.lt {W : World} {n₀ g N cap : Nat} {xs : List Int} (h : OwnN W n₀ g N cap xs) : n₀ ≤ g ∧ g < W.heap.size := World.ownsRow.lt h.row g rfl
theorem OwnN.keep {W W' : World} {n₀ g N cap : Nat} {xs : List Int} (h : OwnN W n₀ g N cap xs) (hb : Below W.heap.size W W') : OwnN W' n₀ g N cap xs :=
  ⟨h.len, World.ownsRow.kept (row := none) h.row ⟨hb.os, hb.tape, hb.output, hb.size, fun k hk _ => hb.block k hk⟩ (.inr (by simp [Value.ownBlock]))⟩
theorem OwnN.set {W : World} {n₀ g N cap k : Nat} {xs : List Int} (h : OwnN W n₀ g N cap xs) (v : Int) : OwnN (W.setCell ⟨g, k, none⟩ (.int .u64 v)) n₀ g N cap (xs.set k v) :=
  ⟨by rw [List.length_set]; exact h.len, by rw [List.map_set]; exact (h.row.stored k _).1⟩
theorem OwnN.far {W : World} {n₀ g N cap b o : Nat} {xs : List Int} (h : OwnN W n₀ g N cap xs) (hb : b ≠ g) (u : Value) : OwnN (W.setCell ⟨b, o, none⟩ u) n₀ g N cap xs :=
  ⟨h.len, ownsRow_setCell_other h.row (by simp [Value.ownBlock]; exact Ne.symm hb) u⟩
theorem OwnN.of {W : World} {n₀ : Nat} {v : Value} {xs : List Int} (h : OwnU W n₀ v xs) (h1 : 1 ≤ xs.length) : ∃ g cap, v = .slice (some ⟨g, 0, none⟩) xs.length cap ∧ OwnN W n₀ g xs.length cap xs := by
  rcases h.2 with ⟨-, h0⟩ | ⟨g, cap, cur, rfl, b, c, d⟩
  · omega
  · exact ⟨g, cap, rfl, rfl, h⟩
theorem OwnN.own {W : World} {n₀ g N cap : Nat} {xs : List Int} (h : OwnN W n₀ g N cap xs) : OwnU W n₀ (.slice (some ⟨g, 0, none⟩) N cap) xs := by
  unfold OwnU; rw [h.len]; exact h.row
theorem OwnN.drew {W : World} {n₀ g N cap : Nat} {xs : List Int} (h : OwnN W n₀ g N cap xs) : OwnN W.drew n₀ g N cap xs := h.keep (Below.refl _ _).drew
theorem OwnU.of2 {W : World} {n₀ n : Nat} {v : Value} {xs : List Int} (h : OwnU W n₀ v xs) (hn : n = xs.length) (h1 : 1 ≤ n) : ∃ g cap, v = .slice (some ⟨g, 0, none⟩) n cap ∧ OwnN W n₀ g n cap xs := by
  subst hn; exact OwnN.of h h1
theorem OwnN.made {W : World} {n₀ g n : Nat} (h : W.ownsRow n₀ 22 1 (.slice (some ⟨g, 0, none⟩) n n) n (madeCells (Value.int IntKind.u64 0).cells (n * 1)).toList) : OwnN W n₀ g n n (List.replicate n 0) :=
  ⟨by simp, by
    have e : (madeCells (Value.int IntKind.u64 0).cells (n * 1)).toList = (List.replicate n (0 : Int)).map (Value.int IntKind.u64) := by
      rw [show (Value.int IntKind.u64 0).cells = #[.int .u64 0] from rfl, toList_madeCells_one, Nat.mul_one, List.map_replicate]
    rw [← e]; exact h⟩
set_option maxRecDepth 100000 in
set_option maxHeartbeats 2000000 in
theorem sclone_any {a : Option Addr} {n c : Nat} {xs : List Int} (w : World) (h : ShI .u64 w a n xs) (h1 : 1 ≤ n) (hn : n ≤ 10000) :
    Calls Try.prog 51 #[.slice a n c] w fun e w' => ∃ v, e = .returned v ∧ OwnU w' w.heap.size v xs ∧ Below w.heap.size w w' := by
  obtain ⟨i0, hi, hz0, hz1, hz2⟩ := info_parts (P := Try.prog) (e := 22) (z := .int .u64 0) (size := 1) (bytes := 8) (by kernel_rfl)
  have HS := Lib.hid h
  have hl := h.len
  rcases h with ⟨h0, -⟩ | ⟨s, o, rfl, -, hs, -⟩
  · omega
  have HL := Lib.hid (show (xs.map (Value.int IntKind.u64)).length = n * 1 by rw [List.length_map, ← hl, Nat.mul_one])
  have HLN := Lib.hid hl
  clear hl
  have qT : ∀ (w : World) (a : Option Addr) (n c n' c' : Nat), (binOp .eql 25 (.slice a n c) (.slice none n' c')).run Try.prog w = .ok (.bool a.isNone) w := fun w a n c n' c' => Lib.run_eql_slice_nil w _ _ a n c n' c' Try.underlying25
  go_enter Try.func51, Try.ntmps51
  go_wp2_with (at_builtin; refine wpList_append_own _ rfl _ _ 25 rfl w.heap.size 22 i0 (.int .u64 0) 1 8 Try.underlying25 hi hz0 hz1 hz2 rfl (by decide) _ 0 [] rfl (World.ownsRow_lit w #[] 0 (Nat.le_refl _) (by decide) rfl) _ n c (xs.map (Value.int IntKind.u64)) rfl HL.out (HS.out.keep ((Below.refl _ _).alloc (Nat.le_refl _) _)).cells (fun u hu => by obtain ⟨x, -, rfl⟩ := List.mem_map.1 hu; rfl) (by unfold maxLen; omega) (by omega) (by simp) ?_; intro v' w1 hown hgr hnil; have HOWN := Lib.hid hown; have HGR := Lib.hid hgr; clear hown hgr hnil)
  go_ret
  have hb := Below.row (n := w.heap.size) HGR.out (fun j hj => by have e : some w.heap.size = some j := hj; injection e with e; omega) (by simp)
  refine ⟨_, rfl, ?_, ((Below.refl _ _).alloc (Nat.le_refl _) _).trans hb⟩
  have h9 := HOWN.out
  rw [Nat.zero_add, List.nil_append] at h9
  unfold OwnU
  rw [← HLN.out]
  exact h9
end Go.Proofs.Ytjfaaicbojnpaaa
