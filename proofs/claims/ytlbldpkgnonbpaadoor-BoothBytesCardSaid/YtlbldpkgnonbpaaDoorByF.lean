/- The reader's number. -/
import Derived.Test.YtlbldpkgnonbpaaDoorByE
import Derived.Test.YtlbldpkgnonbpaaDoorFromD
namespace Go.Proofs.YtlbldpkgnonbpaaDoor
open Go Go.RowKit Num Sha
set_option linter.unusedSimpArgs false
set_option linter.unusedVariables false

structure RBox (W : World) (B : Nat) (v : Value) : Prop where
  c0 : W.cell? ⟨B, 0, none⟩ = some v
  f0 : W.frozen? ⟨B, 0, none⟩ = false
  lt : B < W.heap.size
theorem RBox.at (W : World) (v : Value) (T : TypeId) (b : Nat) (hb : b = W.heap.size) : RBox (W.alloc (.cells #[v] T)) b v := by
  subst hb
  refine ⟨?_, ?_, by simp⟩
  · rw [World.cell?_alloc_new]; rfl
  · simp
theorem RBox.keepN {W W' : World} {B n : Nat} {v : Value} (h : RBox W B v) (hb : Below n W W') (hn : B < n) : RBox W' B v :=
  ⟨(hb.cell (p := ⟨B, 0, none⟩) hn).trans h.c0, (hb.frozen (p := ⟨B, 0, none⟩) hn).trans h.f0, Nat.lt_of_lt_of_le h.lt hb.size⟩
theorem RBox.keep {W W' : World} {B : Nat} {v : Value} (h : RBox W B v) (hb : Below W.heap.size W W') : RBox W' B v := h.keepN hb h.lt
theorem RBox.drew {W : World} {B : Nat} {v : Value} (h : RBox W B v) : RBox W.drew B v := h.keep (Below.refl _ _).drew
theorem RBox.alloc {W : World} {B : Nat} {v : Value} (h : RBox W B v) (o : Obj) : RBox (W.alloc o) B v := h.keep ((Below.refl _ _).alloc (Nat.le_refl _) o)
theorem RBox.set {W : World} {B : Nat} {v : Value} (h : RBox W B v) (u : Value) : RBox (W.setCell ⟨B, 0, none⟩ u) B u := by
  refine ⟨World.cell?_setCell_same' _ _ _ (by rw [h.c0]; rfl), ?_, by simpa using h.lt⟩
  rw [World.frozen?_setCell]; exact h.f0
theorem RBox.other {W : World} {B : Nat} {v : Value} (h : RBox W B v) (p : Addr) (u : Value) (hp : p.block ≠ B) : RBox (W.setCell p u) B v := by
  refine ⟨?_, ?_, by simpa using h.lt⟩
  · rw [World.cell?_setCell_other _ _ _ _ (show p ≠ ⟨B, 0, none⟩ from fun e => hp (by rw [e]))]; exact h.c0
  · rw [World.frozen?_setCell]; exact h.f0
/-- The rest of the bytes behind eight. -/
theorem ShI.rest8 {w : World} {s o n : Nat} {c : Nat} {xs : List Int} (h : ShI .u8 w (some ⟨s, o, none⟩) n xs) (h8 : 8 ≤ n) (hc : n ≤ c) :
    ShI .u8 w (if c = 8 then some ⟨s, o, none⟩ else some ⟨s, o + 8, none⟩) (n - 8) (xs.drop 8) := by
  have hl := h.len
  split
  · next e => exact .inl ⟨by omega, List.drop_eq_nil_of_le (by omega)⟩
  · rcases h with ⟨h1, h2⟩ | ⟨s', o', e, h1, h2, h3⟩
    · omega
    · injection e with e; injection e with e1 e2 _
      subst e1 e2
      refine .inr ⟨s, o + 8, rfl, by simp; omega, h2, fun i hi => ?_⟩
      have hi' : i < xs.length - 8 := by simpa using hi
      have := h3 (8 + i) (by omega)
      rw [show o + 8 + i = o + (8 + i) by omega, this]
      simp [List.getD_eq_getElem?_getD, List.getElem?_drop]

set_option maxRecDepth 100000 in
set_option maxHeartbeats 8000000 in
theorem number_any {w0 : World} {Br : Nat} {a : Option Addr} {n c : Nat} {xs : List Int} (w : World) (hb : Below w0.heap.size w0 w) (hB : w0.heap.size ≤ Br) (hx : RBox w Br (.slice a n c)) (hS : ShI .u8 w0 a n xs) (hu : Bytes xs) (h8 : 8 ≤ n) (hc : n ≤ c) :
    Calls Tryd.prog 34 #[.pointer (some ⟨Br, 0, none⟩)] w fun e w' => e = .returned (.int .u64 (beN (xs.take 8))) ∧ ∃ a', w' = w.setCell ⟨Br, 0, none⟩ (.slice a' (n - 8) (c - 8)) ∧ ShI .u8 w0 a' (n - 8) (xs.drop 8) := by
  have HL := Lib.hid hS.len
  obtain ⟨s, o, rfl, hs, HC⟩ : ∃ s o, a = some ⟨s, o, none⟩ ∧ s < w0.heap.size ∧ Hid (∀ i, i < 8 → w.cell? ⟨s, o + i, none⟩ = some (.int .u8 (xs.getD i 0))) := by
    rcases hS with ⟨h1, _⟩ | ⟨s, o, h0, h1, h2, h3⟩
    · omega
    · exact ⟨s, o, h0, h2, fun i hi => (hb.cell (p := ⟨s, o + i, none⟩) h2).trans (h3 i (by omega))⟩
  have HS := Lib.hid hS
  have HB := Lib.hid hu
  have HX := Lib.hid hx
  obtain ⟨x0, xf, xl⟩ := id hx
  have hc8 : 8 ≤ c := by omega
  clear hS hu hb hx
  go_enter Tryd.func34, Tryd.ntmps34
  go_wp2_with fail
  go_loop [3, 5, 12] (fun c3 _ c12 => ∃ k : Nat, k ≤ 8 ∧ c12 = .int .i64 k ∧ c3 = .int .u64 (beN (xs.take k))) (fun _ _ i => 8 - (intOf i).toNat)
  case atStart => exact ⟨0, by omega, rfl, rfl⟩
  case round =>
    obtain ⟨k, hk, rfl, rfl⟩ := hrel
    by_cases hlt : k < 8
    · have hck := HC.out k hlt
      have HN := Lib.hid (beN_snoc xs k (by have := HL.out; omega))
      obtain ⟨n0, n1⟩ := beN_bound HB.out k (by have := HL.out; omega)
      have n2 := pow256_le k hlt
      obtain ⟨c0, c1⟩ := HB.out.get k
      generalize xs.getD k 0 = b at hck HN c0 c1
      generalize beN (xs.take k) = m at HN n0 n1
      have n3 : m < 72057594037927936 := by omega
      clear n1 n2
      have hor := or_byte n0 n3 c0 c1
      go_wp2_with fail
      go_round
      case rel => exact ⟨k + 1, by omega, by go_num, by rw [HN.out]⟩
      case measure => simp [intOf]; omega
    · obtain rfl : k = 8 := by omega
      by_cases h8c : c = 8
      · subst h8c
        go_wp2_with fail
        go_ret
        exact ⟨rfl, _, rfl, by have := HS.out.rest8 h8 hc; rw [if_pos rfl] at this; first | exact this | (rw [show n - 8 = 0 by omega] at this; exact this)⟩
      · go_wp2_with fail
        go_ret
        exact ⟨rfl, _, rfl, by have := HS.out.rest8 h8 hc; rwa [if_neg h8c] at this⟩
end Go.Proofs.YtlbldpkgnonbpaaDoor
