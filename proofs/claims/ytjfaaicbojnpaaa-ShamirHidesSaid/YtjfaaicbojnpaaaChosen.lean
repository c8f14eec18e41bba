/- The trustees of a mask, their numbers and shares. -/
import Derived.Test.YtjfaaicbojnpaaaDealB
import Derived.Laws.Shifts
namespace Go.Proofs.Ytjfaaicbojnpaaa
open Go.RowKit Num
set_option linter.unusedSimpArgs false
set_option linter.unusedVariables false

/-- A slice of ints that the call itself made. -/
def OwnI (W : World) (n₀ : Nat) (v : Value) (xs : List Int) : Prop := W.ownsRow n₀ 3 1 v xs.length (xs.map (Value.int IntKind.i64))
theorem OwnI.nil (W : World) (n₀ : Nat) : OwnI W n₀ (.slice none 0 0) [] := World.ownsRow_nil _ _ _ _
theorem OwnI.shI {W : World} {n₀ : Nat} {v : Value} {xs : List Int} (h : OwnI W n₀ v xs) : ∃ a c, v = .slice a xs.length c ∧ ShI .i64 W a xs.length xs := ShI.of_owned h
theorem OwnI.lt {W : World} {n₀ : Nat} {v : Value} {xs : List Int} (h : OwnI W n₀ v xs) : ∀ k, v.ownBlock = some k → n₀ ≤ k ∧ k < W.heap.size := World.ownsRow.lt h
theorem OwnI.sl {W : World} {n₀ : Nat} {v : Value} {xs : List Int} (h : OwnI W n₀ v xs) : ∃ a c, v = .slice a xs.length c := by
  obtain ⟨a, c, h, -⟩ := h.shI
  exact ⟨a, c, h⟩
theorem OwnI.keep {W W' : World} {n₀ : Nat} {v : Value} {xs : List Int} (h : OwnI W n₀ v xs) (hb : Below W.heap.size W W') : OwnI W' n₀ v xs :=
  World.ownsRow.kept (row := none) h ⟨hb.os, hb.tape, hb.output, hb.size, fun k hk _ => hb.block k hk⟩ (by cases v.ownBlock <;> simp)
theorem OwnI.mono {W : World} {n₀ n₁ : Nat} {v : Value} {xs : List Int} (h : OwnI W n₁ v xs) (hn : n₀ ≤ n₁) : OwnI W n₀ v xs := by
  refine ⟨h.1, ?_⟩
  rcases h.2 with h2 | ⟨g, cap, cur, a, b, c⟩
  · exact .inl h2
  · exact .inr ⟨g, cap, cur, a, Nat.le_trans hn b, c⟩
/-- Rows of different kinds lie apart. -/
theorem own_diff {W : World} {n n' k k' : Nat} {e e' : TypeId} {v v' : Value} {xs xs' : List Value} (h : W.ownsRow n e 1 v k xs) (h' : W.ownsRow n' e' 1 v' k' xs') (hne : e ≠ e') : v'.ownBlock = none ∨ v'.ownBlock ≠ v.ownBlock := by
  rcases h'.2 with ⟨rfl, _⟩ | ⟨g', cap', cur', rfl, b', c', d'⟩
  · exact .inl rfl
  · refine .inr fun e0 => ?_
    rcases h.2 with ⟨rfl, _⟩ | ⟨g, cap, cur, rfl, b, c, d⟩
    · simp [Value.ownBlock] at e0
    · simp [Value.ownBlock] at e0
      subst e0
      rw [c'] at c
      cases c
      exact hne rfl
theorem push_i {w wr w8 : World} {a6 a7 v8 d1 d2 : Value} {is vs : List Int} {x : Int} {tmp : Obj} (hi : OwnI wr (w.heap.size + 1) a6 is) (hs : OwnU wr (w.heap.size + 1) a7 vs) (hd : DealBox wr w.heap.size d1 d2) (hw : Below w.heap.size w wr)
    (hown : w8.ownsRow (w.heap.size + 1) 3 1 v8 (is.length + 1) (is.map (Value.int IntKind.i64) ++ [.int .i64 x])) (hgr : (wr.alloc tmp).grownBy w8 a6.ownBlock) :
    OwnI w8 (w.heap.size + 1) v8 (is ++ [x]) ∧ OwnU w8 (w.heap.size + 1) a7 vs ∧ DealBox w8 w.heap.size d1 d2 ∧ Below w.heap.size w w8 ∧ w.heap.size + 1 ≤ w8.heap.size := by
  have hlt := hd.lt
  have hi' := hi.keep ((Below.refl _ _).alloc (Nat.le_refl _) tmp)
  have hs' := hs.keep ((Below.refl _ _).alloc (Nat.le_refl _) tmp)
  have hb := Below.row (n := w.heap.size + 1) hgr (fun j hj => (hi.lt j hj).1) (by simp; omega)
  have hz := hb.size
  refine ⟨?_, World.ownsRow.kept hs' hgr (own_diff hi' hs' (show (3 : Nat) ≠ 22 by decide)), (hd.alloc tmp).keepN hb (by omega), (hw.alloc hw.size tmp).trans (hb.mono (by omega)), by simp at hz; omega⟩
  unfold OwnI; rw [List.length_append, List.map_append]; exact hown
theorem push_s {w wr w8 : World} {a6 a7 v8 d1 d2 : Value} {is vs : List Int} {x : Int} {tmp : Obj} (hi : OwnI wr (w.heap.size + 1) a6 is) (hs : OwnU wr (w.heap.size + 1) a7 vs) (hd : DealBox wr w.heap.size d1 d2) (hw : Below w.heap.size w wr)
    (hown : w8.ownsRow (w.heap.size + 1) 22 1 v8 (vs.length + 1) (vs.map (Value.int IntKind.u64) ++ [.int .u64 x])) (hgr : (wr.alloc tmp).grownBy w8 a7.ownBlock) :
    OwnI w8 (w.heap.size + 1) a6 is ∧ OwnU w8 (w.heap.size + 1) v8 (vs ++ [x]) ∧ DealBox w8 w.heap.size d1 d2 ∧ Below w.heap.size w w8 ∧ w.heap.size + 1 ≤ w8.heap.size := by
  have hlt := hd.lt
  have hi' := hi.keep ((Below.refl _ _).alloc (Nat.le_refl _) tmp)
  have hs' := hs.keep ((Below.refl _ _).alloc (Nat.le_refl _) tmp)
  have hb := Below.row (n := w.heap.size + 1) hgr (fun j hj => (hs.lt j hj).1) (by simp; omega)
  have hz := hb.size
  refine ⟨World.ownsRow.kept hi' hgr (own_diff hs' hi' (show (22 : Nat) ≠ 3 by decide)), ?_, (hd.alloc tmp).keepN hb (by omega), (hw.alloc hw.size tmp).trans (hb.mono (by omega)), by simp at hz; omega⟩
  unfold OwnU; rw [List.length_append, List.map_append]; exact hown
/-- Is a bit set? -/
def bitS (m : Int) (i : Nat) : Bool := bits BinOp.and IntKind.u8 (m / 2 ^ i) 1 == 1
def chosenI (m : Int) (t : Nat) : List Int := ((List.range t).filter (bitS m)).map fun i : Nat => (i : Int) + 1
def chosenV (m : Int) (ss : List Int) (t : Nat) : List Int := ((List.range t).filter (bitS m)).map fun i : Nat => ss.getD i 0
theorem chosenI_in {m : Int} {k : Nat} (h : bitS m k = true) : chosenI m (k + 1) = chosenI m k ++ [(k : Int) + 1] := by
  rw [chosenI, List.range_succ, List.filter_append, List.map_append]; simp [h, chosenI]
theorem chosenI_out {m : Int} {k : Nat} (h : bitS m k = false) : chosenI m (k + 1) = chosenI m k := by
  rw [chosenI, List.range_succ, List.filter_append, List.map_append]; simp [h, chosenI]
theorem chosenV_in {m : Int} {ss : List Int} {k : Nat} (h : bitS m k = true) : chosenV m ss (k + 1) = chosenV m ss k ++ [ss.getD k 0] := by
  rw [chosenV, List.range_succ, List.filter_append, List.map_append]; simp [h, chosenV]
theorem chosenV_out {m : Int} {ss : List Int} {k : Nat} (h : bitS m k = false) : chosenV m ss (k + 1) = chosenV m ss k := by
  rw [chosenV, List.range_succ, List.filter_append, List.map_append]; simp [h, chosenV]
theorem chosen_len (m : Int) (ss : List Int) (t : Nat) : (chosenV m ss t).length = (chosenI m t).length := by simp [chosenI, chosenV]
theorem chosenI_le (m : Int) (t : Nat) : (chosenI m t).length ≤ t := by
  rw [chosenI, List.length_map]
  exact Nat.le_trans (List.length_filter_le _ _) (by simp)
def RetChosen (w : World) (is vs : List Int) (e : Ending) (w' : World) : Prop :=
  ∃ v1 v2, e = .returned (.tuple #[v1, v2]) ∧ OwnI w' w.heap.size v1 is ∧ OwnU w' w.heap.size v2 vs ∧ Below w.heap.size w w'

set_option maxRecDepth 100000 in
set_option maxHeartbeats 8000000 in
theorem chosen_any {m : Int} {a b : Option Addr} {n c t d : Nat} {ss : List Int} (w : World) (h : ShI .u64 w b t ss) (ht : t ≤ 8) (m0 : 0 ≤ m) (m8 : m < 256) :
    Calls Try.prog 39 #[.agg #[.slice a n c, .slice b t d], .int .u8 m] w (RetChosen w (chosenI m t) (chosenV m ss t)) := by
  have HS := Lib.hid h
  clear h
  obtain ⟨ii, hii, hiz0, hiz1, hiz2⟩ := info_parts (P := Try.prog) (e := 3) (z := .int .i64 0) (size := 1) (bytes := 8) (by kernel_rfl)
  obtain ⟨ui, hui, huz0, huz1, huz2⟩ := info_parts (P := Try.prog) (e := 22) (z := .int .u64 0) (size := 1) (bytes := 8) (by kernel_rfl)
  have F_d := Lib.hid (show DealBox (w.alloc (.cells #[.slice a n c, .slice b t d] 27)) w.heap.size (.slice a n c) (.slice b t d) from DealBox.at _ _ _ _ w.heap.size rfl)
  have HBW := Lib.hid (show Below w.heap.size w (w.alloc (.cells #[.slice a n c, .slice b t d] 27)) from (Below.refl _ _).alloc (Nat.le_refl _) _)
  go_enter Try.func39, Try.ntmps39
  go_wp2_with fail
  go_loopw [6, 7, 8] (fun c6 c7 c8 wr => ∃ k : Nat, k ≤ t ∧ c8 = .int .i64 k ∧ ∃ (oa ob : Option Addr) (ca cb : Nat), c6 = .slice oa (chosenI m k).length ca ∧ c7 = .slice ob (chosenV m ss k).length cb ∧ Hid (OwnI wr (w.heap.size + 1) (.slice oa (chosenI m k).length ca) (chosenI m k)) ∧ Hid (OwnU wr (w.heap.size + 1) (.slice ob (chosenV m ss k).length cb) (chosenV m ss k)) ∧ Hid (DealBox wr w.heap.size (.slice a n c) (.slice b t d)) ∧ Hid (Below w.heap.size w wr)) (fun _ _ c8 _ => t - (intOf c8).toNat)
  case atStart => exact ⟨0, Nat.zero_le _, rfl, none, none, 0, 0, rfl, rfl, OwnI.nil _ _, OwnU.nil _ _, F_d.out, HBW.out⟩
  case round =>
    clear F_d HBW
    obtain ⟨k, hk, rfl, oa, ob, ca, cb, rfl, rfl, F_i, F_s, F_d, HBW⟩ := hrel
    have hdl := F_d.out.lt
    obtain ⟨x0, x1, -⟩ := id F_d.out
    have hk0 : (0 : Int) ≤ (k : Int) := by omega
    by_cases hlt : k < t
    case neg =>
      have hkt : k = t := by omega
      rw [hkt] at F_i F_s
      have HK := Lib.hid hkt
      clear hkt
      go_wp2_with fail
      go_ret2
      exact ⟨_, _, (by rw [HK.out]; rfl), F_i.out.mono (by omega), F_s.out.mono (by omega), HBW.out⟩
    case pos =>
      have hk8 : (k : Int) ≤ 8 := by omega
      have hk1 : (k : Int) < (t : Int) := by omega
      have hwk : IntKind.i64.wrap ((k : Int) + 1) = (k : Int) + 1 := IntWalk.i64_in _ (by omega)
      obtain ⟨s, f, hsb, hsl, hck, -⟩ := HS.out.at k hlt
      have hck' := (HBW.out.cell (p := ⟨s, f + k, none⟩) hsl).trans hck
      obtain ⟨y, hy⟩ : ∃ y, ss.getD k 0 = y := ⟨_, rfl⟩
      rw [hy] at hck'
      have HCK := Lib.hid hck
      have HY := Lib.hid hy
      have hsw : s < wr.heap.size := Nat.lt_of_lt_of_le hsl HBW.out.size
      have HLI := Lib.hid (show (chosenI m k).length ≤ 8 by have := chosenI_le m k; omega)
      have HLV := Lib.hid (show (chosenV m ss k).length ≤ 8 by rw [chosen_len]; exact HLI.out)
      clear hck hy
      subst hsb
      cases hb : bitS m k with
      | false =>
        have HE1 := Lib.hid (chosenI_out hb)
        have HE2 := Lib.hid (chosenV_out (ss := ss) hb)
        have hb' : (bits BinOp.and IntKind.u8 (m / 2 ^ k) 1 == 1) = false := hb
        clear hb
        go_wp2_with fail
        go_roundw
        case rel =>
          refine ⟨k + 1, by omega, by go_num, oa, ob, ca, cb, ?_⟩
          rw [HE1.out, HE2.out]
          exact ⟨rfl, rfl, F_i.out, F_s.out, F_d.out, HBW.out⟩
        case measure => simp [intOf]; omega
      | true =>
        have HE1 := Lib.hid (chosenI_in hb)
        have HE2 := Lib.hid (chosenV_in (ss := ss) hb)
        have hb' : (bits BinOp.and IntKind.u8 (m / 2 ^ k) 1 == 1) = true := hb
        clear hb
        have HCK2 := Lib.hid (show w.cell? ⟨s, f + k, none⟩ = some (.int .u64 y) by rw [HCK.out, HY.out])
        go_wp2_with (first | (at_builtin; refine wpList_append_own _ rfl _ _ 51 rfl (w.heap.size + 1) 3 ii (.int .i64 0) 1 8 Try.underlying51 hii hiz0 hiz1 hiz2 rfl (by decide) _ (chosenI m k).length ((chosenI m k).map (Value.int IntKind.i64)) rfl (F_i.out.keep ((Below.refl _ _).alloc (Nat.le_refl _) _)) _ 1 1 [.int .i64 ((k : Int) + 1)] rfl rfl (cell_one_new _ _ _) (by simp [Value.oneCell']) (by have := HLI.out; unfold maxLen; omega) (by have := HLI.out; omega) (by simp; omega) ?_; intro v8 w8 hown hgr hnil; have H8 := Lib.hid (push_i F_i.out F_s.out F_d.out HBW.out hown hgr); obtain ⟨z0, z1, -⟩ := id H8.out.2.2.1; have hck8 := (H8.out.2.2.2.1.cell (p := ⟨s, f + k, none⟩) hsl).trans HCK2.out; have hz8 := H8.out.2.2.2.2; clear hown hgr hnil) | (at_builtin; refine wpList_append_own _ rfl _ _ 25 rfl (w.heap.size + 1) 22 ui (.int .u64 0) 1 8 Try.underlying25 hui huz0 huz1 huz2 rfl (by decide) _ (chosenV m ss k).length ((chosenV m ss k).map (Value.int IntKind.u64)) rfl (H8.out.2.1.keep ((Below.refl _ _).alloc (Nat.le_refl _) _)) _ 1 1 [.int .u64 y] rfl rfl (cell_one_new _ _ _) (by simp [Value.oneCell']) (by have := HLV.out; unfold maxLen; omega) (by have := HLV.out; omega) (by simp; omega) ?_; intro v9 w9 hown hgr hnil; have H9 := Lib.hid (push_s H8.out.1 H8.out.2.1 H8.out.2.2.1 H8.out.2.2.2.1 hown hgr); clear hown hgr hnil))
        obtain ⟨oa', ca', rfl⟩ := H9.out.1.sl
        obtain ⟨ob', cb', rfl⟩ := H9.out.2.1.sl
        go_roundw
        case rel =>
          refine ⟨k + 1, by omega, by go_num, oa', ob', ca', cb', ?_⟩
          rw [HE1.out, HE2.out, HY.out]
          exact ⟨rfl, rfl, H9.out.1, H9.out.2.1, H9.out.2.2.1, H9.out.2.2.2.1⟩
        case measure => simp [intOf]; omega
end Go.Proofs.Ytjfaaicbojnpaaa
