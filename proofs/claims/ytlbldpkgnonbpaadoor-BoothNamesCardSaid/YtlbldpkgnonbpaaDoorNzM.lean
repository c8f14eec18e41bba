/- The reader's bit. -/
import Derived.Test.YtlbldpkgnonbpaaDoorNzG
import Derived.Test.YtlbldpkgnonbpaaDoorNzL
import Derived.Deep.Cut
import Derived.Test.YtlbldpkgnonbpaaDoorNzH
import Derived.WalkMore
set_option linter.unusedSimpArgs false
set_option linter.unusedVariables false
set_option maxRecDepth 100000
namespace Go.Proofs.YtlbldpkgnonbpaaDoor
open Go Go.RowKit Num Sha
abbrev Gro (r : Nat) (w w' : World) : Prop := w.grownBy w' (some r)
theorem Gro.refl (r : Nat) (w : World) : Gro r w w := ⟨rfl, rfl, rfl, Nat.le_refl _, fun _ _ _ => rfl⟩
theorem Gro.trans {r : Nat} {a b c : World} (h : Gro r a b) (k : Gro r b c) : Gro r a c :=
  ⟨k.os.trans h.os, k.tape.trans h.tape, k.output.trans h.output, Nat.le_trans h.size k.size, fun i hi hn => (k.block i (Nat.lt_of_lt_of_le hi h.size) hn).trans (h.block i hi hn)⟩
theorem Gro.below {r : Nat} {a b c : World} (h : Gro r a b) (k : Below b.heap.size b c) : Gro r a c :=
  ⟨k.os.trans h.os, k.tape.trans h.tape, k.output.trans h.output, Nat.le_trans h.size k.size, fun i hi hn => (k.block i (Nat.lt_of_lt_of_le hi h.size)).trans (h.block i hi hn)⟩
theorem Gro.drew {r : Nat} {a b : World} (h : Gro r a b) : Gro r a b.drew := ⟨h.os, h.tape, h.output, h.size, h.block⟩
theorem Gro.alloc {r : Nat} {a b : World} (h : Gro r a b) (o : Obj) : Gro r a (b.alloc o) := h.below ((Below.refl _ _).alloc (Nat.le_refl _) o)
theorem Gro.set {r : Nat} {a b : World} (h : Gro r a b) (p : Addr) (hp : p.block = r ∨ a.heap.size ≤ p.block) (v : Value) : Gro r a (b.setCell p v) :=
  ⟨h.os, h.tape, h.output, by simpa using h.size, fun i hi hn => by
   rw [Below.heap_setCell b p v i (by rcases hp with hp | hp; · intro e; apply hn; rw [e, hp]
                                      · omega)]
   exact h.block i hi hn⟩
theorem Gro.blw {r n : Nat} {a b : World} (h : Gro r a b) (hn : n ≤ r) (hz : n ≤ a.heap.size) : Below n a b :=
  ⟨h.os, h.tape, h.output, h.size, fun k hk => h.block k (by omega) (by intro e; injection e with e; omega)⟩
theorem Arr.gro {k : IntKind} {w w' : World} {b r : Nat} {xs : List Int} (h : Arr k w b xs) (g : Gro r w w') (hn : b ≠ r) : Arr k w' b xs :=
  ⟨fun i hi => (World.cell?_of_block (w := w) (a := ⟨b, i, none⟩) (g.block b h.lt (by simpa using hn))).trans (h.c i hi),
   fun i => (World.frozen?_of_block (w := w) (a := ⟨b, i, none⟩) (g.block b h.lt (by simpa using hn))).trans (h.f i), Nat.lt_of_lt_of_le h.lt g.size⟩
def Rd (w0 W : World) (Br : Nat) (xs : List Int) : Prop := ∃ a c, RBox W Br (.slice a xs.length c) ∧ ShI .u8 w0 a xs.length xs ∧ xs.length ≤ c
theorem Rd.keepN {w0 W W' : World} {Br n : Nat} {xs : List Int} (h : Rd w0 W Br xs) (hb : Below n W W') (hn : Br < n) : Rd w0 W' Br xs := by
 obtain ⟨a, c, h1, h2, h3⟩ := h
 exact ⟨a, c, h1.keepN hb hn, h2, h3⟩
theorem Rd.lt {w0 W : World} {Br : Nat} {xs : List Int} (h : Rd w0 W Br xs) : Br < W.heap.size := by
 obtain ⟨a, c, h1, h2, h3⟩ := h
 exact h1.lt
theorem Rd.keep {w0 W W' : World} {Br : Nat} {xs : List Int} (h : Rd w0 W Br xs) (hb : Below W.heap.size W W') : Rd w0 W' Br xs := h.keepN hb h.lt
theorem Rd.drew {w0 W : World} {Br : Nat} {xs : List Int} (h : Rd w0 W Br xs) : Rd w0 W.drew Br xs := h.keep (Below.refl _ _).drew
theorem Rd.alloc {w0 W : World} {Br : Nat} {xs : List Int} (h : Rd w0 W Br xs) (o : Obj) : Rd w0 (W.alloc o) Br xs := h.keep ((Below.refl _ _).alloc (Nat.le_refl _) o)
theorem Rd.set {w0 W : World} {Br : Nat} {xs : List Int} (h : Rd w0 W Br xs) (p : Addr) (u : Value) (hp : p.block ≠ Br) : Rd w0 (W.setCell p u) Br xs := by
 obtain ⟨a, c, h1, h2, h3⟩ := h
 exact ⟨a, c, h1.other p u hp, h2, h3⟩
theorem number_rd {w0 : World} {Br : Nat} {xs : List Int} (w : World) (hb : Below w0.heap.size w0 w) (hB : w0.heap.size ≤ Br) (hr : Rd w0 w Br xs) (hu : Bytes xs) (h8 : 8 ≤ xs.length) :
    Calls Tryd.prog 34 #[.pointer (some ⟨Br, 0, none⟩)] w fun e w' => e = .returned (.int .u64 (beN (xs.take 8))) ∧ Rd w0 w' Br (xs.drop 8) ∧ Gro Br w w' ∧ w'.heap.size = w.heap.size := by
  obtain ⟨a, c, h1, h2, h3⟩ := hr
  refine (number_any w hb hB h1 h2 hu h8 h3).mono ?_
  rintro e w' ⟨rfl, a', rfl, h4⟩
  refine ⟨rfl, ⟨a', c - 8, ?_, ?_, ?_⟩, (Gro.refl _ _).set _ (.inl rfl) _, by simp⟩
  · rw [List.length_drop]; exact h1.set _
  · rw [List.length_drop]; exact h4
  · rw [List.length_drop]; omega
theorem Bytes.drop {xs : List Int} (h : Bytes xs) (k : Nat) : Bytes (xs.drop k) := fun x hx => h x (List.mem_of_mem_drop hx)
def num8 (xs : List Int) (j : Nat) : Int := beN ((xs.drop (8 * j)).take 8)
theorem num8_u {xs : List Int} (h : Bytes xs) (j : Nat) : U64 (num8 xs j) := by
 by_cases hl : 8 ≤ (xs.drop (8 * j)).length
 · have := beN_bound (h.drop (8 * j)) 8 hl
   constructor
   · exact this.1
   · have := this.2; unfold num8; omega
 · have e : (xs.drop (8 * j)).take 8 = (xs.drop (8 * j)).take ((xs.drop (8 * j)).length) := by rw [List.take_of_length_le (by omega), List.take_length]
   have := beN_bound (h.drop (8 * j)) _ (Nat.le_refl _)
   rw [← e] at this
   have h2 := pow256_le (xs.drop (8 * j)).length (by omega)
   constructor
   · exact this.1
   · have := this.2; unfold num8; omega
def bitN (xs : List Int) : Bt := ⟨num8 xs 0, num8 xs 2, num8 xs 1, num8 xs 3, num8 xs 4, num8 xs 5, num8 xs 6, num8 xs 7⟩
def Bt.l (z : Bt) : List Int := [z.r0, z.r1, z.s0, z.s1, z.c0, z.c1, z.z0, z.z1]
structure TwoB (W : World) (B : Nat) (v1 v2 : Value) : Prop where
  c0 : W.cell? ⟨B, 0, none⟩ = some v1
  c1 : W.cell? ⟨B, 1, none⟩ = some v2
  lt : B < W.heap.size
theorem TwoB.at (W : World) (v1 v2 : Value) (T : TypeId) (b : Nat) (hb : b = W.heap.size) : TwoB (W.alloc (.cells #[v1, v2] T)) b v1 v2 := by
 subst hb
 refine ⟨?_, ?_, by simp⟩
 · rw [World.cell?_alloc_new]; rfl
 · rw [World.cell?_alloc_new]; rfl
theorem TwoB.keep {W W' : World} {B : Nat} {v1 v2 : Value} (h : TwoB W B v1 v2) (hb : Below W.heap.size W W') : TwoB W' B v1 v2 :=
  ⟨(hb.cell (p := ⟨B, 0, none⟩) h.lt).trans h.c0, (hb.cell (p := ⟨B, 1, none⟩) h.lt).trans h.c1, Nat.lt_of_lt_of_le h.lt hb.size⟩
theorem TwoB.drew {W : World} {B : Nat} {v1 v2 : Value} (h : TwoB W B v1 v2) : TwoB W.drew B v1 v2 := h.keep (Below.refl _ _).drew
theorem TwoB.gro {W W' : World} {B r : Nat} {v1 v2 : Value} (h : TwoB W B v1 v2) (g : Gro r W W') (hn : B ≠ r) : TwoB W' B v1 v2 :=
  ⟨(World.cell?_of_block (w := W) (a := ⟨B, 0, none⟩) (g.block B h.lt (by simpa using hn))).trans h.c0, (World.cell?_of_block (w := W) (a := ⟨B, 1, none⟩) (g.block B h.lt (by simpa using hn))).trans h.c1, Nat.lt_of_lt_of_le h.lt g.size⟩
theorem TwoB.set {W : World} {B : Nat} {v1 v2 : Value} (h : TwoB W B v1 v2) (p : Addr) (u : Value) (hp : p.block ≠ B) : TwoB (W.setCell p u) B v1 v2 :=
  ⟨by rw [World.cell?_setCell_other _ _ _ _ (show p ≠ ⟨B, 0, none⟩ from fun e => hp (by rw [e]))]; exact h.c0, by rw [World.cell?_setCell_other _ _ _ _ (show p ≠ ⟨B, 1, none⟩ from fun e => hp (by rw [e]))]; exact h.c1, by simpa using h.lt⟩
theorem number_at {w0 : World} {Br : Nat} {xs : List Int} (j : Nat) (w : World) (hb : Below w0.heap.size w0 w) (hB : w0.heap.size ≤ Br) (hr : Rd w0 w Br (xs.drop (8 * j))) (hu : Bytes xs) (h8 : 8 * j + 8 ≤ xs.length) :
    Calls Tryd.prog 34 #[.pointer (some ⟨Br, 0, none⟩)] w fun e w' => e = .returned (.int .u64 (num8 xs j)) ∧ Rd w0 w' Br (xs.drop (8 * (j + 1))) ∧ Gro Br w w' ∧ w'.heap.size = w.heap.size := by
  refine (number_rd w hb hB hr (hu.drop _) (by rw [List.length_drop]; omega)).mono ?_
  rintro e w' ⟨rfl, h1, h2, h3⟩
  refine ⟨rfl, ?_, h2, h3⟩
  rw [show 8 * (j + 1) = 8 * j + 8 by omega, ← List.drop_drop]; exact h1
set_option maxHeartbeats 8000000 in
theorem bit_any {w0 : World} {Br : Nat} {xs : List Int} (w : World) (hb : Below w0.heap.size w0 w) (hB : w0.heap.size ≤ Br) (hr : Rd w0 w Br xs) (hu : Bytes xs) (h8 : 64 ≤ xs.length) :
    Calls Tryd.prog 35 #[.pointer (some ⟨Br, 0, none⟩)] w fun e w' => e = .returned (.agg #[.int .u64 (num8 xs 0), .int .u64 (num8 xs 2), .int .u64 (num8 xs 1), .int .u64 (num8 xs 3), .int .u64 (num8 xs 4), .int .u64 (num8 xs 5), .int .u64 (num8 xs 6), .int .u64 (num8 xs 7)]) ∧ Rd w0 w' Br (xs.drop (8 * 8)) ∧ Gro Br w w' := by
  have HW := Lh hb
  have HB := Lh hB
  have HU := Lh hu
  have HL := Lh h8
  have hlt := hr.lt
  have HN := Lh (show w.heap.size ≠ Br by omega)
  have HZ := Lh (show w0.heap.size ≤ w.heap.size from hb.size)
  have F_r := Lh (show Arr .u64 (w.alloc (.cells #[.int .u64 0, .int .u64 0, .int .u64 0, .int .u64 0, .int .u64 0, .int .u64 0, .int .u64 0, .int .u64 0] 27)) w.heap.size [0, 0, 0, 0, 0, 0, 0, 0] from Arr.new .u64 w [0, 0, 0, 0, 0, 0, 0, 0] _ _ rfl)
  have HR := Lh (hr.alloc (.cells #[.int .u64 0, .int .u64 0, .int .u64 0, .int .u64 0, .int .u64 0, .int .u64 0, .int .u64 0, .int .u64 0] 27))
  have HG := Lh ((Gro.refl Br w).alloc (.cells #[.int .u64 0, .int .u64 0, .int .u64 0, .int .u64 0, .int .u64 0, .int .u64 0, .int .u64 0, .int .u64 0] 27))
  clear hb hB hu h8 hr
  go_enter Tryd.func35, Tryd.ntmps35
  go_wp2_with fail
  go_loopw [3, 6] (fun _ c6 wr => Hid (Gro Br w wr) ∧ w.heap.size < wr.heap.size ∧ ((c6 = .int .i64 0 ∧ Hid (Arr .u64 wr w.heap.size [0, 0, 0, 0, 0, 0, 0, 0]) ∧ Hid (Rd w0 wr Br (xs.drop (8 * 0)))) ∨ (c6 = .int .i64 1 ∧ Hid (Arr .u64 wr w.heap.size [num8 xs 0, 0, num8 xs 1, 0, 0, 0, 0, 0]) ∧ Hid (Rd w0 wr Br (xs.drop (8 * 2)))) ∨ (c6 = .int .i64 2 ∧ Hid (Arr .u64 wr w.heap.size [num8 xs 0, num8 xs 2, num8 xs 1, num8 xs 3, 0, 0, 0, 0]) ∧ Hid (Rd w0 wr Br (xs.drop (8 * 4)))))) (fun _ c6 _ => 2 - (intOf c6).toNat)
  case atStart => exact ⟨HG.o, by simp, .inl ⟨rfl, F_r.o, HR.o⟩⟩
  case round =>
   clear F_r HR HG
   obtain ⟨HG, hz, ⟨rfl, F_r, HR⟩ | ⟨rfl, F_r, HR⟩ | ⟨rfl, F_r, HR⟩⟩ := hrel
   · obtain ⟨q0, q1, q2, q3, q4, q5, q6, q7, q8, q9, q10, q11, q12, q13, q14, q15⟩ := F_r.o.k8
     go_wp2_with fail
     clear q0 q1 q2 q3 q4 q5 q6 q7 q8 q9 q10 q11 q12 q13 q14 q15
     refine (number_at 0 _ (HW.o.trans (HG.o.blw HB.o HZ.o)) HB.o HR.o HU.o (by have := HL.o; omega)).mono ?_
     rintro e w5 ⟨rfl, hr5, hg5, hz5⟩
     replace HR := Lh hr5
     replace F_r := Lh (F_r.o.gro hg5 HN.o)
     replace HG := Lh (HG.o.trans hg5)
     clear hr5 hg5
     obtain ⟨q0, q1, q2, q3, q4, q5, q6, q7, q8, q9, q10, q11, q12, q13, q14, q15⟩ := F_r.o.k8
     go_wp2_with fail
     clear q0 q1 q2 q3 q4 q5 q6 q7 q8 q9 q10 q11 q12 q13 q14 q15
     refine (number_at 1 _ (HW.o.trans ((HG.o.set ⟨w.heap.size, 0, none⟩ (.inr (Nat.le_refl _)) _).blw HB.o HZ.o)) HB.o (HR.o.set ⟨w.heap.size, 0, none⟩ _ HN.o) HU.o (by have := HL.o; omega)).mono ?_
     rintro e w6 ⟨rfl, hr6, hg6, hz6⟩
     replace HR := Lh hr6
     replace F_r := Lh ((F_r.o.set (ys := [num8 xs 0, 0, 0, 0, 0, 0, 0, 0]) 0 (by simp) rfl).gro hg6 HN.o)
     replace HG := Lh ((HG.o.set ⟨w.heap.size, 0, none⟩ (.inr (Nat.le_refl _)) _).trans hg6)
     clear hr6 hg6
     obtain ⟨q0, q1, q2, q3, q4, q5, q6, q7, q8, q9, q10, q11, q12, q13, q14, q15⟩ := F_r.o.k8
     go_wp2_with fail
     clear q0 q1 q2 q3 q4 q5 q6 q7 q8 q9 q10 q11 q12 q13 q14 q15
     go_roundw
     case rel => exact ⟨HG.o.set _ (.inr (Nat.le_refl _)) _, by simp at hz6 ⊢; omega, .inr (.inl ⟨by go_num, F_r.o.set (ys := [num8 xs 0, 0, num8 xs 1, 0, 0, 0, 0, 0]) 2 (by simp) rfl, HR.o.set _ _ HN.o⟩)⟩
     case measure => simp [intOf] <;> omega
   · obtain ⟨q0, q1, q2, q3, q4, q5, q6, q7, q8, q9, q10, q11, q12, q13, q14, q15⟩ := F_r.o.k8
     go_wp2_with fail
     clear q0 q1 q2 q3 q4 q5 q6 q7 q8 q9 q10 q11 q12 q13 q14 q15
     refine (number_at 2 _ (HW.o.trans (HG.o.blw HB.o HZ.o)) HB.o HR.o HU.o (by have := HL.o; omega)).mono ?_
     rintro e w5 ⟨rfl, hr5, hg5, hz5⟩
     replace HR := Lh hr5
     replace F_r := Lh (F_r.o.gro hg5 HN.o)
     replace HG := Lh (HG.o.trans hg5)
     clear hr5 hg5
     obtain ⟨q0, q1, q2, q3, q4, q5, q6, q7, q8, q9, q10, q11, q12, q13, q14, q15⟩ := F_r.o.k8
     go_wp2_with fail
     clear q0 q1 q2 q3 q4 q5 q6 q7 q8 q9 q10 q11 q12 q13 q14 q15
     refine (number_at 3 _ (HW.o.trans ((HG.o.set ⟨w.heap.size, 1, none⟩ (.inr (Nat.le_refl _)) _).blw HB.o HZ.o)) HB.o (HR.o.set ⟨w.heap.size, 1, none⟩ _ HN.o) HU.o (by have := HL.o; omega)).mono ?_
     rintro e w6 ⟨rfl, hr6, hg6, hz6⟩
     replace HR := Lh hr6
     replace F_r := Lh ((F_r.o.set (ys := [num8 xs 0, num8 xs 2, num8 xs 1, 0, 0, 0, 0, 0]) 1 (by simp) rfl).gro hg6 HN.o)
     replace HG := Lh ((HG.o.set ⟨w.heap.size, 1, none⟩ (.inr (Nat.le_refl _)) _).trans hg6)
     clear hr6 hg6
     obtain ⟨q0, q1, q2, q3, q4, q5, q6, q7, q8, q9, q10, q11, q12, q13, q14, q15⟩ := F_r.o.k8
     go_wp2_with fail
     clear q0 q1 q2 q3 q4 q5 q6 q7 q8 q9 q10 q11 q12 q13 q14 q15
     go_roundw
     case rel => exact ⟨HG.o.set _ (.inr (Nat.le_refl _)) _, by simp at hz6 ⊢; omega, .inr (.inr ⟨by go_num, F_r.o.set (ys := [num8 xs 0, num8 xs 2, num8 xs 1, num8 xs 3, 0, 0, 0, 0]) 3 (by simp) rfl, HR.o.set _ _ HN.o⟩)⟩
     case measure => simp [intOf] <;> omega
   · obtain ⟨q0, q1, q2, q3, q4, q5, q6, q7, q8, q9, q10, q11, q12, q13, q14, q15⟩ := F_r.o.k8
     go_wp2_with fail
     clear q0 q1 q2 q3 q4 q5 q6 q7 q8 q9 q10 q11 q12 q13 q14 q15
     obtain ⟨wb, rfl⟩ : ∃ wb : World, wb = wr := ⟨_, rfl⟩
     have HNB := Lh (show wb.heap.size ≠ Br by omega)
     have HNC := Lh (show w.heap.size ≠ wb.heap.size by omega)
     go_loopw [5, 24] (fun _ c24 wr => Hid (Gro Br w wr) ∧ wb.heap.size < wr.heap.size ∧ Hid (TwoB wr wb.heap.size (.pointer (some ⟨w.heap.size, 4, none⟩)) (.pointer (some ⟨w.heap.size, 6, none⟩))) ∧ ((c24 = .int .i64 0 ∧ Hid (Arr .u64 wr w.heap.size [num8 xs 0, num8 xs 2, num8 xs 1, num8 xs 3, 0, 0, 0, 0]) ∧ Hid (Rd w0 wr Br (xs.drop (8 * 4)))) ∨ (c24 = .int .i64 1 ∧ Hid (Arr .u64 wr w.heap.size [num8 xs 0, num8 xs 2, num8 xs 1, num8 xs 3, num8 xs 4, num8 xs 5, 0, 0]) ∧ Hid (Rd w0 wr Br (xs.drop (8 * 6)))) ∨ (c24 = .int .i64 2 ∧ Hid (Arr .u64 wr w.heap.size [num8 xs 0, num8 xs 2, num8 xs 1, num8 xs 3, num8 xs 4, num8 xs 5, num8 xs 6, num8 xs 7]) ∧ Hid (Rd w0 wr Br (xs.drop (8 * 8)))))) (fun _ c24 _ => 2 - (intOf c24).toNat)
     case atStart => exact ⟨HG.o.alloc _, by simp, TwoB.at _ _ _ _ _ rfl, .inl ⟨rfl, F_r.o.alloc _, HR.o.alloc _⟩⟩
     case round =>
      clear F_r HR HG
      obtain ⟨HG, hz, HT, ⟨rfl, F_r, HR⟩ | ⟨rfl, F_r, HR⟩ | ⟨rfl, F_r, HR⟩⟩ := hrel
      · obtain ⟨t0, t1, tl⟩ := id HT.o
        go_wp2_with fail
        clear t0 t1 tl
        go_cut [24] from 24 to 38 (fun c24 wx => c24 = .int .i64 0 ∧ Hid (Gro Br w wx) ∧ wb.heap.size < wx.heap.size ∧ Hid (TwoB wx wb.heap.size (.pointer (some ⟨w.heap.size, 4, none⟩)) (.pointer (some ⟨w.heap.size, 6, none⟩))) ∧ Hid (Arr .u64 wx w.heap.size [num8 xs 0, num8 xs 2, num8 xs 1, num8 xs 3, num8 xs 4, 0, 0, 0]) ∧ Hid (Rd w0 wx Br (xs.drop (8 * 5))))
        case first =>
         go_region_law (first
           | (go_simp
              go_at_call 34
              refine (number_at 4 _ (HW.o.trans (HG.o.drew.blw HB.o HZ.o)) HB.o HR.o.drew HU.o (by have := HL.o; omega)).mono ?_
              rintro e w5 ⟨rfl, hr5, hg5, hz5⟩
              have HR5 := Lh hr5
              have F_r5 := Lh (F_r.o.drew.gro hg5 HN.o)
              have HT5 := Lh (HT.o.drew.gro hg5 HNB.o)
              have HG5 := Lh (HG.o.drew.trans hg5)
              have hz5' := hz5
              simp only [World.size_drew] at hz5'
              obtain ⟨q0, q1, q2, q3, q4, q5, q6, q7, q8, q9, q10, q11, q12, q13, q14, q15⟩ := F_r5.o.k8
              clear hr5 hg5 hz5))
         all_goals (go_wp2_with fail; go_meet)
         all_goals exact ⟨rfl, HG5.o.set _ (.inr (Nat.le_refl _)) _, (by simp; omega), HT5.o.set _ _ HNC.o, F_r5.o.set 4 (by simp) rfl, HR5.o.set _ _ HN.o⟩
        case rest =>
         clear F_r HR HT HG hz
         obtain ⟨rfl, HG, hz, HT, F_r, HR⟩ := hcut
         obtain ⟨wr, rfl⟩ : ∃ wr : World, wr = wc := ⟨_, rfl⟩
         go_wp2_with fail
         go_region_law (first
           | (go_simp
              go_at_call 34
              refine (number_at 5 _ (HW.o.trans (HG.o.drew.blw HB.o HZ.o)) HB.o HR.o.drew HU.o (by have := HL.o; omega)).mono ?_
              rintro e w5 ⟨rfl, hr5, hg5, hz5⟩
              have HR5 := Lh hr5
              have F_r5 := Lh (F_r.o.drew.gro hg5 HN.o)
              have HT5 := Lh (HT.o.drew.gro hg5 HNB.o)
              have HG5 := Lh (HG.o.drew.trans hg5)
              have hz5' := hz5
              simp only [World.size_drew] at hz5'
              obtain ⟨q0, q1, q2, q3, q4, q5, q6, q7, q8, q9, q10, q11, q12, q13, q14, q15⟩ := F_r5.o.k8
              clear hr5 hg5 hz5))
         all_goals
           go_wp2_with fail
           go_roundw
           case rel => exact ⟨HG5.o.set _ (.inr (Nat.le_refl _)) _, (by simp; omega), HT5.o.set _ _ HNC.o, .inr (.inl ⟨by go_num, F_r5.o.set 5 (by simp) rfl, HR5.o.set _ _ HN.o⟩)⟩
           case measure => simp [intOf] <;> omega
      · obtain ⟨t0, t1, tl⟩ := id HT.o
        go_wp2_with fail
        clear t0 t1 tl
        go_cut [24] from 24 to 38 (fun c24 wx => c24 = .int .i64 1 ∧ Hid (Gro Br w wx) ∧ wb.heap.size < wx.heap.size ∧ Hid (TwoB wx wb.heap.size (.pointer (some ⟨w.heap.size, 4, none⟩)) (.pointer (some ⟨w.heap.size, 6, none⟩))) ∧ Hid (Arr .u64 wx w.heap.size [num8 xs 0, num8 xs 2, num8 xs 1, num8 xs 3, num8 xs 4, num8 xs 5, num8 xs 6, 0]) ∧ Hid (Rd w0 wx Br (xs.drop (8 * 7))))
        case first =>
         go_region_law (first
           | (go_simp
              go_at_call 34
              refine (number_at 6 _ (HW.o.trans (HG.o.drew.blw HB.o HZ.o)) HB.o HR.o.drew HU.o (by have := HL.o; omega)).mono ?_
              rintro e w5 ⟨rfl, hr5, hg5, hz5⟩
              have HR5 := Lh hr5
              have F_r5 := Lh (F_r.o.drew.gro hg5 HN.o)
              have HT5 := Lh (HT.o.drew.gro hg5 HNB.o)
              have HG5 := Lh (HG.o.drew.trans hg5)
              have hz5' := hz5
              simp only [World.size_drew] at hz5'
              obtain ⟨q0, q1, q2, q3, q4, q5, q6, q7, q8, q9, q10, q11, q12, q13, q14, q15⟩ := F_r5.o.k8
              clear hr5 hg5 hz5))
         all_goals (go_wp2_with fail; go_meet)
         all_goals exact ⟨rfl, HG5.o.set _ (.inr (Nat.le_refl _)) _, (by simp; omega), HT5.o.set _ _ HNC.o, F_r5.o.set 6 (by simp) rfl, HR5.o.set _ _ HN.o⟩
        case rest =>
         clear F_r HR HT HG hz
         obtain ⟨rfl, HG, hz, HT, F_r, HR⟩ := hcut
         obtain ⟨wr, rfl⟩ : ∃ wr : World, wr = wc := ⟨_, rfl⟩
         go_wp2_with fail
         go_region_law (first
           | (go_simp
              go_at_call 34
              refine (number_at 7 _ (HW.o.trans (HG.o.drew.blw HB.o HZ.o)) HB.o HR.o.drew HU.o (by have := HL.o; omega)).mono ?_
              rintro e w5 ⟨rfl, hr5, hg5, hz5⟩
              have HR5 := Lh hr5
              have F_r5 := Lh (F_r.o.drew.gro hg5 HN.o)
              have HT5 := Lh (HT.o.drew.gro hg5 HNB.o)
              have HG5 := Lh (HG.o.drew.trans hg5)
              have hz5' := hz5
              simp only [World.size_drew] at hz5'
              obtain ⟨q0, q1, q2, q3, q4, q5, q6, q7, q8, q9, q10, q11, q12, q13, q14, q15⟩ := F_r5.o.k8
              clear hr5 hg5 hz5))
         all_goals
           go_wp2_with fail
           go_roundw
           case rel => exact ⟨HG5.o.set _ (.inr (Nat.le_refl _)) _, (by simp; omega), HT5.o.set _ _ HNC.o, .inr (.inr ⟨by go_num, F_r5.o.set 7 (by simp) rfl, HR5.o.set _ _ HN.o⟩)⟩
           case measure => simp [intOf] <;> omega
      · obtain ⟨q0, q1, q2, q3, q4, q5, q6, q7, q8, q9, q10, q11, q12, q13, q14, q15⟩ := F_r.o.k8
        go_wp2_with fail
        clear q0 q1 q2 q3 q4 q5 q6 q7 q8 q9 q10 q11 q12 q13 q14 q15
        exact bodyPost_ret (res_bit1 rfl (F_r.o.st8 (num8 xs 0) (num8 xs 2) (num8 xs 1) (num8 xs 3) (num8 xs 4) (num8 xs 5) (num8 xs 6) (num8 xs 7)) _ rfl) rfl ⟨rfl, (((((((HR.o.set _ _ HN.o).set _ _ HN.o).set _ _ HN.o).set _ _ HN.o).set _ _ HN.o).set _ _ HN.o).set _ _ HN.o).set _ _ HN.o, (((((((HG.o.set _ (.inr (Nat.le_refl _)) _).set _ (.inr (Nat.le_refl _)) _).set _ (.inr (Nat.le_refl _)) _).set _ (.inr (Nat.le_refl _)) _).set _ (.inr (Nat.le_refl _)) _).set _ (.inr (Nat.le_refl _)) _).set _ (.inr (Nat.le_refl _)) _).set _ (.inr (Nat.le_refl _)) _⟩
open Go Go.RowKit Num Sha
structure Cl (w : World) (B : Nat) (l : List Value) : Prop where
  c : ∀ i u, l[i]? = some u → w.cell? ⟨B, i, none⟩ = some u
  f : ∀ i, w.frozen? ⟨B, i, none⟩ = false
  lt : B < w.heap.size
theorem Cl.at (w : World) (l : List Value) (t : TypeId) (b : Nat) (hb : b = w.heap.size) : Cl (w.alloc (.cells l.toArray t)) b l := by
 subst hb
 refine ⟨fun i u hu => ?_, fun i => by simp, by simp⟩
 rw [World.cell?_alloc_new]; simpa using hu
theorem Cl.keepN {w w' : World} {B n : Nat} {l : List Value} (h : Cl w B l) (hb : Below n w w') (hn : B < n) : Cl w' B l :=
  ⟨fun i u hu => (hb.cell (p := ⟨B, i, none⟩) hn).trans (h.c i u hu), fun i => (hb.frozen (p := ⟨B, i, none⟩) hn).trans (h.f i), Nat.lt_of_lt_of_le h.lt hb.size⟩
theorem Cl.keep {w w' : World} {B : Nat} {l : List Value} (h : Cl w B l) (hb : Below w.heap.size w w') : Cl w' B l := h.keepN hb h.lt
theorem Cl.drew {w : World} {B : Nat} {l : List Value} (h : Cl w B l) : Cl w.drew B l := h.keep (Below.refl _ _).drew
theorem Cl.alloc {w : World} {B : Nat} {l : List Value} (h : Cl w B l) (o : Obj) : Cl (w.alloc o) B l := h.keep ((Below.refl _ _).alloc (Nat.le_refl _) o)
theorem Cl.gro {w w' : World} {B r : Nat} {l : List Value} (h : Cl w B l) (g : Gro r w w') (hn : B ≠ r) : Cl w' B l :=
  ⟨fun i u hu => (World.cell?_of_block (w := w) (a := ⟨B, i, none⟩) (g.block B h.lt (by simpa using hn))).trans (h.c i u hu),
   fun i => (World.frozen?_of_block (w := w) (a := ⟨B, i, none⟩) (g.block B h.lt (by simpa using hn))).trans (h.f i), Nat.lt_of_lt_of_le h.lt g.size⟩
theorem Cl.far {w : World} {B : Nat} {l : List Value} (h : Cl w B l) (p : Addr) (u : Value) (hp : p.block ≠ B) : Cl (w.setCell p u) B l :=
  ⟨fun i v hv => by rw [World.cell?_setCell_other _ _ _ _ (show p ≠ ⟨B, i, none⟩ from fun e => hp (by rw [e]))]; exact h.c i v hv, fun i => by rw [World.frozen?_setCell]; exact h.f i, by simpa using h.lt⟩
theorem Cl.set {w : World} {B : Nat} {l m : List Value} (h : Cl w B l) (i : Nat) (u : Value) (hi : i < l.length) (hm : l.set i u = m) : Cl (w.setCell ⟨B, i, none⟩ u) B m := by
 subst hm
 refine ⟨fun j v hv => ?_, fun j => by rw [World.frozen?_setCell]; exact h.f j, by simpa using h.lt⟩
 by_cases e : j = i
 · subst e
   rw [List.getElem?_set_self hi] at hv
   cases hv
   refine World.cell?_setCell_same' _ _ _ ?_
   rw [h.c j l[j] (List.getElem?_eq_getElem hi)]; try rfl
 · rw [List.getElem?_set_ne (Ne.symm e)] at hv
   rw [World.cell?_setCell_other _ _ _ _ (show (⟨B, i, none⟩ : Addr) ≠ ⟨B, j, none⟩ from fun h0 => e (by injection h0 with _ h1; exact h1.symm))]
   exact h.c j v hv
theorem Cl.k11 {w : World} {B : Nat} {v0 v1 v2 v3 v4 v5 v6 v7 v8 v9 v10 : Value} (h : Cl w B [v0, v1, v2, v3, v4, v5, v6, v7, v8, v9, v10]) : (w.cell? ⟨B, 0, none⟩ = some v0 ∧ w.cell? ⟨B, 1, none⟩ = some v1 ∧ w.cell? ⟨B, 2, none⟩ = some v2 ∧ w.cell? ⟨B, 3, none⟩ = some v3 ∧ w.cell? ⟨B, 4, none⟩ = some v4 ∧ w.cell? ⟨B, 5, none⟩ = some v5 ∧ w.cell? ⟨B, 6, none⟩ = some v6 ∧ w.cell? ⟨B, 7, none⟩ = some v7 ∧ w.cell? ⟨B, 8, none⟩ = some v8 ∧ w.cell? ⟨B, 9, none⟩ = some v9 ∧ w.cell? ⟨B, 10, none⟩ = some v10) ∧ (w.frozen? ⟨B, 0, none⟩ = false ∧ w.frozen? ⟨B, 1, none⟩ = false ∧ w.frozen? ⟨B, 2, none⟩ = false ∧ w.frozen? ⟨B, 3, none⟩ = false ∧ w.frozen? ⟨B, 4, none⟩ = false ∧ w.frozen? ⟨B, 5, none⟩ = false ∧ w.frozen? ⟨B, 6, none⟩ = false ∧ w.frozen? ⟨B, 7, none⟩ = false ∧ w.frozen? ⟨B, 8, none⟩ = false ∧ w.frozen? ⟨B, 9, none⟩ = false ∧ w.frozen? ⟨B, 10, none⟩ = false) :=
  ⟨⟨h.c 0 _ rfl, h.c 1 _ rfl, h.c 2 _ rfl, h.c 3 _ rfl, h.c 4 _ rfl, h.c 5 _ rfl, h.c 6 _ rfl, h.c 7 _ rfl, h.c 8 _ rfl, h.c 9 _ rfl, h.c 10 _ rfl⟩, h.f 0, h.f 1, h.f 2, h.f 3, h.f 4, h.f 5, h.f 6, h.f 7, h.f 8, h.f 9, h.f 10⟩
theorem own_gro {W W' : World} {r n₀ : Nat} {e : TypeId} {sz n : Nat} {v : Value} {xs : List Value} (h : W.ownsRow n₀ e sz v n xs) (g : Gro r W W') (hn : r < n₀) : W'.ownsRow n₀ e sz v n xs := by
 refine World.ownsRow.kept h g ?_
 cases hv : v.ownBlock with
 | none => exact .inl rfl
 | some k => exact .inr (by have := (h.lt k hv).1; intro e; injection e with e; omega)
theorem own_far {W : World} {n₀ : Nat} {e : TypeId} {sz n : Nat} {v : Value} {xs : List Value} (h : W.ownsRow n₀ e sz v n xs) (p : Addr) (u : Value) (hn : p.block < n₀) : (W.setCell p u).ownsRow n₀ e sz v n xs :=
  own_gro h ((Gro.refl p.block W).set p (.inl rfl) u) hn
def boxesN (ys : List Int) (k : Nat) : List (Int × Int) := (List.range k).map fun i => (num8 ys (2 * i), num8 ys (2 * i + 1))
def bitsN (ys : List Int) (n k : Nat) : List Bt := (List.range k).map fun i => bitN (ys.drop (16 * n + 64 * i))
theorem boxesN_succ (ys : List Int) (k : Nat) : boxesN ys (k + 1) = boxesN ys k ++ [(num8 ys (2 * k), num8 ys (2 * k + 1))] := by simp [boxesN, List.range_succ]
theorem bitsN_succ (ys : List Int) (n k : Nat) : bitsN ys n (k + 1) = bitsN ys n k ++ [bitN (ys.drop (16 * n + 64 * k))] := by simp [bitsN, List.range_succ]
theorem bitN_u {xs : List Int} (h : Bytes xs) : (bitN xs).u := ⟨num8_u h 0, num8_u h 2, num8_u h 1, num8_u h 3, num8_u h 4, num8_u h 5, num8_u h 6, num8_u h 7⟩
theorem boxesN_u {ys : List Int} (h : Bytes ys) (k : Nat) : ∀ q, q ∈ boxesN ys k → U64 q.1 ∧ U64 q.2 := by
 intro q hq
 obtain ⟨i, -, rfl⟩ := List.mem_map.1 hq
 exact ⟨num8_u h _, num8_u h _⟩
theorem bitsN_u {ys : List Int} (h : Bytes ys) (n k : Nat) : ∀ q, q ∈ bitsN ys n k → q.u := by
 intro q hq
 obtain ⟨i, -, rfl⟩ := List.mem_map.1 hq
 exact bitN_u (h.drop _)
def readF (xs : List Int) : Int × List (Int × Int) × List Bt × Bool × Bt :=
  let n := (xs.getD 0 0).toNat
  let m := (xs.getD 1 0).toNat
  if xs.length < 3 then (10, [], [], false, Bt.zero)
  else if 10 < n ∨ 10 < m ∨ 1 < xs.getD 2 0 then (11, [], [], false, Bt.zero)
  else if xs.length < 3 + 16 * n + 64 * (m + 1) then (10, [], [], false, Bt.zero)
  else if 3 + 16 * n + 64 * (m + 1) < xs.length then (11, [], [], false, Bt.zero)
  else (0, boxesN (xs.drop 3) n, bitsN (xs.drop 3) n m, decide (xs.getD 2 0 = 1), bitN ((xs.drop 3).drop (16 * n + 64 * m)))
def RetRd (w : World) (xs : List Int) (e : Ending) (w' : World) : Prop :=
  ∃ V : Vt, e = .returned (.tuple #[V.v, .int .i64 (readF xs).1]) ∧ VtIn w' V ∧ V.bs = (readF xs).2.1 ∧ V.ps = (readF xs).2.2.1 ∧ V.one = (readF xs).2.2.2.1 ∧ V.z = (readF xs).2.2.2.2 ∧ Below w.heap.size w w'
def zeroV : Vt := ⟨none, 0, 0, [], none, 0, 0, [], false, Bt.zero⟩
theorem zeroV_in (w : World) : VtIn w zeroV := ⟨.inl ⟨rfl, rfl⟩, by simp [zeroV], fun _ => rfl, .inl ⟨rfl, rfl⟩, by simp [zeroV], fun _ => rfl, by simp [zeroV, Bt.zero, Bt.u, U64]⟩
theorem RetRd.err {w w' : World} {xs : List Int} {er : Int} (h : readF xs = (er, [], [], false, Bt.zero)) (hb : Below w.heap.size w w') : RetRd w xs (.returned (.tuple #[.agg #[.slice none 0 0, .slice none 0 0, .bool false, .int .u64 0, .int .u64 0, .int .u64 0, .int .u64 0, .int .u64 0, .int .u64 0, .int .u64 0, .int .u64 0], .int .i64 er])) w' :=
  ⟨zeroV, by rw [h]; rfl, zeroV_in _, by rw [h]; rfl, by rw [h]; rfl, by rw [h]; rfl, by rw [h]; rfl, hb⟩
theorem res_vote {w : World} {fn : Func} {c t : Tmp} {b : Nat} {a0 a1 : Option Addr} {n0 n1 c0 c1 : Nat} {o2 : Bool} {i3 i4 i5 i6 i7 i8 i9 i10 : Int} {v : Value} (h : fn.results = #[.cell c 29, .tmp t]) (hp : Cl w b [.slice a0 n0 c0, .slice a1 n1 c1, .bool o2, .int .u64 i3, .int .u64 i4, .int .u64 i5, .int .u64 i6, .int .u64 i7, .int .u64 i8, .int .u64 i9, .int .u64 i10]) (tmps : Array Value)
    (hc : tmps[c]?.getD undef = .pointer (some ⟨b, 0, none⟩)) (ht : tmps[t]?.getD undef = v) : (results fn tmps).run Tryd.prog w = .ok (.tuple #[.agg #[.slice a0 n0 c0, .slice a1 n1 c1, .bool o2, .int .u64 i3, .int .u64 i4, .int .u64 i5, .int .u64 i6, .int .u64 i7, .int .u64 i8, .int .u64 i9, .int .u64 i10], v]) w := by
  obtain ⟨⟨q0, q1, q2, q3, q4, q5, q6, q7, q8, q9, q10⟩, -⟩ := hp.k11
  simp [results, h, hc, ht, go_sem, q0, q1, q2, q3, q4, q5, q6, q7, q8, q9, q10]
theorem wp_push_s {w : World} {o : Oper} {a : Act} {K : Act → World → Prop} {Q : Exit → Act → World → Prop} (s x : Operand) (ho : o.op = .call { callee := .builtin .append, args := #[s, x], argTypes := #[22, 22] })
    (base n b : Nat) (v : Value) (xs : List Value) (y z : Int) (hs : a.eval s = v) (hx : a.eval x = .slice (some ⟨b, 0, none⟩) 1 1) (hown : w.ownsRow base 78 2 v n xs) (hc : ∀ j u, ([.int .u64 y, .int .u64 z] : List Value)[j]? = some u → w.cell? ((⟨b, 0, none⟩ : Addr).add j) = some u) (hn : n ≤ 1000000) (hb : base ≤ w.heap.size)
    (h : ∀ v' w', w'.ownsRow base 78 2 v' (n + 1) (xs ++ [.int .u64 y, .int .u64 z]) → w.grownBy w' v.ownBlock → K (a.put o.dst v') w') : o.wp Tryd.prog a w K Q := by
  obtain ⟨j0, ji, jz0, jz1, jz2⟩ := info_parts (P := Tryd.prog) (e := 78) (z := .agg #[.int .u64 0, .int .u64 0]) (size := 2) (bytes := 16) (by kernel_rfl)
  exact wp_append_own w s x 22 ho base 78 j0 _ 2 16 Tryd.underlying22 ji jz0 jz1 jz2 rfl (by decide) v n xs hs hown ⟨b, 0, none⟩ 1 1 [.int .u64 y, .int .u64 z] hx rfl hc (fun u hu => by simp at hu; rcases hu with rfl | rfl <;> rfl) (by unfold maxLen; omega) (by omega) hb (fun v' w' h1 h2 _ => h v' w' h1 h2)
open Go Go.RowKit Go.Shelf Num Sha
attribute [local go_sem] Oper.semAt_some
def restS (q : Int) : Int := 18446744073709551616 % q
def skipS (seed : List Int) (i q : Int) (k : Nat) : Bool := decide (0 < restS q) && decide (18446744073709551616 - restS q ≤ tryS seed i k)
def drawS (seed : List Int) (i q : Int) : Option Int := ((List.range 16).find? fun k => !skipS seed i q k).map fun k => tryS seed i k % q
def drawV (o : Option Int) : Value := match o with
  | some x => .tuple #[.int .u64 x, .int .i64 0]
  | none => .tuple #[.int .u64 0, .int .i64 6]
theorem drawS_none {seed : List Int} {i q : Int} (h : ∀ y, y ∈ List.range 16 → skipS seed i q y = true) : drawS seed i q = none := by
 unfold drawS
 rw [List.find?_eq_none.2 (fun x hx => by rw [h x hx]; simp)]
 rfl
theorem drawS_hit {seed : List Int} {i q : Int} {k x : Nat} {pre : List Nat} (hk : k ≤ 16) (h : pre ++ [x] = List.range k) (hs : ∀ y, y ∈ pre → skipS seed i q y = true) (hx : skipS seed i q x = false) : drawS seed i q = some (tryS seed i x % q) := by
 cases k with
 | zero => simp at h
 | succ m =>
  rw [List.range_succ] at h
  obtain ⟨rfl, e⟩ := List.append_inj' h rfl
  injection e with e
  subst e
  unfold drawS
  have hf : (List.range 16).find? (fun k => !skipS seed i q k) = some x := by
   rw [List.find?_eq_some_iff_append]
   refine ⟨by rw [hx]; rfl, List.range x, (List.range 16).drop (x + 1), ?_, fun a ha => by rw [hs a ha]; rfl⟩
   have h1 := List.take_append_drop x (List.range 16)
   rw [List.take_range, show min x 16 = x by omega, List.drop_eq_getElem_cons (by simp; omega), List.getElem_range] at h1
   exact h1.symm
  rw [hf]
  rfl
theorem tryS_u (seed : List Int) (i : Int) (k : Nat) : 0 ≤ tryS seed i k ∧ tryS seed i k < 18446744073709551616 := by
 have h := beN_bound (show Bytes (shaS (tryB seed i k)) from shaS_bytes _) 8 (by rw [shaS_len]; omega)
 exact ⟨h.1, by have := h.2; unfold tryS; omega⟩
structure DBx (W : World) (b : Nat) (q R u e : Int) : Prop where
  q : Cl W (b + 1) [.int .u64 q]
  u : Cl W (b + 1 + 1) [.int .u64 u]
  e : Cl W (b + 1 + 1 + 1) [.int .i64 e]
  r : Cl W (b + 1 + 1 + 1 + 1) [.int .u64 R]
theorem DBx.keepN {W W' : World} {b n : Nat} {q R u e : Int} (h : DBx W b q R u e) (hb : Below n W W') (hn : b + 5 ≤ n) : DBx W' b q R u e :=
  ⟨h.q.keepN hb (by omega), h.u.keepN hb (by omega), h.e.keepN hb (by omega), h.r.keepN hb (by omega)⟩
theorem res_2c {w : World} {fn : Func} {c1 c2 : Tmp} {b1 b2 : Nat} {x y : Int} (h : fn.results = #[.cell c1 24, .cell c2 32]) (h1 : w.cell? ⟨b1, 0, none⟩ = some (.int .u64 x)) (h2 : w.cell? ⟨b2, 0, none⟩ = some (.int .i64 y)) (tmps : Array Value)
    (hc1 : tmps[c1]?.getD undef = .pointer (some ⟨b1, 0, none⟩)) (hc2 : tmps[c2]?.getD undef = .pointer (some ⟨b2, 0, none⟩)) : (results fn tmps).run Tryd.prog w = .ok (.tuple #[.int .u64 x, .int .i64 y]) w := by
  simp [results, h, hc1, hc2, go_sem, h1, h2]
set_option maxHeartbeats 8000000 in
theorem draw_any {seed : List Int} {i q : Int} (w : World) (hT : Tabs w) (hi0 : 0 ≤ i) (hi1 : i < 4294967296) (hsl : seed.length = 32) (hby : ByteL seed) (hq0 : 0 < q) (hq1 : q < 18446744073709551616) :
    Calls Tryd.prog 98 #[.agg (valV .u8 seed), .int .u32 i, .int .u64 q] w fun e w' => e = .returned (drawV (drawS seed i q)) ∧ Below w.heap.size w w' := by
  have HT := Lh hT
  have HSL := Lh hsl
  have HBY := Lh hby
  have hqn : ¬ (q = 0) := by omega
  have hneg : IntKind.u64.wrap (-q) = 18446744073709551616 - q := by rw [show (-q : Int) = (18446744073709551616 - q) - 18446744073709551616 by omega]; simp [IntKind.wrap, IntKind.bits, IntKind.signed]; omega
  have F_a := Lh (Arr.new .u8 w seed 163 w.heap.size rfl)
  clear hT hsl hby
  refine (callsIn_wide (n := 6)).1 ?_
  refine callsIn_of_wp_marks Tryd.func98 rfl trivial ?_ rfl
  simp only [Tryd.ntmps98, List.size_toArray, List.length_cons, List.length_nil, Nat.reduceAdd, Nat.reduceSub, Array.replicate_succ, Array.replicate_zero, List.push_toArray, List.append_toArray, List.nil_append, List.cons_append]
  refine wpIn_wide.2 ?_
  go_wp2_with fail
  go_step3
  have F_5 := Lh (show Arr .u8 ((((w.alloc (.cells (valV .u8 seed) 163)).alloc (.cells #[.int .u64 q] 24)).alloc (.cells #[.int .u64 0] 24)).alloc (.cells #[.int .i64 0] 32) |>.alloc (.cells #[.int .u64 (18446744073709551616 % q)] 24)) w.heap.size seed from (((F_a.o.alloc _).alloc _).alloc _).alloc _)
  go_wp2_with fail
  go_step3
  go_wp2_with (refine wpL_loadArr rfl 163 .u8 (.tmp 3) w.heap.size seed 32 5 rfl rfl Tryd.underlying163 (by rw [HSL.o]; kernel_rfl) F_5.o ?_; simp only [Act.put, sZ])
  refine (callsIn_wide.1 (tries_in 1 _)).mono ?_
  rintro e w1 ⟨rfl, rfl⟩
  go_wp2_with fail
  obtain ⟨W0, hW0⟩ : ∃ W0, (((((((w.alloc (.cells (valV .u8 seed) 163)).alloc (.cells #[.int .u64 q] 24)).alloc (.cells #[.int .u64 0] 24)).alloc (.cells #[.int .i64 0] 32)).alloc (.cells #[.int .u64 (18446744073709551616 % q)] 24)).alloc (.cells (valV .u8 seed) 163)).alloc (.cells #[.int .u32 i] 125)) = W0 := ⟨_, rfl⟩
  have hB0 : Below w.heap.size w W0 := by rw [← hW0]; exact (((((((Below.refl _ _).alloc (by simp <;> omega) _).alloc (by simp <;> omega) _).alloc (by simp <;> omega) _).alloc (by simp <;> omega) _).alloc (by simp <;> omega) _).alloc (by simp <;> omega) _).alloc (by simp <;> omega) _
  have hsz : W0.heap.size = w.heap.size + 7 := by rw [← hW0]; simp
  have hD0 : DBx W0 w.heap.size q (18446744073709551616 % q) 0 0 := by rw [← hW0]; exact ⟨(((((Cl.at (w.alloc (.cells (valV .u8 seed) 163)) [.int .u64 q] _ (w.heap.size + 1) (by simp)).alloc _).alloc _).alloc _).alloc _).alloc _, ((((Cl.at ((w.alloc (.cells (valV .u8 seed) 163)).alloc (.cells #[.int .u64 q] 24)) [.int .u64 0] _ (w.heap.size + 1 + 1) (by simp)).alloc _).alloc _).alloc _).alloc _, (((Cl.at (((w.alloc (.cells (valV .u8 seed) 163)).alloc (.cells #[.int .u64 q] 24)).alloc (.cells #[.int .u64 0] 24)) [.int .i64 0] _ (w.heap.size + 1 + 1 + 1) (by simp)).alloc _).alloc _).alloc _, ((Cl.at ((((w.alloc (.cells (valV .u8 seed) 163)).alloc (.cells #[.int .u64 q] 24)).alloc (.cells #[.int .u64 0] 24)).alloc (.cells #[.int .i64 0] 32)) [.int .u64 (18446744073709551616 % q)] _ (w.heap.size + 1 + 1 + 1 + 1) (by simp)).alloc _).alloc _⟩
  have hU0 : UrnB W0 (w.heap.size + 1 + 1 + 1 + 1 + 1) (w.heap.size + 1 + 1 + 1 + 1 + 1 + 1) seed i := by rw [← hW0]; exact by have h := UrnB.new (seed := seed) (i := i) (((((w.alloc (.cells (valV .u8 seed) 163)).alloc (.cells #[.int .u64 q] 24)).alloc (.cells #[.int .u64 0] 24)).alloc (.cells #[.int .i64 0] 32)).alloc (.cells #[.int .u64 (18446744073709551616 % q)] 24)) 163 125; simpa using h
  have HT0 := Lh (HT.o.below hB0)
  have HU0 := Lh hU0
  rw [hW0]
  obtain ⟨R, hR⟩ : ∃ R, 18446744073709551616 % q = R := ⟨_, rfl⟩
  have HRS := Lh (show restS q = R from hR)
  have hR0 : 0 ≤ R := by rw [← hR]; exact Int.emod_nonneg _ (by omega)
  have hR1 : R < 18446744073709551616 := by rw [← hR]; have := Int.emod_lt_of_pos 18446744073709551616 hq0; omega
  rw [hR] at hD0 ⊢
  clear hW0 hR hU0 F_a F_5 HT
  have HOW : ∀ (pre : List Nat) (A B : World) row, ((∀ y, y ∈ pre → skipS seed i q y = true) ∧ DBx A w.heap.size q R 0 0 ∧ W0.heap.size ≤ A.heap.size ∧ Below w.heap.size w A) → A.grownBy B row → (∀ r, row = some r → W0.heap.size ≤ r ∧ ∃ o : Obj, A.heap[r]? = some o ∧ o.isCells = false) →
      ((∀ y, y ∈ pre → skipS seed i q y = true) ∧ DBx B w.heap.size q R 0 0 ∧ W0.heap.size ≤ B.heap.size ∧ Below w.heap.size w B) := fun pre A B row hs hg hr => by
    have hb : Below W0.heap.size A B := (Below.refl _ _).grown hg hs.2.2.1 (fun k e => (hr k e).1)
    exact ⟨hs.1, hs.2.1.keepN hb (by omega), Nat.le_trans hs.2.2.1 hg.size, hs.2.2.2.trans (hb.mono (by omega))⟩
  have HOX : ∀ (c : Code), OwnFrom W0.heap.size (fun (pre : List Nat) (A : World) => c = .ret ∧ ∃ x pre', pre = pre' ++ [x] ∧ (∀ y, y ∈ pre' → skipS seed i q y = true) ∧ skipS seed i q x = false ∧ DBx A w.heap.size q R (tryS seed i x % q) 0 ∧ W0.heap.size ≤ A.heap.size ∧ Below w.heap.size w A) := fun c pre A B row hs hg hr => by
   obtain ⟨rfl, x, pre', h1, h2, h3, h4, h5, h6⟩ := hs
   have hb : Below W0.heap.size A B := (Below.refl _ _).grown hg h5 (fun k e => (hr k e).1)
   exact ⟨rfl, x, pre', h1, h2, h3, h4.keepN hb (by omega), Nat.le_trans h5 hg.size, h6.trans (hb.mono (by omega))⟩
  refine (wpIn_wide (n := 6)).1 ?_
  refine wpIn_rangeFunc_ownG rfl (by omega) (gf := 119) (lb := #[.pointer (some ⟨w.heap.size + 1 + 1 + 1 + 1 + 1, 0, none⟩), .pointer (some ⟨w.heap.size + 1 + 1 + 1 + 1 + 1 + 1, 0, none⟩)]) rfl trivial (enters_of Tryd.func119 (by kernel_rfl) rfl)
    (tries_stops (6 - 1) (by omega) (w.heap.size + 1 + 1 + 1 + 1 + 1) (w.heap.size + 1 + 1 + 1 + 1 + 1 + 1) hi0 hi1 HSL.o HBY.o W0 HT0.o HU0.o)
    (fun h k => Kc.trans h k) (fun W l o o' hl h a b => Kc.put W l o o' h a) (Below.refl _ _) (fun _ => rfl)
    (fun pre W => (∀ y, y ∈ pre → skipS seed i q y = true) ∧ DBx W w.heap.size q R 0 0 ∧ W0.heap.size ≤ W.heap.size ∧ Below w.heap.size w W)
    (fun c pre A => c = .ret ∧ ∃ x pre', pre = pre' ++ [x] ∧ (∀ y, y ∈ pre' → skipS seed i q y = true) ∧ skipS seed i q x = false ∧ DBx A w.heap.size q R (tryS seed i x % q) 0 ∧ W0.heap.size ≤ A.heap.size ∧ Below w.heap.size w A)
    HOW HOX
    ⟨fun y hy => by simp at hy, hD0, Nat.le_refl _, hB0⟩
    (fun x => { tmps := #[.agg (valV .u8 seed), .int .u32 i, .int .u64 q, .pointer (some ⟨w.heap.size, 0, none⟩), undef, .pointer (some ⟨w.heap.size + 1, 0, none⟩), .pointer (some ⟨w.heap.size + 1 + 1, 0, none⟩), .pointer (some ⟨w.heap.size + 1 + 1 + 1, 0, none⟩), .pointer (some ⟨w.heap.size + 1 + 1 + 1 + 1, 0, none⟩), .int .u64 (tryS seed i x), .int .u64 q, .int .u64 (18446744073709551616 - q), .int .u64 q, .int .u64 R, .agg (valV .u8 seed), .int .u32 i, .func (.func 119) #[] #[.pointer (some ⟨w.heap.size + 1 + 1 + 1 + 1 + 1, 0, none⟩), .pointer (some ⟨w.heap.size + 1 + 1 + 1 + 1 + 1 + 1, 0, none⟩)], .int .u64 (tryS seed i x), undef, undef, undef, undef, undef, undef, undef, undef, undef, undef, undef], defers := [] }) ?assign ?body ?done ?stop
  case assign =>
   intro l x W K hK
   gi_wp2
   exact hK
  case body =>
   rintro l pre x W ⟨hsk, hD, hz, hB⟩ hl
   have q0 := hD.q.c 0 _ rfl
   have u0 := hD.u.c 0 _ rfl
   have e0 := hD.e.c 0 _ rfl
   have r0 := hD.r.c 0 _ rfl
   have uf := hD.u.f 0
   have ef := hD.e.f 0
   have HD := Lh hD
   have HB := Lh hB
   have HSK := Lh hsk
   obtain ⟨t0, t1⟩ := tryS_u seed i x
   have HSX := Lh (show skipS seed i q x = (decide (0 < R) && decide (18446744073709551616 - R ≤ tryS seed i x)) by rw [skipS, HRS.o])
   obtain ⟨t, ht⟩ : ∃ t, tryS seed i x = t := ⟨_, rfl⟩
   have HTT := Lh ht
   rw [ht] at t0 t1 HSX ⊢
   clear hD hB hsk ht
   by_cases hRp : 0 < R
   case pos =>
    have dR : decide (0 < R) = true := decide_eq_true hRp
    have hn : IntKind.u64.wrap (-R) = 18446744073709551616 - R := by rw [show (-R : Int) = (18446744073709551616 - R) - 18446744073709551616 by omega]; simp [IntKind.wrap, IntKind.bits, IntKind.signed]; omega
    by_cases hx : 18446744073709551616 - R ≤ t
    case pos =>
     have dx : decide (18446744073709551616 - R ≤ t) = true := decide_eq_true hx
     have hs1 : skipS seed i q x = true := by rw [HSX.o, dR, dx]; rfl
     have HS1 := Lh hs1
     clear hs1 HSX
     gi_wp2
     exact ⟨KeepsFrom.refl _ _, Kc.refl _, fun y hy => by
      rcases List.mem_append.1 hy with hy | hy
      · exact HSK.o y hy
      · simp at hy; subst hy; exact HS1.o, HD.o, by omega, HB.o⟩
    case neg =>
     have dx : decide (18446744073709551616 - R ≤ t) = false := decide_eq_false hx
     have hs1 : skipS seed i q x = false := by rw [HSX.o, dR, dx]; rfl
     have HS1 := Lh hs1
     clear hs1 HSX
     gi_wp2
     exact ⟨(KeepsFrom.of_grownBy ((Gro.refl _ W).set ⟨w.heap.size + 1 + 1, 0, none⟩ (.inl rfl) _) (fun j e => by cases e; show w.heap.size + 1 + 1 < _; omega)).trans (KeepsFrom.of_grownBy ((Gro.refl _ _).set ⟨w.heap.size + 1 + 1 + 1, 0, none⟩ (.inl rfl) _) (fun j e => by cases e; show w.heap.size + 1 + 1 + 1 < _; omega)), rfl, x, pre, rfl, HSK.o, HS1.o,
       (by rw [HTT.o]; exact ⟨(HD.o.q.far _ _ (by simp <;> omega)).far _ _ (by simp <;> omega), (HD.o.u.set (m := [.int .u64 (t % q)]) 0 _ (by simp) rfl).far _ _ (by simp <;> omega), (HD.o.e.far _ _ (by simp <;> omega)).set (m := [.int .i64 0]) 0 _ (by simp) rfl, (HD.o.r.far _ _ (by simp <;> omega)).far _ _ (by simp <;> omega)⟩), (by simp <;> omega), (HB.o.setCell (by simp <;> omega) _).setCell (by simp <;> omega) _⟩
   case neg =>
    have dR : decide (0 < R) = false := decide_eq_false hRp
    have hs1 : skipS seed i q x = false := by rw [HSX.o, dR]; rfl
    have HS1 := Lh hs1
    clear hs1 HSX
    gi_wp2
    exact ⟨(KeepsFrom.of_grownBy ((Gro.refl _ W).set ⟨w.heap.size + 1 + 1, 0, none⟩ (.inl rfl) _) (fun j e => by cases e; show w.heap.size + 1 + 1 < _; omega)).trans (KeepsFrom.of_grownBy ((Gro.refl _ _).set ⟨w.heap.size + 1 + 1 + 1, 0, none⟩ (.inl rfl) _) (fun j e => by cases e; show w.heap.size + 1 + 1 + 1 < _; omega)), rfl, x, pre, rfl, HSK.o, HS1.o,
      (by rw [HTT.o]; exact ⟨(HD.o.q.far _ _ (by simp <;> omega)).far _ _ (by simp <;> omega), (HD.o.u.set (m := [.int .u64 (t % q)]) 0 _ (by simp) rfl).far _ _ (by simp <;> omega), (HD.o.e.far _ _ (by simp <;> omega)).set (m := [.int .i64 0]) 0 _ (by simp) rfl, (HD.o.r.far _ _ (by simp <;> omega)).far _ _ (by simp <;> omega)⟩), (by simp <;> omega), (HB.o.setCell (by simp <;> omega) _).setCell (by simp <;> omega) _⟩
  case done =>
   rintro D ys W hD rfl ⟨hsk, hDB, hz, hB⟩ hK
   have HN := Lh (drawS_none hsk)
   have u0 := hDB.u.c 0 _ rfl
   have e0 := hDB.e.c 0 _ rfl
   have uf := hDB.u.f 0
   have ef := hDB.e.f 0
   have HD := Lh hDB
   have HB := Lh hB
   have HDD := Lh hD
   have HK := Lh hK
   clear hsk hDB hB hD hK
   go_wp2_with fail
   rw [Exit.noGoto_ret]
   have hK9 : ((W.setCell ⟨w.heap.size + 1 + 1, 0, none⟩ (.int .u64 0)).setCell ⟨w.heap.size + 1 + 1 + 1, 0, none⟩ (.int .i64 6)).heap[D]? = some (.deferred (some [])) := by
    rw [Below.heap_setCell _ _ _ _ (by have := HDD.o; show D ≠ w.heap.size + 1 + 1 + 1; omega), Below.heap_setCell _ _ _ _ (by have := HDD.o; show D ≠ w.heap.size + 1 + 1; omega)]
    exact HK.o
   have hBD := belowK_b (w := W0) (Nat.le_refl _) _ D (.deferred (some [])) (.deferred none) HDD.o hK9 rfl rfl
   refine ⟨by simp, .inl ⟨_, _, rfl, run_takeDeferred hK9, ?_⟩⟩
   refine ⟨_, res_2c rfl (((((HD.o.u.set (m := [.int .u64 0]) 0 _ (by simp) rfl).far _ _ (by simp <;> omega))).keepN hBD (by omega)).c 0 _ rfl) ((((HD.o.e.far _ _ (by simp <;> omega)).set (m := [.int .i64 6]) 0 _ (by simp) rfl).keepN hBD (by omega)).c 0 _ rfl) _ rfl rfl, ?_⟩
   exact ⟨by rw [HN.o]; rfl, ((HB.o.setCell (by simp <;> omega) _).setCell (by simp <;> omega) _).trans (hBD.mono (by omega))⟩
  case stop =>
   rintro D c pre W hD ⟨k, hk, hp⟩ ⟨rfl, x, pre', h1, h2, h3, h4, h5, h6⟩ hK
   have HN := Lh (drawS_hit hk (h1.symm.trans hp) h2 h3)
   refine wpIn_wide.2 ?_
   go_wp2_with fail
   rw [Exit.noGoto_ret]
   have hBD := belowK_b (w := W0) (Nat.le_refl _) _ D (.deferred (some [])) (.deferred none) hD hK rfl rfl
   refine ⟨by simp, .inl ⟨_, _, rfl, run_takeDeferred hK, ?_⟩⟩
   refine ⟨_, res_2c rfl ((h4.u.keepN hBD (by omega)).c 0 _ rfl) ((h4.e.keepN hBD (by omega)).c 0 _ rfl) _ rfl rfl, ?_⟩
   exact ⟨by rw [HN.o]; rfl, h6.trans (hBD.mono (by omega))⟩
open Go Go.RowKit Num Sha
def sampS (seed : List Int) (q : Int) : Nat → Option (List Int)
  | 0 => some []
  | k + 1 => match sampS seed q k with
    | none => none
    | some xs => match drawS seed (k : Int) q with
      | none => none
      | some x => some (xs ++ [x])
theorem sampS_len {seed : List Int} {q : Int} : ∀ {k : Nat} {xs : List Int}, sampS seed q k = some xs → xs.length = k
  | 0, xs, h => by simp [sampS] at h; subst h; rfl
  | k + 1, xs, h => by
   simp only [sampS] at h
   split at h
   · cases h
   · next ys hy =>
     split at h
     · cases h
     · next x hx => cases h; rw [List.length_append, sampS_len hy]; rfl
theorem sampS_none {seed : List Int} {q : Int} {j k : Nat} (h : sampS seed q j = none) (hk : j ≤ k) : sampS seed q k = none := by
 induction k with
 | zero => obtain rfl : j = 0 := by omega
           exact h
 | succ k ih =>
  by_cases e : j = k + 1
  · subst e; exact h
  · simp only [sampS, ih (by omega)]
theorem drawS_bound {seed : List Int} {i q x : Int} (hq : 0 < q) (h : drawS seed i q = some x) : 0 ≤ x ∧ x < q := by
 unfold drawS at h
 cases hf : (List.range 16).find? fun k => !skipS seed i q k with
 | none => rw [hf] at h; cases h
 | some k => rw [hf] at h; cases h; exact ⟨Int.emod_nonneg _ (by omega), Int.emod_lt_of_pos _ hq⟩
theorem sampS_bound {seed : List Int} {q : Int} (hq : 0 < q) : ∀ {k : Nat} {xs : List Int}, sampS seed q k = some xs → ∀ x, x ∈ xs → 0 ≤ x ∧ x < q
  | 0, xs, h => by simp [sampS] at h; subst h; simp
  | k + 1, xs, h => by
   simp only [sampS] at h
   split at h
   · cases h
   · next ys hy =>
     split at h
     · cases h
     · next x hx =>
       cases h
       intro z hz
       rcases List.mem_append.1 hz with hz | hz
       · exact sampS_bound hq hy z hz
       · simp at hz; subst hz; exact drawS_bound hq hx
def RetSm (w : World) (o : Option (List Int)) (e : Ending) (w' : World) : Prop := Below w.heap.size w w' ∧ match o with
  | some xs => ∃ v, e = .returned (.tuple #[v, .int .i64 0]) ∧ OwnU8 w' w.heap.size v xs
  | none => e = .returned (.tuple #[.slice none 0 0, .int .i64 6])
set_option maxHeartbeats 8000000 in
theorem sample_any {seed : List Int} {q : Int} {many : Nat} (w : World) (hT : Tabs w) (hsl : seed.length = 32) (hby : ByteL seed) (hq0 : 0 < q) (hq1 : q ≤ 4294967296) (hm : many ≤ 4096) :
    Calls Tryd.prog 69 #[.agg (valV .u8 seed), .int .u32 0, .int .i64 (many : Int), .int .u64 q] w (RetSm w (sampS seed q many)) := by
  obtain ⟨i0, hi, hz0, hz1, hz2⟩ := info_parts (P := Tryd.prog) (e := 24) (z := .int .u64 0) (size := 1) (bytes := 8) (by kernel_rfl)
  have HT := Lh hT
  have HSL := Lh hsl
  have HBY := Lh hby
  have F_a := Lh (Arr.new .u8 w seed 37 w.heap.size rfl)
  have HBW := Lh (show Below w.heap.size w (w.alloc (.cells (valV .u8 seed) 37)) from (Below.refl _ _).alloc (Nat.le_refl _) _)
  have d1 : decide ((many : Int) < 0) = false := decide_eq_false (by omega)
  have d2 : decide ((4294967296 : Int) < (many : Int)) = false := decide_eq_false (by omega)
  have w1 : IntKind.u64.wrap (many : Int) = many := IntWalk.u64_in _ (by omega)
  have d3 : decide (q < 1) = false := decide_eq_false (by omega)
  have d4 : decide ((4294967296 : Int) < q) = false := decide_eq_false (by omega)
  have d5 : decide ((4096 : Int) < (many : Int)) = false := decide_eq_false (by omega)
  clear hT hsl hby
  go_enter Tryd.func69, Tryd.ntmps69
  go_wp2_with (refine wpL_loadArr rfl 37 .u8 (.tmp 4) w.heap.size seed 32 5 rfl rfl Tryd.underlying37 (by rw [HSL.o]; kernel_rfl) F_a.o ?_; simp only [Act.put, sZ])
  clear d1 d2 w1 d3 d4 d5 F_a
  go_loopw [8, 41] (fun c8 c41 wr => ∃ (j : Nat) (ys : List Int), j ≤ many ∧ c41 = .int .i64 j ∧ Hid (sampS seed q j = some ys) ∧ Hid (OwnU8 wr w.heap.size c8 ys) ∧ Hid (Below w.heap.size w wr)) (fun _ c41 _ => many - (intOf c41).toNat)
  case atStart => exact ⟨0, [], by omega, rfl, rfl, OwnU8.nil _ _, HBW.o⟩
  case round =>
   clear HBW
   obtain ⟨j, ys, hj, rfl, HS, HO, HBW⟩ := hrel
   by_cases hlt : j < many
   case neg =>
    obtain rfl : j = many := by omega
    have hd : decide ((j : Int) < (j : Int)) = false := decide_eq_false (by omega)
    go_wp2_with fail
    go_ret2
    exact ⟨HBW.o, by rw [HS.o]; exact ⟨_, rfl, HO.o⟩⟩
   case pos =>
    have hd : decide ((j : Int) < (many : Int)) = true := decide_eq_true (by omega)
    have w1 : IntKind.u32.wrap (j : Int) = j := IntWalk.u32_in _ (by omega)
    have w2 : IntKind.i64.wrap ((j : Int) + 1) = (j : Int) + 1 := IntWalk.i64_in _ (by omega)
    have hzw := HBW.o.size
    go_wp2_with fail
    refine (draw_any _ (HT.o.below HBW.o) (by omega) (by omega) HSL.o HBY.o hq0 (by omega)).mono ?_
    rintro e w5 ⟨rfl, hb5⟩
    replace HO := Lh (HO.o.keep hb5)
    replace HBW := Lh (HBW.o.trans (hb5.mono HBW.o.size))
    have hzw5 := HBW.o.size
    clear hb5
    obtain ⟨o, ho⟩ : ∃ o, drawS seed (j : Int) q = o := ⟨_, rfl⟩
    rw [ho]
    have HD := Lh ho
    clear ho
    cases o with
    | none =>
     have HN := Lh (show sampS seed q many = none from sampS_none (j := j + 1) (by simp only [sampS, HS.o, HD.o]) (by omega))
     unfold drawV
     go_wp2_with fail
     go_ret2
     exact ⟨HBW.o, by rw [HN.o]; rfl⟩
    | some x =>
     have HN := Lh (show sampS seed q (j + 1) = some (ys ++ [x]) by simp only [sampS, HS.o, HD.o])
     have HLY := Lh (sampS_len HS.o)
     have HXM := Lh (show ys.length + 1 ≤ maxLen by have := HLY.o; unfold maxLen; omega)
     have HXB := Lh (show (ys.length + 1) * 8 ≤ 140737488355328 by have := HLY.o; omega)
     unfold drawV
     go_wp2_with (at_builtin; (refine wpList_append_own _ rfl _ _ 55 rfl w.heap.size 24 i0 (.int .u64 0) 1 8 Tryd.underlying55 hi hz0 hz1 hz2 rfl (by decide) _ ys.length (ys.map (Value.int .u64)) rfl (HO.o.keep ((Below.refl _ _).alloc (Nat.le_refl _) _)) _ 1 1 [.int .u64 x] rfl rfl (fun j u hj => by cases j with | zero => simp at hj; subst hj; simp [go_sem] | succ j => simp at hj) (fun u hu => by simp at hu; subst hu; rfl) HXM.o HXB.o (by simp; omega) ?_); intro v4 w4 hown hgr hnil; have HO4 := Lh (show OwnU8 w4 w.heap.size v4 (ys ++ [x]) by unfold OwnU8; rw [List.length_append, List.map_append]; exact hown); have HB4 := Lh (Below.rowT (n := w.heap.size) hgr (fun k hk => (World.ownsRow.lt HO.o k hk).1) (by simp; omega)); clear hown hgr hnil)
     go_roundw
     case rel => exact ⟨j + 1, ys ++ [x], by omega, by go_num, HN.o, HO4.o, (HBW.o.alloc HBW.o.size _).trans HB4.o⟩
     case measure => simp [intOf]; omega
set_option maxHeartbeats 8000000 in
theorem nonces_any {P Q G : Int} {seed : List Int} {many : Nat} (w : World) (hT : Tabs w) (hsl : seed.length = 32) (hby : ByteL seed) (hq0 : 0 < Q) (hq1 : Q ≤ 4294967296) (hm : many ≤ 4096) :
    Calls Tryd.prog 47 #[.agg #[.int .u64 P, .int .u64 Q, .int .u64 G], .agg (valV .u8 seed), .int .i64 (many : Int)] w (RetSm w (sampS seed Q many)) := by
  have HT := Lh hT
  have HSL := Lh hsl
  have HBY := Lh hby
  have F_g := Lh (show Cl ((w.alloc (.cells #[.int .u64 P, .int .u64 Q, .int .u64 G] 49)).alloc (.cells (valV .u8 seed) 37)) w.heap.size [.int .u64 P, .int .u64 Q, .int .u64 G] from (Cl.at w [.int .u64 P, .int .u64 Q, .int .u64 G] _ w.heap.size rfl).alloc _)
  have F_a := Lh (Arr.new .u8 (w.alloc (.cells #[.int .u64 P, .int .u64 Q, .int .u64 G] 49)) seed 37 (w.heap.size + 1) (by simp))
  have HBW := Lh (show Below w.heap.size w ((w.alloc (.cells #[.int .u64 P, .int .u64 Q, .int .u64 G] 49)).alloc (.cells (valV .u8 seed) 37)) from ((Below.refl _ _).alloc (Nat.le_refl _) _).alloc (by simp) _)
  have c1 := F_g.o.c 1 _ rfl
  clear hT hsl hby
  go_enter Tryd.func47, Tryd.ntmps47
  go_wp2_with (refine wpL_loadArr rfl 37 .u8 (.tmp 4) (w.heap.size + 1) seed 32 5 rfl rfl Tryd.underlying37 (by rw [HSL.o]; kernel_rfl) F_a.o ?_; simp only [Act.put, sZ])
  refine (sample_any _ (HT.o.below HBW.o) HSL.o HBY.o hq0 hq1 hm).mono ?_
  rintro e w5 ⟨hb5, hr⟩
  have HB5 := Lh (HBW.o.trans (hb5.mono HBW.o.size))
  obtain ⟨o, ho⟩ : ∃ o, sampS seed Q many = o := ⟨_, rfl⟩
  rw [ho] at hr
  have HO := Lh ho
  clear ho
  cases o with
  | none =>
   subst hr
   clear hb5 c1
   go_wp2_with fail
   go_ret2
   exact ⟨HB5.o, by rw [HO.o]; rfl⟩
  | some xs =>
   obtain ⟨v, rfl, hv⟩ := hr
   have HV := Lh (show OwnU8 w5 w.heap.size v xs from owns_mono hv HBW.o.size)
   clear hb5 c1 hv
   go_wp2_with fail
   go_ret2
   exact ⟨HB5.o, by rw [HO.o]; exact ⟨_, rfl, HV.o⟩⟩
end Go.Proofs.YtlbldpkgnonbpaaDoor
