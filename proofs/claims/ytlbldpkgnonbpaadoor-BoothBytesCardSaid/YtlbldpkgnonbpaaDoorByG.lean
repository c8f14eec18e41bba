/- The reader's bit. -/
import Derived.Test.YtlbldpkgnonbpaaDoorByF
import Derived.Test.YtlbldpkgnonbpaaDoorBitP
import Derived.Deep.Cut
namespace Go.Proofs.YtlbldpkgnonbpaaDoor
open Go Go.RowKit Num Sha
set_option linter.unusedSimpArgs false
set_option linter.unusedVariables false

/-- Only block r of the old ones may differ. -/
abbrev Gro (r : Nat) (w w' : World) : Prop := w.grownBy w' (some r)
theorem Gro.refl (r : Nat) (w : World) : Gro r w w := ⟨rfl, rfl, rfl, Nat.le_refl _, fun _ _ _ => rfl⟩
theorem Gro.trans {r : Nat} {a b c : World} (h : Gro r a b) (k : Gro r b c) : Gro r a c :=
  ⟨k.os.trans h.os, k.tape.trans h.tape, k.output.trans h.output, Nat.le_trans h.size k.size, fun i hi hn => (k.block i (Nat.lt_of_lt_of_le hi h.size) hn).trans (h.block i hi hn)⟩
theorem Gro.below {r : Nat} {a b c : World} (h : Gro r a b) (k : Below b.heap.size b c) : Gro r a c :=
  ⟨k.os.trans h.os, k.tape.trans h.tape, k.output.trans h.output, Nat.le_trans h.size k.size, fun i hi hn => (k.block i (Nat.lt_of_lt_of_le hi h.size)).trans (h.block i hi hn)⟩
theorem Gro.drew {r : Nat} {a b : World} (h : Gro r a b) : Gro r a b.drew := ⟨h.os, h.tape, h.output, h.size, h.block⟩
theorem Gro.alloc {r : Nat} {a b : World} (h : Gro r a b) (o : Obj) : Gro r a (b.alloc o) := h.below ((Below.refl _ _).alloc (Nat.le_refl _) o)
theorem Gro.set {r : Nat} {a b : World} (h : Gro r a b) (p : Addr) (hp : p.block = r ∨ a.heap.size ≤ p.block) (v : Value) : Gro r a (b.setCell p v) :=
  ⟨h.os, h.tape, h.output, by simpa using h.size, fun i hi hn => by
    rw [Below.heap_setCell b p v i (by rcases hp with hp | hp; · intro e; apply hn; rw [e, hp]
                                       · omega)]
    exact h.block i hi hn⟩
theorem Gro.blw {r n : Nat} {a b : World} (h : Gro r a b) (hn : n ≤ r) (hz : n ≤ a.heap.size) : Below n a b :=
  ⟨h.os, h.tape, h.output, h.size, fun k hk => h.block k (by omega) (by intro e; injection e with e; omega)⟩
theorem Arr.gro {k : IntKind} {w w' : World} {b r : Nat} {xs : List Int} (h : Arr k w b xs) (g : Gro r w w') (hn : b ≠ r) : Arr k w' b xs :=
  ⟨fun i hi => (World.cell?_of_block (w := w) (a := ⟨b, i, none⟩) (g.block b h.lt (by simpa using hn))).trans (h.c i hi),
   fun i => (World.frozen?_of_block (w := w) (a := ⟨b, i, none⟩) (g.block b h.lt (by simpa using hn))).trans (h.f i), Nat.lt_of_lt_of_le h.lt g.size⟩
/-- The reader's box, with the bytes xs left. -/
def Rd (w0 W : World) (Br : Nat) (xs : List Int) : Prop := ∃ a c, RBox W Br (.slice a xs.length c) ∧ ShI .u8 w0 a xs.length xs ∧ xs.length ≤ c
theorem Rd.keepN {w0 W W' : World} {Br n : Nat} {xs : List Int} (h : Rd w0 W Br xs) (hb : Below n W W') (hn : Br < n) : Rd w0 W' Br xs := by
  obtain ⟨a, c, h1, h2, h3⟩ := h
  exact ⟨a, c, h1.keepN hb hn, h2, h3⟩
theorem Rd.lt {w0 W : World} {Br : Nat} {xs : List Int} (h : Rd w0 W Br xs) : Br < W.heap.size := by
  obtain ⟨a, c, h1, h2, h3⟩ := h
  exact h1.lt
theorem Rd.keep {w0 W W' : World} {Br : Nat} {xs : List Int} (h : Rd w0 W Br xs) (hb : Below W.heap.size W W') : Rd w0 W' Br xs := h.keepN hb h.lt
theorem Rd.drew {w0 W : World} {Br : Nat} {xs : List Int} (h : Rd w0 W Br xs) : Rd w0 W.drew Br xs := h.keep (Below.refl _ _).drew
theorem Rd.alloc {w0 W : World} {Br : Nat} {xs : List Int} (h : Rd w0 W Br xs) (o : Obj) : Rd w0 (W.alloc o) Br xs := h.keep ((Below.refl _ _).alloc (Nat.le_refl _) o)
theorem Rd.set {w0 W : World} {Br : Nat} {xs : List Int} (h : Rd w0 W Br xs) (p : Addr) (u : Value) (hp : p.block ≠ Br) : Rd w0 (W.setCell p u) Br xs := by
  obtain ⟨a, c, h1, h2, h3⟩ := h
  exact ⟨a, c, h1.other p u hp, h2, h3⟩
theorem number_rd {w0 : World} {Br : Nat} {xs : List Int} (w : World) (hb : Below w0.heap.size w0 w) (hB : w0.heap.size ≤ Br) (hr : Rd w0 w Br xs) (hu : Bytes xs) (h8 : 8 ≤ xs.length) :
    Calls Tryd.prog 34 #[.pointer (some ⟨Br, 0, none⟩)] w fun e w' => e = .returned (.int .u64 (beN (xs.take 8))) ∧ Rd w0 w' Br (xs.drop 8) ∧ Gro Br w w' ∧ w'.heap.size = w.heap.size := by
  obtain ⟨a, c, h1, h2, h3⟩ := hr
  refine (number_any w hb hB h1 h2 hu h8 h3).mono ?_
  rintro e w' ⟨rfl, a', rfl, h4⟩
  refine ⟨rfl, ⟨a', c - 8, ?_, ?_, ?_⟩, (Gro.refl _ _).set _ (.inl rfl) _, by simp⟩
  · rw [List.length_drop]; exact h1.set _
  · rw [List.length_drop]; exact h4
  · rw [List.length_drop]; omega
theorem Bytes.drop {xs : List Int} (h : Bytes xs) (k : Nat) : Bytes (xs.drop k) := fun x hx => h x (List.mem_of_mem_drop hx)
/-- The j-th number of eight bytes. -/
def num8 (xs : List Int) (j : Nat) : Int := beN ((xs.drop (8 * j)).take 8)
theorem num8_u {xs : List Int} (h : Bytes xs) (j : Nat) : U64 (num8 xs j) := by
  by_cases hl : 8 ≤ (xs.drop (8 * j)).length
  · have := beN_bound (h.drop (8 * j)) 8 hl
    constructor
    · exact this.1
    · have := this.2; unfold num8; omega
  · have e : (xs.drop (8 * j)).take 8 = (xs.drop (8 * j)).take ((xs.drop (8 * j)).length) := by rw [List.take_of_length_le (by omega), List.take_length]
    have := beN_bound (h.drop (8 * j)) _ (Nat.le_refl _)
    rw [← e] at this
    have h2 := pow256_le (xs.drop (8 * j)).length (by omega)
    constructor
    · exact this.1
    · have := this.2; unfold num8; omega
def bitN (xs : List Int) : Bt := ⟨num8 xs 0, num8 xs 2, num8 xs 1, num8 xs 3, num8 xs 4, num8 xs 5, num8 xs 6, num8 xs 7⟩
def Bt.l (z : Bt) : List Int := [z.r0, z.r1, z.s0, z.s1, z.c0, z.c1, z.z0, z.z1]
/-- A block of two cells. -/
structure TwoB (W : World) (B : Nat) (v1 v2 : Value) : Prop where
  c0 : W.cell? ⟨B, 0, none⟩ = some v1
  c1 : W.cell? ⟨B, 1, none⟩ = some v2
  lt : B < W.heap.size
theorem TwoB.at (W : World) (v1 v2 : Value) (T : TypeId) (b : Nat) (hb : b = W.heap.size) : TwoB (W.alloc (.cells #[v1, v2] T)) b v1 v2 := by
  subst hb
  refine ⟨?_, ?_, by simp⟩
  · rw [World.cell?_alloc_new]; rfl
  · rw [World.cell?_alloc_new]; rfl
theorem TwoB.keep {W W' : World} {B : Nat} {v1 v2 : Value} (h : TwoB W B v1 v2) (hb : Below W.heap.size W W') : TwoB W' B v1 v2 :=
  ⟨(hb.cell (p := ⟨B, 0, none⟩) h.lt).trans h.c0, (hb.cell (p := ⟨B, 1, none⟩) h.lt).trans h.c1, Nat.lt_of_lt_of_le h.lt hb.size⟩
theorem TwoB.drew {W : World} {B : Nat} {v1 v2 : Value} (h : TwoB W B v1 v2) : TwoB W.drew B v1 v2 := h.keep (Below.refl _ _).drew
theorem TwoB.gro {W W' : World} {B r : Nat} {v1 v2 : Value} (h : TwoB W B v1 v2) (g : Gro r W W') (hn : B ≠ r) : TwoB W' B v1 v2 :=
  ⟨(World.cell?_of_block (w := W) (a := ⟨B, 0, none⟩) (g.block B h.lt (by simpa using hn))).trans h.c0, (World.cell?_of_block (w := W) (a := ⟨B, 1, none⟩) (g.block B h.lt (by simpa using hn))).trans h.c1, Nat.lt_of_lt_of_le h.lt g.size⟩
theorem TwoB.set {W : World} {B : Nat} {v1 v2 : Value} (h : TwoB W B v1 v2) (p : Addr) (u : Value) (hp : p.block ≠ B) : TwoB (W.setCell p u) B v1 v2 :=
  ⟨by rw [World.cell?_setCell_other _ _ _ _ (show p ≠ ⟨B, 0, none⟩ from fun e => hp (by rw [e]))]; exact h.c0, by rw [World.cell?_setCell_other _ _ _ _ (show p ≠ ⟨B, 1, none⟩ from fun e => hp (by rw [e]))]; exact h.c1, by simpa using h.lt⟩
theorem number_at {w0 : World} {Br : Nat} {xs : List Int} (j : Nat) (w : World) (hb : Below w0.heap.size w0 w) (hB : w0.heap.size ≤ Br) (hr : Rd w0 w Br (xs.drop (8 * j))) (hu : Bytes xs) (h8 : 8 * j + 8 ≤ xs.length) :
    Calls Tryd.prog 34 #[.pointer (some ⟨Br, 0, none⟩)] w fun e w' => e = .returned (.int .u64 (num8 xs j)) ∧ Rd w0 w' Br (xs.drop (8 * (j + 1))) ∧ Gro Br w w' ∧ w'.heap.size = w.heap.size := by
  refine (number_rd w hb hB hr (hu.drop _) (by rw [List.length_drop]; omega)).mono ?_
  rintro e w' ⟨rfl, h1, h2, h3⟩
  refine ⟨rfl, ?_, h2, h3⟩
  rw [show 8 * (j + 1) = 8 * j + 8 by omega, ← List.drop_drop]; exact h1

set_option maxRecDepth 100000 in
set_option maxHeartbeats 8000000 in
theorem bit_any {w0 : World} {Br : Nat} {xs : List Int} (w : World) (hb : Below w0.heap.size w0 w) (hB : w0.heap.size ≤ Br) (hr : Rd w0 w Br xs) (hu : Bytes xs) (h8 : 64 ≤ xs.length) :
    Calls Tryd.prog 35 #[.pointer (some ⟨Br, 0, none⟩)] w fun e w' => e = .returned (.agg #[.int .u64 (num8 xs 0), .int .u64 (num8 xs 2), .int .u64 (num8 xs 1), .int .u64 (num8 xs 3), .int .u64 (num8 xs 4), .int .u64 (num8 xs 5), .int .u64 (num8 xs 6), .int .u64 (num8 xs 7)]) ∧ Rd w0 w' Br (xs.drop (8 * 8)) ∧ Gro Br w w' := by
  have HW := Lib.hid hb
  have HB := Lib.hid hB
  have HU := Lib.hid hu
  have HL := Lib.hid h8
  have hlt := hr.lt
  have HN := Lib.hid (show w.heap.size ≠ Br by omega)
  have HZ := Lib.hid (show w0.heap.size ≤ w.heap.size from hb.size)
  have F_r := Lib.hid (show Arr .u64 (w.alloc (.cells #[.int .u64 0, .int .u64 0, .int .u64 0, .int .u64 0, .int .u64 0, .int .u64 0, .int .u64 0, .int .u64 0] 27)) w.heap.size [0, 0, 0, 0, 0, 0, 0, 0] from Arr.new .u64 w [0, 0, 0, 0, 0, 0, 0, 0] _ _ rfl)
  have HR := Lib.hid (hr.alloc (.cells #[.int .u64 0, .int .u64 0, .int .u64 0, .int .u64 0, .int .u64 0, .int .u64 0, .int .u64 0, .int .u64 0] 27))
  have HG := Lib.hid ((Gro.refl Br w).alloc (.cells #[.int .u64 0, .int .u64 0, .int .u64 0, .int .u64 0, .int .u64 0, .int .u64 0, .int .u64 0, .int .u64 0] 27))
  clear hb hB hu h8 hr
  go_enter Tryd.func35, Tryd.ntmps35
  go_wp2_with fail
  go_loopw [3, 6] (fun _ c6 wr => Hid (Gro Br w wr) ∧ w.heap.size < wr.heap.size ∧ ((c6 = .int .i64 0 ∧ Hid (Arr .u64 wr w.heap.size [0, 0, 0, 0, 0, 0, 0, 0]) ∧ Hid (Rd w0 wr Br (xs.drop (8 * 0)))) ∨ (c6 = .int .i64 1 ∧ Hid (Arr .u64 wr w.heap.size [num8 xs 0, 0, num8 xs 1, 0, 0, 0, 0, 0]) ∧ Hid (Rd w0 wr Br (xs.drop (8 * 2)))) ∨ (c6 = .int .i64 2 ∧ Hid (Arr .u64 wr w.heap.size [num8 xs 0, num8 xs 2, num8 xs 1, num8 xs 3, 0, 0, 0, 0]) ∧ Hid (Rd w0 wr Br (xs.drop (8 * 4)))))) (fun _ c6 _ => 2 - (intOf c6).toNat)
  case atStart => exact ⟨HG.out, by simp, .inl ⟨rfl, F_r.out, HR.out⟩⟩
  case round =>
    clear F_r HR HG
    obtain ⟨HG, hz, ⟨rfl, F_r, HR⟩ | ⟨rfl, F_r, HR⟩ | ⟨rfl, F_r, HR⟩⟩ := hrel
    · obtain ⟨q0, q1, q2, q3, q4, q5, q6, q7, q8, q9, q10, q11, q12, q13, q14, q15⟩ := F_r.out.k8
      go_wp2_with fail
      clear q0 q1 q2 q3 q4 q5 q6 q7 q8 q9 q10 q11 q12 q13 q14 q15
      refine (number_at 0 _ (HW.out.trans (HG.out.blw HB.out HZ.out)) HB.out HR.out HU.out (by have := HL.out; omega)).mono ?_
      rintro e w5 ⟨rfl, hr5, hg5, hz5⟩
      replace HR := Lib.hid hr5
      replace F_r := Lib.hid (F_r.out.gro hg5 HN.out)
      replace HG := Lib.hid (HG.out.trans hg5)
      clear hr5 hg5
      obtain ⟨q0, q1, q2, q3, q4, q5, q6, q7, q8, q9, q10, q11, q12, q13, q14, q15⟩ := F_r.out.k8
      go_wp2_with fail
      clear q0 q1 q2 q3 q4 q5 q6 q7 q8 q9 q10 q11 q12 q13 q14 q15
      refine (number_at 1 _ (HW.out.trans ((HG.out.set ⟨w.heap.size, 0, none⟩ (.inr (Nat.le_refl _)) _).blw HB.out HZ.out)) HB.out (HR.out.set ⟨w.heap.size, 0, none⟩ _ HN.out) HU.out (by have := HL.out; omega)).mono ?_
      rintro e w6 ⟨rfl, hr6, hg6, hz6⟩
      replace HR := Lib.hid hr6
      replace F_r := Lib.hid ((F_r.out.set (ys := [num8 xs 0, 0, 0, 0, 0, 0, 0, 0]) 0 (by simp) rfl).gro hg6 HN.out)
      replace HG := Lib.hid ((HG.out.set ⟨w.heap.size, 0, none⟩ (.inr (Nat.le_refl _)) _).trans hg6)
      clear hr6 hg6
      obtain ⟨q0, q1, q2, q3, q4, q5, q6, q7, q8, q9, q10, q11, q12, q13, q14, q15⟩ := F_r.out.k8
      go_wp2_with fail
      clear q0 q1 q2 q3 q4 q5 q6 q7 q8 q9 q10 q11 q12 q13 q14 q15
      go_roundw
      case rel => exact ⟨HG.out.set _ (.inr (Nat.le_refl _)) _, by simp at hz6 ⊢; omega, .inr (.inl ⟨by go_num, F_r.out.set (ys := [num8 xs 0, 0, num8 xs 1, 0, 0, 0, 0, 0]) 2 (by simp) rfl, HR.out.set _ _ HN.out⟩)⟩
      case measure => simp [intOf] <;> omega
    · obtain ⟨q0, q1, q2, q3, q4, q5, q6, q7, q8, q9, q10, q11, q12, q13, q14, q15⟩ := F_r.out.k8
      go_wp2_with fail
      clear q0 q1 q2 q3 q4 q5 q6 q7 q8 q9 q10 q11 q12 q13 q14 q15
      refine (number_at 2 _ (HW.out.trans (HG.out.blw HB.out HZ.out)) HB.out HR.out HU.out (by have := HL.out; omega)).mono ?_
      rintro e w5 ⟨rfl, hr5, hg5, hz5⟩
      replace HR := Lib.hid hr5
      replace F_r := Lib.hid (F_r.out.gro hg5 HN.out)
      replace HG := Lib.hid (HG.out.trans hg5)
      clear hr5 hg5
      obtain ⟨q0, q1, q2, q3, q4, q5, q6, q7, q8, q9, q10, q11, q12, q13, q14, q15⟩ := F_r.out.k8
      go_wp2_with fail
      clear q0 q1 q2 q3 q4 q5 q6 q7 q8 q9 q10 q11 q12 q13 q14 q15
      refine (number_at 3 _ (HW.out.trans ((HG.out.set ⟨w.heap.size, 1, none⟩ (.inr (Nat.le_refl _)) _).blw HB.out HZ.out)) HB.out (HR.out.set ⟨w.heap.size, 1, none⟩ _ HN.out) HU.out (by have := HL.out; omega)).mono ?_
      rintro e w6 ⟨rfl, hr6, hg6, hz6⟩
      replace HR := Lib.hid hr6
      replace F_r := Lib.hid ((F_r.out.set (ys := [num8 xs 0, num8 xs 2, num8 xs 1, 0, 0, 0, 0, 0]) 1 (by simp) rfl).gro hg6 HN.out)
      replace HG := Lib.hid ((HG.out.set ⟨w.heap.size, 1, none⟩ (.inr (Nat.le_refl _)) _).trans hg6)
      clear hr6 hg6
      obtain ⟨q0, q1, q2, q3, q4, q5, q6, q7, q8, q9, q10, q11, q12, q13, q14, q15⟩ := F_r.out.k8
      go_wp2_with fail
      clear q0 q1 q2 q3 q4 q5 q6 q7 q8 q9 q10 q11 q12 q13 q14 q15
      go_roundw
      case rel => exact ⟨HG.out.set _ (.inr (Nat.le_refl _)) _, by simp at hz6 ⊢; omega, .inr (.inr ⟨by go_num, F_r.out.set (ys := [num8 xs 0, num8 xs 2, num8 xs 1, num8 xs 3, 0, 0, 0, 0]) 3 (by simp) rfl, HR.out.set _ _ HN.out⟩)⟩
      case measure => simp [intOf] <;> omega
    · obtain ⟨q0, q1, q2, q3, q4, q5, q6, q7, q8, q9, q10, q11, q12, q13, q14, q15⟩ := F_r.out.k8
      go_wp2_with fail
      clear q0 q1 q2 q3 q4 q5 q6 q7 q8 q9 q10 q11 q12 q13 q14 q15
      obtain ⟨wb, rfl⟩ : ∃ wb : World, wb = wr := ⟨_, rfl⟩
      have HNB := Lib.hid (show wb.heap.size ≠ Br by omega)
      have HNC := Lib.hid (show w.heap.size ≠ wb.heap.size by omega)
      go_loopw [5, 24] (fun _ c24 wr => Hid (Gro Br w wr) ∧ wb.heap.size < wr.heap.size ∧ Hid (TwoB wr wb.heap.size (.pointer (some ⟨w.heap.size, 4, none⟩)) (.pointer (some ⟨w.heap.size, 6, none⟩))) ∧ ((c24 = .int .i64 0 ∧ Hid (Arr .u64 wr w.heap.size [num8 xs 0, num8 xs 2, num8 xs 1, num8 xs 3, 0, 0, 0, 0]) ∧ Hid (Rd w0 wr Br (xs.drop (8 * 4)))) ∨ (c24 = .int .i64 1 ∧ Hid (Arr .u64 wr w.heap.size [num8 xs 0, num8 xs 2, num8 xs 1, num8 xs 3, num8 xs 4, num8 xs 5, 0, 0]) ∧ Hid (Rd w0 wr Br (xs.drop (8 * 6)))) ∨ (c24 = .int .i64 2 ∧ Hid (Arr .u64 wr w.heap.size [num8 xs 0, num8 xs 2, num8 xs 1, num8 xs 3, num8 xs 4, num8 xs 5, num8 xs 6, num8 xs 7]) ∧ Hid (Rd w0 wr Br (xs.drop (8 * 8)))))) (fun _ c24 _ => 2 - (intOf c24).toNat)
      case atStart => exact ⟨HG.out.alloc _, by simp, TwoB.at _ _ _ _ _ rfl, .inl ⟨rfl, F_r.out.alloc _, HR.out.alloc _⟩⟩
      case round =>
        clear F_r HR HG
        obtain ⟨HG, hz, HT, ⟨rfl, F_r, HR⟩ | ⟨rfl, F_r, HR⟩ | ⟨rfl, F_r, HR⟩⟩ := hrel
        · obtain ⟨t0, t1, tl⟩ := id HT.out
          go_wp2_with fail
          clear t0 t1 tl
          go_cut [24] from 24 to 38 (fun c24 wx => c24 = .int .i64 0 ∧ Hid (Gro Br w wx) ∧ wb.heap.size < wx.heap.size ∧ Hid (TwoB wx wb.heap.size (.pointer (some ⟨w.heap.size, 4, none⟩)) (.pointer (some ⟨w.heap.size, 6, none⟩))) ∧ Hid (Arr .u64 wx w.heap.size [num8 xs 0, num8 xs 2, num8 xs 1, num8 xs 3, num8 xs 4, 0, 0, 0]) ∧ Hid (Rd w0 wx Br (xs.drop (8 * 5))))
          case first =>
            go_region_law (first
              | (go_simp
                 go_at_call 34
                 refine (number_at 4 _ (HW.out.trans (HG.out.drew.blw HB.out HZ.out)) HB.out HR.out.drew HU.out (by have := HL.out; omega)).mono ?_
                 rintro e w5 ⟨rfl, hr5, hg5, hz5⟩
                 have HR5 := Lib.hid hr5
                 have F_r5 := Lib.hid (F_r.out.drew.gro hg5 HN.out)
                 have HT5 := Lib.hid (HT.out.drew.gro hg5 HNB.out)
                 have HG5 := Lib.hid (HG.out.drew.trans hg5)
                 have hz5' := hz5
                 simp only [World.size_drew] at hz5'
                 obtain ⟨q0, q1, q2, q3, q4, q5, q6, q7, q8, q9, q10, q11, q12, q13, q14, q15⟩ := F_r5.out.k8
                 clear hr5 hg5 hz5))
            all_goals (go_wp2_with fail; go_meet)
            all_goals exact ⟨rfl, HG5.out.set _ (.inr (Nat.le_refl _)) _, (by simp; omega), HT5.out.set _ _ HNC.out, F_r5.out.set 4 (by simp) rfl, HR5.out.set _ _ HN.out⟩
          case rest =>
            clear F_r HR HT HG hz
            obtain ⟨rfl, HG, hz, HT, F_r, HR⟩ := hcut
            obtain ⟨wr, rfl⟩ : ∃ wr : World, wr = wc := ⟨_, rfl⟩
            go_wp2_with fail
            go_region_law (first
              | (go_simp
                 go_at_call 34
                 refine (number_at 5 _ (HW.out.trans (HG.out.drew.blw HB.out HZ.out)) HB.out HR.out.drew HU.out (by have := HL.out; omega)).mono ?_
                 rintro e w5 ⟨rfl, hr5, hg5, hz5⟩
                 have HR5 := Lib.hid hr5
                 have F_r5 := Lib.hid (F_r.out.drew.gro hg5 HN.out)
                 have HT5 := Lib.hid (HT.out.drew.gro hg5 HNB.out)
                 have HG5 := Lib.hid (HG.out.drew.trans hg5)
                 have hz5' := hz5
                 simp only [World.size_drew] at hz5'
                 obtain ⟨q0, q1, q2, q3, q4, q5, q6, q7, q8, q9, q10, q11, q12, q13, q14, q15⟩ := F_r5.out.k8
                 clear hr5 hg5 hz5))
            all_goals
              go_wp2_with fail
              go_roundw
              case rel => exact ⟨HG5.out.set _ (.inr (Nat.le_refl _)) _, (by simp; omega), HT5.out.set _ _ HNC.out, .inr (.inl ⟨by go_num, F_r5.out.set 5 (by simp) rfl, HR5.out.set _ _ HN.out⟩)⟩
              case measure => simp [intOf] <;> omega
        · obtain ⟨t0, t1, tl⟩ := id HT.out
          go_wp2_with fail
          clear t0 t1 tl
          go_cut [24] from 24 to 38 (fun c24 wx => c24 = .int .i64 1 ∧ Hid (Gro Br w wx) ∧ wb.heap.size < wx.heap.size ∧ Hid (TwoB wx wb.heap.size (.pointer (some ⟨w.heap.size, 4, none⟩)) (.pointer (some ⟨w.heap.size, 6, none⟩))) ∧ Hid (Arr .u64 wx w.heap.size [num8 xs 0, num8 xs 2, num8 xs 1, num8 xs 3, num8 xs 4, num8 xs 5, num8 xs 6, 0]) ∧ Hid (Rd w0 wx Br (xs.drop (8 * 7))))
          case first =>
            go_region_law (first
              | (go_simp
                 go_at_call 34
                 refine (number_at 6 _ (HW.out.trans (HG.out.drew.blw HB.out HZ.out)) HB.out HR.out.drew HU.out (by have := HL.out; omega)).mono ?_
                 rintro e w5 ⟨rfl, hr5, hg5, hz5⟩
                 have HR5 := Lib.hid hr5
                 have F_r5 := Lib.hid (F_r.out.drew.gro hg5 HN.out)
                 have HT5 := Lib.hid (HT.out.drew.gro hg5 HNB.out)
                 have HG5 := Lib.hid (HG.out.drew.trans hg5)
                 have hz5' := hz5
                 simp only [World.size_drew] at hz5'
                 obtain ⟨q0, q1, q2, q3, q4, q5, q6, q7, q8, q9, q10, q11, q12, q13, q14, q15⟩ := F_r5.out.k8
                 clear hr5 hg5 hz5))
            all_goals (go_wp2_with fail; go_meet)
            all_goals exact ⟨rfl, HG5.out.set _ (.inr (Nat.le_refl _)) _, (by simp; omega), HT5.out.set _ _ HNC.out, F_r5.out.set 6 (by simp) rfl, HR5.out.set _ _ HN.out⟩
          case rest =>
            clear F_r HR HT HG hz
            obtain ⟨rfl, HG, hz, HT, F_r, HR⟩ := hcut
            obtain ⟨wr, rfl⟩ : ∃ wr : World, wr = wc := ⟨_, rfl⟩
            go_wp2_with fail
            go_region_law (first
              | (go_simp
                 go_at_call 34
                 refine (number_at 7 _ (HW.out.trans (HG.out.drew.blw HB.out HZ.out)) HB.out HR.out.drew HU.out (by have := HL.out; omega)).mono ?_
                 rintro e w5 ⟨rfl, hr5, hg5, hz5⟩
                 have HR5 := Lib.hid hr5
                 have F_r5 := Lib.hid (F_r.out.drew.gro hg5 HN.out)
                 have HT5 := Lib.hid (HT.out.drew.gro hg5 HNB.out)
                 have HG5 := Lib.hid (HG.out.drew.trans hg5)
                 have hz5' := hz5
                 simp only [World.size_drew] at hz5'
                 obtain ⟨q0, q1, q2, q3, q4, q5, q6, q7, q8, q9, q10, q11, q12, q13, q14, q15⟩ := F_r5.out.k8
                 clear hr5 hg5 hz5))
            all_goals
              go_wp2_with fail
              go_roundw
              case rel => exact ⟨HG5.out.set _ (.inr (Nat.le_refl _)) _, (by simp; omega), HT5.out.set _ _ HNC.out, .inr (.inr ⟨by go_num, F_r5.out.set 7 (by simp) rfl, HR5.out.set _ _ HN.out⟩)⟩
              case measure => simp [intOf] <;> omega
        · obtain ⟨q0, q1, q2, q3, q4, q5, q6, q7, q8, q9, q10, q11, q12, q13, q14, q15⟩ := F_r.out.k8
          go_wp2_with fail
          clear q0 q1 q2 q3 q4 q5 q6 q7 q8 q9 q10 q11 q12 q13 q14 q15
          exact bodyPost_ret (res_bit1 rfl (F_r.out.st8 (num8 xs 0) (num8 xs 2) (num8 xs 1) (num8 xs 3) (num8 xs 4) (num8 xs 5) (num8 xs 6) (num8 xs 7)) _ rfl) rfl ⟨rfl, (((((((HR.out.set _ _ HN.out).set _ _ HN.out).set _ _ HN.out).set _ _ HN.out).set _ _ HN.out).set _ _ HN.out).set _ _ HN.out).set _ _ HN.out, (((((((HG.out.set _ (.inr (Nat.le_refl _)) _).set _ (.inr (Nat.le_refl _)) _).set _ (.inr (Nat.le_refl _)) _).set _ (.inr (Nat.le_refl _)) _).set _ (.inr (Nat.le_refl _)) _).set _ (.inr (Nat.le_refl _)) _).set _ (.inr (Nat.le_refl _)) _).set _ (.inr (Nat.le_refl _)) _⟩
end Go.Proofs.YtlbldpkgnonbpaaDoor
