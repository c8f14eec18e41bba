/- digest.spread: the schedule of a block. -/
import Derived.Test.YtmcpfinnhgbcpaaDoorDigA
import Derived.Test.YtmcpfinnhgbcpaaDoorStage
namespace Go.Proofs.YtmcpfinnhgbcpaaDoor
open Go Go.RowKit Sha
set_option linter.unusedSimpArgs false
set_option linter.unusedVariables false

/-- An array of the call's own: its cells, none frozen. -/
structure Arr (k : IntKind) (w : World) (b : Nat) (xs : List Int) : Prop where
  c : ∀ i, i < xs.length → w.cell? ⟨b, i, none⟩ = some (.int k (xs.getD i 0))
  f : ∀ i, w.frozen? ⟨b, i, none⟩ = false
  lt : b < w.heap.size
theorem Arr.keep {k : IntKind} {w w' : World} {b : Nat} {xs : List Int} (h : Arr k w b xs) (hb : Below w.heap.size w w') : Arr k w' b xs :=
  ⟨fun i hi => (hb.cell (p := ⟨b, i, none⟩) h.lt).trans (h.c i hi), fun i => (hb.frozen (p := ⟨b, i, none⟩) h.lt).trans (h.f i), Nat.lt_of_lt_of_le h.lt hb.size⟩
theorem Arr.alloc {k : IntKind} {w : World} {b : Nat} {xs : List Int} (h : Arr k w b xs) (ob : Obj) : Arr k (w.alloc ob) b xs := h.keep ((Below.refl _ _).alloc (Nat.le_refl _) ob)
theorem Arr.drewN {k : IntKind} {w : World} {b : Nat} {xs : List Int} (h : Arr k w b xs) (n : Nat) : Arr k (w.drewN n) b xs := h.keep (below_drewN (Below.refl _ _) n)
theorem Arr.drew {k : IntKind} {w : World} {b : Nat} {xs : List Int} (h : Arr k w b xs) : Arr k w.drew b xs := h.keep (Below.refl _ _).drew
theorem Arr.far {k : IntKind} {w : World} {b c p : Nat} {xs : List Int} (h : Arr k w b xs) (hn : c ≠ b) (v : Value) : Arr k (w.setCell ⟨c, p, none⟩ v) b xs :=
  ⟨fun i hi => by rw [World.cell?_setCell_other _ _ _ _ (by simp [hn])]; exact h.c i hi, fun i => by rw [World.frozen?_setCell]; exact h.f i, by simpa using h.lt⟩
theorem Arr.set {k : IntKind} {w : World} {b : Nat} {xs ys : List Int} (h : Arr k w b xs) (i : Nat) (hi : i < xs.length) {x : Int} (hy : xs.set i x = ys) : Arr k (w.setCell ⟨b, i, none⟩ (.int k x)) b ys := by
  subst hy
  refine ⟨fun j hj => ?_, fun i => by rw [World.frozen?_setCell]; exact h.f i, by simpa using h.lt⟩
  rw [List.length_set] at hj
  by_cases e : j = i
  · subst e
    rw [World.cell?_setCell_same _ _ _ (h.c j hj)]
    simp [List.getD_eq_getElem?_getD, hi]
  · rw [World.cell?_setCell_other _ _ _ _ (by simp [Ne.symm e]), h.c j hj]
    simp [List.getD_eq_getElem?_getD, List.getElem?_set, Ne.symm e]
theorem Arr.new (k : IntKind) (w : World) (xs : List Int) (t : TypeId) (b : Nat) (hb : b = w.heap.size) : Arr k (w.alloc (.cells (valV k xs) t)) b xs := by
  subst hb
  refine ⟨fun i hi => ?_, fun i => ?_, by simp⟩
  · rw [World.cell?_alloc_new]; exact valV_get k xs i hi
  · simp
theorem zeros_valV (k : IntKind) (n : Nat) : Array.replicate n (Value.int k 0) = valV k (List.replicate n 0) := by
  simp [valV]

/-- The schedule, so far as it is reckoned. -/
def wsL (p : List Int) (q n : Nat) : List Int := (List.range 64).map fun i => if i < n then ws p q i else 0
theorem wsL_len (p : List Int) (q n : Nat) : (wsL p q n).length = 64 := by simp [wsL]
theorem wsL_get (p : List Int) (q n i : Nat) (h : i < n) (hi : i < 64) : (wsL p q n).getD i 0 = ws p q i := by
  simp [wsL, List.getD_eq_getElem?_getD, hi, h]
theorem wsL_get0 (p : List Int) (q n i : Nat) (h : ¬ i < n) : (wsL p q n).getD i 0 = 0 := by
  by_cases hi : i < 64
  · simp [wsL, List.getD_eq_getElem?_getD, hi, h]
  · simp [wsL, List.getD_eq_getElem?_getD, hi]
theorem wsL_zero (p : List Int) (q : Nat) : wsL p q 0 = List.replicate 64 0 := by
  simp only [wsL, Nat.not_lt_zero, if_false]
  rfl
theorem wsL_succ (p : List Int) (q n : Nat) (hn : n < 64) {x : Int} (hx : x = ws p q n) : (wsL p q n).set n x = wsL p q (n + 1) := by
  subst hx
  apply List.ext_getElem
  · simp [wsL]
  · intro i h1 h2
    simp only [List.getElem_set, wsL, List.getElem_map, List.getElem_range]
    by_cases e : n = i
    · subst e; simp
    · have : (i < n + 1) = (i < n) := propext (by omega)
      simp [e, this]
/-- The whole schedule. -/
def wsAll (p : List Int) (q : Nat) : List Int := wsL p q 64
theorem wsAll_len (p : List Int) (q : Nat) : (wsAll p q).length = 64 := wsL_len p q 64
theorem wsAll_get (p : List Int) (q i : Nat) (hi : i < 64) : (wsAll p q).getD i 0 = ws p q i := wsL_get p q 64 i hi hi

/-- A block of bytes in memory. -/
structure Blk (w : World) (s o : Nat) (p : List Int) (q : Nat) : Prop where
  c : ∀ i, i < 64 → w.cell? ⟨s, o + i, none⟩ = some (.int .u8 (p.getD (q + i) 0))
  lt : s < w.heap.size
  b : ∀ i, 0 ≤ p.getD i 0 ∧ p.getD i 0 < 256
theorem Blk.keep {w w' : World} {s o q : Nat} {p : List Int} (h : Blk w s o p q) (hb : Below w.heap.size w w') : Blk w' s o p q :=
  ⟨fun i hi => (hb.cell (p := ⟨s, o + i, none⟩) h.lt).trans (h.c i hi), Nat.lt_of_lt_of_le h.lt hb.size, h.b⟩
theorem Blk.below {w w' : World} {s o q : Nat} {p : List Int} (h : Blk w s o p q) {n : Nat} (hb : Below n w w') (hn : s < n) : Blk w' s o p q :=
  ⟨fun i hi => (hb.cell (p := ⟨s, o + i, none⟩) hn).trans (h.c i hi), Nat.lt_of_lt_of_le h.lt hb.size, h.b⟩

theorem wrap4 (a b c d : Int) : IntKind.u32.wrap (IntKind.u32.wrap (IntKind.u32.wrap (a + b) + c) + d) = M (a + b + c + d) := by simp only [wrapM, M]; omega

set_option maxRecDepth 100000 in
set_option maxHeartbeats 4000000 in
theorem dspread_any {s o m q : Nat} {p : List Int} (w : World) (h : Blk w s o p q) (hm : 64 ≤ m) :
    Calls Tryd.prog 93 #[.slice (some ⟨s, o, none⟩) 64 m] w fun e w' => e = .returned (.agg (valV .u32 (wsAll p q))) ∧ Below w.heap.size w w' := by
  have HS := Lib.hid h
  have hsl := h.lt
  clear h
  go_enter Tryd.func93, Tryd.ntmps93
  have F0 := Lib.hid (show Arr .u32 (w.alloc (.cells (valV .u32 (wsL p q 0)) 118)) w.heap.size (wsL p q 0) from Arr.new _ _ _ _ _ rfl)
  rw [wsL_zero] at F0
  have B0 := Lib.hid (show Below w.heap.size w (w.alloc (.cells (valV .u32 (List.replicate 64 0)) 118)) from (Below.refl _ _).alloc (Nat.le_refl _) _)
  have H0 := Lib.hid (show w.heap.size < (w.alloc (.cells (valV .u32 (List.replicate 64 0)) 118)).heap.size by simp)
  go_wp2_with fail
  go_loopw [7] (fun c7 wr => ∃ k : Nat, k ≤ 16 ∧ c7 = .int .i64 k ∧ Hid (Arr .u32 wr w.heap.size (wsL p q k)) ∧ Hid (Below w.heap.size w wr)) (fun c7 _ => 16 - (intOf c7).toNat)
  case atStart => exact ⟨0, by omega, rfl, by rw [wsL_zero]; exact F0.out, B0.out⟩
  case round =>
    clear F0 B0 H0
    obtain ⟨k, hk, rfl, F, HB⟩ := hrel
    by_cases hlt : k < 16
    case pos =>
      have hd : decide ((k : Int) < 16) = true := by simp; omega
      have k0 : (0 : Int) ≤ (k : Int) := by omega
      have hw4 : IntKind.i64.wrap (4 * (k : Int)) = 4 * (k : Int) := IntWalk.i64_in _ (by omega)
      have e4 : (4 * (k : Int)).toNat = 4 * k := by omega
      have p4 : (0 : Int) ≤ 4 * (k : Int) := by omega
      have l4 : 4 * (k : Int) ≤ 64 := by omega
      have l4n : 4 * k ≤ 64 := by omega
      have m4 : ¬ 4 * k = m := by omega
      have m5 : 4 * k < m := by omega
      have HBk := Lib.hid (HS.out.below HB.out hsl)
      have c0 := HBk.out.c (4 * k) (by omega)
      have c1 := HBk.out.c (4 * k + 1) (by omega)
      have c2 := HBk.out.c (4 * k + 2) (by omega)
      have c3 := HBk.out.c (4 * k + 3) (by omega)
      have fk := F.out.c k (by rw [wsL_len]; omega)
      rw [wsL_get0 _ _ _ _ (by omega)] at fk
      have fz := F.out.f k
      have HC := Lib.hid (And.intro c0 (And.intro c1 (And.intro c2 c3)))
      clear c0 c1 c2 c3
      go_wp2_with fail
      refine (dword_any (v := ws p q k) _ (by omega) (HS.out.b _).1 (HS.out.b _).2 (HS.out.b _).1 (HS.out.b _).2 (HS.out.b _).1 (HS.out.b _).2 (HS.out.b _).1 (HS.out.b _).2 HC.out.1
        (by rw [Nat.add_assoc]; exact HC.out.2.1) (by rw [Nat.add_assoc]; exact HC.out.2.2.1) (by rw [Nat.add_assoc]; exact HC.out.2.2.2) (by rw [ws_lo _ _ _ hlt, wordAt]; rfl)).mono ?_
      rintro e w8 ⟨rfl, n8, rfl⟩
      have hw1 : IntKind.i64.wrap ((k : Int) + 1) = (k : Int) + 1 := IntWalk.i64_in _ (by omega)
      have l64 : (k : Int) < 64 := by omega
      go_wp2_with fail
      go_roundw
      case rel => exact ⟨k + 1, by omega, by go_num, (F.out.drewN n8).set k (by rw [wsL_len]; omega) (wsL_succ p q k (by omega) rfl), (below_drewN HB.out n8).setCell (by simp <;> omega) _⟩
      case measure => simp [intOf]; omega
    case neg =>
      obtain rfl : k = 16 := by omega
      simp only [Int.cast_ofNat_Int]
      go_wp2_with fail
      go_loopw [4] (fun c4 wr => ∃ k : Nat, 16 ≤ k ∧ k ≤ 64 ∧ c4 = .int .i64 k ∧ Hid (Arr .u32 wr w.heap.size (wsL p q k)) ∧ Hid (Below w.heap.size w wr)) (fun c4 _ => 64 - (intOf c4).toNat)
      case atStart => exact ⟨16, by omega, by omega, rfl, F, HB⟩
      case round =>
        clear F HB hk hlt
        obtain ⟨k, hk, hk2, rfl, F, HB⟩ := hrel
        by_cases hlt : k < 64
        case pos =>
          have hd : decide ((k : Int) < 64) = true := by simp; omega
          have k0 : (0 : Int) ≤ (k : Int) := by omega
          obtain ⟨x16, hx16⟩ : ∃ x, ws p q (k - 16) = x := ⟨_, rfl⟩
          obtain ⟨x15, hx15⟩ : ∃ x, ws p q (k - 15) = x := ⟨_, rfl⟩
          obtain ⟨x7, hx7⟩ : ∃ x, ws p q (k - 7) = x := ⟨_, rfl⟩
          obtain ⟨x2, hx2⟩ : ∃ x, ws p q (k - 2) = x := ⟨_, rfl⟩
          have c16 := F.out.c (k - 16) (by rw [wsL_len]; omega)
          have c15 := F.out.c (k - 15) (by rw [wsL_len]; omega)
          have c7 := F.out.c (k - 7) (by rw [wsL_len]; omega)
          have c2 := F.out.c (k - 2) (by rw [wsL_len]; omega)
          have fk := F.out.c k (by rw [wsL_len]; omega)
          rw [wsL_get _ _ _ _ (by omega) (by omega), hx16] at c16
          rw [wsL_get _ _ _ _ (by omega) (by omega), hx15] at c15
          rw [wsL_get _ _ _ _ (by omega) (by omega), hx7] at c7
          rw [wsL_get _ _ _ _ (by omega) (by omega), hx2] at c2
          rw [wsL_get0 _ _ _ _ (by omega)] at fk
          have fz := F.out.f k
          have HX := Lib.hid (And.intro hx16 (And.intro hx15 (And.intro hx7 hx2)))
          clear hx16 hx15 hx7 hx2
          obtain ⟨r7, hr7⟩ : ∃ x, rot x15 7 = x := ⟨_, rfl⟩
          obtain ⟨r18, hr18⟩ : ∃ x, rot x15 18 = x := ⟨_, rfl⟩
          obtain ⟨r17, hr17⟩ : ∃ x, rot x2 17 = x := ⟨_, rfl⟩
          obtain ⟨r19, hr19⟩ : ∃ x, rot x2 19 = x := ⟨_, rfl⟩
          have HR7 := Lib.hid hr7
          have HR18 := Lib.hid hr18
          have HR17 := Lib.hid hr17
          have HR19 := Lib.hid hr19
          clear hr7 hr18 hr17 hr19
          have w16 : IntKind.i64.wrap ((k : Int) - 16) = (k : Int) - 16 := IntWalk.i64_in _ (by omega)
          have w15 : IntKind.i64.wrap ((k : Int) - 15) = (k : Int) - 15 := IntWalk.i64_in _ (by omega)
          have w7 : IntKind.i64.wrap ((k : Int) - 7) = (k : Int) - 7 := IntWalk.i64_in _ (by omega)
          have w2 : IntKind.i64.wrap ((k : Int) - 2) = (k : Int) - 2 := IntWalk.i64_in _ (by omega)
          have e16 : ((k : Int) - 16).toNat = k - 16 := by omega
          have e15 : ((k : Int) - 15).toNat = k - 15 := by omega
          have e7 : ((k : Int) - 7).toNat = k - 7 := by omega
          have e2 : ((k : Int) - 2).toNat = k - 2 := by omega
          have l16 : (0 : Int) ≤ (k : Int) - 16 := by omega
          have l15 : (0 : Int) ≤ (k : Int) - 15 := by omega
          have l7 : (0 : Int) ≤ (k : Int) - 7 := by omega
          have l2 : (0 : Int) ≤ (k : Int) - 2 := by omega
          have bb16 : (k : Int) - 16 < 64 := by omega
          have bb15 : (k : Int) - 15 < 64 := by omega
          have bb7 : (k : Int) - 7 < 64 := by omega
          have bb2 : (k : Int) - 2 < 64 := by omega
          have ukk : (k : Int) < 64 := by omega
          have g16 : (16 : Int) ≤ (k : Int) := by omega
          have g15 : (15 : Int) ≤ (k : Int) := by omega
          have g7 : (7 : Int) ≤ (k : Int) := by omega
          have g2 : (2 : Int) ≤ (k : Int) := by omega
          go_wp2_with fail
          go_quiet (fail)
          go_wp2_with fail
          have hS := And.intro c16 c7
          refine wp_region_stage 29 (fun w' => w'.cell? ⟨w.heap.size, k - 16, none⟩ = some (.int .u32 x16) ∧ w'.cell? ⟨w.heap.size, k - 7, none⟩ = some (.int .u32 x7)) (by kernel_rfl) ?_
          refine wpAnyB_takeP (i := 0) (some 30) (Op.move (Operand.tmp 4)) 3 (v := ?_) ⟨_, rfl, rfl, rfl, rfl, rfl⟩ (by kernel_rfl) (by kernel_rfl) (by kernel_rfl) (by kernel_rfl) (fun _ _ _ h => h) (fun _ => hS) (fun w' => ?_) ?_
          rotate_left
          · unfold bareOp
            go_simp
            try with_reducible rfl
          simp only [Act.put, List.setIfInBounds_toArray, List.set_cons_zero, List.set_cons_succ]
          refine wpAnyB_takeP (i := 1) (some 31) (Op.move (Operand.tmp 4)) 3 (v := ?_) ⟨_, rfl, rfl, rfl, rfl, rfl⟩ (by kernel_rfl) (by kernel_rfl) (by kernel_rfl) (by kernel_rfl) (fun _ _ _ h => h) (fun _ => hS) (fun w' => ?_) ?_
          rotate_left
          · unfold bareOp
            go_simp
            try with_reducible rfl
          simp only [Act.put, List.setIfInBounds_toArray, List.set_cons_zero, List.set_cons_succ]
          refine wpAnyB_takeP (i := 2) (some 32) (Op.binOp BinOp.sub 3 (Operand.tmp 31) (Operand.const (Value.int IntKind.i64 16)) 3) 3 (v := ?_) ⟨_, rfl, rfl, rfl, rfl, rfl⟩ (by kernel_rfl) (by kernel_rfl) (by kernel_rfl) (by kernel_rfl) (fun _ _ _ h => h) (fun _ => hS) (fun w' => ?_) ?_
          rotate_left
          · unfold bareOp
            go_simp
            try with_reducible rfl
          simp only [Act.put, List.setIfInBounds_toArray, List.set_cons_zero, List.set_cons_succ]
          refine wpAnyB_takeP (i := 3) (some 33) (Op.indexAddr 118 (Operand.tmp 2) (Operand.tmp 32)) 0 (v := ?_) ⟨_, rfl, rfl, rfl, rfl, rfl⟩ (by kernel_rfl) (by kernel_rfl) (by kernel_rfl) (by kernel_rfl) (fun _ _ _ h => h) (fun _ => hS) (fun w' => ?_) ?_
          rotate_left
          · unfold bareOp
            go_simp
            try with_reducible rfl
          simp only [Act.put, List.setIfInBounds_toArray, List.set_cons_zero, List.set_cons_succ]
          refine wpAnyB_take (i := 4) (some 34) (Op.load 110 (Operand.tmp 33)) 110 (v := ?_) ⟨_, rfl, rfl, rfl, rfl, rfl⟩ (by kernel_rfl) (by kernel_rfl) (by kernel_rfl) [13, 18, 27, 28, 29] (by kernel_rfl) (fun _ _ _ h => h) hS (fun w' hSw => ?_) ?_
          rotate_left
          · obtain ⟨a16, a7⟩ := hSw
            unfold bareOp
            go_simp
            try with_reducible rfl
          simp only [Act.put, List.setIfInBounds_toArray, List.set_cons_zero, List.set_cons_succ]
          refine wpAnyB_takeP (i := 5) (some 35) (Op.move (Operand.tmp 5)) 110 (v := ?_) ⟨_, rfl, rfl, rfl, rfl, rfl⟩ (by kernel_rfl) (by kernel_rfl) (by kernel_rfl) (by kernel_rfl) (fun _ _ _ h => h) (fun _ => hS) (fun w' => ?_) ?_
          rotate_left
          · unfold bareOp
            go_simp
            try with_reducible rfl
          simp only [Act.put, List.setIfInBounds_toArray, List.set_cons_zero, List.set_cons_succ]
          refine wpAnyB_takeP (i := 7) (some 37) (Op.move (Operand.tmp 5)) 110 (v := ?_) ⟨_, rfl, rfl, rfl, rfl, rfl⟩ (by kernel_rfl) (by kernel_rfl) (by kernel_rfl) (by kernel_rfl) (fun _ _ _ h => h) (fun _ => hS) (fun w' => ?_) ?_
          rotate_left
          · unfold bareOp
            go_simp
            try with_reducible rfl
          simp only [Act.put, List.setIfInBounds_toArray, List.set_cons_zero, List.set_cons_succ]
          refine wpAnyB_takeP (i := 10) (some 40) (Op.move (Operand.tmp 5)) 110 (v := ?_) ⟨_, rfl, rfl, rfl, rfl, rfl⟩ (by kernel_rfl) (by kernel_rfl) (by kernel_rfl) (by kernel_rfl) (fun _ _ _ h => h) (fun _ => hS) (fun w' => ?_) ?_
          rotate_left
          · unfold bareOp
            go_simp
            try with_reducible rfl
          simp only [Act.put, List.setIfInBounds_toArray, List.set_cons_zero, List.set_cons_succ]
          refine wpAnyB_takeP (i := 11) (some 41) (Op.binOp BinOp.shr 110 (Operand.tmp 40) (Operand.const (Value.int IntKind.u64 3)) 104) 110 (v := ?_) ⟨_, rfl, rfl, rfl, rfl, rfl⟩ (by kernel_rfl) (by kernel_rfl) (by kernel_rfl) (by kernel_rfl) (fun _ _ _ h => h) (fun _ => hS) (fun w' => ?_) ?_
          rotate_left
          · unfold bareOp
            go_simp
            try with_reducible rfl
          simp only [Act.put, List.setIfInBounds_toArray, List.set_cons_zero, List.set_cons_succ]
          refine wpAnyB_takeP (i := 14) (some 44) (Op.move (Operand.tmp 4)) 3 (v := ?_) ⟨_, rfl, rfl, rfl, rfl, rfl⟩ (by kernel_rfl) (by kernel_rfl) (by kernel_rfl) (by kernel_rfl) (fun _ _ _ h => h) (fun _ => hS) (fun w' => ?_) ?_
          rotate_left
          · unfold bareOp
            go_simp
            try with_reducible rfl
          simp only [Act.put, List.setIfInBounds_toArray, List.set_cons_zero, List.set_cons_succ]
          refine wpAnyB_takeP (i := 15) (some 45) (Op.binOp BinOp.sub 3 (Operand.tmp 44) (Operand.const (Value.int IntKind.i64 7)) 3) 3 (v := ?_) ⟨_, rfl, rfl, rfl, rfl, rfl⟩ (by kernel_rfl) (by kernel_rfl) (by kernel_rfl) (by kernel_rfl) (fun _ _ _ h => h) (fun _ => hS) (fun w' => ?_) ?_
          rotate_left
          · unfold bareOp
            go_simp
            try with_reducible rfl
          simp only [Act.put, List.setIfInBounds_toArray, List.set_cons_zero, List.set_cons_succ]
          refine wpAnyB_takeP (i := 16) (some 46) (Op.indexAddr 118 (Operand.tmp 2) (Operand.tmp 45)) 0 (v := ?_) ⟨_, rfl, rfl, rfl, rfl, rfl⟩ (by kernel_rfl) (by kernel_rfl) (by kernel_rfl) (by kernel_rfl) (fun _ _ _ h => h) (fun _ => hS) (fun w' => ?_) ?_
          rotate_left
          · unfold bareOp
            go_simp
            try with_reducible rfl
          simp only [Act.put, List.setIfInBounds_toArray, List.set_cons_zero, List.set_cons_succ]
          refine wpAnyB_take (i := 17) (some 47) (Op.load 110 (Operand.tmp 46)) 110 (v := ?_) ⟨_, rfl, rfl, rfl, rfl, rfl⟩ (by kernel_rfl) (by kernel_rfl) (by kernel_rfl) [18, 27, 28, 29] (by kernel_rfl) (fun _ _ _ h => h) hS (fun w' hSw => ?_) ?_
          rotate_left
          · obtain ⟨a16, a7⟩ := hSw
            unfold bareOp
            go_simp
            try with_reducible rfl
          simp only [Act.put, List.setIfInBounds_toArray, List.set_cons_zero, List.set_cons_succ]
          refine wpAnyB_takeP (i := 19) (some 49) (Op.move (Operand.tmp 6)) 110 (v := ?_) ⟨_, rfl, rfl, rfl, rfl, rfl⟩ (by kernel_rfl) (by kernel_rfl) (by kernel_rfl) (by kernel_rfl) (fun _ _ _ h => h) (fun _ => hS) (fun w' => ?_) ?_
          rotate_left
          · unfold bareOp
            go_simp
            try with_reducible rfl
          simp only [Act.put, List.setIfInBounds_toArray, List.set_cons_zero, List.set_cons_succ]
          refine wpAnyB_takeP (i := 21) (some 51) (Op.move (Operand.tmp 6)) 110 (v := ?_) ⟨_, rfl, rfl, rfl, rfl, rfl⟩ (by kernel_rfl) (by kernel_rfl) (by kernel_rfl) (by kernel_rfl) (fun _ _ _ h => h) (fun _ => hS) (fun w' => ?_) ?_
          rotate_left
          · unfold bareOp
            go_simp
            try with_reducible rfl
          simp only [Act.put, List.setIfInBounds_toArray, List.set_cons_zero, List.set_cons_succ]
          refine wpAnyB_takeP (i := 24) (some 54) (Op.move (Operand.tmp 6)) 110 (v := ?_) ⟨_, rfl, rfl, rfl, rfl, rfl⟩ (by kernel_rfl) (by kernel_rfl) (by kernel_rfl) (by kernel_rfl) (fun _ _ _ h => h) (fun _ => hS) (fun w' => ?_) ?_
          rotate_left
          · unfold bareOp
            go_simp
            try with_reducible rfl
          simp only [Act.put, List.setIfInBounds_toArray, List.set_cons_zero, List.set_cons_succ]
          refine wpAnyB_takeP (i := 25) (some 55) (Op.binOp BinOp.shr 110 (Operand.tmp 54) (Operand.const (Value.int IntKind.u64 10)) 104) 110 (v := ?_) ⟨_, rfl, rfl, rfl, rfl, rfl⟩ (by kernel_rfl) (by kernel_rfl) (by kernel_rfl) (by kernel_rfl) (fun _ _ _ h => h) (fun _ => hS) (fun w' => ?_) ?_
          rotate_left
          · unfold bareOp
            go_simp
            try with_reducible rfl
          simp only [Act.put, List.setIfInBounds_toArray, List.set_cons_zero, List.set_cons_succ]
          refine wpAnyB_only (i := 6) (some 36) (Op.call { callee := Callee.value (Operand.func 94), args := #[Operand.tmp 35, Operand.const (Value.int IntKind.i64 7)], argTypes := #[110, 3] }) 110 ⟨_, rfl, rfl, rfl, rfl, rfl⟩ (by kernel_rfl) (fun K hK => ?_)
          unfold bareOp
          go_wp2_with (go_at_call 94; refine (dright_any (n := 7) _ (by decide) (by decide) HR7.out).mono ?_; rintro e w8 ⟨rfl, n8, rfl⟩)
          refine hK.out _ _ (fun _ => hS) ?_
          clear hK K
          try simp only [Act.put, List.setIfInBounds_toArray, List.set_cons_zero, List.set_cons_succ]
          refine wpAnyB_only (i := 8) (some 38) (Op.call { callee := Callee.value (Operand.func 94), args := #[Operand.tmp 37, Operand.const (Value.int IntKind.i64 18)], argTypes := #[110, 3] }) 110 ⟨_, rfl, rfl, rfl, rfl, rfl⟩ (by kernel_rfl) (fun K hK => ?_)
          unfold bareOp
          go_wp2_with (go_at_call 94; refine (dright_any (n := 18) _ (by decide) (by decide) HR18.out).mono ?_; rintro e w8 ⟨rfl, n8, rfl⟩)
          refine hK.out _ _ (fun _ => hS) ?_
          clear hK K
          try simp only [Act.put, List.setIfInBounds_toArray, List.set_cons_zero, List.set_cons_succ]
          refine wpAnyB_takeP (i := 9) (some 39) (Op.binOp BinOp.xor 110 (Operand.tmp 36) (Operand.tmp 38) 110) 110 (v := ?_) ⟨_, rfl, rfl, rfl, rfl, rfl⟩ (by kernel_rfl) (by kernel_rfl) (by kernel_rfl) (by kernel_rfl) (fun _ _ _ h => h) (fun _ => hS) (fun w' => ?_) ?_
          rotate_left
          · unfold bareOp
            go_simp
            try with_reducible rfl
          simp only [Act.put, List.setIfInBounds_toArray, List.set_cons_zero, List.set_cons_succ]
          refine wpAnyB_takeP (i := 12) (some 42) (Op.binOp BinOp.xor 110 (Operand.tmp 39) (Operand.tmp 41) 110) 110 (v := ?_) ⟨_, rfl, rfl, rfl, rfl, rfl⟩ (by kernel_rfl) (by kernel_rfl) (by kernel_rfl) (by kernel_rfl) (fun _ _ _ h => h) (fun _ => hS) (fun w' => ?_) ?_
          rotate_left
          · unfold bareOp
            go_simp
            try with_reducible rfl
          simp only [Act.put, List.setIfInBounds_toArray, List.set_cons_zero, List.set_cons_succ]
          refine wpAnyB_takeP (i := 13) (some 43) (Op.binOp BinOp.add 110 (Operand.tmp 34) (Operand.tmp 42) 110) 110 (v := ?_) ⟨_, rfl, rfl, rfl, rfl, rfl⟩ (by kernel_rfl) (by kernel_rfl) (by kernel_rfl) (by kernel_rfl) (fun _ _ _ h => h) (fun _ => hS) (fun w' => ?_) ?_
          rotate_left
          · unfold bareOp
            go_simp
            try with_reducible rfl
          simp only [Act.put, List.setIfInBounds_toArray, List.set_cons_zero, List.set_cons_succ]
          refine wpAnyB_takeP (i := 18) (some 48) (Op.binOp BinOp.add 110 (Operand.tmp 43) (Operand.tmp 47) 110) 110 (v := ?_) ⟨_, rfl, rfl, rfl, rfl, rfl⟩ (by kernel_rfl) (by kernel_rfl) (by kernel_rfl) (by kernel_rfl) (fun _ _ _ h => h) (fun _ => hS) (fun w' => ?_) ?_
          rotate_left
          · unfold bareOp
            go_simp
            try with_reducible rfl
          simp only [Act.put, List.setIfInBounds_toArray, List.set_cons_zero, List.set_cons_succ]
          refine wpAnyB_only (i := 20) (some 50) (Op.call { callee := Callee.value (Operand.func 94), args := #[Operand.tmp 49, Operand.const (Value.int IntKind.i64 17)], argTypes := #[110, 3] }) 110 ⟨_, rfl, rfl, rfl, rfl, rfl⟩ (by kernel_rfl) (fun K hK => ?_)
          unfold bareOp
          go_wp2_with (go_at_call 94; refine (dright_any (n := 17) _ (by decide) (by decide) HR17.out).mono ?_; rintro e w8 ⟨rfl, n8, rfl⟩)
          refine hK.out _ _ (fun _ => hS) ?_
          clear hK K
          try simp only [Act.put, List.setIfInBounds_toArray, List.set_cons_zero, List.set_cons_succ]
          refine wpAnyB_only (i := 22) (some 52) (Op.call { callee := Callee.value (Operand.func 94), args := #[Operand.tmp 51, Operand.const (Value.int IntKind.i64 19)], argTypes := #[110, 3] }) 110 ⟨_, rfl, rfl, rfl, rfl, rfl⟩ (by kernel_rfl) (fun K hK => ?_)
          unfold bareOp
          go_wp2_with (go_at_call 94; refine (dright_any (n := 19) _ (by decide) (by decide) HR19.out).mono ?_; rintro e w8 ⟨rfl, n8, rfl⟩)
          refine hK.out _ _ (fun _ => hS) ?_
          clear hK K
          try simp only [Act.put, List.setIfInBounds_toArray, List.set_cons_zero, List.set_cons_succ]
          refine wpAnyB_takeP (i := 23) (some 53) (Op.binOp BinOp.xor 110 (Operand.tmp 50) (Operand.tmp 52) 110) 110 (v := ?_) ⟨_, rfl, rfl, rfl, rfl, rfl⟩ (by kernel_rfl) (by kernel_rfl) (by kernel_rfl) (by kernel_rfl) (fun _ _ _ h => h) (fun _ => hS) (fun w' => ?_) ?_
          rotate_left
          · unfold bareOp
            go_simp
            try with_reducible rfl
          simp only [Act.put, List.setIfInBounds_toArray, List.set_cons_zero, List.set_cons_succ]
          refine wpAnyB_takeP (i := 26) (some 56) (Op.binOp BinOp.xor 110 (Operand.tmp 53) (Operand.tmp 55) 110) 110 (v := ?_) ⟨_, rfl, rfl, rfl, rfl, rfl⟩ (by kernel_rfl) (by kernel_rfl) (by kernel_rfl) (by kernel_rfl) (fun _ _ _ h => h) (fun _ => hS) (fun w' => ?_) ?_
          rotate_left
          · unfold bareOp
            go_simp
            try with_reducible rfl
          simp only [Act.put, List.setIfInBounds_toArray, List.set_cons_zero, List.set_cons_succ]
          refine wpAnyB_takeP (i := 27) (some 57) (Op.binOp BinOp.add 110 (Operand.tmp 48) (Operand.tmp 56) 110) 110 (v := ?_) ⟨_, rfl, rfl, rfl, rfl, rfl⟩ (by kernel_rfl) (by kernel_rfl) (by kernel_rfl) (by kernel_rfl) (fun _ _ _ h => h) (fun _ => hS) (fun w' => ?_) ?_
          rotate_left
          · unfold bareOp
            go_simp
            try with_reducible rfl
          simp only [Act.put, List.setIfInBounds_toArray, List.set_cons_zero, List.set_cons_succ]
          refine wpAnyB_takeP (i := 28) (some 58) (Op.indexAddr 118 (Operand.tmp 2) (Operand.tmp 30)) 0 (v := ?_) ⟨_, rfl, rfl, rfl, rfl, rfl⟩ (by kernel_rfl) (by kernel_rfl) (by kernel_rfl) (by kernel_rfl) (fun _ _ _ h => h) (fun _ => hS) (fun w' => ?_) ?_
          rotate_left
          · unfold bareOp
            go_simp
            try with_reducible rfl
          simp only [Act.put, List.setIfInBounds_toArray, List.set_cons_zero, List.set_cons_succ]
          refine wpAnyB_only (i := 29) none (Op.store 110 (Operand.tmp 58) (Operand.tmp 57)) 0 ⟨_, rfl, rfl, rfl, rfl, rfl⟩ (by kernel_rfl) (fun K hK => ?_)
          unfold bareOp
          go_wp2_with fail
          refine hK.out _ _ (fun h => absurd (h.symm.trans (by kernel_rfl : _ = true)) (by decide)) ?_
          clear hK K
          try simp only [Act.put, List.setIfInBounds_toArray, List.set_cons_zero, List.set_cons_succ]
          refine wpAnyB_done (by kernel_rfl) ?_ _
          have hw1 : IntKind.i64.wrap ((k : Int) + 1) = (k : Int) + 1 := IntWalk.i64_in _ (by omega)
          go_wp2_with fail
          go_roundw
          case rel =>
            refine ⟨k + 1, by omega, by omega, by go_num, Arr.set (F.out.drewN _) k (by rw [wsL_len]; omega) (wsL_succ p q k hlt ?_), Below.setCell (below_drewN HB.out _) (by simp <;> omega) _⟩
            rw [ws_hi _ _ _ (by omega), HX.out.1, HX.out.2.1, HX.out.2.2.1, HX.out.2.2.2, sig0, sig1, HR7.out, HR18.out, HR17.out, HR19.out]
            unfold M; omega
          case measure => simp [intOf]; omega
        case neg =>
          obtain rfl : k = 64 := by omega
          go_wp2_with (first
            | (refine wpList_loadArr rfl 118 _ rfl .u32 w.heap.size 0 (wsL p q 64) 64 110 rfl Tryd.underlying118 (by rw [wsL_len]; kernel_rfl) (fun i hi => by rw [Nat.zero_add]; exact F.out.c i hi) ?_)
            | (refine wpList_storeArr rfl 118 _ _ rfl rfl .u32 w.heap.size 0 (wsL p q 64) rfl rfl (by rw [wsL_len]; kernel_rfl) (fun i hi => by rw [Nat.zero_add, F.out.c i hi]; rfl) (fun i hi => F.out.f _) ?_; intro w9 hL; have HL := Lib.hid hL; clear hL))
          refine bodyPost_ret (res_arr .u32 w.heap.size 0 (wsL p q 64) 64 110 rfl Tryd.underlying118 (by rw [wsL_len]; kernel_rfl) _ rfl HL.out.row) rfl ?_
          exact ⟨rfl, HB.out.trans (HL.out.below _ (Nat.le_refl _))⟩
end Go.Proofs.YtmcpfinnhgbcpaaDoor
