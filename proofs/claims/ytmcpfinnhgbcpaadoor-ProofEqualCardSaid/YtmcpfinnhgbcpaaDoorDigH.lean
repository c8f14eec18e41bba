/- suffrageref05.After: a block compressed into a state, the reference. -/
import Derived.Test.YtmcpfinnhgbcpaaDoorDigG
namespace Go.Proofs.YtmcpfinnhgbcpaaDoor
open Go Go.RowKit Sha
set_option linter.unusedSimpArgs false
set_option linter.unusedVariables false

theorem ch_eq2 (e f g : Int) : bits .or .u32 (bits .and .u32 e f) (bits .and .u32 (bits .xor .u32 (if IntKind.u32.signed = true then -1 else IntKind.u32.max) e) g) = ch e f g := by
  have h1 : (if IntKind.u32.signed = true then -1 else IntKind.u32.max) = 4294967295 := rfl
  have h2 : bits .xor .u32 4294967295 e = bits .xor .u32 (-1) e := by
    rw [xorB, xorB, show B 4294967295 = B (-1) by decide]
  rw [h1, h2, ch_eq]

theorem hbu8 (w : World) (x0 x1 x2 x3 x4 x5 x6 x7 : Int) : (Instr.build 111 #[(0, .int .u32 x0), (1, .int .u32 x1), (2, .int .u32 x2), (3, .int .u32 x3), (4, .int .u32 x4), (5, .int .u32 x5), (6, .int .u32 x6), (7, .int .u32 x7)]).run Tryd.prog w = .ok (.agg (valV .u32 [x0, x1, x2, x3, x4, x5, x6, x7])) w := by kernel_rfl
theorem wpL_build {P : Program} {w : World} {o : Oper} {ops : Array Oper} {rest : List Oper} {a : Act} {Q : Exit → Act → World → Prop} (hgd : o.guard = none) (t : TypeId) (parts : Array (Nat × Operand)) (ho : o.op = .build t parts) (v : Value)
    (hr : (Instr.build t (parts.map fun (i, x) => (i, a.eval x))).run P w = .ok v w) (h : wpList P ops Q rest (a.put o.dst v) w) : wpList P ops Q (o :: rest) a w := by
  refine wpList_plain hgd fun K hK => ?_
  unfold Oper.wp
  simp only [execOp, ho, Sem.run_bind, hr, Result.andThen]
  exact hK _ _ h

structure AftIn (w wx : World) (Bs Br Bw : Nat) (s : S8) (ws : List Int) : Prop where
  fs : Arr .u32 wx Bs s.l
  fr : Arr .u32 wx Br (List.replicate 8 0)
  fw : Arr .u32 wx Bw ws
  sw : Bw ≠ Bs
  rw : Bw ≠ Br
  wl : w.heap.size ≤ Bw
  rl : w.heap.size ≤ Br
  bel : Below w.heap.size w wx
theorem AftIn.drewN {w wx : World} {Bs Br Bw : Nat} {s : S8} {ws : List Int} (h : AftIn w wx Bs Br Bw s ws) (n : Nat) : AftIn w (wx.drewN n) Bs Br Bw s ws :=
  ⟨h.fs.drewN n, h.fr.drewN n, h.fw.drewN n, h.sw, h.rw, h.wl, h.rl, below_drewN h.bel n⟩
theorem AftIn.set {w wx : World} {Bs Br Bw : Nat} {s : S8} {ws ws' : List Int} {i : Nat} {x : Int} (h : AftIn w wx Bs Br Bw s ws) (hi : i < ws.length) (hx : ws.set i x = ws') : AftIn w (wx.setCell ⟨Bw, i, none⟩ (.int .u32 x)) Bs Br Bw s ws' :=
  ⟨h.fs.far h.sw _, h.fr.far h.rw _, h.fw.set i hi hx, h.sw, h.rw, h.wl, h.rl, h.bel.setCell h.wl _⟩
theorem AftIn.keep {w wx wy : World} {Bs Br Bw : Nat} {s : S8} {ws : List Int} (h : AftIn w wx Bs Br Bw s ws) (hb : Below wx.heap.size wx wy) : AftIn w wy Bs Br Bw s ws :=
  ⟨h.fs.keep hb, h.fr.keep hb, h.fw.keep hb, h.sw, h.rw, h.wl, h.rl, h.bel.trans (hb.mono h.bel.size)⟩
theorem AftIn.laid {w wx wy : World} {Bs Br Bw b q : Nat} {s : S8} {ws ys : List Int} (h : AftIn w wx Bs Br Bw s ws) (hL : Laid .u32 wx wy b q ys) (hb : Bs ≠ b) (hr : Br ≠ b) (hw : Bw ≠ b) (hl : w.heap.size ≤ b) : AftIn w wy Bs Br Bw s ws :=
  ⟨h.fs.laid hL hb, h.fr.laid hL hr, h.fw.laid hL hw, h.sw, h.rw, h.wl, h.rl, h.bel.trans (hL.below _ hl)⟩

set_option maxRecDepth 100000 in
set_option maxHeartbeats 8000000 in
theorem rAfter_any {o m n sb q : Nat} {p : List Int} {s : S8} (w : World) (h : Blk w sb o p q) (hn : 64 ≤ n) (hn2 : n < 1000000000) :
    Calls Tryd.prog 90 #[.agg (valV .u32 s.l), .slice (some ⟨sb, o, none⟩) n m] w fun e w' => e = .returned (.agg (valV .u32 (stepS p q s).l)) ∧ Below w.heap.size w w' := by
  have HS := Lib.hid h
  have hsl := h.lt
  clear h
  go_enter Tryd.func90, Tryd.ntmps90
  go_wp2_with (first
    | (refine wpL_boxArr rfl 111 .u32 _ s.l rfl rfl ?_; intro w1 h1; have F_s := Lib.hid h1.arr; have HBW := Lib.hid (h1.below _ (Nat.le_refl _)); have hle := HBW.out.size; clear h1; simp only [Act.put, List.setIfInBounds_toArray, List.set_cons_zero, List.set_cons_succ])
    | (refine wpL_allocArr rfl 111 .u32 8 rfl (by kernel_rfl) ?_; intro w2 h2; have ne_s_r := Nat.ne_of_lt F_s.out.lt; replace F_s := Lib.hid (F_s.out.keep (h2.below _ (Nat.le_refl _))); have F_r := Lib.hid h2.arr; replace HBW := Lib.hid (HBW.out.trans (h2.below _ HBW.out.size)); have hle2 := HBW.out.size; clear h2; simp only [Act.put, List.setIfInBounds_toArray, List.set_cons_zero, List.set_cons_succ])
    | (refine wpL_allocArr rfl 118 .u32 64 rfl (by kernel_rfl) ?_; intro w3 h3; have HA := Lib.hid (show AftIn w w3 w.heap.size w1.heap.size w2.heap.size s (wsL p q 0) from ⟨F_s.out.keep (h3.below _ (Nat.le_refl _)), F_r.out.keep (h3.below _ (Nat.le_refl _)), by rw [wsL_zero]; exact h3.arr, Nat.ne_of_gt F_s.out.lt, Nat.ne_of_gt F_r.out.lt, hle2, hle, HBW.out.trans (h3.below _ hle2)⟩); clear h3; simp only [Act.put, List.setIfInBounds_toArray, List.set_cons_zero, List.set_cons_succ]))
  clear F_s F_r HBW hle hle2 ne_s_r
  generalize w2.heap.size = Bw at HA ⊢
  generalize w1.heap.size = Br at HA ⊢
  go_loopw [6] (fun c6 wr => ∃ k : Nat, k ≤ 64 ∧ c6 = .int .i64 k ∧ Hid (AftIn w wr w.heap.size Br Bw s (wsL p q k))) (fun c6 _ => 64 - (intOf c6).toNat)
  case atStart => exact ⟨0, by omega, rfl, HA.out⟩
  case round =>
    clear HA
    obtain ⟨k, hk, rfl, HI⟩ := hrel
    have F := Lib.hid HI.out.fw
    by_cases hlt : k < 64
    case pos =>
      have hd : decide ((k : Int) < 64) = true := by simp; omega
      have k0 : (0 : Int) ≤ (k : Int) := by omega
      have ukk : (k : Int) < 64 := by omega
      have hw1 : IntKind.i64.wrap ((k : Int) + 1) = (k : Int) + 1 := IntWalk.i64_in _ (by omega)
      have fk := F.out.c k (by rw [wsL_len]; omega)
      rw [wsL_get0 _ _ _ _ (by omega)] at fk
      have fz := F.out.f k
      by_cases h16 : k < 16
      case pos =>
        have hd16 : decide ((k : Int) < 16) = true := by simp; omega
        have hw4 : IntKind.i64.wrap (4 * (k : Int)) = 4 * (k : Int) := IntWalk.i64_in _ (by omega)
        have e4 : (4 * (k : Int)) = ((4 * k : Nat) : Int) := by omega
        have HBk := Lib.hid (HS.out.below HI.out.bel hsl)
        have HE4 := Lib.hid e4
        clear e4
        go_wp2_with (go_at_call 95; rw [HE4.out]; refine (rword_any (k := 4 * k) (v := ws p q k) _ (by omega) hn2 (HS.out.b _).1 (HS.out.b _).2 (HS.out.b _).1 (HS.out.b _).2 (HS.out.b _).1 (HS.out.b _).2 (HS.out.b _).1 (HS.out.b _).2 (HBk.out.c (4 * k) (by omega)) (HBk.out.c (4 * k + 1) (by omega)) (HBk.out.c (4 * k + 2) (by omega)) (HBk.out.c (4 * k + 3) (by omega)) (by rw [ws_lo _ _ _ h16, wordAt]; rfl)).mono ?_; rintro e w8 ⟨rfl, n8, rfl⟩)
        go_roundw
        case rel => exact ⟨k + 1, by omega, by go_num, AftIn.set (HI.out.drewN n8) (by rw [wsL_len]; omega) (wsL_succ p q k (by omega) rfl)⟩
        case measure => simp [intOf]; omega
      case neg =>
        have hk : 16 ≤ k := by omega
        have hd16 : decide ((k : Int) < 16) = false := by simp; omega
        obtain ⟨x16, hx16⟩ : ∃ x, ws p q (k - 16) = x := ⟨_, rfl⟩
        obtain ⟨x15, hx15⟩ : ∃ x, ws p q (k - 15) = x := ⟨_, rfl⟩
        obtain ⟨x7, hx7⟩ : ∃ x, ws p q (k - 7) = x := ⟨_, rfl⟩
        obtain ⟨x2, hx2⟩ : ∃ x, ws p q (k - 2) = x := ⟨_, rfl⟩
        have c16 := F.out.c (k - 16) (by rw [wsL_len]; omega)
        have c15 := F.out.c (k - 15) (by rw [wsL_len]; omega)
        have c7 := F.out.c (k - 7) (by rw [wsL_len]; omega)
        have c2 := F.out.c (k - 2) (by rw [wsL_len]; omega)
        rw [wsL_get _ _ _ _ (by omega) (by omega), hx16] at c16
        rw [wsL_get _ _ _ _ (by omega) (by omega), hx15] at c15
        rw [wsL_get _ _ _ _ (by omega) (by omega), hx7] at c7
        rw [wsL_get _ _ _ _ (by omega) (by omega), hx2] at c2
        have HX := Lib.hid (And.intro hx16 (And.intro hx15 (And.intro hx7 hx2)))
        clear hx16 hx15 hx7 hx2
        obtain ⟨r7, hr7⟩ : ∃ x, rot x15 7 = x := ⟨_, rfl⟩
        obtain ⟨r18, hr18⟩ : ∃ x, rot x15 18 = x := ⟨_, rfl⟩
        obtain ⟨r17, hr17⟩ : ∃ x, rot x2 17 = x := ⟨_, rfl⟩
        obtain ⟨r19, hr19⟩ : ∃ x, rot x2 19 = x := ⟨_, rfl⟩
        have HR7 := Lib.hid hr7
        have HR18 := Lib.hid hr18
        have HR17 := Lib.hid hr17
        have HR19 := Lib.hid hr19
        clear hr7 hr18 hr17 hr19
        have w16 : IntKind.i64.wrap ((k : Int) - 16) = (k : Int) - 16 := IntWalk.i64_in _ (by omega)
        have w15 : IntKind.i64.wrap ((k : Int) - 15) = (k : Int) - 15 := IntWalk.i64_in _ (by omega)
        have w7 : IntKind.i64.wrap ((k : Int) - 7) = (k : Int) - 7 := IntWalk.i64_in _ (by omega)
        have w2 : IntKind.i64.wrap ((k : Int) - 2) = (k : Int) - 2 := IntWalk.i64_in _ (by omega)
        have e16 : ((k : Int) - 16).toNat = k - 16 := by omega
        have e15 : ((k : Int) - 15).toNat = k - 15 := by omega
        have e7 : ((k : Int) - 7).toNat = k - 7 := by omega
        have e2 : ((k : Int) - 2).toNat = k - 2 := by omega
        have l16 : (0 : Int) ≤ (k : Int) - 16 := by omega
        have l15 : (0 : Int) ≤ (k : Int) - 15 := by omega
        have l7 : (0 : Int) ≤ (k : Int) - 7 := by omega
        have l2 : (0 : Int) ≤ (k : Int) - 2 := by omega
        have bb16 : (k : Int) - 16 < 64 := by omega
        have bb15 : (k : Int) - 15 < 64 := by omega
        have bb7 : (k : Int) - 7 < 64 := by omega
        have bb2 : (k : Int) - 2 < 64 := by omega
        have ukk : (k : Int) < 64 := by omega
        have g16 : (16 : Int) ≤ (k : Int) := by omega
        have g15 : (15 : Int) ≤ (k : Int) := by omega
        have g7 : (7 : Int) ≤ (k : Int) := by omega
        have g2 : (2 : Int) ≤ (k : Int) := by omega
        go_wp2_with fail
        go_quiet (fail)
        go_wp2_with fail
        have hS := And.intro c16 c7
        refine wp_region_stage 29 (fun w' => w'.cell? ⟨Bw, k - 16, none⟩ = some (.int .u32 x16) ∧ w'.cell? ⟨Bw, k - 7, none⟩ = some (.int .u32 x7)) (by kernel_rfl) ?_
        refine wpAnyB_takeP (i := 0) (some 41) (Op.move (Operand.tmp 6)) 3 (v := ?_) ⟨_, rfl, rfl, rfl, rfl, rfl⟩ (by kernel_rfl) (by kernel_rfl) (by kernel_rfl) (by kernel_rfl) (fun _ _ _ h => h) (fun _ => hS) (fun w' => ?_) ?_
        rotate_left
        · unfold bareOp
          go_simp
          try with_reducible rfl
        simp only [Act.put, List.setIfInBounds_toArray, List.set_cons_zero, List.set_cons_succ]
        refine wpAnyB_takeP (i := 1) (some 42) (Op.move (Operand.tmp 6)) 3 (v := ?_) ⟨_, rfl, rfl, rfl, rfl, rfl⟩ (by kernel_rfl) (by kernel_rfl) (by kernel_rfl) (by kernel_rfl) (fun _ _ _ h => h) (fun _ => hS) (fun w' => ?_) ?_
        rotate_left
        · unfold bareOp
          go_simp
          try with_reducible rfl
        simp only [Act.put, List.setIfInBounds_toArray, List.set_cons_zero, List.set_cons_succ]
        refine wpAnyB_takeP (i := 2) (some 43) (Op.binOp BinOp.sub 3 (Operand.tmp 42) (Operand.const (Value.int IntKind.i64 16)) 3) 3 (v := ?_) ⟨_, rfl, rfl, rfl, rfl, rfl⟩ (by kernel_rfl) (by kernel_rfl) (by kernel_rfl) (by kernel_rfl) (fun _ _ _ h => h) (fun _ => hS) (fun w' => ?_) ?_
        rotate_left
        · unfold bareOp
          go_simp
          try with_reducible rfl
        simp only [Act.put, List.setIfInBounds_toArray, List.set_cons_zero, List.set_cons_succ]
        refine wpAnyB_takeP (i := 3) (some 44) (Op.indexAddr 118 (Operand.tmp 5) (Operand.tmp 43)) 0 (v := ?_) ⟨_, rfl, rfl, rfl, rfl, rfl⟩ (by kernel_rfl) (by kernel_rfl) (by kernel_rfl) (by kernel_rfl) (fun _ _ _ h => h) (fun _ => hS) (fun w' => ?_) ?_
        rotate_left
        · unfold bareOp
          go_simp
          try with_reducible rfl
        simp only [Act.put, List.setIfInBounds_toArray, List.set_cons_zero, List.set_cons_succ]
        refine wpAnyB_take (i := 4) (some 45) (Op.load 110 (Operand.tmp 44)) 110 (v := ?_) ⟨_, rfl, rfl, rfl, rfl, rfl⟩ (by kernel_rfl) (by kernel_rfl) (by kernel_rfl) [13, 18, 27, 28, 29] (by kernel_rfl) (fun _ _ _ h => h) hS (fun w' hSw => ?_) ?_
        rotate_left
        · obtain ⟨a16, a7⟩ := hSw
          unfold bareOp
          go_simp
          try with_reducible rfl
        simp only [Act.put, List.setIfInBounds_toArray, List.set_cons_zero, List.set_cons_succ]
        refine wpAnyB_takeP (i := 5) (some 46) (Op.move (Operand.tmp 7)) 110 (v := ?_) ⟨_, rfl, rfl, rfl, rfl, rfl⟩ (by kernel_rfl) (by kernel_rfl) (by kernel_rfl) (by kernel_rfl) (fun _ _ _ h => h) (fun _ => hS) (fun w' => ?_) ?_
        rotate_left
        · unfold bareOp
          go_simp
          try with_reducible rfl
        simp only [Act.put, List.setIfInBounds_toArray, List.set_cons_zero, List.set_cons_succ]
        refine wpAnyB_takeP (i := 7) (some 48) (Op.move (Operand.tmp 7)) 110 (v := ?_) ⟨_, rfl, rfl, rfl, rfl, rfl⟩ (by kernel_rfl) (by kernel_rfl) (by kernel_rfl) (by kernel_rfl) (fun _ _ _ h => h) (fun _ => hS) (fun w' => ?_) ?_
        rotate_left
        · unfold bareOp
          go_simp
          try with_reducible rfl
        simp only [Act.put, List.setIfInBounds_toArray, List.set_cons_zero, List.set_cons_succ]
        refine wpAnyB_takeP (i := 10) (some 51) (Op.move (Operand.tmp 7)) 110 (v := ?_) ⟨_, rfl, rfl, rfl, rfl, rfl⟩ (by kernel_rfl) (by kernel_rfl) (by kernel_rfl) (by kernel_rfl) (fun _ _ _ h => h) (fun _ => hS) (fun w' => ?_) ?_
        rotate_left
        · unfold bareOp
          go_simp
          try with_reducible rfl
        simp only [Act.put, List.setIfInBounds_toArray, List.set_cons_zero, List.set_cons_succ]
        refine wpAnyB_takeP (i := 11) (some 52) (Op.binOp BinOp.shr 110 (Operand.tmp 51) (Operand.const (Value.int IntKind.u64 3)) 104) 110 (v := ?_) ⟨_, rfl, rfl, rfl, rfl, rfl⟩ (by kernel_rfl) (by kernel_rfl) (by kernel_rfl) (by kernel_rfl) (fun _ _ _ h => h) (fun _ => hS) (fun w' => ?_) ?_
        rotate_left
        · unfold bareOp
          go_simp
          try with_reducible rfl
        simp only [Act.put, List.setIfInBounds_toArray, List.set_cons_zero, List.set_cons_succ]
        refine wpAnyB_takeP (i := 14) (some 55) (Op.move (Operand.tmp 6)) 3 (v := ?_) ⟨_, rfl, rfl, rfl, rfl, rfl⟩ (by kernel_rfl) (by kernel_rfl) (by kernel_rfl) (by kernel_rfl) (fun _ _ _ h => h) (fun _ => hS) (fun w' => ?_) ?_
        rotate_left
        · unfold bareOp
          go_simp
          try with_reducible rfl
        simp only [Act.put, List.setIfInBounds_toArray, List.set_cons_zero, List.set_cons_succ]
        refine wpAnyB_takeP (i := 15) (some 56) (Op.binOp BinOp.sub 3 (Operand.tmp 55) (Operand.const (Value.int IntKind.i64 7)) 3) 3 (v := ?_) ⟨_, rfl, rfl, rfl, rfl, rfl⟩ (by kernel_rfl) (by kernel_rfl) (by kernel_rfl) (by kernel_rfl) (fun _ _ _ h => h) (fun _ => hS) (fun w' => ?_) ?_
        rotate_left
        · unfold bareOp
          go_simp
          try with_reducible rfl
        simp only [Act.put, List.setIfInBounds_toArray, List.set_cons_zero, List.set_cons_succ]
        refine wpAnyB_takeP (i := 16) (some 57) (Op.indexAddr 118 (Operand.tmp 5) (Operand.tmp 56)) 0 (v := ?_) ⟨_, rfl, rfl, rfl, rfl, rfl⟩ (by kernel_rfl) (by kernel_rfl) (by kernel_rfl) (by kernel_rfl) (fun _ _ _ h => h) (fun _ => hS) (fun w' => ?_) ?_
        rotate_left
        · unfold bareOp
          go_simp
          try with_reducible rfl
        simp only [Act.put, List.setIfInBounds_toArray, List.set_cons_zero, List.set_cons_succ]
        refine wpAnyB_take (i := 17) (some 58) (Op.load 110 (Operand.tmp 57)) 110 (v := ?_) ⟨_, rfl, rfl, rfl, rfl, rfl⟩ (by kernel_rfl) (by kernel_rfl) (by kernel_rfl) [18, 27, 28, 29] (by kernel_rfl) (fun _ _ _ h => h) hS (fun w' hSw => ?_) ?_
        rotate_left
        · obtain ⟨a16, a7⟩ := hSw
          unfold bareOp
          go_simp
          try with_reducible rfl
        simp only [Act.put, List.setIfInBounds_toArray, List.set_cons_zero, List.set_cons_succ]
        refine wpAnyB_takeP (i := 19) (some 60) (Op.move (Operand.tmp 8)) 110 (v := ?_) ⟨_, rfl, rfl, rfl, rfl, rfl⟩ (by kernel_rfl) (by kernel_rfl) (by kernel_rfl) (by kernel_rfl) (fun _ _ _ h => h) (fun _ => hS) (fun w' => ?_) ?_
        rotate_left
        · unfold bareOp
          go_simp
          try with_reducible rfl
        simp only [Act.put, List.setIfInBounds_toArray, List.set_cons_zero, List.set_cons_succ]
        refine wpAnyB_takeP (i := 21) (some 62) (Op.move (Operand.tmp 8)) 110 (v := ?_) ⟨_, rfl, rfl, rfl, rfl, rfl⟩ (by kernel_rfl) (by kernel_rfl) (by kernel_rfl) (by kernel_rfl) (fun _ _ _ h => h) (fun _ => hS) (fun w' => ?_) ?_
        rotate_left
        · unfold bareOp
          go_simp
          try with_reducible rfl
        simp only [Act.put, List.setIfInBounds_toArray, List.set_cons_zero, List.set_cons_succ]
        refine wpAnyB_takeP (i := 24) (some 65) (Op.move (Operand.tmp 8)) 110 (v := ?_) ⟨_, rfl, rfl, rfl, rfl, rfl⟩ (by kernel_rfl) (by kernel_rfl) (by kernel_rfl) (by kernel_rfl) (fun _ _ _ h => h) (fun _ => hS) (fun w' => ?_) ?_
        rotate_left
        · unfold bareOp
          go_simp
          try with_reducible rfl
        simp only [Act.put, List.setIfInBounds_toArray, List.set_cons_zero, List.set_cons_succ]
        refine wpAnyB_takeP (i := 25) (some 66) (Op.binOp BinOp.shr 110 (Operand.tmp 65) (Operand.const (Value.int IntKind.u64 10)) 104) 110 (v := ?_) ⟨_, rfl, rfl, rfl, rfl, rfl⟩ (by kernel_rfl) (by kernel_rfl) (by kernel_rfl) (by kernel_rfl) (fun _ _ _ h => h) (fun _ => hS) (fun w' => ?_) ?_
        rotate_left
        · unfold bareOp
          go_simp
          try with_reducible rfl
        simp only [Act.put, List.setIfInBounds_toArray, List.set_cons_zero, List.set_cons_succ]
        refine wpAnyB_only (i := 6) (some 47) (Op.call { callee := Callee.value (Operand.func 96), args := #[Operand.tmp 46, Operand.const (Value.int IntKind.i64 7)], argTypes := #[110, 3] }) 110 ⟨_, rfl, rfl, rfl, rfl, rfl⟩ (by kernel_rfl) (fun K hK => ?_)
        unfold bareOp
        go_wp2_with (go_at_call 96; refine (rturned_any (n := 7) _ (by decide) (by decide) HR7.out).mono ?_; rintro e w8 ⟨rfl, n8, rfl⟩)
        refine hK.out _ _ (fun _ => hS) ?_
        clear hK K
        try simp only [Act.put, List.setIfInBounds_toArray, List.set_cons_zero, List.set_cons_succ]
        refine wpAnyB_only (i := 8) (some 49) (Op.call { callee := Callee.value (Operand.func 96), args := #[Operand.tmp 48, Operand.const (Value.int IntKind.i64 18)], argTypes := #[110, 3] }) 110 ⟨_, rfl, rfl, rfl, rfl, rfl⟩ (by kernel_rfl) (fun K hK => ?_)
        unfold bareOp
        go_wp2_with (go_at_call 96; refine (rturned_any (n := 18) _ (by decide) (by decide) HR18.out).mono ?_; rintro e w8 ⟨rfl, n8, rfl⟩)
        refine hK.out _ _ (fun _ => hS) ?_
        clear hK K
        try simp only [Act.put, List.setIfInBounds_toArray, List.set_cons_zero, List.set_cons_succ]
        refine wpAnyB_takeP (i := 9) (some 50) (Op.binOp BinOp.xor 110 (Operand.tmp 47) (Operand.tmp 49) 110) 110 (v := ?_) ⟨_, rfl, rfl, rfl, rfl, rfl⟩ (by kernel_rfl) (by kernel_rfl) (by kernel_rfl) (by kernel_rfl) (fun _ _ _ h => h) (fun _ => hS) (fun w' => ?_) ?_
        rotate_left
        · unfold bareOp
          go_simp
          try with_reducible rfl
        simp only [Act.put, List.setIfInBounds_toArray, List.set_cons_zero, List.set_cons_succ]
        refine wpAnyB_takeP (i := 12) (some 53) (Op.binOp BinOp.xor 110 (Operand.tmp 50) (Operand.tmp 52) 110) 110 (v := ?_) ⟨_, rfl, rfl, rfl, rfl, rfl⟩ (by kernel_rfl) (by kernel_rfl) (by kernel_rfl) (by kernel_rfl) (fun _ _ _ h => h) (fun _ => hS) (fun w' => ?_) ?_
        rotate_left
        · unfold bareOp
          go_simp
          try with_reducible rfl
        simp only [Act.put, List.setIfInBounds_toArray, List.set_cons_zero, List.set_cons_succ]
        refine wpAnyB_takeP (i := 13) (some 54) (Op.binOp BinOp.add 110 (Operand.tmp 45) (Operand.tmp 53) 110) 110 (v := ?_) ⟨_, rfl, rfl, rfl, rfl, rfl⟩ (by kernel_rfl) (by kernel_rfl) (by kernel_rfl) (by kernel_rfl) (fun _ _ _ h => h) (fun _ => hS) (fun w' => ?_) ?_
        rotate_left
        · unfold bareOp
          go_simp
          try with_reducible rfl
        simp only [Act.put, List.setIfInBounds_toArray, List.set_cons_zero, List.set_cons_succ]
        refine wpAnyB_takeP (i := 18) (some 59) (Op.binOp BinOp.add 110 (Operand.tmp 54) (Operand.tmp 58) 110) 110 (v := ?_) ⟨_, rfl, rfl, rfl, rfl, rfl⟩ (by kernel_rfl) (by kernel_rfl) (by kernel_rfl) (by kernel_rfl) (fun _ _ _ h => h) (fun _ => hS) (fun w' => ?_) ?_
        rotate_left
        · unfold bareOp
          go_simp
          try with_reducible rfl
        simp only [Act.put, List.setIfInBounds_toArray, List.set_cons_zero, List.set_cons_succ]
        refine wpAnyB_only (i := 20) (some 61) (Op.call { callee := Callee.value (Operand.func 96), args := #[Operand.tmp 60, Operand.const (Value.int IntKind.i64 17)], argTypes := #[110, 3] }) 110 ⟨_, rfl, rfl, rfl, rfl, rfl⟩ (by kernel_rfl) (fun K hK => ?_)
        unfold bareOp
        go_wp2_with (go_at_call 96; refine (rturned_any (n := 17) _ (by decide) (by decide) HR17.out).mono ?_; rintro e w8 ⟨rfl, n8, rfl⟩)
        refine hK.out _ _ (fun _ => hS) ?_
        clear hK K
        try simp only [Act.put, List.setIfInBounds_toArray, List.set_cons_zero, List.set_cons_succ]
        refine wpAnyB_only (i := 22) (some 63) (Op.call { callee := Callee.value (Operand.func 96), args := #[Operand.tmp 62, Operand.const (Value.int IntKind.i64 19)], argTypes := #[110, 3] }) 110 ⟨_, rfl, rfl, rfl, rfl, rfl⟩ (by kernel_rfl) (fun K hK => ?_)
        unfold bareOp
        go_wp2_with (go_at_call 96; refine (rturned_any (n := 19) _ (by decide) (by decide) HR19.out).mono ?_; rintro e w8 ⟨rfl, n8, rfl⟩)
        refine hK.out _ _ (fun _ => hS) ?_
        clear hK K
        try simp only [Act.put, List.setIfInBounds_toArray, List.set_cons_zero, List.set_cons_succ]
        refine wpAnyB_takeP (i := 23) (some 64) (Op.binOp BinOp.xor 110 (Operand.tmp 61) (Operand.tmp 63) 110) 110 (v := ?_) ⟨_, rfl, rfl, rfl, rfl, rfl⟩ (by kernel_rfl) (by kernel_rfl) (by kernel_rfl) (by kernel_rfl) (fun _ _ _ h => h) (fun _ => hS) (fun w' => ?_) ?_
        rotate_left
        · unfold bareOp
          go_simp
          try with_reducible rfl
        simp only [Act.put, List.setIfInBounds_toArray, List.set_cons_zero, List.set_cons_succ]
        refine wpAnyB_takeP (i := 26) (some 67) (Op.binOp BinOp.xor 110 (Operand.tmp 64) (Operand.tmp 66) 110) 110 (v := ?_) ⟨_, rfl, rfl, rfl, rfl, rfl⟩ (by kernel_rfl) (by kernel_rfl) (by kernel_rfl) (by kernel_rfl) (fun _ _ _ h => h) (fun _ => hS) (fun w' => ?_) ?_
        rotate_left
        · unfold bareOp
          go_simp
          try with_reducible rfl
        simp only [Act.put, List.setIfInBounds_toArray, List.set_cons_zero, List.set_cons_succ]
        refine wpAnyB_takeP (i := 27) (some 68) (Op.binOp BinOp.add 110 (Operand.tmp 59) (Operand.tmp 67) 110) 110 (v := ?_) ⟨_, rfl, rfl, rfl, rfl, rfl⟩ (by kernel_rfl) (by kernel_rfl) (by kernel_rfl) (by kernel_rfl) (fun _ _ _ h => h) (fun _ => hS) (fun w' => ?_) ?_
        rotate_left
        · unfold bareOp
          go_simp
          try with_reducible rfl
        simp only [Act.put, List.setIfInBounds_toArray, List.set_cons_zero, List.set_cons_succ]
        refine wpAnyB_takeP (i := 28) (some 69) (Op.indexAddr 118 (Operand.tmp 5) (Operand.tmp 41)) 0 (v := ?_) ⟨_, rfl, rfl, rfl, rfl, rfl⟩ (by kernel_rfl) (by kernel_rfl) (by kernel_rfl) (by kernel_rfl) (fun _ _ _ h => h) (fun _ => hS) (fun w' => ?_) ?_
        rotate_left
        · unfold bareOp
          go_simp
          try with_reducible rfl
        simp only [Act.put, List.setIfInBounds_toArray, List.set_cons_zero, List.set_cons_succ]
        refine wpAnyB_only (i := 29) none (Op.store 110 (Operand.tmp 69) (Operand.tmp 68)) 0 ⟨_, rfl, rfl, rfl, rfl, rfl⟩ (by kernel_rfl) (fun K hK => ?_)
        unfold bareOp
        go_wp2_with fail
        refine hK.out _ _ (fun h => absurd (h.symm.trans (by kernel_rfl : _ = true)) (by decide)) ?_
        clear hK K
        try simp only [Act.put, List.setIfInBounds_toArray, List.set_cons_zero, List.set_cons_succ]
        refine wpAnyB_done (by kernel_rfl) ?_ _
        go_wp2_with fail
        go_roundw
        case rel =>
          refine ⟨k + 1, by omega, by go_num, AftIn.set (HI.out.drewN _) (by rw [wsL_len]; omega) (wsL_succ p q k hlt ?_)⟩
          rw [ws_hi _ _ _ (by omega), HX.out.1, HX.out.2.1, HX.out.2.2.1, HX.out.2.2.2, sig0, sig1, HR7.out, HR18.out, HR17.out, HR19.out]
          unfold M; omega
        case measure => simp [intOf]; omega
    case neg =>
      clear F
      obtain rfl : k = 64 := by omega
      simp only [Int.cast_ofNat_Int]
      clear hk hlt
      replace HI := Lib.hid (show AftIn w wr w.heap.size Br Bw s (wsAll p q) from HI.out)
      go_wp2_with (first
        | (go_at_call 97; refine (rK_any _).mono ?_; rintro e w4 ⟨rfl, hb4⟩; have HI4 := Lib.hid (HI.out.keep hb4); clear hb4)
        | (refine wpL_allocArr rfl 118 .u32 64 rfl (by kernel_rfl) ?_; intro w5 h5; have ne_s_k := Nat.ne_of_lt HI4.out.fs.lt; have ne_r_k := Nat.ne_of_lt HI4.out.fr.lt; have ne_w_k := Nat.ne_of_lt HI4.out.fw.lt; have le_k := HI4.out.bel.size; have F_k := Lib.hid h5.arr; have HI5 := Lib.hid (HI4.out.keep (h5.below _ (Nat.le_refl _))); clear h5; simp only [Act.put, List.setIfInBounds_toArray, List.set_cons_zero, List.set_cons_succ])
        | (refine wpL_storeArr rfl 118 .u32 _ _ w4.heap.size kTab _ rfl rfl rfl rfl (by kernel_rfl) F_k.out rfl ?_; intro w6 h6; have HI6 := Lib.hid (HI5.out.laid h6 ne_s_k ne_r_k ne_w_k le_k); have F_k6 := Lib.hid (F_k.out.whole h6); clear h6))
      clear HI HI4 HI5 F_k ne_s_k ne_r_k ne_w_k le_k
      generalize w4.heap.size = Bk at F_k6 ⊢
      have s0 : w6.cell? ⟨w.heap.size, 0, none⟩ = some (.int .u32 s.a) := HI6.out.fs.c 0 (by decide : 0 < 8)
      have s1 : w6.cell? ⟨w.heap.size, 1, none⟩ = some (.int .u32 s.b) := HI6.out.fs.c 1 (by decide : 1 < 8)
      have s2 : w6.cell? ⟨w.heap.size, 2, none⟩ = some (.int .u32 s.c) := HI6.out.fs.c 2 (by decide : 2 < 8)
      have s3 : w6.cell? ⟨w.heap.size, 3, none⟩ = some (.int .u32 s.d) := HI6.out.fs.c 3 (by decide : 3 < 8)
      have s4 : w6.cell? ⟨w.heap.size, 4, none⟩ = some (.int .u32 s.e) := HI6.out.fs.c 4 (by decide : 4 < 8)
      have s5 : w6.cell? ⟨w.heap.size, 5, none⟩ = some (.int .u32 s.f) := HI6.out.fs.c 5 (by decide : 5 < 8)
      have s6 : w6.cell? ⟨w.heap.size, 6, none⟩ = some (.int .u32 s.g) := HI6.out.fs.c 6 (by decide : 6 < 8)
      have s7 : w6.cell? ⟨w.heap.size, 7, none⟩ = some (.int .u32 s.h) := HI6.out.fs.c 7 (by decide : 7 < 8)
      go_quiet (fail)
      go_wp2_with fail
      have HJ := Lib.hid (HI6.out.drewN nq)
      have FK := Lib.hid (F_k6.out.drewN nq)
      clear s0 s1 s2 s3 s4 s5 s6 s7
      generalize w6.drewN nq = w7 at HJ FK ⊢
      clear HI6 F_k6
      go_loopw [10, 11, 12, 13, 14, 15, 16, 17, 18] (fun c10 c11 c12 c13 c14 c15 c16 c17 c18 wr => ∃ (t : Nat) (va vb vc vd ve vf vg vh : Int), t ≤ 64 ∧ (⟨va, vb, vc, vd, ve, vf, vg, vh⟩ : S8) = rnds p q s t ∧ c18 = .int .i64 t ∧ c10 = .int .u32 va ∧ c11 = .int .u32 vb ∧ c12 = .int .u32 vc ∧ c13 = .int .u32 vd ∧ c14 = .int .u32 ve ∧ c15 = .int .u32 vf ∧ c16 = .int .u32 vg ∧ c17 = .int .u32 vh ∧ Hid (AftIn w wr w.heap.size Br Bw s (wsAll p q)) ∧ Hid (Arr .u32 wr Bk kTab)) (fun _ _ _ _ _ _ _ _ c18 _ => 64 - (intOf c18).toNat)
      case atStart => exact ⟨0, s.a, s.b, s.c, s.d, s.e, s.f, s.g, s.h, by omega, rfl, rfl, rfl, rfl, rfl, rfl, rfl, rfl, rfl, rfl, HJ.out, FK.out⟩
      case round =>
        clear HJ FK
        obtain ⟨t, va, vb, vc, vd, ve, vf, vg, vh, ht, hv, rfl, rfl, rfl, rfl, rfl, rfl, rfl, rfl, rfl, HJ, FK⟩ := hrel
        have HV := Lib.hid hv
        clear hv
        by_cases hlt : t < 64
        case pos =>
          obtain ⟨kk, hkk⟩ : ∃ x, kAt t = x := ⟨_, rfl⟩
          obtain ⟨ww, hww⟩ : ∃ x, ws p q t = x := ⟨_, rfl⟩
          have ck : wr.cell? ⟨Bk, t, none⟩ = some (.int .u32 kk) := by rw [← hkk]; exact FK.out.c t hlt
          have cw := HJ.out.fw.c t (by rw [wsAll_len]; exact hlt)
          rw [wsAll_get _ _ _ hlt, hww] at cw
          have HKK := Lib.hid hkk
          have HWW := Lib.hid hww
          clear hkk hww
          have hd : decide ((t : Int) < 64) = true := by simp; omega
          have l64 : (t : Int) < 64 := by omega
          have t0 : (0 : Int) ≤ (t : Int) := by omega
          have hw1 : IntKind.i64.wrap ((t : Int) + 1) = (t : Int) + 1 := IntWalk.i64_in _ (by omega)
          go_wp2_with fail
          go_quiet ((go_at_call 96; refine Calls.quiet_of (rturned_z _ (by decide) (by decide))))
          go_wp2_with (go_at_call 96; refine (rturned_z _ (by decide) (by decide)).mono ?_; rintro e w8 ⟨rfl, n8, rfl⟩)
          go_roundw
          case rel =>
            refine ⟨t + 1, _, va, vb, vc, _, ve, vf, vg, by omega, ?_, by go_num, rfl, rfl, rfl, rfl, rfl, rfl, rfl, rfl, HJ.out.drewN _, FK.out.drewN _⟩
            rw [rnds, ← HV.out, HKK.out, HWW.out]
            show _ = (⟨M (xOf ⟨va, vb, vc, vd, ve, vf, vg, vh⟩ kk ww + yOf ⟨va, vb, vc, vd, ve, vf, vg, vh⟩), va, vb, vc, M (vd + xOf ⟨va, vb, vc, vd, ve, vf, vg, vh⟩ kk ww), ve, vf, vg⟩ : S8)
            rw [S8.mk.injEq]
            refine ⟨?_, rfl, rfl, rfl, ?_, rfl, rfl, rfl⟩
            · simp only [xOf, yOf, big1, big0]
              rw [← ch_eq2 ve vf vg, ← mj_eq va vb vc]
              unfold M
              omega
            · simp only [xOf, big1]
              rw [← ch_eq2 ve vf vg]
              unfold M
              omega
          case measure => simp [intOf]; omega
        case neg =>
          obtain rfl : t = 64 := by omega
          simp only [Int.cast_ofNat_Int]
          clear ht hlt
          have hbu := hbu8
          have s0 : wr.cell? ⟨w.heap.size, 0, none⟩ = some (.int .u32 s.a) := HJ.out.fs.c 0 (by decide : 0 < 8)
          have s1 : wr.cell? ⟨w.heap.size, 1, none⟩ = some (.int .u32 s.b) := HJ.out.fs.c 1 (by decide : 1 < 8)
          have s2 : wr.cell? ⟨w.heap.size, 2, none⟩ = some (.int .u32 s.c) := HJ.out.fs.c 2 (by decide : 2 < 8)
          have s3 : wr.cell? ⟨w.heap.size, 3, none⟩ = some (.int .u32 s.d) := HJ.out.fs.c 3 (by decide : 3 < 8)
          have s4 : wr.cell? ⟨w.heap.size, 4, none⟩ = some (.int .u32 s.e) := HJ.out.fs.c 4 (by decide : 4 < 8)
          have s5 : wr.cell? ⟨w.heap.size, 5, none⟩ = some (.int .u32 s.f) := HJ.out.fs.c 5 (by decide : 5 < 8)
          have s6 : wr.cell? ⟨w.heap.size, 6, none⟩ = some (.int .u32 s.g) := HJ.out.fs.c 6 (by decide : 6 < 8)
          have s7 : wr.cell? ⟨w.heap.size, 7, none⟩ = some (.int .u32 s.h) := HJ.out.fs.c 7 (by decide : 7 < 8)
          go_wp2_with (first
            | (refine wpL_storeArr rfl 111 .u32 _ _ Br [(s.a + va) % 4294967296, (s.b + vb) % 4294967296, (s.c + vc) % 4294967296, (s.d + vd) % 4294967296, (s.e + ve) % 4294967296, (s.f + vf) % 4294967296, (s.g + vg) % 4294967296, (s.h + vh) % 4294967296] _ rfl rfl rfl rfl (by kernel_rfl) HJ.out.fr rfl ?_; intro w9 h9; have H9 := Lib.hid h9; clear h9))
          refine bodyPost_ret (res_arr .u32 Br 0 _ 8 110 rfl Tryd.underlying111 (by kernel_rfl) _ rfl H9.out.row) rfl ?_
          refine ⟨?_, HJ.out.bel.trans (H9.out.below _ HJ.out.rl)⟩
          rw [stepS, ← HV.out]
          rfl
end Go.Proofs.YtmcpfinnhgbcpaaDoor
