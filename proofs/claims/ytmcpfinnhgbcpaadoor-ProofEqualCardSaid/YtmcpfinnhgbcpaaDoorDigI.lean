/- suffrageref05.Of: the digest, the reference. -/
import Derived.Test.YtmcpfinnhgbcpaaDoorDigH
namespace Go.Proofs.YtmcpfinnhgbcpaaDoor
open Go Go.RowKit Sha
set_option linter.unusedSimpArgs false
set_option linter.unusedVariables false

theorem take_set {n : Nat} {xs : List Int} (hx : xs.length = n) {i : Nat} (hi : i < n) {x : Int} (h : xs.getD i 0 = x) : (xs.take i ++ List.replicate (n - i) 0).set i x = xs.take (i + 1) ++ List.replicate (n - (i + 1)) 0 := by
  subst h
  apply List.ext_getElem
  · simp [hx]; omega
  · intro j h1 h2
    simp only [List.getElem_set, List.getElem_append, List.getElem_take, List.getElem_replicate, List.length_take, hx]
    by_cases e : i = j
    · subst e
      rw [if_pos rfl, dif_pos (by omega), List.getD_eq_getElem?_getD, List.getElem?_eq_getElem (by omega)]; rfl
    · rw [if_neg e]
      by_cases e2 : j < i
      · rw [dif_pos (by omega), dif_pos (by omega)]
      · rw [dif_neg (by omega), dif_neg (by omega)]
/-- The digest, byte by byte, so far as it is laid. -/
def outB (s : S8) (i : Nat) : List Int := (outOf s).take i ++ List.replicate (32 - i) 0
theorem outB_all (s : S8) : outB s 32 = outOf s := rfl
theorem outB_len (s : S8) (i : Nat) (hi : i ≤ 32) : (outB s i).length = 32 := by simp [outB, outOf_len]; omega
theorem outB_succ (s : S8) (j r : Nat) (hj : j < 8) (hr : r < 4) {x : Int} (hx : s.l.getD j 0 = x) : (outB s (4 * j + r)).set (4 * j + r) (x / 2 ^ (24 - 8 * r) % 256) = outB s (4 * j + r + 1) := by
  refine take_set (outOf_len s) (by omega) ?_
  rw [outOf_at s hj hr, hx]
  have h2 : r = 0 ∨ r = 1 ∨ r = 2 ∨ r = 3 := by omega
  rcases h2 with rfl | rfl | rfl | rfl
  · rfl
  · rfl
  · rfl
  · show x % 256 = x / 2 ^ 0 % 256
    rw [Int.pow_zero, Int.ediv_one]

/-- Bytes in a block. -/
structure PB (w : World) (g : Nat) (p : List Int) : Prop where
  c : ∀ i, i < p.length → w.cell? ⟨g, i, none⟩ = some (.int .u8 (p.getD i 0))
  lt : g < w.heap.size
theorem PB.keep {w w' : World} {g : Nat} {p : List Int} (h : PB w g p) (hb : Below w.heap.size w w') : PB w' g p :=
  ⟨fun i hi => (hb.cell (p := ⟨g, i, none⟩) h.lt).trans (h.c i hi), Nat.lt_of_lt_of_le h.lt hb.size⟩
theorem PB.laid {w w' : World} {k : IntKind} {g b q : Nat} {ys p : List Int} (h : PB w g p) (hL : Laid k w w' b q ys) (hn : g ≠ b) : PB w' g p :=
  ⟨fun i hi => (hL.cell _ _ hn).trans (h.c i hi), by rw [hL.size]; exact h.lt⟩
theorem PB.drew {w : World} {g : Nat} {p : List Int} (h : PB w g p) : PB w.drew g p := h.keep (Below.refl _ _).drew
theorem PB.blk {w : World} {g q : Nat} {p : List Int} (h : PB w g p) (hp : ∀ i, 0 ≤ p.getD i 0 ∧ p.getD i 0 < 256) (hx : q + 64 ≤ p.length) : Blk w g q p q :=
  ⟨fun i hi => h.c _ (by omega), h.lt, hp⟩

set_option maxRecDepth 100000 in
set_option maxHeartbeats 8000000 in
theorem rOf5_any {ad : Addr} {n c : Nat} {xs : List Int} (w : World) (h : ShI .u8 w (some ad) n xs) (hn : n ≤ 100000) (hB : ByteL xs) :
    Calls Tryd.prog 82 #[.slice (some ad) n c] w fun e w' => e = .returned (.agg (valV .u8 (shaS xs))) ∧ Below w.heap.size w w' := by
  have HS := Lib.hid h
  have HL := Lib.hid h.len
  have HPY := Lib.hid (padS_bytes hB).get
  clear h hB
  go_enter Tryd.func82, Tryd.ntmps82
  go_wp2_with (first
    | (refine wpL_allocArr rfl 81 .u8 32 rfl (by kernel_rfl) ?_; intro w1 h1; have F_r := Lib.hid h1.arr; have HBW := Lib.hid (h1.below _ (Nat.le_refl _)); clear h1; simp only [Act.put, List.setIfInBounds_toArray, List.set_cons_zero, List.set_cons_succ])
    | (go_at_call 88; refine (rFirst_any _).mono ?_; rintro e w1b ⟨rfl, hb1⟩; replace F_r := Lib.hid (F_r.out.keep hb1); replace HBW := Lib.hid (HBW.out.trans (hb1.mono HBW.out.size)); clear hb1)
    | (refine wpL_allocArr rfl 111 .u32 8 rfl (by kernel_rfl) ?_; intro w2 h2; have ne_r_s := Nat.ne_of_lt F_r.out.lt; have le_t := HBW.out.size; replace F_r := Lib.hid (F_r.out.keep (h2.below _ (Nat.le_refl _))); have F_s := Lib.hid h2.arr; replace HBW := Lib.hid (HBW.out.trans (h2.below _ HBW.out.size)); clear h2; simp only [Act.put, List.setIfInBounds_toArray, List.set_cons_zero, List.set_cons_succ])
    | (refine wpL_storeArr rfl 111 .u32 _ _ _ firstS.l _ rfl rfl rfl rfl (by kernel_rfl) F_s.out rfl ?_; intro w3 h3; replace F_r := Lib.hid (F_r.out.laid h3 ne_r_s); replace F_s := Lib.hid (F_s.out.whole h3); replace HBW := Lib.hid (HBW.out.trans (h3.below _ le_t)); clear h3))
  refine (rPadded_any _ (HS.out.keep HBW.out) hn).mono ?_
  rintro e w4 ⟨v, rfl, O4, B4⟩
  obtain ⟨g, cap, rfl, hg1, hg2⟩ := O4.some (by rw [padS_len]; omega)
  obtain ⟨N, hN⟩ : ∃ N, (padS xs).length = N := ⟨_, rfl⟩
  obtain ⟨m, hm⟩ : ∃ m, N = 64 * m := ⟨N / 64, by have := padS_mod xs; omega⟩
  have hNm : N ≤ 200000 := by
    have := HL.out
    have hz : zerosN xs.length < 64 := by unfold zerosN; omega
    rw [padS_len] at hN; omega
  have hcap := O4.cap
  rw [hN] at hcap
  generalize w1b.heap.size = Bt at F_s ne_r_s le_t ⊢
  have ne_s_p : Bt ≠ g := by have := F_s.out.lt; omega
  have F_p := Lib.hid (show PB w4 g (padS xs) from ⟨fun i hi => O4.at i hi, hg2⟩)
  replace F_s := Lib.hid (F_s.out.keep B4)
  replace F_r := Lib.hid (F_r.out.keep B4)
  replace HBW := Lib.hid (HBW.out.trans (B4.mono HBW.out.size))
  have HN := Lib.hid hN
  have HM := Lib.hid hm
  rw [hN]
  clear O4 B4 hN hg1 hg2 hm
  go_wp2_with fail
  go_loopw [5] (fun c5 wr => ∃ k : Nat, k ≤ m ∧ c5 = .int .i64 ((64 * k : Nat) : Int) ∧ Hid (Arr .u32 wr Bt (blocks (padS xs) k).l) ∧ Hid (Arr .u8 wr w.heap.size (List.replicate 32 0)) ∧ Hid (PB wr g (padS xs)) ∧ Hid (Below w.heap.size w wr)) (fun c5 _ => N - (intOf c5).toNat)
  case atStart => exact ⟨0, by omega, rfl, F_s.out, F_r.out, F_p.out, HBW.out⟩
  case round =>
    clear F_s F_r F_p HBW
    obtain ⟨k, hk, rfl, F_s, F_r, F_p, HBW⟩ := hrel
    obtain ⟨sk, hsk⟩ : ∃ sk, blocks (padS xs) k = sk := ⟨_, rfl⟩
    rw [hsk] at F_s
    have HSK := Lib.hid hsk
    clear hsk
    by_cases hlt : k < m
    case pos =>
      have hm := HM.out
      obtain ⟨i, hi⟩ : ∃ i, 64 * k = i := ⟨_, rfl⟩
      rw [hi]
      have i0 : (0 : Int) ≤ (i : Int) := by omega
      have hl1 : (i : Int) < (N : Int) := by omega
      have hl2 : (i : Int) ≤ (N : Int) := by omega
      have hd : decide ((i : Int) < (N : Int)) = true := by simp; omega
      have hdn : i < N := by omega
      have hdm : decide (i < N) = true := by simp; omega
      have hl4 : i < cap := by omega
      have hl5 : i ≤ cap := by omega
      have hl6 : ¬ i = cap := by omega
      have hl7 : i + 64 ≤ cap := by omega
      have hl8 : (i : Int) + 64 ≤ (cap : Int) := by omega
      have hl9 : (i : Int) ≤ (i : Int) + 64 := by omega
      have hwi : IntKind.i64.wrap ((i : Int) + 64) = (i : Int) + 64 := IntWalk.i64_in _ (by omega)
      have hti : ((i : Int) + 64).toNat = i + 64 := by omega
      have hsb : i + 64 - i = 64 := by omega
      have i64 : i + 64 ≤ (padS xs).length := by have := HN.out; omega
      have HI2 := Lib.hid hi
      have HI64 := Lib.hid i64
      have HLT := Lib.hid hlt
      clear hi i64 hlt hm hNm
      go_wp2_with fail
      refine wp_region_stage 6 (fun w' => ∀ i, i < sk.l.length → w'.cell? ⟨Bt, i, none⟩ = some (.int .u32 (sk.l.getD i 0))) (by kernel_rfl) ?_
      replace F_s := Lib.hid F_s.out.drew
      replace F_r := Lib.hid F_r.out.drew
      replace F_p := Lib.hid F_p.out.drew
      replace HBW := Lib.hid HBW.out.drew
      refine wpAnyB_takeP (i := 1) (some 18) (Op.move (Operand.tmp 4)) 27 (v := ?_) ⟨_, rfl, rfl, rfl, rfl, rfl⟩ (by kernel_rfl) (by kernel_rfl) (by kernel_rfl) (by kernel_rfl) (fun _ _ _ h => h) (fun _ => F_s.out.c) (fun w' => ?_) ?_
      rotate_left
      · unfold bareOp
        go_simp
        try with_reducible rfl
      simp only [Act.put, List.setIfInBounds_toArray, List.set_cons_zero, List.set_cons_succ]
      refine wpAnyB_takeP (i := 2) (some 19) (Op.move (Operand.tmp 5)) 3 (v := ?_) ⟨_, rfl, rfl, rfl, rfl, rfl⟩ (by kernel_rfl) (by kernel_rfl) (by kernel_rfl) (by kernel_rfl) (fun _ _ _ h => h) (fun _ => F_s.out.c) (fun w' => ?_) ?_
      rotate_left
      · unfold bareOp
        go_simp
        try with_reducible rfl
      simp only [Act.put, List.setIfInBounds_toArray, List.set_cons_zero, List.set_cons_succ]
      refine wpAnyB_takeP (i := 3) (some 20) (Op.move (Operand.tmp 5)) 3 (v := ?_) ⟨_, rfl, rfl, rfl, rfl, rfl⟩ (by kernel_rfl) (by kernel_rfl) (by kernel_rfl) (by kernel_rfl) (fun _ _ _ h => h) (fun _ => F_s.out.c) (fun w' => ?_) ?_
      rotate_left
      · unfold bareOp
        go_simp
        try with_reducible rfl
      simp only [Act.put, List.setIfInBounds_toArray, List.set_cons_zero, List.set_cons_succ]
      refine wpAnyB_takeP (i := 4) (some 21) (Op.binOp BinOp.add 3 (Operand.tmp 20) (Operand.const (Value.int IntKind.i64 64)) 3) 3 (v := ?_) ⟨_, rfl, rfl, rfl, rfl, rfl⟩ (by kernel_rfl) (by kernel_rfl) (by kernel_rfl) (by kernel_rfl) (fun _ _ _ h => h) (fun _ => F_s.out.c) (fun w' => ?_) ?_
      rotate_left
      · unfold bareOp
        go_simp
        try with_reducible rfl
      simp only [Act.put, List.setIfInBounds_toArray, List.set_cons_zero, List.set_cons_succ]
      refine wpAnyB_takeP (i := 5) (some 22) (Op.slice 27 (Operand.tmp 18) (some (Operand.tmp 19)) (some (Operand.tmp 21)) none) 27 (v := ?_) ⟨_, rfl, rfl, rfl, rfl, rfl⟩ (by kernel_rfl) (by kernel_rfl) (by kernel_rfl) (by kernel_rfl) (fun _ _ _ h => h) (fun _ => F_s.out.c) (fun w' => ?_) ?_
      rotate_left
      · unfold bareOp
        go_simp
        try with_reducible rfl
      simp only [Act.put, List.setIfInBounds_toArray, List.set_cons_zero, List.set_cons_succ]
      refine wpAnyB_take (i := 0) (some 17) (Op.load 111 (Operand.tmp 3)) 111 (v := .agg (valV .u32 sk.l)) ⟨_, rfl, rfl, rfl, rfl, rfl⟩ (by kernel_rfl) (by kernel_rfl) (by kernel_rfl) [6] (by kernel_rfl) (fun _ _ _ h => h) F_s.out.c (fun w' hSw => exec_loadArr rfl rfl Tryd.underlying111 (by kernel_rfl) hSw) ?_
      try simp only [Act.put, List.setIfInBounds_toArray, List.set_cons_zero, List.set_cons_succ]
      refine wpAnyB_only (i := 6) (some 23) (Op.call { callee := Callee.value (Operand.func 90), args := #[Operand.tmp 17, Operand.tmp 22], argTypes := #[111, 27] }) 111 ⟨_, rfl, rfl, rfl, rfl, rfl⟩ (by kernel_rfl) (fun K hK => ?_)
      unfold bareOp
      go_wp2_with (go_at_call 90; refine (rAfter_any (q := i) (p := padS xs) (s := sk) _ (F_p.out.blk HPY.out HI64.out) (by omega) (by omega)).mono ?_; rintro e w21 ⟨rfl, hb21⟩)
      replace F_s := Lib.hid (F_s.out.keep hb21)
      replace F_r := Lib.hid (F_r.out.keep hb21)
      replace F_p := Lib.hid (F_p.out.keep hb21)
      replace HBW := Lib.hid (HBW.out.trans (hb21.mono HBW.out.size))
      clear hb21
      refine hK.out _ _ (fun h => absurd (h.symm.trans (by kernel_rfl : _ = true)) (by decide)) ?_
      clear hK K
      try simp only [Act.put, List.setIfInBounds_toArray, List.set_cons_zero, List.set_cons_succ]
      refine wpAnyB_only (i := 7) none (Op.store 111 (Operand.tmp 3) (Operand.tmp 23)) 0 ⟨_, rfl, rfl, rfl, rfl, rfl⟩ (by kernel_rfl) (fun K hK => ?_)
      unfold bareOp
      refine wp_storeArr 111 .u32 _ _ _ (stepS (padS xs) i sk).l _ rfl rfl rfl rfl (by kernel_rfl) F_s.out (by rfl) ?_
      intro w22 h22
      have H22 := Lib.hid h22
      clear h22
      replace F_r := Lib.hid (F_r.out.laid H22.out ne_r_s)
      replace F_p := Lib.hid (F_p.out.laid H22.out (Ne.symm ne_s_p))
      replace F_s := Lib.hid (F_s.out.whole H22.out)
      replace HBW := Lib.hid (HBW.out.trans (H22.out.below _ le_t))
      clear H22
      refine hK.out _ _ (fun h => absurd (h.symm.trans (by kernel_rfl : _ = true)) (by decide)) ?_
      clear hK K
      try simp only [Act.put, List.setIfInBounds_toArray, List.set_cons_zero, List.set_cons_succ]
      refine wpAnyB_done (by kernel_rfl) ?_ _
      go_wp2_with fail
      have e1 : ((64 * (k + 1) : Nat) : Int) = (i : Int) + 64 := by have := HI2.out; omega
      go_roundw
      case rel => exact ⟨k + 1, HLT.out, by rw [e1], by rw [blocks, HSK.out, HI2.out]; exact F_s.out, F_r.out, F_p.out, HBW.out⟩
      case measure => simp [intOf]; omega
    case neg =>
      obtain rfl : k = m := by omega
      have hm := HM.out
      have HZ := Lib.hid (show outOf sk = shaS xs by rw [shaS, HN.out, hm, Nat.mul_div_cancel_left k (by decide), HSK.out])
      have hl1 : ¬ (((64 * k : Nat) : Int) < (N : Int)) := by omega
      rw [← hm]
      clear hlt hm F_p HSK hNm
      have hd : decide ((N : Int) < (N : Int)) = false := by simp
      clear hl1
      go_wp2_with (refine wpL_allocArr rfl 81 .u8 32 rfl (by kernel_rfl) ?_; intro w6 h6; have ne_r_o := Nat.ne_of_lt F_r.out.lt; have ne_s_o := Nat.ne_of_lt F_s.out.lt; have le_o := HBW.out.size; replace F_r := Lib.hid (F_r.out.keep (h6.below _ (Nat.le_refl _))); replace F_s := Lib.hid (F_s.out.keep (h6.below _ (Nat.le_refl _))); have F_o := Lib.hid h6.arr; replace HBW := Lib.hid (HBW.out.trans (h6.below _ HBW.out.size)); clear h6; simp only [Act.put, List.setIfInBounds_toArray, List.set_cons_zero, List.set_cons_succ])
      generalize wr.heap.size = Bo at F_o ne_r_o ne_s_o le_o ⊢
      replace F_o := Lib.hid (show Arr .u8 w6 Bo (outB sk 0) from F_o.out)
      clear hd
      go_loopw [7] (fun c7 wq => ∃ i : Nat, i ≤ 32 ∧ c7 = .int .i64 i ∧ Hid (Arr .u8 wq Bo (outB sk i)) ∧ Hid (Arr .u32 wq Bt sk.l) ∧ Hid (Arr .u8 wq w.heap.size (List.replicate 32 0)) ∧ Hid (Below w.heap.size w wq)) (fun c7 _ => 32 - (intOf c7).toNat)
      case atStart => exact ⟨0, by omega, rfl, F_o.out, F_s.out, F_r.out, HBW.out⟩
      case round =>
        clear F_o F_s F_r HBW
        obtain ⟨i, hi, rfl, F_o, F_s, F_r, HBW⟩ := hrel
        by_cases hlt : i < 32
        case pos =>
          have hd : decide ((i : Int) < 32) = true := by simp; omega
          obtain ⟨j, r, hj, hr, rfl⟩ : ∃ j r, j < 8 ∧ r < 4 ∧ i = 4 * j + r := ⟨i / 4, i % 4, by omega, by omega, by omega⟩
          obtain ⟨x, hx⟩ : ∃ x, sk.l.getD j 0 = x := ⟨_, rfl⟩
          have cx := F_s.out.c j hj
          rw [hx] at cx
          have co := F_o.out.c (4 * j + r) (by rw [outB_len _ _ (by omega)]; omega)
          have cf := F_o.out.f (4 * j + r)
          obtain ⟨I, hI⟩ : ∃ I, 4 * j + r = I := ⟨_, rfl⟩
          have HX := Lib.hid (show (outB sk I).set I (x / 2 ^ (24 - 8 * r) % 256) = outB sk (I + 1) by rw [← hI]; exact outB_succ sk j r hj hr hx)
          rw [hI] at co cf hi hlt hd F_o ⊢
          have hII := hI
          have I0 : (0 : Int) ≤ (I : Int) := by omega
          have I32 : (I : Int) < 32 := by omega
          have I32n : I < 32 := by omega
          have hq : (I : Int) / 4 = (j : Int) := by omega
          have hr2 : (I : Int) % 4 = (r : Int) := by omega
          have hqt : (I : Int).tdiv 4 = (j : Int) := by rw [Int.tdiv_eq_ediv_of_nonneg I0]; exact hq
          have hrt : (I : Int).tmod 4 = (r : Int) := by rw [Int.tmod_eq_emod_of_nonneg I0]; exact hr2
          have j0 : (0 : Int) ≤ (j : Int) := by omega
          have j8 : (j : Int) < 8 := by omega
          have r0 : (0 : Int) ≤ (r : Int) := by omega
          have hwj : IntKind.i64.wrap (j : Int) = (j : Int) := IntWalk.i64_in _ (by omega)
          have hw8 : IntKind.i64.wrap (8 * (r : Int)) = 8 * (r : Int) := IntWalk.i64_in _ (by omega)
          have hw24 : IntKind.i64.wrap (24 - 8 * (r : Int)) = 24 - 8 * (r : Int) := IntWalk.i64_in _ (by omega)
          have hw1 : IntKind.i64.wrap ((I : Int) + 1) = (I : Int) + 1 := IntWalk.i64_in _ (by omega)
          have p0 : (0 : Int) ≤ 24 - 8 * (r : Int) := by omega
          have e0 : (24 - 8 * (r : Int)).toNat = 24 - 8 * r := by omega
          have hm0 : min (24 - 8 * r) 32 = 24 - 8 * r := by omega
          generalize (outB sk I).getD I 0 = z at co
          clear hI hx hlt hi hj hr hII hd
          have hd : decide ((I : Int) < 32) = true := by simp; omega
          go_wp2_with fail
          go_roundw
          case rel => exact ⟨I + 1, I32n, by go_num, Arr.set F_o.out I (by rw [outB_len _ _ (by omega)]; exact I32n) HX.out, F_s.out.far (Ne.symm ne_s_o) _, F_r.out.far (Ne.symm ne_r_o) _, HBW.out.setCell le_o _⟩
          case measure => simp [intOf]; omega
        case neg =>
          obtain rfl : i = 32 := by omega
          rw [outB_all, HZ.out] at F_o
          have hd : decide (((32 : Nat) : Int) < 32) = false := by decide
          simp only [Int.cast_ofNat_Int]
          go_wp2_with (first
            | (refine wpL_loadArr rfl 81 .u8 _ Bo _ 32 5 rfl rfl Tryd.underlying81 (by kernel_rfl) F_o.out ?_; simp only [Act.put, List.setIfInBounds_toArray, List.set_cons_zero, List.set_cons_succ])
            | (refine wpL_storeArr rfl 81 .u8 _ _ w.heap.size (shaS xs) _ rfl rfl rfl rfl (by kernel_rfl) F_r.out rfl ?_; intro w9 h9; have H9 := Lib.hid h9; clear h9))
          refine bodyPost_ret (res_arr .u8 w.heap.size 0 (shaS xs) 32 5 rfl Tryd.underlying81 (by kernel_rfl) _ rfl H9.out.row) rfl ?_
          exact ⟨rfl, HBW.out.trans (H9.out.below _ (Nat.le_refl _))⟩
end Go.Proofs.YtmcpfinnhgbcpaaDoor
