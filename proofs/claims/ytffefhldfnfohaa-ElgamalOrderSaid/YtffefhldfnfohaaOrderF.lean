/- ElgamalOrder: a split at the end of a full row. -/
import Derived.Test.YtffefhldfnfohaaAux32
import Derived.Test.YtffefhldfnfohaaSumRE
import Derived.Test.YtffefhldfnfohaaLawL
import Derived.Test.YtffefhldfnfohaaOrderH
namespace Go.Proofs.Ytffefhldfnfohaa.lawOrder
open Go.RowKit Num
set_option linter.unusedSimpArgs false
set_option linter.unusedVariables false
set_option maxRecDepth 100000 in
set_option maxHeartbeats 8000000 in
theorem walkF (P Q G : Int) (ad : Addr) (ps : List (Int × Int)) (m : Nat) (w : World) (uP : U64 P) (uQ : U64 Q) (uG : U64 G) (hS : ShS w (some ad) m ps) (hN : ∀ q, q ∈ ps → U64 q.1 ∧ U64 q.2) (hn : m ≤ 100) {x y : Int} (hM : SumS P Q G ps x y 0) :
    Calls Try.prog 4 #[.agg #[.int .u64 P, .int .u64 Q, .int .u64 G], .slice (some ad) m m, .int .i64 (m : Int)] w fun e w' => e = .returned (.bool true) ∧ Below w.heap.size w w' := by
  have hP := uP.1
  have hQ := uQ.1
  have hG := uG.1
  have HS := Lib.hid hS
  have HN := Lib.hid (show ∀ p, p ∈ ps → 0 ≤ p.1 ∧ 0 ≤ p.2 from fun p hp => ⟨(hN p hp).1.1, (hN p hp).2.1⟩)
  have HLN := Lib.hid hS.len
  have HM := Lib.hid hM
  have hn_ : decide ((100 : Int) < (m : Int)) = false := by first | (simp; omega) | simp
  have h0 : (0 : Int) ≤ (m : Int) := by omega
  have h1 : (m : Int) ≤ (m : Int) := by omega
  clear hS hN hM
  have F_g := Lib.hid (show Boxed (w.alloc (.cells #[.int .u64 P, .int .u64 Q, .int .u64 G] 24)) (w.heap.size) P Q G from Boxed.at _ P Q G _ (w.heap.size) (by simp))
  have HBW := Lib.hid (show Below w.heap.size w (w.alloc (.cells #[.int .u64 P, .int .u64 Q, .int .u64 G] 24)) from (Below.refl _ _).alloc (by simp <;> omega) _)
  go_enter Try.func4, Try.ntmps4
  obtain ⟨x0a, x0b, x0c, -⟩ := id F_g.out
  go_wp2_with fail
  clear x0a x0b x0c
  refine (alive_yes _).mono ?_
  rintro e w1 ⟨rfl, hb1⟩
  replace F_g := Lib.hid (F_g.out.keep hb1)
  replace HBW := Lib.hid (HBW.out.trans (hb1.mono HBW.out.size))
  clear hb1
  obtain ⟨x0a, x0b, x0c, -⟩ := id F_g.out
  go_wp2_with fail
  clear x0a x0b x0c
  obtain ⟨i0, hi, hz0, hz1', hz2⟩ := info_parts (P := Try.prog) (e := 26) (z := .agg #[.int .u64 0, .int .u64 0]) (size := 2) (bytes := 16) (by kernel_rfl)
  have HBW0 := Lib.hid HBW.out
  have hz1 := F_g.out.lt
  go_loopw [8, 9] (fun c8 c9 wr => ∃ j : Nat, j ≤ m ∧ c9 = .int .i64 ((j : Int) - 1) ∧ Hid (TurnIn w w1 wr ps m j c8)) (fun _ c9 _ => (intOf c9 + 1).toNat)
  case atStart => exact ⟨m, Nat.le_refl _, by go_num, ⟨by rw [Nat.sub_self, List.drop_of_length_le (by rw [← HLN.out]; exact Nat.le_refl _)]; exact World.ownsRow_nil _ _ _ _, Below.refl _ _⟩⟩
  case round =>
    obtain ⟨j, hj, rfl, HK⟩ := hrel
    cases j with
    | zero =>
      have e9 : ((0 : Nat) : Int) - 1 = -1 := rfl
      rw [e9]
      have HBW := Lib.hid (HBW0.out.trans (HK.out.bel.mono (Nat.le_succ _)))
      have F_g := Lib.hid (boxed_under F_g.out HK.out.bel (Nat.lt_succ_self _) hz1)
      have hback := ShS.of_owned (ps := ps.reverse) HK.out.own
      obtain ⟨ba, bc, hv8, hbk⟩ := hback
      have F_bk := Lib.hid hbk
      subst hv8
      have hzr := HBW.out.size
      have HNR := Lib.hid (show ∀ p, p ∈ ps.reverse → 0 ≤ p.1 ∧ 0 ≤ p.2 from fun p hp => HN.out p (List.mem_reverse.1 hp))
      have HMR := Lib.hid (HM.out.perm (List.reverse_perm ps).symm)
      clear HK hbk e9 HBW0
      obtain ⟨hH, hnl2, ho, hxy⟩ : Has P Q G ∧ ps.length ≤ 4096 ∧ okS P ps = true ∧ allP P ps = (x, y) := by
        rcases HM.out with ⟨-, -, -, h⟩ | ⟨-, -, -, -, h⟩ | ⟨-, -, -, -, -, h⟩ | ⟨h1, h2, h3, h4, -⟩
        · cases h
        · cases h
        · cases h
        · exact ⟨h1, h2, h3, h4⟩
      have hP1 : 1 < P := by have := hH.1; omega
      obtain ⟨x1, y1, h1⟩ : ∃ x1 y1, allP P (ps.take m) = (x1, y1) := ⟨_, _, rfl⟩
      obtain ⟨x2, y2, h2⟩ : ∃ x2 y2, allP P (ps.drop m) = (x2, y2) := ⟨_, _, rfl⟩
      have ho12 : okS P (ps.take m) = true ∧ okS P (ps.drop m) = true := by
        have := okS_append (P := P) (ps.take m) (ps.drop m)
        rw [List.take_append_drop, ho] at this
        simpa using this.symm
      have h12 : plusP P (x1, y1) (x2, y2) = (x, y) := by rw [← h1, ← h2, ← allP_append hP1, List.take_append_drop, hxy]
      obtain ⟨x10, x1P, y10, y1P⟩ := allP_range hP1 (ps.take m)
      obtain ⟨x20, x2P, y20, y2P⟩ := allP_range hP1 (ps.drop m)
      rw [h1] at x10 x1P y10 y1P
      rw [h2] at x20 x2P y20 y2P
      have HM1 := Lib.hid (show SumS P Q G (ps.take m) x1 y1 0 from .inr (.inr (.inr ⟨hH, by first | (simp; omega) | simp, ho12.1, h1, rfl⟩)))
      have HM2 := Lib.hid (show SumS P Q G (ps.drop m) x2 y2 0 from .inr (.inr (.inr ⟨hH, by first | (simp; omega) | simp, ho12.2, h2, rfl⟩)))
      have HN1 := Lib.hid (show ∀ p, p ∈ ps.take m → 0 ≤ p.1 ∧ 0 ≤ p.2 from fun p hp => HN.out p (List.mem_of_mem_take hp))
      have HN2 := Lib.hid (show ∀ p, p ∈ ps.drop m → 0 ≤ p.1 ∧ 0 ≤ p.2 from fun p hp => HN.out p (List.mem_of_mem_drop hp))
      have HAD := Lib.hid (show AddS P Q G x1 y1 x2 y2 x y 0 from .inl ⟨askS_ok hH (by simp) (by simpa using ⟨x1P, y1P, x2P, y2P⟩), congrArg Prod.fst h12, congrArg Prod.snd h12, rfl⟩)
      clear hH hnl2 ho hxy h1 h2 ho12 h12
      have hm0 : (0 : Int) ≤ (m : Int) := by omega
      have hdn : ps.drop m = [] := List.drop_of_length_le (by rw [← HLN.out]; exact Nat.le_refl _)
      have HDN := Lib.hid hdn
      clear hdn
      obtain ⟨x0a, x0b, x0c, -⟩ := id F_g.out
      go_wp2_with fail
      clear x0a x0b x0c
      refine (esum_any _ hP hQ hG (HS.out.keep HBW.out) HN.out HM.out).mono ?_
      rintro e w11 ⟨rfl, hb11⟩
      replace F_g := Lib.hid (F_g.out.keep hb11)
      replace F_bk := Lib.hid (F_bk.out.keep hb11)
      replace HBW := Lib.hid (HBW.out.trans (hb11.mono HBW.out.size))
      clear hb11
      replace F_g := Lib.hid (F_g.out.alloc (.cells #[.int .u64 x, .int .u64 y] 26))
      replace F_bk := Lib.hid (F_bk.out.alloc (.cells #[.int .u64 x, .int .u64 y] 26))
      have F_a := Lib.hid (Pair.new w11 x y 26)
      replace HBW := Lib.hid (HBW.out.alloc HBW.out.size (.cells #[.int .u64 x, .int .u64 y] 26))
      obtain ⟨x0a, x0b, x0c, -⟩ := id F_g.out
      obtain ⟨x2a, x2b, x2c, x2d, -⟩ := id F_a.out
      go_wp2_with fail
      clear x0a x0b x0c x2a x2b x2c x2d
      refine (esum_any _ hP hQ hG F_bk.out HNR.out HMR.out).mono ?_
      rintro e w12 ⟨rfl, hb12⟩
      replace F_g := Lib.hid (F_g.out.keep hb12)
      replace F_bk := Lib.hid (F_bk.out.keep hb12)
      replace F_a := Lib.hid (F_a.out.keep hb12)
      replace HBW := Lib.hid (HBW.out.trans (hb12.mono HBW.out.size))
      clear hb12
      replace F_g := Lib.hid (F_g.out.alloc (.cells #[.int .u64 x, .int .u64 y] 26))
      replace F_bk := Lib.hid (F_bk.out.alloc (.cells #[.int .u64 x, .int .u64 y] 26))
      replace F_a := Lib.hid (F_a.out.alloc (.cells #[.int .u64 x, .int .u64 y] 26))
      have F_b := Lib.hid (Pair.new w12 x y 26)
      replace HBW := Lib.hid (HBW.out.alloc HBW.out.size (.cells #[.int .u64 x, .int .u64 y] 26))
      clear F_bk
      obtain ⟨x0a, x0b, x0c, -⟩ := id F_g.out
      obtain ⟨x1a, x1b, x1c, x1d, -⟩ := id F_a.out
      obtain ⟨x2a, x2b, x2c, x2d, -⟩ := id F_b.out
      go_wp2_with fail
      clear x0a x0b x0c x1a x1b x1c x1d x2a x2b x2c x2d
      replace F_g := Lib.hid F_g.out.drew
      replace F_a := Lib.hid F_a.out.drew
      replace F_b := Lib.hid F_b.out.drew
      replace HBW := Lib.hid HBW.out.drew
      have hS := F_g.out.s
      refine wp_region_stage 4 (fun w' => SBox w' w.heap.size P Q G) (by kernel_rfl) ?_
      refine wpAnyB_take (i := 0) (some 78) (Op.load 24 (Operand.tmp 3)) 24 (v := ?_) ⟨_, rfl, rfl, rfl, rfl, rfl⟩ (by kernel_rfl) (by kernel_rfl) (by kernel_rfl) [4] (by kernel_rfl) (fun _ _ _ h => h) hS (fun w' hSw => ?_) ?_
      rotate_left
      · obtain ⟨s0, s1, s2⟩ := hSw
        unfold bareOp
        go_simp
        try with_reducible rfl
      simp only [Act.put, List.setIfInBounds_toArray, List.set_cons_zero, List.set_cons_succ]
      refine wpAnyB_takeP (i := 1) (some 79) (Op.move (Operand.tmp 1)) 27 (v := ?_) ⟨_, rfl, rfl, rfl, rfl, rfl⟩ (by kernel_rfl) (by kernel_rfl) (by kernel_rfl) (by kernel_rfl) (fun _ _ _ h => h) (fun _ => hS) (fun w' => ?_) ?_
      rotate_left
      · unfold bareOp
        go_simp
        try with_reducible rfl
      simp only [Act.put, List.setIfInBounds_toArray, List.set_cons_zero, List.set_cons_succ]
      refine wpAnyB_takeP (i := 2) (some 80) (Op.move (Operand.tmp 2)) 3 (v := ?_) ⟨_, rfl, rfl, rfl, rfl, rfl⟩ (by kernel_rfl) (by kernel_rfl) (by kernel_rfl) (by kernel_rfl) (fun _ _ _ h => h) (fun _ => hS) (fun w' => ?_) ?_
      rotate_left
      · unfold bareOp
        go_simp
        try with_reducible rfl
      simp only [Act.put, List.setIfInBounds_toArray, List.set_cons_zero, List.set_cons_succ]
      refine wpAnyB_takeP (i := 3) (some 81) (Op.slice 27 (Operand.tmp 79) none (some (Operand.tmp 80)) none) 27 (v := ?_) ⟨_, rfl, rfl, rfl, rfl, rfl⟩ (by kernel_rfl) (by kernel_rfl) (by kernel_rfl) (by kernel_rfl) (fun _ _ _ h => h) (fun _ => hS) (fun w' => ?_) ?_
      rotate_left
      · unfold bareOp
        go_simp
        try with_reducible rfl
      simp only [Act.put, List.setIfInBounds_toArray, List.set_cons_zero, List.set_cons_succ]
      refine wpAnyB_two (i := 4) (j := 8) (some 82) (Op.call { callee := Callee.value (Operand.func 15), args := #[Operand.tmp 78, Operand.tmp 81], argTypes := #[24, 27] }) 31 (some 14) (Op.alloc 26) 0 ⟨_, rfl, rfl, rfl, rfl, rfl⟩ ⟨_, rfl, rfl, rfl, rfl, rfl⟩ (by kernel_rfl) (fun K hK => ?_) (fun K hK => ?_)
      · skip
        unfold bareOp
        go_wp2_with (go_at_call 15; refine (esum_any _ hP hQ hG ((HS.out.take m (Nat.le_refl _)).keep HBW.out) HN1.out HM1.out).mono ?_; rintro e w13 ⟨rfl, hb13⟩)
        replace F_g := Lib.hid (F_g.out.keep hb13)
        replace F_a := Lib.hid (F_a.out.keep hb13)
        replace F_b := Lib.hid (F_b.out.keep hb13)
        replace HBW := Lib.hid (HBW.out.trans (hb13.mono HBW.out.size))
        replace hS := F_g.out.s
        clear hb13
        refine hK.out _ _ (fun h => absurd (h.symm.trans (by kernel_rfl : _ = true)) (by decide)) ?_
        clear hK K
        try simp only [Act.put, List.setIfInBounds_toArray, List.set_cons_zero, List.set_cons_succ]
        refine wpAnyB_takeP (i := 5) (some 77) (Op.move (Operand.tmp 82)) 31 (v := ?_) ⟨_, rfl, rfl, rfl, rfl, rfl⟩ (by kernel_rfl) (by kernel_rfl) (by kernel_rfl) (by kernel_rfl) (fun _ _ _ h => h) (fun h => absurd (h.symm.trans (by kernel_rfl : _ = true)) (by decide)) (fun w' => ?_) ?_
        rotate_left
        · unfold bareOp
          go_simp
          try with_reducible rfl
        simp only [Act.put, List.setIfInBounds_toArray, List.set_cons_zero, List.set_cons_succ]
        refine wpAnyB_takeP (i := 6) (some 83) (Op.extract (Operand.tmp 77) 0) 26 (v := ?_) ⟨_, rfl, rfl, rfl, rfl, rfl⟩ (by kernel_rfl) (by kernel_rfl) (by kernel_rfl) (by kernel_rfl) (fun _ _ _ h => h) (fun h => absurd (h.symm.trans (by kernel_rfl : _ = true)) (by decide)) (fun w' => ?_) ?_
        rotate_left
        · unfold bareOp
          go_simp
          try with_reducible rfl
        simp only [Act.put, List.setIfInBounds_toArray, List.set_cons_zero, List.set_cons_succ]
        refine wpAnyB_takeP (i := 7) (some 84) (Op.extract (Operand.tmp 77) 1) 30 (v := ?_) ⟨_, rfl, rfl, rfl, rfl, rfl⟩ (by kernel_rfl) (by kernel_rfl) (by kernel_rfl) (by kernel_rfl) (fun _ _ _ h => h) (fun h => absurd (h.symm.trans (by kernel_rfl : _ = true)) (by decide)) (fun w' => ?_) ?_
        rotate_left
        · unfold bareOp
          go_simp
          try with_reducible rfl
        simp only [Act.put, List.setIfInBounds_toArray, List.set_cons_zero, List.set_cons_succ]
        refine wpAnyB_only (i := 8) (some 14) (Op.alloc 26) 0 ⟨_, rfl, rfl, rfl, rfl, rfl⟩ (by kernel_rfl) (fun K hK => ?_)
        unfold bareOp
        go_wp2_with fail
        refine hK.out _ _ (fun h => absurd (h.symm.trans (by kernel_rfl : _ = true)) (by decide)) ?_
        clear hK K
        try simp only [Act.put, List.setIfInBounds_toArray, List.set_cons_zero, List.set_cons_succ]
        refine wpAnyB_only (i := 9) none (Op.store 26 (Operand.tmp 14) (Operand.tmp 83)) 0 ⟨_, rfl, rfl, rfl, rfl, rfl⟩ (by kernel_rfl) (fun K hK => ?_)
        unfold bareOp
        go_wp2_with fail
        refine hK.out _ _ (fun h => absurd (h.symm.trans (by kernel_rfl : _ = true)) (by decide)) ?_
        clear hK K
        try simp only [Act.put, List.setIfInBounds_toArray, List.set_cons_zero, List.set_cons_succ]
        refine wpAnyB_takeP (i := 10) (some 15) (Op.assign (Operand.tmp 84)) 30 (v := ?_) ⟨_, rfl, rfl, rfl, rfl, rfl⟩ (by kernel_rfl) (by kernel_rfl) (by kernel_rfl) (by kernel_rfl) (fun _ _ _ h => h) (fun h => absurd (h.symm.trans (by kernel_rfl : _ = true)) (by decide)) (fun w' => ?_) ?_
        rotate_left
        · unfold bareOp
          go_simp
          try with_reducible rfl
        simp only [Act.put, List.setIfInBounds_toArray, List.set_cons_zero, List.set_cons_succ]
        refine wpAnyB_done (by kernel_rfl) ?_ _
        replace F_g := Lib.hid (F_g.out.alloc (.cells #[.int .u64 x1, .int .u64 y1] 26))
        replace F_a := Lib.hid (F_a.out.alloc (.cells #[.int .u64 x1, .int .u64 y1] 26))
        replace F_b := Lib.hid (F_b.out.alloc (.cells #[.int .u64 x1, .int .u64 y1] 26))
        have F_c := Lib.hid (Pair.new w13 x1 y1 26)
        replace HBW := Lib.hid (HBW.out.alloc HBW.out.size (.cells #[.int .u64 x1, .int .u64 y1] 26))
        obtain ⟨x0a, x0b, x0c, -⟩ := id F_g.out
        obtain ⟨x1a, x1b, x1c, x1d, -⟩ := id F_a.out
        obtain ⟨x2a, x2b, x2c, x2d, -⟩ := id F_b.out
        obtain ⟨x3a, x3b, x3c, x3d, -⟩ := id F_c.out
        go_wp2_with fail
        clear x0a x0b x0c x1a x1b x1c x1d x2a x2b x2c x2d x3a x3b x3c x3d
        replace F_g := Lib.hid F_g.out.drew
        replace F_a := Lib.hid F_a.out.drew
        replace F_b := Lib.hid F_b.out.drew
        replace F_c := Lib.hid F_c.out.drew
        replace HBW := Lib.hid HBW.out.drew
        have hS := F_g.out.s
        refine wp_region_stage 4 (fun w' => SBox w' w.heap.size P Q G) (by kernel_rfl) ?_
        refine wpAnyB_take (i := 0) (some 86) (Op.load 24 (Operand.tmp 3)) 24 (v := ?_) ⟨_, rfl, rfl, rfl, rfl, rfl⟩ (by kernel_rfl) (by kernel_rfl) (by kernel_rfl) [4] (by kernel_rfl) (fun _ _ _ h => h) hS (fun w' hSw => ?_) ?_
        rotate_left
        · obtain ⟨s0, s1, s2⟩ := hSw
          unfold bareOp
          go_simp
          try with_reducible rfl
        simp only [Act.put, List.setIfInBounds_toArray, List.set_cons_zero, List.set_cons_succ]
        refine wpAnyB_takeP (i := 1) (some 87) (Op.move (Operand.tmp 1)) 27 (v := ?_) ⟨_, rfl, rfl, rfl, rfl, rfl⟩ (by kernel_rfl) (by kernel_rfl) (by kernel_rfl) (by kernel_rfl) (fun _ _ _ h => h) (fun _ => hS) (fun w' => ?_) ?_
        rotate_left
        · unfold bareOp
          go_simp
          try with_reducible rfl
        simp only [Act.put, List.setIfInBounds_toArray, List.set_cons_zero, List.set_cons_succ]
        refine wpAnyB_takeP (i := 2) (some 88) (Op.move (Operand.tmp 2)) 3 (v := ?_) ⟨_, rfl, rfl, rfl, rfl, rfl⟩ (by kernel_rfl) (by kernel_rfl) (by kernel_rfl) (by kernel_rfl) (fun _ _ _ h => h) (fun _ => hS) (fun w' => ?_) ?_
        rotate_left
        · unfold bareOp
          go_simp
          try with_reducible rfl
        simp only [Act.put, List.setIfInBounds_toArray, List.set_cons_zero, List.set_cons_succ]
        refine wpAnyB_takeP (i := 3) (some 89) (Op.slice 27 (Operand.tmp 87) (some (Operand.tmp 88)) none none) 27 (v := ?_) ⟨_, rfl, rfl, rfl, rfl, rfl⟩ (by kernel_rfl) (by kernel_rfl) (by kernel_rfl) (by kernel_rfl) (fun _ _ _ h => h) (fun _ => hS) (fun w' => ?_) ?_
        rotate_left
        · unfold bareOp
          go_simp
          try with_reducible rfl
        simp only [Act.put, List.setIfInBounds_toArray, List.set_cons_zero, List.set_cons_succ]
        refine wpAnyB_two (i := 4) (j := 8) (some 90) (Op.call { callee := Callee.value (Operand.func 15), args := #[Operand.tmp 86, Operand.tmp 89], argTypes := #[24, 27] }) 31 (some 16) (Op.alloc 26) 0 ⟨_, rfl, rfl, rfl, rfl, rfl⟩ ⟨_, rfl, rfl, rfl, rfl, rfl⟩ (by kernel_rfl) (fun K hK => ?_) (fun K hK => ?_)
        · skip
          unfold bareOp
          go_wp2_with (go_at_call 15; refine (esum_any _ hP hQ hG (.inl ⟨rfl, HDN.out⟩) HN2.out HM2.out).mono ?_; rintro e w14 ⟨rfl, hb14⟩)
          replace F_g := Lib.hid (F_g.out.keep hb14)
          replace F_a := Lib.hid (F_a.out.keep hb14)
          replace F_b := Lib.hid (F_b.out.keep hb14)
          replace F_c := Lib.hid (F_c.out.keep hb14)
          replace HBW := Lib.hid (HBW.out.trans (hb14.mono HBW.out.size))
          replace hS := F_g.out.s
          clear hb14
          refine hK.out _ _ (fun h => absurd (h.symm.trans (by kernel_rfl : _ = true)) (by decide)) ?_
          clear hK K
          try simp only [Act.put, List.setIfInBounds_toArray, List.set_cons_zero, List.set_cons_succ]
          refine wpAnyB_takeP (i := 5) (some 85) (Op.move (Operand.tmp 90)) 31 (v := ?_) ⟨_, rfl, rfl, rfl, rfl, rfl⟩ (by kernel_rfl) (by kernel_rfl) (by kernel_rfl) (by kernel_rfl) (fun _ _ _ h => h) (fun h => absurd (h.symm.trans (by kernel_rfl : _ = true)) (by decide)) (fun w' => ?_) ?_
          rotate_left
          · unfold bareOp
            go_simp
            try with_reducible rfl
          simp only [Act.put, List.setIfInBounds_toArray, List.set_cons_zero, List.set_cons_succ]
          refine wpAnyB_takeP (i := 6) (some 91) (Op.extract (Operand.tmp 85) 0) 26 (v := ?_) ⟨_, rfl, rfl, rfl, rfl, rfl⟩ (by kernel_rfl) (by kernel_rfl) (by kernel_rfl) (by kernel_rfl) (fun _ _ _ h => h) (fun h => absurd (h.symm.trans (by kernel_rfl : _ = true)) (by decide)) (fun w' => ?_) ?_
          rotate_left
          · unfold bareOp
            go_simp
            try with_reducible rfl
          simp only [Act.put, List.setIfInBounds_toArray, List.set_cons_zero, List.set_cons_succ]
          refine wpAnyB_takeP (i := 7) (some 92) (Op.extract (Operand.tmp 85) 1) 30 (v := ?_) ⟨_, rfl, rfl, rfl, rfl, rfl⟩ (by kernel_rfl) (by kernel_rfl) (by kernel_rfl) (by kernel_rfl) (fun _ _ _ h => h) (fun h => absurd (h.symm.trans (by kernel_rfl : _ = true)) (by decide)) (fun w' => ?_) ?_
          rotate_left
          · unfold bareOp
            go_simp
            try with_reducible rfl
          simp only [Act.put, List.setIfInBounds_toArray, List.set_cons_zero, List.set_cons_succ]
          refine wpAnyB_only (i := 8) (some 16) (Op.alloc 26) 0 ⟨_, rfl, rfl, rfl, rfl, rfl⟩ (by kernel_rfl) (fun K hK => ?_)
          unfold bareOp
          go_wp2_with fail
          refine hK.out _ _ (fun h => absurd (h.symm.trans (by kernel_rfl : _ = true)) (by decide)) ?_
          clear hK K
          try simp only [Act.put, List.setIfInBounds_toArray, List.set_cons_zero, List.set_cons_succ]
          refine wpAnyB_only (i := 9) none (Op.store 26 (Operand.tmp 16) (Operand.tmp 91)) 0 ⟨_, rfl, rfl, rfl, rfl, rfl⟩ (by kernel_rfl) (fun K hK => ?_)
          unfold bareOp
          go_wp2_with fail
          refine hK.out _ _ (fun h => absurd (h.symm.trans (by kernel_rfl : _ = true)) (by decide)) ?_
          clear hK K
          try simp only [Act.put, List.setIfInBounds_toArray, List.set_cons_zero, List.set_cons_succ]
          refine wpAnyB_takeP (i := 10) (some 17) (Op.assign (Operand.tmp 92)) 30 (v := ?_) ⟨_, rfl, rfl, rfl, rfl, rfl⟩ (by kernel_rfl) (by kernel_rfl) (by kernel_rfl) (by kernel_rfl) (fun _ _ _ h => h) (fun h => absurd (h.symm.trans (by kernel_rfl : _ = true)) (by decide)) (fun w' => ?_) ?_
          rotate_left
          · unfold bareOp
            go_simp
            try with_reducible rfl
          simp only [Act.put, List.setIfInBounds_toArray, List.set_cons_zero, List.set_cons_succ]
          refine wpAnyB_done (by kernel_rfl) ?_ _
          replace F_g := Lib.hid (F_g.out.alloc (.cells #[.int .u64 x2, .int .u64 y2] 26))
          replace F_a := Lib.hid (F_a.out.alloc (.cells #[.int .u64 x2, .int .u64 y2] 26))
          replace F_b := Lib.hid (F_b.out.alloc (.cells #[.int .u64 x2, .int .u64 y2] 26))
          replace F_c := Lib.hid (F_c.out.alloc (.cells #[.int .u64 x2, .int .u64 y2] 26))
          have F_d := Lib.hid (Pair.new w14 x2 y2 26)
          replace HBW := Lib.hid (HBW.out.alloc HBW.out.size (.cells #[.int .u64 x2, .int .u64 y2] 26))
          obtain ⟨x0a, x0b, x0c, -⟩ := id F_g.out
          obtain ⟨x1a, x1b, x1c, x1d, -⟩ := id F_a.out
          obtain ⟨x2a, x2b, x2c, x2d, -⟩ := id F_b.out
          obtain ⟨x3a, x3b, x3c, x3d, -⟩ := id F_c.out
          obtain ⟨x4a, x4b, x4c, x4d, -⟩ := id F_d.out
          go_wp2_with fail
          clear x0a x0b x0c x1a x1b x1c x1d x2a x2b x2c x2d x3a x3b x3c x3d x4a x4b x4c x4d
          refine (eAdd_gen _ hP hQ hG x10 y10 x20 y20 HAD.out).mono ?_
          rintro e w15 ⟨rfl, hb15⟩
          replace F_g := Lib.hid (F_g.out.keep hb15)
          replace F_a := Lib.hid (F_a.out.keep hb15)
          replace F_b := Lib.hid (F_b.out.keep hb15)
          replace F_c := Lib.hid (F_c.out.keep hb15)
          replace F_d := Lib.hid (F_d.out.keep hb15)
          replace HBW := Lib.hid (HBW.out.trans (hb15.mono HBW.out.size))
          clear hb15
          replace F_g := Lib.hid (F_g.out.alloc (.cells #[.int .u64 x, .int .u64 y] 26))
          replace F_a := Lib.hid (F_a.out.alloc (.cells #[.int .u64 x, .int .u64 y] 26))
          replace F_b := Lib.hid (F_b.out.alloc (.cells #[.int .u64 x, .int .u64 y] 26))
          replace F_c := Lib.hid (F_c.out.alloc (.cells #[.int .u64 x, .int .u64 y] 26))
          replace F_d := Lib.hid (F_d.out.alloc (.cells #[.int .u64 x, .int .u64 y] 26))
          have F_s := Lib.hid (Pair.new w15 x y 26)
          replace HBW := Lib.hid (HBW.out.alloc HBW.out.size (.cells #[.int .u64 x, .int .u64 y] 26))
          obtain ⟨x0a, x0b, x0c, -⟩ := id F_g.out
          obtain ⟨x1a, x1b, x1c, x1d, -⟩ := id F_a.out
          obtain ⟨x2a, x2b, x2c, x2d, -⟩ := id F_b.out
          obtain ⟨x3a, x3b, x3c, x3d, -⟩ := id F_c.out
          obtain ⟨x4a, x4b, x4c, x4d, -⟩ := id F_d.out
          obtain ⟨x5a, x5b, x5c, x5d, -⟩ := id F_s.out
          go_wp2_with fail
          go_ret
          exact ⟨rfl, HBW.out⟩
        · skip
          unfold bareOp
          go_wp2_with fail
          have ltB : w.heap.size ≤ w13.heap.size + 1 := by have h := HBW.out.size; (try simp only [World.size_alloc, World.size_drew, World.size_setCell] at h); omega
          have ne_g : w13.heap.size + 1 ≠ w.heap.size := by have h := F_g.out.lt; (try simp only [World.size_alloc, World.size_drew, World.size_setCell] at h); omega
          replace F_g := Lib.hid (F_g.out.alloc (.cells #[.int .u64 0, .int .u64 0] 26))
          have ne_a : w13.heap.size + 1 ≠ w11.heap.size := by have h := F_a.out.lt; (try simp only [World.size_alloc, World.size_drew, World.size_setCell] at h); omega
          replace F_a := Lib.hid (F_a.out.alloc (.cells #[.int .u64 0, .int .u64 0] 26))
          have ne_b : w13.heap.size + 1 ≠ w12.heap.size := by have h := F_b.out.lt; (try simp only [World.size_alloc, World.size_drew, World.size_setCell] at h); omega
          replace F_b := Lib.hid (F_b.out.alloc (.cells #[.int .u64 0, .int .u64 0] 26))
          have ne_c : w13.heap.size + 1 ≠ w13.heap.size := by have h := F_c.out.lt; (try simp only [World.size_alloc, World.size_drew, World.size_setCell] at h); omega
          replace F_c := Lib.hid (F_c.out.alloc (.cells #[.int .u64 0, .int .u64 0] 26))
          have F_d := Lib.hid (Pair.at ((w13.alloc (.cells #[.int .u64 x1, .int .u64 y1] 26)).drew) 0 0 26 (w13.heap.size + 1) (by simp))
          replace HBW := Lib.hid (HBW.out.alloc HBW.out.size (.cells #[.int .u64 0, .int .u64 0] 26))
          replace hS := F_g.out.s
          refine hK.out _ _ (fun _ => hS) ?_
          clear hK K
          try simp only [Act.put, List.setIfInBounds_toArray, List.set_cons_zero, List.set_cons_succ]
          refine wpAnyB_only (i := 4) (some 90) (Op.call { callee := Callee.value (Operand.func 15), args := #[Operand.tmp 86, Operand.tmp 89], argTypes := #[24, 27] }) 31 ⟨_, rfl, rfl, rfl, rfl, rfl⟩ (by kernel_rfl) (fun K hK => ?_)
          unfold bareOp
          go_wp2_with (go_at_call 15; refine (esum_any _ hP hQ hG (.inl ⟨rfl, HDN.out⟩) HN2.out HM2.out).mono ?_; rintro e w14 ⟨rfl, hb14⟩)
          replace F_g := Lib.hid (F_g.out.keep hb14)
          replace F_a := Lib.hid (F_a.out.keep hb14)
          replace F_b := Lib.hid (F_b.out.keep hb14)
          replace F_c := Lib.hid (F_c.out.keep hb14)
          replace F_d := Lib.hid (F_d.out.keep hb14)
          replace HBW := Lib.hid (HBW.out.trans (hb14.mono HBW.out.size))
          replace hS := F_g.out.s
          clear hb14
          refine hK.out _ _ (fun h => absurd (h.symm.trans (by kernel_rfl : _ = true)) (by decide)) ?_
          clear hK K
          try simp only [Act.put, List.setIfInBounds_toArray, List.set_cons_zero, List.set_cons_succ]
          refine wpAnyB_takeP (i := 5) (some 85) (Op.move (Operand.tmp 90)) 31 (v := ?_) ⟨_, rfl, rfl, rfl, rfl, rfl⟩ (by kernel_rfl) (by kernel_rfl) (by kernel_rfl) (by kernel_rfl) (fun _ _ _ h => h) (fun h => absurd (h.symm.trans (by kernel_rfl : _ = true)) (by decide)) (fun w' => ?_) ?_
          rotate_left
          · unfold bareOp
            go_simp
            try with_reducible rfl
          simp only [Act.put, List.setIfInBounds_toArray, List.set_cons_zero, List.set_cons_succ]
          refine wpAnyB_takeP (i := 6) (some 91) (Op.extract (Operand.tmp 85) 0) 26 (v := ?_) ⟨_, rfl, rfl, rfl, rfl, rfl⟩ (by kernel_rfl) (by kernel_rfl) (by kernel_rfl) (by kernel_rfl) (fun _ _ _ h => h) (fun h => absurd (h.symm.trans (by kernel_rfl : _ = true)) (by decide)) (fun w' => ?_) ?_
          rotate_left
          · unfold bareOp
            go_simp
            try with_reducible rfl
          simp only [Act.put, List.setIfInBounds_toArray, List.set_cons_zero, List.set_cons_succ]
          refine wpAnyB_takeP (i := 7) (some 92) (Op.extract (Operand.tmp 85) 1) 30 (v := ?_) ⟨_, rfl, rfl, rfl, rfl, rfl⟩ (by kernel_rfl) (by kernel_rfl) (by kernel_rfl) (by kernel_rfl) (fun _ _ _ h => h) (fun h => absurd (h.symm.trans (by kernel_rfl : _ = true)) (by decide)) (fun w' => ?_) ?_
          rotate_left
          · unfold bareOp
            go_simp
            try with_reducible rfl
          simp only [Act.put, List.setIfInBounds_toArray, List.set_cons_zero, List.set_cons_succ]
          refine wpAnyB_only (i := 9) none (Op.store 26 (Operand.tmp 16) (Operand.tmp 91)) 0 ⟨_, rfl, rfl, rfl, rfl, rfl⟩ (by kernel_rfl) (fun K hK => ?_)
          unfold bareOp
          obtain ⟨za, zb, zc, zd, -⟩ := id F_d.out
          go_wp2_with fail
          clear za zb zc zd
          refine hK.out _ _ (fun h => absurd (h.symm.trans (by kernel_rfl : _ = true)) (by decide)) ?_
          clear hK K
          try simp only [Act.put, List.setIfInBounds_toArray, List.set_cons_zero, List.set_cons_succ]
          refine wpAnyB_takeP (i := 10) (some 17) (Op.assign (Operand.tmp 92)) 30 (v := ?_) ⟨_, rfl, rfl, rfl, rfl, rfl⟩ (by kernel_rfl) (by kernel_rfl) (by kernel_rfl) (by kernel_rfl) (fun _ _ _ h => h) (fun h => absurd (h.symm.trans (by kernel_rfl : _ = true)) (by decide)) (fun w' => ?_) ?_
          rotate_left
          · unfold bareOp
            go_simp
            try with_reducible rfl
          simp only [Act.put, List.setIfInBounds_toArray, List.set_cons_zero, List.set_cons_succ]
          refine wpAnyB_done (by kernel_rfl) ?_ _
          replace F_d := Lib.hid (F_d.out.stored x2 y2)
          replace F_g := Lib.hid ((F_g.out.far (o := 0) ne_g (.int .u64 x2)).far (o := 1) ne_g (.int .u64 y2))
          clear ne_g
          replace F_a := Lib.hid ((F_a.out.far (o := 0) ne_a (.int .u64 x2)).far (o := 1) ne_a (.int .u64 y2))
          clear ne_a
          replace F_b := Lib.hid ((F_b.out.far (o := 0) ne_b (.int .u64 x2)).far (o := 1) ne_b (.int .u64 y2))
          clear ne_b
          replace F_c := Lib.hid ((F_c.out.far (o := 0) ne_c (.int .u64 x2)).far (o := 1) ne_c (.int .u64 y2))
          clear ne_c
          replace HBW := Lib.hid ((HBW.out.setCell (p := ⟨w13.heap.size + 1, 0, none⟩) ltB (.int .u64 x2)).setCell (p := ⟨w13.heap.size + 1, 1, none⟩) ltB (.int .u64 y2))
          clear ltB
          obtain ⟨x0a, x0b, x0c, -⟩ := id F_g.out
          obtain ⟨x1a, x1b, x1c, x1d, -⟩ := id F_a.out
          obtain ⟨x2a, x2b, x2c, x2d, -⟩ := id F_b.out
          obtain ⟨x3a, x3b, x3c, x3d, -⟩ := id F_c.out
          obtain ⟨x4a, x4b, x4c, x4d, -⟩ := id F_d.out
          go_wp2_with fail
          clear x0a x0b x0c x1a x1b x1c x1d x2a x2b x2c x2d x3a x3b x3c x3d x4a x4b x4c x4d
          refine (eAdd_gen _ hP hQ hG x10 y10 x20 y20 HAD.out).mono ?_
          rintro e w15 ⟨rfl, hb15⟩
          replace F_g := Lib.hid (F_g.out.keep hb15)
          replace F_a := Lib.hid (F_a.out.keep hb15)
          replace F_b := Lib.hid (F_b.out.keep hb15)
          replace F_c := Lib.hid (F_c.out.keep hb15)
          replace F_d := Lib.hid (F_d.out.keep hb15)
          replace HBW := Lib.hid (HBW.out.trans (hb15.mono HBW.out.size))
          clear hb15
          replace F_g := Lib.hid (F_g.out.alloc (.cells #[.int .u64 x, .int .u64 y] 26))
          replace F_a := Lib.hid (F_a.out.alloc (.cells #[.int .u64 x, .int .u64 y] 26))
          replace F_b := Lib.hid (F_b.out.alloc (.cells #[.int .u64 x, .int .u64 y] 26))
          replace F_c := Lib.hid (F_c.out.alloc (.cells #[.int .u64 x, .int .u64 y] 26))
          replace F_d := Lib.hid (F_d.out.alloc (.cells #[.int .u64 x, .int .u64 y] 26))
          have F_s := Lib.hid (Pair.new w15 x y 26)
          replace HBW := Lib.hid (HBW.out.alloc HBW.out.size (.cells #[.int .u64 x, .int .u64 y] 26))
          obtain ⟨x0a, x0b, x0c, -⟩ := id F_g.out
          obtain ⟨x1a, x1b, x1c, x1d, -⟩ := id F_a.out
          obtain ⟨x2a, x2b, x2c, x2d, -⟩ := id F_b.out
          obtain ⟨x3a, x3b, x3c, x3d, -⟩ := id F_c.out
          obtain ⟨x4a, x4b, x4c, x4d, -⟩ := id F_d.out
          obtain ⟨x5a, x5b, x5c, x5d, -⟩ := id F_s.out
          go_wp2_with fail
          go_ret
          exact ⟨rfl, HBW.out⟩
      · skip
        unfold bareOp
        go_wp2_with fail
        have ltB : w.heap.size ≤ w12.heap.size + 1 := by have h := HBW.out.size; (try simp only [World.size_alloc, World.size_drew, World.size_setCell] at h); omega
        have ne_g : w12.heap.size + 1 ≠ w.heap.size := by have h := F_g.out.lt; (try simp only [World.size_alloc, World.size_drew, World.size_setCell] at h); omega
        replace F_g := Lib.hid (F_g.out.alloc (.cells #[.int .u64 0, .int .u64 0] 26))
        have ne_a : w12.heap.size + 1 ≠ w11.heap.size := by have h := F_a.out.lt; (try simp only [World.size_alloc, World.size_drew, World.size_setCell] at h); omega
        replace F_a := Lib.hid (F_a.out.alloc (.cells #[.int .u64 0, .int .u64 0] 26))
        have ne_b : w12.heap.size + 1 ≠ w12.heap.size := by have h := F_b.out.lt; (try simp only [World.size_alloc, World.size_drew, World.size_setCell] at h); omega
        replace F_b := Lib.hid (F_b.out.alloc (.cells #[.int .u64 0, .int .u64 0] 26))
        have F_c := Lib.hid (Pair.at ((w12.alloc (.cells #[.int .u64 x, .int .u64 y] 26)).drew) 0 0 26 (w12.heap.size + 1) (by simp))
        replace HBW := Lib.hid (HBW.out.alloc HBW.out.size (.cells #[.int .u64 0, .int .u64 0] 26))
        replace hS := F_g.out.s
        refine hK.out _ _ (fun _ => hS) ?_
        clear hK K
        try simp only [Act.put, List.setIfInBounds_toArray, List.set_cons_zero, List.set_cons_succ]
        refine wpAnyB_only (i := 4) (some 82) (Op.call { callee := Callee.value (Operand.func 15), args := #[Operand.tmp 78, Operand.tmp 81], argTypes := #[24, 27] }) 31 ⟨_, rfl, rfl, rfl, rfl, rfl⟩ (by kernel_rfl) (fun K hK => ?_)
        unfold bareOp
        go_wp2_with (go_at_call 15; refine (esum_any _ hP hQ hG ((HS.out.take m (Nat.le_refl _)).keep HBW.out) HN1.out HM1.out).mono ?_; rintro e w13 ⟨rfl, hb13⟩)
        replace F_g := Lib.hid (F_g.out.keep hb13)
        replace F_a := Lib.hid (F_a.out.keep hb13)
        replace F_b := Lib.hid (F_b.out.keep hb13)
        replace F_c := Lib.hid (F_c.out.keep hb13)
        replace HBW := Lib.hid (HBW.out.trans (hb13.mono HBW.out.size))
        replace hS := F_g.out.s
        clear hb13
        refine hK.out _ _ (fun h => absurd (h.symm.trans (by kernel_rfl : _ = true)) (by decide)) ?_
        clear hK K
        try simp only [Act.put, List.setIfInBounds_toArray, List.set_cons_zero, List.set_cons_succ]
        refine wpAnyB_takeP (i := 5) (some 77) (Op.move (Operand.tmp 82)) 31 (v := ?_) ⟨_, rfl, rfl, rfl, rfl, rfl⟩ (by kernel_rfl) (by kernel_rfl) (by kernel_rfl) (by kernel_rfl) (fun _ _ _ h => h) (fun h => absurd (h.symm.trans (by kernel_rfl : _ = true)) (by decide)) (fun w' => ?_) ?_
        rotate_left
        · unfold bareOp
          go_simp
          try with_reducible rfl
        simp only [Act.put, List.setIfInBounds_toArray, List.set_cons_zero, List.set_cons_succ]
        refine wpAnyB_takeP (i := 6) (some 83) (Op.extract (Operand.tmp 77) 0) 26 (v := ?_) ⟨_, rfl, rfl, rfl, rfl, rfl⟩ (by kernel_rfl) (by kernel_rfl) (by kernel_rfl) (by kernel_rfl) (fun _ _ _ h => h) (fun h => absurd (h.symm.trans (by kernel_rfl : _ = true)) (by decide)) (fun w' => ?_) ?_
        rotate_left
        · unfold bareOp
          go_simp
          try with_reducible rfl
        simp only [Act.put, List.setIfInBounds_toArray, List.set_cons_zero, List.set_cons_succ]
        refine wpAnyB_takeP (i := 7) (some 84) (Op.extract (Operand.tmp 77) 1) 30 (v := ?_) ⟨_, rfl, rfl, rfl, rfl, rfl⟩ (by kernel_rfl) (by kernel_rfl) (by kernel_rfl) (by kernel_rfl) (fun _ _ _ h => h) (fun h => absurd (h.symm.trans (by kernel_rfl : _ = true)) (by decide)) (fun w' => ?_) ?_
        rotate_left
        · unfold bareOp
          go_simp
          try with_reducible rfl
        simp only [Act.put, List.setIfInBounds_toArray, List.set_cons_zero, List.set_cons_succ]
        refine wpAnyB_only (i := 9) none (Op.store 26 (Operand.tmp 14) (Operand.tmp 83)) 0 ⟨_, rfl, rfl, rfl, rfl, rfl⟩ (by kernel_rfl) (fun K hK => ?_)
        unfold bareOp
        obtain ⟨za, zb, zc, zd, -⟩ := id F_c.out
        go_wp2_with fail
        clear za zb zc zd
        refine hK.out _ _ (fun h => absurd (h.symm.trans (by kernel_rfl : _ = true)) (by decide)) ?_
        clear hK K
        try simp only [Act.put, List.setIfInBounds_toArray, List.set_cons_zero, List.set_cons_succ]
        refine wpAnyB_takeP (i := 10) (some 15) (Op.assign (Operand.tmp 84)) 30 (v := ?_) ⟨_, rfl, rfl, rfl, rfl, rfl⟩ (by kernel_rfl) (by kernel_rfl) (by kernel_rfl) (by kernel_rfl) (fun _ _ _ h => h) (fun h => absurd (h.symm.trans (by kernel_rfl : _ = true)) (by decide)) (fun w' => ?_) ?_
        rotate_left
        · unfold bareOp
          go_simp
          try with_reducible rfl
        simp only [Act.put, List.setIfInBounds_toArray, List.set_cons_zero, List.set_cons_succ]
        refine wpAnyB_done (by kernel_rfl) ?_ _
        replace F_c := Lib.hid (F_c.out.stored x1 y1)
        replace F_g := Lib.hid ((F_g.out.far (o := 0) ne_g (.int .u64 x1)).far (o := 1) ne_g (.int .u64 y1))
        clear ne_g
        replace F_a := Lib.hid ((F_a.out.far (o := 0) ne_a (.int .u64 x1)).far (o := 1) ne_a (.int .u64 y1))
        clear ne_a
        replace F_b := Lib.hid ((F_b.out.far (o := 0) ne_b (.int .u64 x1)).far (o := 1) ne_b (.int .u64 y1))
        clear ne_b
        replace HBW := Lib.hid ((HBW.out.setCell (p := ⟨w12.heap.size + 1, 0, none⟩) ltB (.int .u64 x1)).setCell (p := ⟨w12.heap.size + 1, 1, none⟩) ltB (.int .u64 y1))
        clear ltB
        obtain ⟨x0a, x0b, x0c, -⟩ := id F_g.out
        obtain ⟨x1a, x1b, x1c, x1d, -⟩ := id F_a.out
        obtain ⟨x2a, x2b, x2c, x2d, -⟩ := id F_b.out
        obtain ⟨x3a, x3b, x3c, x3d, -⟩ := id F_c.out
        go_wp2_with fail
        clear x0a x0b x0c x1a x1b x1c x1d x2a x2b x2c x2d x3a x3b x3c x3d
        replace F_g := Lib.hid F_g.out.drew
        replace F_a := Lib.hid F_a.out.drew
        replace F_b := Lib.hid F_b.out.drew
        replace F_c := Lib.hid F_c.out.drew
        replace HBW := Lib.hid HBW.out.drew
        have hS := F_g.out.s
        refine wp_region_stage 4 (fun w' => SBox w' w.heap.size P Q G) (by kernel_rfl) ?_
        refine wpAnyB_take (i := 0) (some 86) (Op.load 24 (Operand.tmp 3)) 24 (v := ?_) ⟨_, rfl, rfl, rfl, rfl, rfl⟩ (by kernel_rfl) (by kernel_rfl) (by kernel_rfl) [4] (by kernel_rfl) (fun _ _ _ h => h) hS (fun w' hSw => ?_) ?_
        rotate_left
        · obtain ⟨s0, s1, s2⟩ := hSw
          unfold bareOp
          go_simp
          try with_reducible rfl
        simp only [Act.put, List.setIfInBounds_toArray, List.set_cons_zero, List.set_cons_succ]
        refine wpAnyB_takeP (i := 1) (some 87) (Op.move (Operand.tmp 1)) 27 (v := ?_) ⟨_, rfl, rfl, rfl, rfl, rfl⟩ (by kernel_rfl) (by kernel_rfl) (by kernel_rfl) (by kernel_rfl) (fun _ _ _ h => h) (fun _ => hS) (fun w' => ?_) ?_
        rotate_left
        · unfold bareOp
          go_simp
          try with_reducible rfl
        simp only [Act.put, List.setIfInBounds_toArray, List.set_cons_zero, List.set_cons_succ]
        refine wpAnyB_takeP (i := 2) (some 88) (Op.move (Operand.tmp 2)) 3 (v := ?_) ⟨_, rfl, rfl, rfl, rfl, rfl⟩ (by kernel_rfl) (by kernel_rfl) (by kernel_rfl) (by kernel_rfl) (fun _ _ _ h => h) (fun _ => hS) (fun w' => ?_) ?_
        rotate_left
        · unfold bareOp
          go_simp
          try with_reducible rfl
        simp only [Act.put, List.setIfInBounds_toArray, List.set_cons_zero, List.set_cons_succ]
        refine wpAnyB_takeP (i := 3) (some 89) (Op.slice 27 (Operand.tmp 87) (some (Operand.tmp 88)) none none) 27 (v := ?_) ⟨_, rfl, rfl, rfl, rfl, rfl⟩ (by kernel_rfl) (by kernel_rfl) (by kernel_rfl) (by kernel_rfl) (fun _ _ _ h => h) (fun _ => hS) (fun w' => ?_) ?_
        rotate_left
        · unfold bareOp
          go_simp
          try with_reducible rfl
        simp only [Act.put, List.setIfInBounds_toArray, List.set_cons_zero, List.set_cons_succ]
        refine wpAnyB_two (i := 4) (j := 8) (some 90) (Op.call { callee := Callee.value (Operand.func 15), args := #[Operand.tmp 86, Operand.tmp 89], argTypes := #[24, 27] }) 31 (some 16) (Op.alloc 26) 0 ⟨_, rfl, rfl, rfl, rfl, rfl⟩ ⟨_, rfl, rfl, rfl, rfl, rfl⟩ (by kernel_rfl) (fun K hK => ?_) (fun K hK => ?_)
        · skip
          unfold bareOp
          go_wp2_with (go_at_call 15; refine (esum_any _ hP hQ hG (.inl ⟨rfl, HDN.out⟩) HN2.out HM2.out).mono ?_; rintro e w14 ⟨rfl, hb14⟩)
          replace F_g := Lib.hid (F_g.out.keep hb14)
          replace F_a := Lib.hid (F_a.out.keep hb14)
          replace F_b := Lib.hid (F_b.out.keep hb14)
          replace F_c := Lib.hid (F_c.out.keep hb14)
          replace HBW := Lib.hid (HBW.out.trans (hb14.mono HBW.out.size))
          replace hS := F_g.out.s
          clear hb14
          refine hK.out _ _ (fun h => absurd (h.symm.trans (by kernel_rfl : _ = true)) (by decide)) ?_
          clear hK K
          try simp only [Act.put, List.setIfInBounds_toArray, List.set_cons_zero, List.set_cons_succ]
          refine wpAnyB_takeP (i := 5) (some 85) (Op.move (Operand.tmp 90)) 31 (v := ?_) ⟨_, rfl, rfl, rfl, rfl, rfl⟩ (by kernel_rfl) (by kernel_rfl) (by kernel_rfl) (by kernel_rfl) (fun _ _ _ h => h) (fun h => absurd (h.symm.trans (by kernel_rfl : _ = true)) (by decide)) (fun w' => ?_) ?_
          rotate_left
          · unfold bareOp
            go_simp
            try with_reducible rfl
          simp only [Act.put, List.setIfInBounds_toArray, List.set_cons_zero, List.set_cons_succ]
          refine wpAnyB_takeP (i := 6) (some 91) (Op.extract (Operand.tmp 85) 0) 26 (v := ?_) ⟨_, rfl, rfl, rfl, rfl, rfl⟩ (by kernel_rfl) (by kernel_rfl) (by kernel_rfl) (by kernel_rfl) (fun _ _ _ h => h) (fun h => absurd (h.symm.trans (by kernel_rfl : _ = true)) (by decide)) (fun w' => ?_) ?_
          rotate_left
          · unfold bareOp
            go_simp
            try with_reducible rfl
          simp only [Act.put, List.setIfInBounds_toArray, List.set_cons_zero, List.set_cons_succ]
          refine wpAnyB_takeP (i := 7) (some 92) (Op.extract (Operand.tmp 85) 1) 30 (v := ?_) ⟨_, rfl, rfl, rfl, rfl, rfl⟩ (by kernel_rfl) (by kernel_rfl) (by kernel_rfl) (by kernel_rfl) (fun _ _ _ h => h) (fun h => absurd (h.symm.trans (by kernel_rfl : _ = true)) (by decide)) (fun w' => ?_) ?_
          rotate_left
          · unfold bareOp
            go_simp
            try with_reducible rfl
          simp only [Act.put, List.setIfInBounds_toArray, List.set_cons_zero, List.set_cons_succ]
          refine wpAnyB_only (i := 8) (some 16) (Op.alloc 26) 0 ⟨_, rfl, rfl, rfl, rfl, rfl⟩ (by kernel_rfl) (fun K hK => ?_)
          unfold bareOp
          go_wp2_with fail
          refine hK.out _ _ (fun h => absurd (h.symm.trans (by kernel_rfl : _ = true)) (by decide)) ?_
          clear hK K
          try simp only [Act.put, List.setIfInBounds_toArray, List.set_cons_zero, List.set_cons_succ]
          refine wpAnyB_only (i := 9) none (Op.store 26 (Operand.tmp 16) (Operand.tmp 91)) 0 ⟨_, rfl, rfl, rfl, rfl, rfl⟩ (by kernel_rfl) (fun K hK => ?_)
          unfold bareOp
          go_wp2_with fail
          refine hK.out _ _ (fun h => absurd (h.symm.trans (by kernel_rfl : _ = true)) (by decide)) ?_
          clear hK K
          try simp only [Act.put, List.setIfInBounds_toArray, List.set_cons_zero, List.set_cons_succ]
          refine wpAnyB_takeP (i := 10) (some 17) (Op.assign (Operand.tmp 92)) 30 (v := ?_) ⟨_, rfl, rfl, rfl, rfl, rfl⟩ (by kernel_rfl) (by kernel_rfl) (by kernel_rfl) (by kernel_rfl) (fun _ _ _ h => h) (fun h => absurd (h.symm.trans (by kernel_rfl : _ = true)) (by decide)) (fun w' => ?_) ?_
          rotate_left
          · unfold bareOp
            go_simp
            try with_reducible rfl
          simp only [Act.put, List.setIfInBounds_toArray, List.set_cons_zero, List.set_cons_succ]
          refine wpAnyB_done (by kernel_rfl) ?_ _
          replace F_g := Lib.hid (F_g.out.alloc (.cells #[.int .u64 x2, .int .u64 y2] 26))
          replace F_a := Lib.hid (F_a.out.alloc (.cells #[.int .u64 x2, .int .u64 y2] 26))
          replace F_b := Lib.hid (F_b.out.alloc (.cells #[.int .u64 x2, .int .u64 y2] 26))
          replace F_c := Lib.hid (F_c.out.alloc (.cells #[.int .u64 x2, .int .u64 y2] 26))
          have F_d := Lib.hid (Pair.new w14 x2 y2 26)
          replace HBW := Lib.hid (HBW.out.alloc HBW.out.size (.cells #[.int .u64 x2, .int .u64 y2] 26))
          obtain ⟨x0a, x0b, x0c, -⟩ := id F_g.out
          obtain ⟨x1a, x1b, x1c, x1d, -⟩ := id F_a.out
          obtain ⟨x2a, x2b, x2c, x2d, -⟩ := id F_b.out
          obtain ⟨x3a, x3b, x3c, x3d, -⟩ := id F_c.out
          obtain ⟨x4a, x4b, x4c, x4d, -⟩ := id F_d.out
          go_wp2_with fail
          clear x0a x0b x0c x1a x1b x1c x1d x2a x2b x2c x2d x3a x3b x3c x3d x4a x4b x4c x4d
          refine (eAdd_gen _ hP hQ hG x10 y10 x20 y20 HAD.out).mono ?_
          rintro e w15 ⟨rfl, hb15⟩
          replace F_g := Lib.hid (F_g.out.keep hb15)
          replace F_a := Lib.hid (F_a.out.keep hb15)
          replace F_b := Lib.hid (F_b.out.keep hb15)
          replace F_c := Lib.hid (F_c.out.keep hb15)
          replace F_d := Lib.hid (F_d.out.keep hb15)
          replace HBW := Lib.hid (HBW.out.trans (hb15.mono HBW.out.size))
          clear hb15
          replace F_g := Lib.hid (F_g.out.alloc (.cells #[.int .u64 x, .int .u64 y] 26))
          replace F_a := Lib.hid (F_a.out.alloc (.cells #[.int .u64 x, .int .u64 y] 26))
          replace F_b := Lib.hid (F_b.out.alloc (.cells #[.int .u64 x, .int .u64 y] 26))
          replace F_c := Lib.hid (F_c.out.alloc (.cells #[.int .u64 x, .int .u64 y] 26))
          replace F_d := Lib.hid (F_d.out.alloc (.cells #[.int .u64 x, .int .u64 y] 26))
          have F_s := Lib.hid (Pair.new w15 x y 26)
          replace HBW := Lib.hid (HBW.out.alloc HBW.out.size (.cells #[.int .u64 x, .int .u64 y] 26))
          obtain ⟨x0a, x0b, x0c, -⟩ := id F_g.out
          obtain ⟨x1a, x1b, x1c, x1d, -⟩ := id F_a.out
          obtain ⟨x2a, x2b, x2c, x2d, -⟩ := id F_b.out
          obtain ⟨x3a, x3b, x3c, x3d, -⟩ := id F_c.out
          obtain ⟨x4a, x4b, x4c, x4d, -⟩ := id F_d.out
          obtain ⟨x5a, x5b, x5c, x5d, -⟩ := id F_s.out
          go_wp2_with fail
          go_ret
          exact ⟨rfl, HBW.out⟩
        · skip
          unfold bareOp
          go_wp2_with fail
          have ltB : w.heap.size ≤ w13.heap.size := by have h := HBW.out.size; (try simp only [World.size_alloc, World.size_drew, World.size_setCell] at h); omega
          have ne_g : w13.heap.size ≠ w.heap.size := by have h := F_g.out.lt; (try simp only [World.size_alloc, World.size_drew, World.size_setCell] at h); omega
          replace F_g := Lib.hid (F_g.out.alloc (.cells #[.int .u64 0, .int .u64 0] 26))
          have ne_a : w13.heap.size ≠ w11.heap.size := by have h := F_a.out.lt; (try simp only [World.size_alloc, World.size_drew, World.size_setCell] at h); omega
          replace F_a := Lib.hid (F_a.out.alloc (.cells #[.int .u64 0, .int .u64 0] 26))
          have ne_b : w13.heap.size ≠ w12.heap.size := by have h := F_b.out.lt; (try simp only [World.size_alloc, World.size_drew, World.size_setCell] at h); omega
          replace F_b := Lib.hid (F_b.out.alloc (.cells #[.int .u64 0, .int .u64 0] 26))
          have ne_c : w13.heap.size ≠ w12.heap.size + 1 := by have h := F_c.out.lt; (try simp only [World.size_alloc, World.size_drew, World.size_setCell] at h); omega
          replace F_c := Lib.hid (F_c.out.alloc (.cells #[.int .u64 0, .int .u64 0] 26))
          have F_d := Lib.hid (Pair.at (((w13.setCell ⟨w12.heap.size + 1, 0, none⟩ (.int .u64 x1)).setCell ⟨w12.heap.size + 1, 1, none⟩ (.int .u64 y1)).drew) 0 0 26 (w13.heap.size) (by simp))
          replace HBW := Lib.hid (HBW.out.alloc HBW.out.size (.cells #[.int .u64 0, .int .u64 0] 26))
          replace hS := F_g.out.s
          refine hK.out _ _ (fun _ => hS) ?_
          clear hK K
          try simp only [Act.put, List.setIfInBounds_toArray, List.set_cons_zero, List.set_cons_succ]
          refine wpAnyB_only (i := 4) (some 90) (Op.call { callee := Callee.value (Operand.func 15), args := #[Operand.tmp 86, Operand.tmp 89], argTypes := #[24, 27] }) 31 ⟨_, rfl, rfl, rfl, rfl, rfl⟩ (by kernel_rfl) (fun K hK => ?_)
          unfold bareOp
          go_wp2_with (go_at_call 15; refine (esum_any _ hP hQ hG (.inl ⟨rfl, HDN.out⟩) HN2.out HM2.out).mono ?_; rintro e w14 ⟨rfl, hb14⟩)
          replace F_g := Lib.hid (F_g.out.keep hb14)
          replace F_a := Lib.hid (F_a.out.keep hb14)
          replace F_b := Lib.hid (F_b.out.keep hb14)
          replace F_c := Lib.hid (F_c.out.keep hb14)
          replace F_d := Lib.hid (F_d.out.keep hb14)
          replace HBW := Lib.hid (HBW.out.trans (hb14.mono HBW.out.size))
          replace hS := F_g.out.s
          clear hb14
          refine hK.out _ _ (fun h => absurd (h.symm.trans (by kernel_rfl : _ = true)) (by decide)) ?_
          clear hK K
          try simp only [Act.put, List.setIfInBounds_toArray, List.set_cons_zero, List.set_cons_succ]
          refine wpAnyB_takeP (i := 5) (some 85) (Op.move (Operand.tmp 90)) 31 (v := ?_) ⟨_, rfl, rfl, rfl, rfl, rfl⟩ (by kernel_rfl) (by kernel_rfl) (by kernel_rfl) (by kernel_rfl) (fun _ _ _ h => h) (fun h => absurd (h.symm.trans (by kernel_rfl : _ = true)) (by decide)) (fun w' => ?_) ?_
          rotate_left
          · unfold bareOp
            go_simp
            try with_reducible rfl
          simp only [Act.put, List.setIfInBounds_toArray, List.set_cons_zero, List.set_cons_succ]
          refine wpAnyB_takeP (i := 6) (some 91) (Op.extract (Operand.tmp 85) 0) 26 (v := ?_) ⟨_, rfl, rfl, rfl, rfl, rfl⟩ (by kernel_rfl) (by kernel_rfl) (by kernel_rfl) (by kernel_rfl) (fun _ _ _ h => h) (fun h => absurd (h.symm.trans (by kernel_rfl : _ = true)) (by decide)) (fun w' => ?_) ?_
          rotate_left
          · unfold bareOp
            go_simp
            try with_reducible rfl
          simp only [Act.put, List.setIfInBounds_toArray, List.set_cons_zero, List.set_cons_succ]
          refine wpAnyB_takeP (i := 7) (some 92) (Op.extract (Operand.tmp 85) 1) 30 (v := ?_) ⟨_, rfl, rfl, rfl, rfl, rfl⟩ (by kernel_rfl) (by kernel_rfl) (by kernel_rfl) (by kernel_rfl) (fun _ _ _ h => h) (fun h => absurd (h.symm.trans (by kernel_rfl : _ = true)) (by decide)) (fun w' => ?_) ?_
          rotate_left
          · unfold bareOp
            go_simp
            try with_reducible rfl
          simp only [Act.put, List.setIfInBounds_toArray, List.set_cons_zero, List.set_cons_succ]
          refine wpAnyB_only (i := 9) none (Op.store 26 (Operand.tmp 16) (Operand.tmp 91)) 0 ⟨_, rfl, rfl, rfl, rfl, rfl⟩ (by kernel_rfl) (fun K hK => ?_)
          unfold bareOp
          obtain ⟨za, zb, zc, zd, -⟩ := id F_d.out
          go_wp2_with fail
          clear za zb zc zd
          refine hK.out _ _ (fun h => absurd (h.symm.trans (by kernel_rfl : _ = true)) (by decide)) ?_
          clear hK K
          try simp only [Act.put, List.setIfInBounds_toArray, List.set_cons_zero, List.set_cons_succ]
          refine wpAnyB_takeP (i := 10) (some 17) (Op.assign (Operand.tmp 92)) 30 (v := ?_) ⟨_, rfl, rfl, rfl, rfl, rfl⟩ (by kernel_rfl) (by kernel_rfl) (by kernel_rfl) (by kernel_rfl) (fun _ _ _ h => h) (fun h => absurd (h.symm.trans (by kernel_rfl : _ = true)) (by decide)) (fun w' => ?_) ?_
          rotate_left
          · unfold bareOp
            go_simp
            try with_reducible rfl
          simp only [Act.put, List.setIfInBounds_toArray, List.set_cons_zero, List.set_cons_succ]
          refine wpAnyB_done (by kernel_rfl) ?_ _
          replace F_d := Lib.hid (F_d.out.stored x2 y2)
          replace F_g := Lib.hid ((F_g.out.far (o := 0) ne_g (.int .u64 x2)).far (o := 1) ne_g (.int .u64 y2))
          clear ne_g
          replace F_a := Lib.hid ((F_a.out.far (o := 0) ne_a (.int .u64 x2)).far (o := 1) ne_a (.int .u64 y2))
          clear ne_a
          replace F_b := Lib.hid ((F_b.out.far (o := 0) ne_b (.int .u64 x2)).far (o := 1) ne_b (.int .u64 y2))
          clear ne_b
          replace F_c := Lib.hid ((F_c.out.far (o := 0) ne_c (.int .u64 x2)).far (o := 1) ne_c (.int .u64 y2))
          clear ne_c
          replace HBW := Lib.hid ((HBW.out.setCell (p := ⟨w13.heap.size, 0, none⟩) ltB (.int .u64 x2)).setCell (p := ⟨w13.heap.size, 1, none⟩) ltB (.int .u64 y2))
          clear ltB
          obtain ⟨x0a, x0b, x0c, -⟩ := id F_g.out
          obtain ⟨x1a, x1b, x1c, x1d, -⟩ := id F_a.out
          obtain ⟨x2a, x2b, x2c, x2d, -⟩ := id F_b.out
          obtain ⟨x3a, x3b, x3c, x3d, -⟩ := id F_c.out
          obtain ⟨x4a, x4b, x4c, x4d, -⟩ := id F_d.out
          go_wp2_with fail
          clear x0a x0b x0c x1a x1b x1c x1d x2a x2b x2c x2d x3a x3b x3c x3d x4a x4b x4c x4d
          refine (eAdd_gen _ hP hQ hG x10 y10 x20 y20 HAD.out).mono ?_
          rintro e w15 ⟨rfl, hb15⟩
          replace F_g := Lib.hid (F_g.out.keep hb15)
          replace F_a := Lib.hid (F_a.out.keep hb15)
          replace F_b := Lib.hid (F_b.out.keep hb15)
          replace F_c := Lib.hid (F_c.out.keep hb15)
          replace F_d := Lib.hid (F_d.out.keep hb15)
          replace HBW := Lib.hid (HBW.out.trans (hb15.mono HBW.out.size))
          clear hb15
          replace F_g := Lib.hid (F_g.out.alloc (.cells #[.int .u64 x, .int .u64 y] 26))
          replace F_a := Lib.hid (F_a.out.alloc (.cells #[.int .u64 x, .int .u64 y] 26))
          replace F_b := Lib.hid (F_b.out.alloc (.cells #[.int .u64 x, .int .u64 y] 26))
          replace F_c := Lib.hid (F_c.out.alloc (.cells #[.int .u64 x, .int .u64 y] 26))
          replace F_d := Lib.hid (F_d.out.alloc (.cells #[.int .u64 x, .int .u64 y] 26))
          have F_s := Lib.hid (Pair.new w15 x y 26)
          replace HBW := Lib.hid (HBW.out.alloc HBW.out.size (.cells #[.int .u64 x, .int .u64 y] 26))
          obtain ⟨x0a, x0b, x0c, -⟩ := id F_g.out
          obtain ⟨x1a, x1b, x1c, x1d, -⟩ := id F_a.out
          obtain ⟨x2a, x2b, x2c, x2d, -⟩ := id F_b.out
          obtain ⟨x3a, x3b, x3c, x3d, -⟩ := id F_c.out
          obtain ⟨x4a, x4b, x4c, x4d, -⟩ := id F_d.out
          obtain ⟨x5a, x5b, x5c, x5d, -⟩ := id F_s.out
          go_wp2_with fail
          go_ret
          exact ⟨rfl, HBW.out⟩
    | succ j =>
      have hjn : j < m := by omega
      have hjl : j < ps.length := by have := HLN.out; omega
      have e9 : ((j + 1 : Nat) : Int) - 1 = (j : Int) := by omega
      rw [e9]
      have HBW := Lib.hid (HBW0.out.trans (HK.out.bel.mono (Nat.le_succ _)))
      have F_g := Lib.hid (boxed_under F_g.out HK.out.bel (Nat.lt_succ_self _) hz1)
      obtain ⟨s, o, hsa, hsl, d0, d1⟩ := (HS.out.keep HBW.out).at j hjn
      obtain ⟨u, v, huv⟩ : ∃ u v, ps.getD j (0, 0) = (u, v) := ⟨_, _, rfl⟩
      rw [huv] at d0 d1
      have HT := Lib.hid (drop_turn hjl huv)
      have HO := Lib.hid HK.out.own
      have HBL := Lib.hid HK.out.bel
      have hk0 : (0 : Int) ≤ (j : Int) := by omega
      have hk1 : (j : Int) < (m : Int) := by omega
      have hzr := HBW.out.size
      have hzb := HBL.out.size
      have c26 : Try.prog.cellsOf 26 = 2 := by kernel_rfl
      have hn48 : m - (j + 1) + 1 ≤ 101 := by omega
      clear huv HK e9
      cases hsa
      go_wp2_with (at_builtin; refine wpList_append_own _ rfl _ _ 27 rfl (w.heap.size + 1) 26 i0 (.agg #[.int .u64 0, .int .u64 0]) 2 16 Try.underlying27 hi hz0 hz1' hz2 rfl (by decide) _ _ _ rfl (HO.out.alloc _) ⟨wr.heap.size, 0, none⟩ 1 1 [.int .u64 u, .int .u64 v] rfl rfl (cell_pair_new _ _ _ _) (fun z hz => by simp at hz; rcases hz with rfl | rfl <;> rfl) (by unfold maxLen; omega) (by omega) (by simp; omega) ?_; intro v' w3 hown hgr hnil
                   have HO3 := Lib.hid hown
                   have HB3 := Lib.hid (Below.grown (HBL.out.alloc (by omega) _) hgr (by simp; omega) (fun k hk => (HO.out.lt k hk).1))
                   clear hown hgr hnil)
      go_roundw
      case rel => exact ⟨j, by omega, by go_num, ⟨by rw [HT.out, show m - j = m - (j + 1) + 1 by omega]; exact HO3.out, HB3.out⟩⟩
      case measure => first | (simp [intOf]; omega) | simp [intOf]
end Go.Proofs.Ytffefhldfnfohaa.lawOrder
