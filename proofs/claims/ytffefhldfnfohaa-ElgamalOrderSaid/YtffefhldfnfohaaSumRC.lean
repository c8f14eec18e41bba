/- The reference's Sum: a component out of range. -/
import Derived.Test.YtffefhldfnfohaaSumR
namespace Go.Proofs.Ytffefhldfnfohaa
open Go.RowKit Num
set_option linter.unusedSimpArgs false
set_option linter.unusedVariables false

set_option maxRecDepth 100000 in
set_option maxHeartbeats 4000000 in
theorem rsum_bad {P Q G : Int} {a : Option Addr} {n c : Nat} {ps : List (Int × Int)} (w : World) (hP : 0 ≤ P) (hQ : 0 ≤ Q) (hG : 0 ≤ G) (hS : ShS w a n ps) (hN : ∀ p, p ∈ ps → 0 ≤ p.1 ∧ 0 ≤ p.2) (hH : Has P Q G) (hn : ps.length ≤ 4096) (ho : okS P ps = false) :
    Calls Try.prog 16 #[.agg #[.int .u64 P, .int .u64 Q, .int .u64 G], .slice a n c] w fun e w' => e = .returned (.tuple #[.agg #[.int .u64 0, .int .u64 0], .int .i64 2]) ∧ Below w.heap.size w w' := by
  have HS := Lib.hid hS
  have HN := Lib.hid hN
  have hnl := hS.len
  clear hS hN
  have HR := Lib.hid (show askS P Q G [] [] = 0 from askS_ok hH (by simp) (by simp))
  have hn1 : (n : Int) ≤ 4096 := by omega
  have HH := Lib.hid hH
  have HO3 := Lib.hid ho
  clear hH hn hnl ho
  have F_g := Lib.hid (show Boxed ((w.alloc (.cells #[.int .u64 P, .int .u64 Q, .int .u64 G] 24)).alloc (.cells #[.int .u64 0, .int .u64 0] 26)) (w.heap.size) P Q G from (Boxed.at _ P Q G _ (w.heap.size) (by simp)).alloc _)
  have F_r := Lib.hid (show Pair ((w.alloc (.cells #[.int .u64 P, .int .u64 Q, .int .u64 G] 24)).alloc (.cells #[.int .u64 0, .int .u64 0] 26)) (w.heap.size + 1) 0 0 from Pair.at _ 0 0 _ (w.heap.size + 1) (by simp))
  have HBW := Lib.hid (show Below w.heap.size w ((w.alloc (.cells #[.int .u64 P, .int .u64 Q, .int .u64 G] 24)).alloc (.cells #[.int .u64 0, .int .u64 0] 26)) from ((Below.refl _ _).alloc (by simp <;> omega) _).alloc (by simp <;> omega) _)
  go_enter Try.func16, Try.ntmps16
  obtain ⟨x0a, x0b, x0c, -⟩ := id F_g.out
  obtain ⟨x1a, x1b, x1c, x1d, -⟩ := id F_r.out
  go_wp2_with fail
  clear x0a x0b x0c x1a x1b x1c x1d
  refine (rAsked_any _ hP hQ hG (ShL.nil _) (ShL.nil _) (by simp) (by simp) HR.out).mono ?_
  rintro e w1 ⟨rfl, hb1⟩
  replace F_g := Lib.hid (F_g.out.keep hb1)
  replace F_r := Lib.hid (F_r.out.keep hb1)
  replace HBW := Lib.hid (HBW.out.trans (hb1.mono HBW.out.size))
  clear hb1
  obtain ⟨x0a, x0b, x0c, -⟩ := id F_g.out
  obtain ⟨x1a, x1b, x1c, x1d, -⟩ := id F_r.out
  go_wp2_with fail
  clear x0a x0b x0c x1a x1b x1c x1d
  go_loopw [6, 7] (fun c6 c7 wr => ∃ k : Nat, k ≤ n ∧ c7 = .int .i64 k ∧ ∃ ee : Int, c6 = .int .i64 ee ∧ Hid (RSumIn w wr w.heap.size (w.heap.size + 1) P Q G ps k ee)) (fun _ c7 _ => n - (intOf c7).toNat)
  case atStart => exact ⟨0, Nat.zero_le _, rfl, 0, rfl, ⟨F_g.out, F_r.out, HBW.out, .inl ⟨rfl, rfl⟩⟩⟩
  case round =>
    clear F_g F_r HBW
    obtain ⟨k, hk, rfl, ee, rfl, HK⟩ := hrel
    have hln := HS.out.len
    have F_b := Lib.hid HK.out.box
    have F_r := Lib.hid HK.out.res
    have HBW := Lib.hid HK.out.bel
    rcases HK.out.st with ⟨rfl, hst⟩ | ⟨rfl, hst⟩
    · have HST := Lib.hid hst
      clear hst HK
      by_cases hlt : k < n
      case neg =>
        have hkn : k = n := by omega
        have htk : ps.take k = ps := by rw [hkn, hln, List.take_length]
        have h := HST.out
        rw [htk, HO3.out] at h
        cases h
      case pos =>
        obtain ⟨s, o, hsa, hsl, d0, d1⟩ := (HS.out.keep HBW.out).at k hlt
        obtain ⟨u, v, huv⟩ : ∃ u v, ps.getD k (0, 0) = (u, v) := ⟨_, _, rfl⟩
        rw [huv] at d0 d1
        have hkl : k < ps.length := by omega
        have HT := Lib.hid (okS_snoc P ps k u v hkl huv)
        have HNO := Lib.hid (okS_not P ps k u v hkl huv)
        clear huv hln
        have hk0 : (0 : Int) ≤ (k : Int) := by omega
        have hk1 : (k : Int) < (n : Int) := by omega
        have hzr := HBW.out.size
        have hzR := F_r.out.lt
        subst hsa
        by_cases hb : u < P ∧ v < P
        case neg =>
          have HR2 := Lib.hid (show askS P Q G [] [u, v] = 2 from askS_n HH.out (by simp [okAll]; omega))
          have HF := Lib.hid (HNO.out hb)
          clear hb
          go_wp2_with fail
          have HSC := Lib.hid (show SCells wr s o k u v from ⟨d0, d1⟩)
          clear d0 d1
          have hS := And.intro (F_b.out.drew).s (HSC.out.keep hsl (Below.refl _ _).drew)
          have c26 : Try.prog.cellsOf 26 = 2 := by kernel_rfl
          refine wp_region_stage 12 (fun w' => SBox w' w.heap.size P Q G ∧ SCells w' s o k u v) (by kernel_rfl) ?_
          refine wpAnyB_take (i := 0) (some 27) (Op.load 24 (Operand.tmp 2)) 24 (v := ?_) ⟨_, rfl, rfl, rfl, rfl, rfl⟩ (by kernel_rfl) (by kernel_rfl) (by kernel_rfl) [12] (by kernel_rfl) (fun _ _ _ h => h) hS (fun w' hSw => ?_) ?_
          rotate_left
          · obtain ⟨⟨s0, s1, s2⟩, ⟨s5, s6⟩⟩ := hSw
            unfold bareOp
            go_simp
            try with_reducible rfl
          simp only [Act.put, List.setIfInBounds_toArray, List.set_cons_zero, List.set_cons_succ]
          refine wpAnyB_takeP (i := 1) (some 28) (Op.move (Operand.tmp 1)) 27 (v := ?_) ⟨_, rfl, rfl, rfl, rfl, rfl⟩ (by kernel_rfl) (by kernel_rfl) (by kernel_rfl) (by kernel_rfl) (fun _ _ _ h => h) (fun _ => hS) (fun w' => ?_) ?_
          rotate_left
          · unfold bareOp
            go_simp
            try with_reducible rfl
          simp only [Act.put, List.setIfInBounds_toArray, List.set_cons_zero, List.set_cons_succ]
          refine wpAnyB_takeP (i := 2) (some 29) (Op.move (Operand.tmp 7)) 3 (v := ?_) ⟨_, rfl, rfl, rfl, rfl, rfl⟩ (by kernel_rfl) (by kernel_rfl) (by kernel_rfl) (by kernel_rfl) (fun _ _ _ h => h) (fun _ => hS) (fun w' => ?_) ?_
          rotate_left
          · unfold bareOp
            go_simp
            try with_reducible rfl
          simp only [Act.put, List.setIfInBounds_toArray, List.set_cons_zero, List.set_cons_succ]
          refine wpAnyB_takeP (i := 3) (some 30) (Op.indexAddr 27 (Operand.tmp 28) (Operand.tmp 29)) 0 (v := ?_) ⟨_, rfl, rfl, rfl, rfl, rfl⟩ (by kernel_rfl) (by kernel_rfl) (by kernel_rfl) (by kernel_rfl) (fun _ _ _ h => h) (fun _ => hS) (fun w' => ?_) ?_
          rotate_left
          · unfold bareOp
            go_simp
            try with_reducible rfl
          simp only [Act.put, List.setIfInBounds_toArray, List.set_cons_zero, List.set_cons_succ]
          refine wpAnyB_takeP (i := 4) (some 31) (Op.fieldAddr 26 (Operand.tmp 30) 0) 0 (v := ?_) ⟨_, rfl, rfl, rfl, rfl, rfl⟩ (by kernel_rfl) (by kernel_rfl) (by kernel_rfl) (by kernel_rfl) (fun _ _ _ h => h) (fun _ => hS) (fun w' => ?_) ?_
          rotate_left
          · unfold bareOp
            go_simp
            try with_reducible rfl
          simp only [Act.put, List.setIfInBounds_toArray, List.set_cons_zero, List.set_cons_succ]
          refine wpAnyB_take (i := 5) (some 32) (Op.load 22 (Operand.tmp 31)) 22 (v := ?_) ⟨_, rfl, rfl, rfl, rfl, rfl⟩ (by kernel_rfl) (by kernel_rfl) (by kernel_rfl) [11, 12] (by kernel_rfl) (fun _ _ _ h => h) hS (fun w' hSw => ?_) ?_
          rotate_left
          · obtain ⟨⟨s0, s1, s2⟩, ⟨s5, s6⟩⟩ := hSw
            unfold bareOp
            go_simp
            try with_reducible rfl
          simp only [Act.put, List.setIfInBounds_toArray, List.set_cons_zero, List.set_cons_succ]
          refine wpAnyB_takeP (i := 6) (some 33) (Op.move (Operand.tmp 1)) 27 (v := ?_) ⟨_, rfl, rfl, rfl, rfl, rfl⟩ (by kernel_rfl) (by kernel_rfl) (by kernel_rfl) (by kernel_rfl) (fun _ _ _ h => h) (fun _ => hS) (fun w' => ?_) ?_
          rotate_left
          · unfold bareOp
            go_simp
            try with_reducible rfl
          simp only [Act.put, List.setIfInBounds_toArray, List.set_cons_zero, List.set_cons_succ]
          refine wpAnyB_takeP (i := 7) (some 34) (Op.move (Operand.tmp 7)) 3 (v := ?_) ⟨_, rfl, rfl, rfl, rfl, rfl⟩ (by kernel_rfl) (by kernel_rfl) (by kernel_rfl) (by kernel_rfl) (fun _ _ _ h => h) (fun _ => hS) (fun w' => ?_) ?_
          rotate_left
          · unfold bareOp
            go_simp
            try with_reducible rfl
          simp only [Act.put, List.setIfInBounds_toArray, List.set_cons_zero, List.set_cons_succ]
          refine wpAnyB_takeP (i := 8) (some 35) (Op.indexAddr 27 (Operand.tmp 33) (Operand.tmp 34)) 0 (v := ?_) ⟨_, rfl, rfl, rfl, rfl, rfl⟩ (by kernel_rfl) (by kernel_rfl) (by kernel_rfl) (by kernel_rfl) (fun _ _ _ h => h) (fun _ => hS) (fun w' => ?_) ?_
          rotate_left
          · unfold bareOp
            go_simp
            try with_reducible rfl
          simp only [Act.put, List.setIfInBounds_toArray, List.set_cons_zero, List.set_cons_succ]
          refine wpAnyB_takeP (i := 9) (some 36) (Op.fieldAddr 26 (Operand.tmp 35) 1) 0 (v := ?_) ⟨_, rfl, rfl, rfl, rfl, rfl⟩ (by kernel_rfl) (by kernel_rfl) (by kernel_rfl) (by kernel_rfl) (fun _ _ _ h => h) (fun _ => hS) (fun w' => ?_) ?_
          rotate_left
          · unfold bareOp
            go_simp
            try with_reducible rfl
          simp only [Act.put, List.setIfInBounds_toArray, List.set_cons_zero, List.set_cons_succ]
          refine wpAnyB_take (i := 10) (some 37) (Op.load 22 (Operand.tmp 36)) 22 (v := ?_) ⟨_, rfl, rfl, rfl, rfl, rfl⟩ (by kernel_rfl) (by kernel_rfl) (by kernel_rfl) [11, 12] (by kernel_rfl) (fun _ _ _ h => h) hS (fun w' hSw => ?_) ?_
          rotate_left
          · obtain ⟨⟨s0, s1, s2⟩, ⟨s5, s6⟩⟩ := hSw
            unfold bareOp
            go_simp
            try with_reducible rfl
          simp only [Act.put, List.setIfInBounds_toArray, List.set_cons_zero, List.set_cons_succ]
          refine wpAnyB_only (i := 11) (some 38) (Op.buildSlice 66 2 #[(0, Operand.tmp 32), (1, Operand.tmp 37)]) 66 ⟨_, rfl, rfl, rfl, rfl, rfl⟩ (by kernel_rfl) (fun K hK => ?_)
          unfold bareOp
          go_wp2_with fail
          replace hS := And.intro ((F_b.out.alloc (.cells #[.int .u64 u, .int .u64 v] 22)).drew).s (HSC.out.keep hsl (((Below.refl _ _).alloc (Nat.le_refl _) (.cells #[.int .u64 u, .int .u64 v] 22)).drew))
          refine hK.out _ _ (fun _ => hS) ?_
          clear hK K
          try simp only [Act.put, List.setIfInBounds_toArray, List.set_cons_zero, List.set_cons_succ]
          refine wpAnyB_only (i := 12) (some 39) (Op.call { callee := Callee.value (Operand.func 38), args := #[Operand.tmp 27, Operand.const (Value.slice none 0 0), Operand.tmp 38], argTypes := #[24, 66, 66] }) 3 ⟨_, rfl, rfl, rfl, rfl, rfl⟩ (by kernel_rfl) (fun K hK => ?_)
          unfold bareOp
          go_wp2_with (go_at_call 38; refine (rAsked_any _ hP hQ hG (ShL.nil _) (ShL.laid wr [u, v] _ _ _ _ _ rfl rfl rfl).drew (by simp) (by simp) HR2.out).mono ?_; rintro e w3 ⟨rfl, hb3⟩)
          have hbc := ((Below.refl wr.heap.size wr).alloc (Nat.le_refl _) (.cells #[.int .u64 u, .int .u64 v] 22)).drew
          have hbb : Below wr.heap.size wr w3 := hbc.trans (hb3.mono hbc.size)
          clear hbc
          replace F_b := Lib.hid (F_b.out.keep hbb)
          replace F_r := Lib.hid (F_r.out.keep hbb)
          replace HBW := Lib.hid (HBW.out.trans (hbb.mono HBW.out.size))
          clear hb3 hbb hS
          refine hK.out _ _ (fun h => absurd (h.symm.trans (by kernel_rfl : _ = true)) (by decide)) ?_
          clear hK K
          try simp only [Act.put, List.setIfInBounds_toArray, List.set_cons_zero, List.set_cons_succ]
          refine wpAnyB_takeP (i := 13) (some 6) (Op.assign (Operand.tmp 39)) 3 (v := ?_) ⟨_, rfl, rfl, rfl, rfl, rfl⟩ (by kernel_rfl) (by kernel_rfl) (by kernel_rfl) (by kernel_rfl) (fun _ _ _ h => h) (fun h => absurd (h.symm.trans (by kernel_rfl : _ = true)) (by decide)) (fun w' => ?_) ?_
          rotate_left
          · unfold bareOp
            go_simp
            try with_reducible rfl
          simp only [Act.put, List.setIfInBounds_toArray, List.set_cons_zero, List.set_cons_succ]
          refine wpAnyB_done (by kernel_rfl) ?_ _
          go_wp2_with fail
          go_roundw
          case rel => exact ⟨k + 1, by omega, by go_num, 2, rfl, ⟨F_b.out, F_r.out, HBW.out, .inr ⟨rfl, HF.out⟩⟩⟩
          case measure => simp [intOf]; omega
        case pos =>
          have HR2 := Lib.hid (show askS P Q G [] [u, v] = 0 from askS_ok HH.out (by simp) (by simp; omega))
          have HF := Lib.hid (show okS P (ps.take (k + 1)) = true by rw [HT.out, HST.out]; simpa using hb)
          clear hb
          go_wp2_with fail
          have HSC := Lib.hid (show SCells wr s o k u v from ⟨d0, d1⟩)
          clear d0 d1
          have hS := And.intro (F_b.out.drew).s (HSC.out.keep hsl (Below.refl _ _).drew)
          have c26 : Try.prog.cellsOf 26 = 2 := by kernel_rfl
          refine wp_region_stage 12 (fun w' => SBox w' w.heap.size P Q G ∧ SCells w' s o k u v) (by kernel_rfl) ?_
          refine wpAnyB_take (i := 0) (some 27) (Op.load 24 (Operand.tmp 2)) 24 (v := ?_) ⟨_, rfl, rfl, rfl, rfl, rfl⟩ (by kernel_rfl) (by kernel_rfl) (by kernel_rfl) [12] (by kernel_rfl) (fun _ _ _ h => h) hS (fun w' hSw => ?_) ?_
          rotate_left
          · obtain ⟨⟨s0, s1, s2⟩, ⟨s5, s6⟩⟩ := hSw
            unfold bareOp
            go_simp
            try with_reducible rfl
          simp only [Act.put, List.setIfInBounds_toArray, List.set_cons_zero, List.set_cons_succ]
          refine wpAnyB_takeP (i := 1) (some 28) (Op.move (Operand.tmp 1)) 27 (v := ?_) ⟨_, rfl, rfl, rfl, rfl, rfl⟩ (by kernel_rfl) (by kernel_rfl) (by kernel_rfl) (by kernel_rfl) (fun _ _ _ h => h) (fun _ => hS) (fun w' => ?_) ?_
          rotate_left
          · unfold bareOp
            go_simp
            try with_reducible rfl
          simp only [Act.put, List.setIfInBounds_toArray, List.set_cons_zero, List.set_cons_succ]
          refine wpAnyB_takeP (i := 2) (some 29) (Op.move (Operand.tmp 7)) 3 (v := ?_) ⟨_, rfl, rfl, rfl, rfl, rfl⟩ (by kernel_rfl) (by kernel_rfl) (by kernel_rfl) (by kernel_rfl) (fun _ _ _ h => h) (fun _ => hS) (fun w' => ?_) ?_
          rotate_left
          · unfold bareOp
            go_simp
            try with_reducible rfl
          simp only [Act.put, List.setIfInBounds_toArray, List.set_cons_zero, List.set_cons_succ]
          refine wpAnyB_takeP (i := 3) (some 30) (Op.indexAddr 27 (Operand.tmp 28) (Operand.tmp 29)) 0 (v := ?_) ⟨_, rfl, rfl, rfl, rfl, rfl⟩ (by kernel_rfl) (by kernel_rfl) (by kernel_rfl) (by kernel_rfl) (fun _ _ _ h => h) (fun _ => hS) (fun w' => ?_) ?_
          rotate_left
          · unfold bareOp
            go_simp
            try with_reducible rfl
          simp only [Act.put, List.setIfInBounds_toArray, List.set_cons_zero, List.set_cons_succ]
          refine wpAnyB_takeP (i := 4) (some 31) (Op.fieldAddr 26 (Operand.tmp 30) 0) 0 (v := ?_) ⟨_, rfl, rfl, rfl, rfl, rfl⟩ (by kernel_rfl) (by kernel_rfl) (by kernel_rfl) (by kernel_rfl) (fun _ _ _ h => h) (fun _ => hS) (fun w' => ?_) ?_
          rotate_left
          · unfold bareOp
            go_simp
            try with_reducible rfl
          simp only [Act.put, List.setIfInBounds_toArray, List.set_cons_zero, List.set_cons_succ]
          refine wpAnyB_take (i := 5) (some 32) (Op.load 22 (Operand.tmp 31)) 22 (v := ?_) ⟨_, rfl, rfl, rfl, rfl, rfl⟩ (by kernel_rfl) (by kernel_rfl) (by kernel_rfl) [11, 12] (by kernel_rfl) (fun _ _ _ h => h) hS (fun w' hSw => ?_) ?_
          rotate_left
          · obtain ⟨⟨s0, s1, s2⟩, ⟨s5, s6⟩⟩ := hSw
            unfold bareOp
            go_simp
            try with_reducible rfl
          simp only [Act.put, List.setIfInBounds_toArray, List.set_cons_zero, List.set_cons_succ]
          refine wpAnyB_takeP (i := 6) (some 33) (Op.move (Operand.tmp 1)) 27 (v := ?_) ⟨_, rfl, rfl, rfl, rfl, rfl⟩ (by kernel_rfl) (by kernel_rfl) (by kernel_rfl) (by kernel_rfl) (fun _ _ _ h => h) (fun _ => hS) (fun w' => ?_) ?_
          rotate_left
          · unfold bareOp
            go_simp
            try with_reducible rfl
          simp only [Act.put, List.setIfInBounds_toArray, List.set_cons_zero, List.set_cons_succ]
          refine wpAnyB_takeP (i := 7) (some 34) (Op.move (Operand.tmp 7)) 3 (v := ?_) ⟨_, rfl, rfl, rfl, rfl, rfl⟩ (by kernel_rfl) (by kernel_rfl) (by kernel_rfl) (by kernel_rfl) (fun _ _ _ h => h) (fun _ => hS) (fun w' => ?_) ?_
          rotate_left
          · unfold bareOp
            go_simp
            try with_reducible rfl
          simp only [Act.put, List.setIfInBounds_toArray, List.set_cons_zero, List.set_cons_succ]
          refine wpAnyB_takeP (i := 8) (some 35) (Op.indexAddr 27 (Operand.tmp 33) (Operand.tmp 34)) 0 (v := ?_) ⟨_, rfl, rfl, rfl, rfl, rfl⟩ (by kernel_rfl) (by kernel_rfl) (by kernel_rfl) (by kernel_rfl) (fun _ _ _ h => h) (fun _ => hS) (fun w' => ?_) ?_
          rotate_left
          · unfold bareOp
            go_simp
            try with_reducible rfl
          simp only [Act.put, List.setIfInBounds_toArray, List.set_cons_zero, List.set_cons_succ]
          refine wpAnyB_takeP (i := 9) (some 36) (Op.fieldAddr 26 (Operand.tmp 35) 1) 0 (v := ?_) ⟨_, rfl, rfl, rfl, rfl, rfl⟩ (by kernel_rfl) (by kernel_rfl) (by kernel_rfl) (by kernel_rfl) (fun _ _ _ h => h) (fun _ => hS) (fun w' => ?_) ?_
          rotate_left
          · unfold bareOp
            go_simp
            try with_reducible rfl
          simp only [Act.put, List.setIfInBounds_toArray, List.set_cons_zero, List.set_cons_succ]
          refine wpAnyB_take (i := 10) (some 37) (Op.load 22 (Operand.tmp 36)) 22 (v := ?_) ⟨_, rfl, rfl, rfl, rfl, rfl⟩ (by kernel_rfl) (by kernel_rfl) (by kernel_rfl) [11, 12] (by kernel_rfl) (fun _ _ _ h => h) hS (fun w' hSw => ?_) ?_
          rotate_left
          · obtain ⟨⟨s0, s1, s2⟩, ⟨s5, s6⟩⟩ := hSw
            unfold bareOp
            go_simp
            try with_reducible rfl
          simp only [Act.put, List.setIfInBounds_toArray, List.set_cons_zero, List.set_cons_succ]
          refine wpAnyB_only (i := 11) (some 38) (Op.buildSlice 66 2 #[(0, Operand.tmp 32), (1, Operand.tmp 37)]) 66 ⟨_, rfl, rfl, rfl, rfl, rfl⟩ (by kernel_rfl) (fun K hK => ?_)
          unfold bareOp
          go_wp2_with fail
          replace hS := And.intro ((F_b.out.alloc (.cells #[.int .u64 u, .int .u64 v] 22)).drew).s (HSC.out.keep hsl (((Below.refl _ _).alloc (Nat.le_refl _) (.cells #[.int .u64 u, .int .u64 v] 22)).drew))
          refine hK.out _ _ (fun _ => hS) ?_
          clear hK K
          try simp only [Act.put, List.setIfInBounds_toArray, List.set_cons_zero, List.set_cons_succ]
          refine wpAnyB_only (i := 12) (some 39) (Op.call { callee := Callee.value (Operand.func 38), args := #[Operand.tmp 27, Operand.const (Value.slice none 0 0), Operand.tmp 38], argTypes := #[24, 66, 66] }) 3 ⟨_, rfl, rfl, rfl, rfl, rfl⟩ (by kernel_rfl) (fun K hK => ?_)
          unfold bareOp
          go_wp2_with (go_at_call 38; refine (rAsked_any _ hP hQ hG (ShL.nil _) (ShL.laid wr [u, v] _ _ _ _ _ rfl rfl rfl).drew (by simp) (by simp) HR2.out).mono ?_; rintro e w3 ⟨rfl, hb3⟩)
          have hbc := ((Below.refl wr.heap.size wr).alloc (Nat.le_refl _) (.cells #[.int .u64 u, .int .u64 v] 22)).drew
          have hbb : Below wr.heap.size wr w3 := hbc.trans (hb3.mono hbc.size)
          clear hbc
          replace F_b := Lib.hid (F_b.out.keep hbb)
          replace F_r := Lib.hid (F_r.out.keep hbb)
          replace HBW := Lib.hid (HBW.out.trans (hbb.mono HBW.out.size))
          clear hb3 hbb hS
          refine hK.out _ _ (fun h => absurd (h.symm.trans (by kernel_rfl : _ = true)) (by decide)) ?_
          clear hK K
          try simp only [Act.put, List.setIfInBounds_toArray, List.set_cons_zero, List.set_cons_succ]
          refine wpAnyB_takeP (i := 13) (some 6) (Op.assign (Operand.tmp 39)) 3 (v := ?_) ⟨_, rfl, rfl, rfl, rfl, rfl⟩ (by kernel_rfl) (by kernel_rfl) (by kernel_rfl) (by kernel_rfl) (fun _ _ _ h => h) (fun h => absurd (h.symm.trans (by kernel_rfl : _ = true)) (by decide)) (fun w' => ?_) ?_
          rotate_left
          · unfold bareOp
            go_simp
            try with_reducible rfl
          simp only [Act.put, List.setIfInBounds_toArray, List.set_cons_zero, List.set_cons_succ]
          refine wpAnyB_done (by kernel_rfl) ?_ _
          go_wp2_with fail
          go_roundw
          case rel => exact ⟨k + 1, by omega, by go_num, 0, rfl, ⟨F_b.out, F_r.out, HBW.out, .inl ⟨rfl, HF.out⟩⟩⟩
          case measure => simp [intOf]; omega
    · have HST := Lib.hid hst
      clear hst HK
      by_cases hlt : k < n
      case neg =>
        have hk1 : (n : Int) ≤ (k : Int) := by omega
        obtain ⟨r0, r1, r2, r3, -⟩ := id F_r.out
        go_wp2_with fail
        exact bodyPost_ret (res_pair rfl (F_r.out.stored 0 0) _ rfl rfl) rfl ⟨rfl, (HBW.out.setCell (by simp <;> omega) _).setCell (by simp <;> omega) _⟩
      case pos =>
        have hk0 : (0 : Int) ≤ (k : Int) := by omega
        have hk1 : (k : Int) < (n : Int) := by omega
        obtain ⟨r0, r1, r2, r3, -⟩ := id F_r.out
        go_wp2_with fail
        exact bodyPost_ret (res_pair rfl (F_r.out.stored 0 0) _ rfl rfl) rfl ⟨rfl, (HBW.out.setCell (by simp <;> omega) _).setCell (by simp <;> omega) _⟩
end Go.Proofs.Ytffefhldfnfohaa
