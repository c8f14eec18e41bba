/- proof.BitHolds. -/
import Derived.Test.YtlbldpkgnonbpaaDoorZsI
import Derived.Laws.OwnMore
import Derived.LoopTactic
namespace Go.Proofs.YtlbldpkgnonbpaaDoor
open Go.RowKit Num
set_option linter.unusedSimpArgs false
set_option linter.unusedVariables false

theorem boxed_below {w w' : World} {b B : Nat} {P Q G : Int} (h : Boxed w b P Q G) (hb : Below B w w') (hlt : b < B) : Boxed w' b P Q G :=
  ⟨(hb.cell (p := ⟨b, 0, none⟩) hlt).trans h.c0, (hb.cell (p := ⟨b, 1, none⟩) hlt).trans h.c1, (hb.cell (p := ⟨b, 2, none⟩) hlt).trans h.c2, Nat.lt_of_lt_of_le h.lt hb.size⟩
theorem pair_below {w w' : World} {b B : Nat} {x y : Int} (h : Pair w b x y) (hb : Below B w w') (hlt : b < B) : Pair w' b x y :=
  ⟨(hb.cell (p := ⟨b, 0, none⟩) hlt).trans h.c0, (hb.cell (p := ⟨b, 1, none⟩) hlt).trans h.c1, (hb.frozen (p := ⟨b, 0, none⟩) hlt).trans h.f0, (hb.frozen (p := ⟨b, 1, none⟩) hlt).trans h.f1, Nat.lt_of_lt_of_le h.lt hb.size⟩
theorem eight_below {w w' : World} {b B : Nat} {r0 r1 s0 s1 c0 c1 z0 z1 : Int} (h : Eight w b r0 r1 s0 s1 c0 c1 z0 z1) (hb : Below B w w') (hlt : b < B) : Eight w' b r0 r1 s0 s1 c0 c1 z0 z1 :=
  ⟨(hb.cell (p := ⟨b, 0, none⟩) hlt).trans h.k0, (hb.cell (p := ⟨b, 1, none⟩) hlt).trans h.k1, (hb.cell (p := ⟨b, 2, none⟩) hlt).trans h.k2, (hb.cell (p := ⟨b, 3, none⟩) hlt).trans h.k3, (hb.cell (p := ⟨b, 4, none⟩) hlt).trans h.k4, (hb.cell (p := ⟨b, 5, none⟩) hlt).trans h.k5, (hb.cell (p := ⟨b, 6, none⟩) hlt).trans h.k6, (hb.cell (p := ⟨b, 7, none⟩) hlt).trans h.k7, Nat.lt_of_lt_of_le h.lt hb.size⟩
structure BitIn (w wr : World) (P Q G a b r0 r1 s0 s1 c0 c1 z0 z1 : Int) (X0 X1 : Prop) (k : Nat) : Prop where
  box : Boxed wr w.heap.size P Q G
  pr : Pair wr (w.heap.size + 1) a b
  eight : Eight wr (w.heap.size + 1 + 1) r0 r1 s0 s1 c0 c1 z0 z1
  bel : Below w.heap.size w wr
  x0 : 1 ≤ k → X0
  x1 : 2 ≤ k → X1

set_option maxRecDepth 100000 in
set_option maxHeartbeats 8000000 in
theorem bitHolds_any {P Q G y a b c r0 r1 s0 s1 c0 c1 z0 z1 nn pp t e' : Int} {v : Bool} (w : World) (hP : 0 ≤ P) (hQ : 0 ≤ Q) (hG : 0 ≤ G) (y0 : 0 ≤ y) (a0 : 0 ≤ a) (b_0 : 0 ≤ b) (c_0 : 0 ≤ c) (r0_0 : 0 ≤ r0) (r1_0 : 0 ≤ r1) (s0_0 : 0 ≤ s0) (s1_0 : 0 ≤ s1) (c0_0 : 0 ≤ c0) (c1_0 : 0 ≤ c1) (z0_0 : 0 ≤ z0) (z1_0 : 0 ≤ z1)
    (hnn : (0 - 1) % Q = nn) (hpp : powm G nn P = pp) (htt : b * pp % P = t) (h : RetB (askS P Q G [c, c0, c1, z0, z1] [y, a, b, r0, r1, s0, s1]) ((powm G z0 P = r0 * powm a c0 P % P ∧ powm y z0 P = s0 * powm b c0 P % P) ∧ (powm G z1 P = r1 * powm a c1 P % P ∧ powm y z1 P = s1 * powm t c1 P % P) ∧ (c0 + c1) % Q = c) v e') :
    Calls Tryd.prog 115 #[.agg #[.int .u64 P, .int .u64 Q, .int .u64 G], .int .u64 y, .agg #[.int .u64 a, .int .u64 b], .agg #[.int .u64 r0, .int .u64 r1, .int .u64 s0, .int .u64 s1, .int .u64 c0, .int .u64 c1, .int .u64 z0, .int .u64 z1], .int .u64 c] w fun e w' => e = .returned (.tuple #[.bool v, .int .i64 e']) ∧ Below w.heap.size w w' := by
  rcases h with ⟨h, hv, rfl⟩ | ⟨h, rfl, hcc⟩
  · obtain ⟨hH, he, hn⟩ := askS_zero h
    have c_Q := he c (by simp)
    have c0_Q := he c0 (by simp)
    have c1_Q := he c1 (by simp)
    have z0_Q := he z0 (by simp)
    have z1_Q := he z1 (by simp)
    have y_P := hn y (by simp)
    have a_P := hn a (by simp)
    have b_P := hn b (by simp)
    have r0_P := hn r0 (by simp)
    have r1_P := hn r1 (by simp)
    have s0_P := hn s0 (by simp)
    have s1_P := hn s1 (by simp)
    obtain ⟨p5, p3, hQ', pq, g2, gP⟩ := id hH
    have q3 : Q < 1073741824 := by omega
    have aP := a_P
    have yP := y_P
    have t_0 : 0 ≤ t := by rw [← htt]; exact Int.emod_nonneg _ (by omega)
    have t_P : t < P := by rw [← htt]; exact Int.emod_lt_of_pos _ (by omega)
    obtain ⟨m, hm⟩ : ∃ m, (c0 + c1) % Q = m := ⟨_, rfl⟩
    have HM := Lib.hid hm
    have HR := Lib.hid h
    have HV := Lib.hid hv
    have HH := Lib.hid hH
    have HNN := Lib.hid hnn
    have HPP := Lib.hid hpp
    have HTT := Lib.hid htt
    have Uc0 := Lib.hid (U64.of_lt c0_0 (by omega))
    have Uc1 := Lib.hid (U64.of_lt c1_0 (by omega))
    have Uz0 := Lib.hid (U64.of_lt z0_0 (by omega))
    have Uz1 := Lib.hid (U64.of_lt z1_0 (by omega))
    clear h hv he hn hH hnn hpp htt hm pq
    have HOW := Lib.hid (show World.ownsRow ((((w.alloc (.cells #[.int .u64 P, .int .u64 Q, .int .u64 G] 49)).alloc (.cells #[.int .u64 a, .int .u64 b] 78)).alloc (.cells #[.int .u64 r0, .int .u64 r1, .int .u64 s0, .int .u64 s1, .int .u64 c0, .int .u64 c1, .int .u64 z0, .int .u64 z1] 27)).alloc (.cells #[.int .u64 c] 24)) (w.heap.size + 1 + 1 + 1) 24 1 (.slice (some ⟨w.heap.size + 1 + 1 + 1, 0, none⟩) 1 1) 1 [.int .u64 c] from by
      have h := World.ownsRow_lit (base := w.heap.size + 1 + 1 + 1) (e := 24) (size := 1) (((w.alloc (.cells #[.int .u64 P, .int .u64 Q, .int .u64 G] 49)).alloc (.cells #[.int .u64 a, .int .u64 b] 78)).alloc (.cells #[.int .u64 r0, .int .u64 r1, .int .u64 s0, .int .u64 s1, .int .u64 c0, .int .u64 c1, .int .u64 z0, .int .u64 z1] 27)) #[.int .u64 c] 1 (by simp) (by decide) rfl
      rw [show (((w.alloc (.cells #[.int .u64 P, .int .u64 Q, .int .u64 G] 49)).alloc (.cells #[.int .u64 a, .int .u64 b] 78)).alloc (.cells #[.int .u64 r0, .int .u64 r1, .int .u64 s0, .int .u64 s1, .int .u64 c0, .int .u64 c1, .int .u64 z0, .int .u64 z1] 27)).heap.size = w.heap.size + 1 + 1 + 1 by simp] at h
      exact h)
    have F_g := Lib.hid (show Boxed ((((w.alloc (.cells #[.int .u64 P, .int .u64 Q, .int .u64 G] 49)).alloc (.cells #[.int .u64 a, .int .u64 b] 78)).alloc (.cells #[.int .u64 r0, .int .u64 r1, .int .u64 s0, .int .u64 s1, .int .u64 c0, .int .u64 c1, .int .u64 z0, .int .u64 z1] 27)).alloc (.cells #[.int .u64 c] 24)) w.heap.size P Q G from (((Boxed.at _ P Q G _ w.heap.size rfl).alloc _).alloc _).alloc _)
    have F_s := Lib.hid (show Pair ((((w.alloc (.cells #[.int .u64 P, .int .u64 Q, .int .u64 G] 49)).alloc (.cells #[.int .u64 a, .int .u64 b] 78)).alloc (.cells #[.int .u64 r0, .int .u64 r1, .int .u64 s0, .int .u64 s1, .int .u64 c0, .int .u64 c1, .int .u64 z0, .int .u64 z1] 27)).alloc (.cells #[.int .u64 c] 24)) (w.heap.size + 1) a b from ((Pair.at _ a b _ (w.heap.size + 1) (by simp)).alloc _).alloc _)
    have F_p := Lib.hid (show Eight ((((w.alloc (.cells #[.int .u64 P, .int .u64 Q, .int .u64 G] 49)).alloc (.cells #[.int .u64 a, .int .u64 b] 78)).alloc (.cells #[.int .u64 r0, .int .u64 r1, .int .u64 s0, .int .u64 s1, .int .u64 c0, .int .u64 c1, .int .u64 z0, .int .u64 z1] 27)).alloc (.cells #[.int .u64 c] 24)) (w.heap.size + 1 + 1) r0 r1 s0 s1 c0 c1 z0 z1 from (Eight.at _ r0 r1 s0 s1 c0 c1 z0 z1 _ (w.heap.size + 1 + 1) (by simp)).alloc _)
    have HBW := Lib.hid (show Below w.heap.size w ((((w.alloc (.cells #[.int .u64 P, .int .u64 Q, .int .u64 G] 49)).alloc (.cells #[.int .u64 a, .int .u64 b] 78)).alloc (.cells #[.int .u64 r0, .int .u64 r1, .int .u64 s0, .int .u64 s1, .int .u64 c0, .int .u64 c1, .int .u64 z0, .int .u64 z1] 27)).alloc (.cells #[.int .u64 c] 24)) from ((((Below.refl _ _).alloc (by simp <;> omega) _).alloc (by simp <;> omega) _).alloc (by simp <;> omega) _).alloc (by simp <;> omega) _)
    go_enter Tryd.func115, Tryd.ntmps115
    go_wp2_with fail
    refine (bitCheck_any _ hP hQ hG (by simp) HOW.out HR.out).mono ?_
    rintro e w1 ⟨rfl, hb1⟩
    replace F_g := Lib.hid (boxed_below F_g.out hb1 (by omega))
    replace F_s := Lib.hid (pair_below F_s.out hb1 (by omega))
    replace F_p := Lib.hid (eight_below F_p.out hb1 (by omega))
    replace HBW := Lib.hid (HBW.out.trans (hb1.mono (by omega)))
    clear hb1 HOW
    obtain ⟨x0, x1, x2, -⟩ := id F_g.out
    obtain ⟨x3, x4, x5, x6, -⟩ := id F_s.out
    go_wp2_with fail
    clear x0 x1 x2 x3 x4 x5 x6
    refine (targets_any _ HH.out b_0 b_P HNN.out HPP.out HTT.out).mono ?_
    rintro e w2 ⟨rfl, hb2⟩
    replace F_g := Lib.hid (F_g.out.keep hb2)
    replace F_s := Lib.hid (F_s.out.keep hb2)
    replace F_p := Lib.hid (F_p.out.keep hb2)
    replace HBW := Lib.hid (HBW.out.trans (hb2.mono HBW.out.size))
    clear hb2
    go_wp2_with fail
    go_loopw [13, 14, 30] (fun c13 c14 c30 wr => ∃ k : Nat, k ≤ 2 ∧ c30 = .int .i64 k ∧ Hid (BitIn w wr P Q G a b r0 r1 s0 s1 c0 c1 z0 z1 (powm G z0 P = r0 * powm a c0 P % P ∧ powm y z0 P = s0 * powm b c0 P % P) (powm G z1 P = r1 * powm a c1 P % P ∧ powm y z1 P = s1 * powm t c1 P % P) k)) (fun _ _ c30 _ => 2 - (intOf c30).toNat)
    case atStart => exact ⟨0, by omega, rfl, ⟨F_g.out, F_s.out, F_p.out, HBW.out, fun h => absurd h (by omega), fun h => absurd h (by omega)⟩⟩
    case round =>
      clear F_g F_s F_p HBW
      obtain ⟨k, hk, rfl, HK⟩ := hrel
      have F_g := Lib.hid HK.out.box
      have F_s := Lib.hid HK.out.pr
      have F_p := Lib.hid HK.out.eight
      have HBW := Lib.hid HK.out.bel
      obtain rfl | rfl | rfl : k = 0 ∨ k = 1 ∨ k = 2 := by omega
      case inl =>
        clear HK
        rw [show ((0 : Nat) : Int) = 0 from rfl]
        have hix : ∀ w' : World, (Instr.index 25 (.agg #[.int .u64 b, .int .u64 t]) (.int .i64 0)).run Tryd.prog w' = .ok (.int .u64 b) w' := fun w' => rfl
        by_cases hE : powm G z0 P = r0 * powm a c0 P % P
        case neg =>
          have HE := Lib.hid hE
          have HZ := Lib.hid (show false = v by rw [Bool.eq_iff_iff, HV.out]; simp [hE])
          clear hE
          go_wp2_with fail
          replace F_g := Lib.hid F_g.out.drew
          replace F_s := Lib.hid F_s.out.drew
          replace F_p := Lib.hid F_p.out.drew
          replace HBW := Lib.hid HBW.out.drew
          have hS := And.intro F_g.out.s (And.intro F_s.out.s F_p.out.s)
          refine wp_region_stage 37 (fun w' => SBox w' w.heap.size P Q G ∧ SPair w' (w.heap.size + 1) a b ∧ S8 w' (w.heap.size + 1 + 1) r0 r1 s0 s1 c0 c1 z0 z1) (by kernel_rfl) ?_
          refine wpAnyB_take (i := 0) (some 34) (Op.load 49 (Operand.tmp 5)) 49 (v := ?_) ⟨_, rfl, rfl, rfl, rfl, rfl⟩ (by kernel_rfl) (by kernel_rfl) (by kernel_rfl) [17, 18, 19, 20, 21, 22, 23, 24, 25, 26, 27, 28, 29, 30, 31, 32, 33, 34, 35, 36, 37] (by kernel_rfl) (fun _ _ _ h => h) hS (fun w' hSw => ?_) ?_
          rotate_left
          · obtain ⟨⟨s0_, s1_, s2_⟩, ⟨s3_, s4_⟩, ⟨s5_, s6_, s7_, s8_, s9_, sa_, sb_, sc_⟩⟩ := hSw
            unfold bareOp
            go_simp
            try with_reducible rfl
          simp only [Act.put, sZc, sZa, sZb]
          refine wpAnyB_takeP (i := 1) (some 35) (Op.fieldAddr 49 (Operand.tmp 5) 2) 0 (v := ?_) ⟨_, rfl, rfl, rfl, rfl, rfl⟩ (by kernel_rfl) (by kernel_rfl) (by kernel_rfl) (by kernel_rfl) (fun _ _ _ h => h) (fun _ => hS) (fun w' => ?_) ?_
          rotate_left
          · unfold bareOp
            go_simp
            try with_reducible rfl
          simp only [Act.put, sZc, sZa, sZb]
          refine wpAnyB_take (i := 2) (some 36) (Op.load 24 (Operand.tmp 35)) 24 (v := ?_) ⟨_, rfl, rfl, rfl, rfl, rfl⟩ (by kernel_rfl) (by kernel_rfl) (by kernel_rfl) [17, 18, 19, 20, 21, 22, 23, 24, 25, 26, 27, 28, 29, 30, 31, 32, 33, 34, 35, 36, 37] (by kernel_rfl) (fun _ _ _ h => h) hS (fun w' hSw => ?_) ?_
          rotate_left
          · obtain ⟨⟨s0_, s1_, s2_⟩, ⟨s3_, s4_⟩, ⟨s5_, s6_, s7_, s8_, s9_, sa_, sb_, sc_⟩⟩ := hSw
            unfold bareOp
            go_simp
            try with_reducible rfl
          simp only [Act.put, sZc, sZa, sZb]
          refine wpAnyB_takeP (i := 3) (some 37) (Op.fieldAddr 78 (Operand.tmp 7) 0) 0 (v := ?_) ⟨_, rfl, rfl, rfl, rfl, rfl⟩ (by kernel_rfl) (by kernel_rfl) (by kernel_rfl) (by kernel_rfl) (fun _ _ _ h => h) (fun _ => hS) (fun w' => ?_) ?_
          rotate_left
          · unfold bareOp
            go_simp
            try with_reducible rfl
          simp only [Act.put, sZc, sZa, sZb]
          refine wpAnyB_take (i := 4) (some 38) (Op.load 24 (Operand.tmp 37)) 24 (v := ?_) ⟨_, rfl, rfl, rfl, rfl, rfl⟩ (by kernel_rfl) (by kernel_rfl) (by kernel_rfl) [17, 18, 19, 20, 21, 22, 23, 24, 25, 26, 27, 28, 29, 30, 31, 32, 33, 34, 35, 36, 37] (by kernel_rfl) (fun _ _ _ h => h) hS (fun w' hSw => ?_) ?_
          rotate_left
          · obtain ⟨⟨s0_, s1_, s2_⟩, ⟨s3_, s4_⟩, ⟨s5_, s6_, s7_, s8_, s9_, sa_, sb_, sc_⟩⟩ := hSw
            unfold bareOp
            go_simp
            try with_reducible rfl
          simp only [Act.put, sZc, sZa, sZb]
          refine wpAnyB_takeP (i := 5) (some 39) (Op.move (Operand.tmp 13)) 3 (v := ?_) ⟨_, rfl, rfl, rfl, rfl, rfl⟩ (by kernel_rfl) (by kernel_rfl) (by kernel_rfl) (by kernel_rfl) (fun _ _ _ h => h) (fun _ => hS) (fun w' => ?_) ?_
          rotate_left
          · unfold bareOp
            go_simp
            try with_reducible rfl
          simp only [Act.put, sZc, sZa, sZb]
          refine wpAnyB_takeP (i := 6) (some 40) (Op.fieldAddr 27 (Operand.tmp 8) 0) 0 (v := ?_) ⟨_, rfl, rfl, rfl, rfl, rfl⟩ (by kernel_rfl) (by kernel_rfl) (by kernel_rfl) (by kernel_rfl) (fun _ _ _ h => h) (fun _ => hS) (fun w' => ?_) ?_
          rotate_left
          · unfold bareOp
            go_simp
            try with_reducible rfl
          simp only [Act.put, sZc, sZa, sZb]
          refine wpAnyB_takeP (i := 7) (some 41) (Op.indexAddr 25 (Operand.tmp 40) (Operand.tmp 39)) 0 (v := ?_) ⟨_, rfl, rfl, rfl, rfl, rfl⟩ (by kernel_rfl) (by kernel_rfl) (by kernel_rfl) (by kernel_rfl) (fun _ _ _ h => h) (fun _ => hS) (fun w' => ?_) ?_
          rotate_left
          · unfold bareOp
            go_simp
            try with_reducible rfl
          simp only [Act.put, sZc, sZa, sZb]
          refine wpAnyB_take (i := 8) (some 42) (Op.load 24 (Operand.tmp 41)) 24 (v := ?_) ⟨_, rfl, rfl, rfl, rfl, rfl⟩ (by kernel_rfl) (by kernel_rfl) (by kernel_rfl) [17, 18, 19, 20, 21, 22, 23, 24, 25, 26, 27, 28, 29, 30, 31, 32, 33, 34, 35, 36, 37] (by kernel_rfl) (fun _ _ _ h => h) hS (fun w' hSw => ?_) ?_
          rotate_left
          · obtain ⟨⟨s0_, s1_, s2_⟩, ⟨s3_, s4_⟩, ⟨s5_, s6_, s7_, s8_, s9_, sa_, sb_, sc_⟩⟩ := hSw
            unfold bareOp
            go_simp
            try with_reducible rfl
          simp only [Act.put, sZc, sZa, sZb]
          refine wpAnyB_takeP (i := 9) (some 43) (Op.move (Operand.tmp 13)) 3 (v := ?_) ⟨_, rfl, rfl, rfl, rfl, rfl⟩ (by kernel_rfl) (by kernel_rfl) (by kernel_rfl) (by kernel_rfl) (fun _ _ _ h => h) (fun _ => hS) (fun w' => ?_) ?_
          rotate_left
          · unfold bareOp
            go_simp
            try with_reducible rfl
          simp only [Act.put, sZc, sZa, sZb]
          refine wpAnyB_takeP (i := 10) (some 44) (Op.fieldAddr 27 (Operand.tmp 8) 2) 0 (v := ?_) ⟨_, rfl, rfl, rfl, rfl, rfl⟩ (by kernel_rfl) (by kernel_rfl) (by kernel_rfl) (by kernel_rfl) (fun _ _ _ h => h) (fun _ => hS) (fun w' => ?_) ?_
          rotate_left
          · unfold bareOp
            go_simp
            try with_reducible rfl
          simp only [Act.put, sZc, sZa, sZb]
          refine wpAnyB_takeP (i := 11) (some 45) (Op.indexAddr 25 (Operand.tmp 44) (Operand.tmp 43)) 0 (v := ?_) ⟨_, rfl, rfl, rfl, rfl, rfl⟩ (by kernel_rfl) (by kernel_rfl) (by kernel_rfl) (by kernel_rfl) (fun _ _ _ h => h) (fun _ => hS) (fun w' => ?_) ?_
          rotate_left
          · unfold bareOp
            go_simp
            try with_reducible rfl
          simp only [Act.put, sZc, sZa, sZb]
          refine wpAnyB_take (i := 12) (some 46) (Op.load 24 (Operand.tmp 45)) 24 (v := ?_) ⟨_, rfl, rfl, rfl, rfl, rfl⟩ (by kernel_rfl) (by kernel_rfl) (by kernel_rfl) [17, 18, 19, 20, 21, 22, 23, 24, 25, 26, 27, 28, 29, 30, 31, 32, 33, 34, 35, 36, 37] (by kernel_rfl) (fun _ _ _ h => h) hS (fun w' hSw => ?_) ?_
          rotate_left
          · obtain ⟨⟨s0_, s1_, s2_⟩, ⟨s3_, s4_⟩, ⟨s5_, s6_, s7_, s8_, s9_, sa_, sb_, sc_⟩⟩ := hSw
            unfold bareOp
            go_simp
            try with_reducible rfl
          simp only [Act.put, sZc, sZa, sZb]
          refine wpAnyB_takeP (i := 13) (some 47) (Op.move (Operand.tmp 13)) 3 (v := ?_) ⟨_, rfl, rfl, rfl, rfl, rfl⟩ (by kernel_rfl) (by kernel_rfl) (by kernel_rfl) (by kernel_rfl) (fun _ _ _ h => h) (fun _ => hS) (fun w' => ?_) ?_
          rotate_left
          · unfold bareOp
            go_simp
            try with_reducible rfl
          simp only [Act.put, sZc, sZa, sZb]
          refine wpAnyB_takeP (i := 14) (some 48) (Op.fieldAddr 27 (Operand.tmp 8) 3) 0 (v := ?_) ⟨_, rfl, rfl, rfl, rfl, rfl⟩ (by kernel_rfl) (by kernel_rfl) (by kernel_rfl) (by kernel_rfl) (fun _ _ _ h => h) (fun _ => hS) (fun w' => ?_) ?_
          rotate_left
          · unfold bareOp
            go_simp
            try with_reducible rfl
          simp only [Act.put, sZc, sZa, sZb]
          refine wpAnyB_takeP (i := 15) (some 49) (Op.indexAddr 25 (Operand.tmp 48) (Operand.tmp 47)) 0 (v := ?_) ⟨_, rfl, rfl, rfl, rfl, rfl⟩ (by kernel_rfl) (by kernel_rfl) (by kernel_rfl) (by kernel_rfl) (fun _ _ _ h => h) (fun _ => hS) (fun w' => ?_) ?_
          rotate_left
          · unfold bareOp
            go_simp
            try with_reducible rfl
          simp only [Act.put, sZc, sZa, sZb]
          refine wpAnyB_take (i := 16) (some 50) (Op.load 24 (Operand.tmp 49)) 24 (v := ?_) ⟨_, rfl, rfl, rfl, rfl, rfl⟩ (by kernel_rfl) (by kernel_rfl) (by kernel_rfl) [17, 18, 19, 20, 21, 22, 23, 24, 25, 26, 27, 28, 29, 30, 31, 32, 33, 34, 35, 36, 37] (by kernel_rfl) (fun _ _ _ h => h) hS (fun w' hSw => ?_) ?_
          rotate_left
          · obtain ⟨⟨s0_, s1_, s2_⟩, ⟨s3_, s4_⟩, ⟨s5_, s6_, s7_, s8_, s9_, sa_, sb_, sc_⟩⟩ := hSw
            unfold bareOp
            go_simp
            try with_reducible rfl
          simp only [Act.put, sZc, sZa, sZb]
          refine wpAnyB_only (i := 17) (some 51) (Op.call { callee := Callee.value (Operand.func 122), args := #[Operand.tmp 34, Operand.tmp 36, Operand.tmp 38, Operand.tmp 42, Operand.tmp 46, Operand.tmp 50], argTypes := #[49, 24, 24, 24, 24, 24] }) 4 ⟨_, rfl, rfl, rfl, rfl, rfl⟩ (by kernel_rfl) (fun K hK => ?_)
          unfold bareOp
          go_wp2_with (go_at_call 122; refine (peqn_any (v := false) _ HH.out hG gP a0 aP r0_0 r0_P Uc0.out Uz0.out ⟨fun h => (by cases h), fun h => absurd h HE.out⟩).mono ?_; rintro e w11 ⟨rfl, hb11⟩)
          replace F_g := Lib.hid (F_g.out.keep hb11)
          replace F_s := Lib.hid (F_s.out.keep hb11)
          replace F_p := Lib.hid (F_p.out.keep hb11)
          replace HBW := Lib.hid (HBW.out.trans (hb11.mono HBW.out.size))
          replace hS := And.intro F_g.out.s (And.intro F_s.out.s F_p.out.s)
          clear hb11
          refine hK.out _ _ (fun _ => hS) ?_
          clear hK K
          try simp only [Act.put, sZc, sZa, sZb]
          refine wpAnyB_takeP (i := 18) (some 52) (Op.unOp UnOp.not 4 (Operand.tmp 51)) 4 (v := ?_) ⟨_, rfl, rfl, rfl, rfl, rfl⟩ (by kernel_rfl) (by kernel_rfl) (by kernel_rfl) (by kernel_rfl) (fun _ _ _ h => h) (fun _ => hS) (fun w' => ?_) ?_
          rotate_left
          · unfold bareOp
            go_simp
            try with_reducible rfl
          simp only [Act.put, sZc, sZa, sZb]
          refine wpAnyB_takeP (i := 19) (some 53) (Op.move (Operand.tmp 52)) 4 (v := ?_) ⟨_, rfl, rfl, rfl, rfl, rfl⟩ (by kernel_rfl) (by kernel_rfl) (by kernel_rfl) (by kernel_rfl) (fun _ _ _ h => h) (fun _ => hS) (fun w' => ?_) ?_
          rotate_left
          · unfold bareOp
            go_simp
            try with_reducible rfl
          simp only [Act.put, sZc, sZa, sZb]
          refine wpAnyB_skip (i := 20) (some 54) (Op.load 49 (Operand.tmp 5)) 49 (some (19, false)) ⟨_, rfl, rfl, rfl, rfl, rfl⟩ rfl (by kernel_rfl) (by kernel_rfl) (by kernel_rfl) (by kernel_rfl) (fun _ _ _ h => h) (fun _ => hS) ?_
          simp only [Act.put, sZc, sZa, sZb]
          refine wpAnyB_skip (i := 21) (some 55) (Op.move (Operand.tmp 1)) 24 (some (19, false)) ⟨_, rfl, rfl, rfl, rfl, rfl⟩ rfl (by kernel_rfl) (by kernel_rfl) (by kernel_rfl) (by kernel_rfl) (fun _ _ _ h => h) (fun _ => hS) ?_
          simp only [Act.put, sZc, sZa, sZb]
          refine wpAnyB_skip (i := 22) (some 56) (Op.move (Operand.tmp 14)) 24 (some (19, false)) ⟨_, rfl, rfl, rfl, rfl, rfl⟩ rfl (by kernel_rfl) (by kernel_rfl) (by kernel_rfl) (by kernel_rfl) (fun _ _ _ h => h) (fun _ => hS) ?_
          simp only [Act.put, sZc, sZa, sZb]
          refine wpAnyB_skip (i := 23) (some 57) (Op.move (Operand.tmp 13)) 3 (some (19, false)) ⟨_, rfl, rfl, rfl, rfl, rfl⟩ rfl (by kernel_rfl) (by kernel_rfl) (by kernel_rfl) (by kernel_rfl) (fun _ _ _ h => h) (fun _ => hS) ?_
          simp only [Act.put, sZc, sZa, sZb]
          refine wpAnyB_skip (i := 24) (some 58) (Op.fieldAddr 27 (Operand.tmp 8) 1) 0 (some (19, false)) ⟨_, rfl, rfl, rfl, rfl, rfl⟩ rfl (by kernel_rfl) (by kernel_rfl) (by kernel_rfl) (by kernel_rfl) (fun _ _ _ h => h) (fun _ => hS) ?_
          simp only [Act.put, sZc, sZa, sZb]
          refine wpAnyB_skip (i := 25) (some 59) (Op.indexAddr 25 (Operand.tmp 58) (Operand.tmp 57)) 0 (some (19, false)) ⟨_, rfl, rfl, rfl, rfl, rfl⟩ rfl (by kernel_rfl) (by kernel_rfl) (by kernel_rfl) (by kernel_rfl) (fun _ _ _ h => h) (fun _ => hS) ?_
          simp only [Act.put, sZc, sZa, sZb]
          refine wpAnyB_skip (i := 26) (some 60) (Op.load 24 (Operand.tmp 59)) 24 (some (19, false)) ⟨_, rfl, rfl, rfl, rfl, rfl⟩ rfl (by kernel_rfl) (by kernel_rfl) (by kernel_rfl) (by kernel_rfl) (fun _ _ _ h => h) (fun _ => hS) ?_
          simp only [Act.put, sZc, sZa, sZb]
          refine wpAnyB_skip (i := 27) (some 61) (Op.move (Operand.tmp 13)) 3 (some (19, false)) ⟨_, rfl, rfl, rfl, rfl, rfl⟩ rfl (by kernel_rfl) (by kernel_rfl) (by kernel_rfl) (by kernel_rfl) (fun _ _ _ h => h) (fun _ => hS) ?_
          simp only [Act.put, sZc, sZa, sZb]
          refine wpAnyB_skip (i := 28) (some 62) (Op.fieldAddr 27 (Operand.tmp 8) 2) 0 (some (19, false)) ⟨_, rfl, rfl, rfl, rfl, rfl⟩ rfl (by kernel_rfl) (by kernel_rfl) (by kernel_rfl) (by kernel_rfl) (fun _ _ _ h => h) (fun _ => hS) ?_
          simp only [Act.put, sZc, sZa, sZb]
          refine wpAnyB_skip (i := 29) (some 63) (Op.indexAddr 25 (Operand.tmp 62) (Operand.tmp 61)) 0 (some (19, false)) ⟨_, rfl, rfl, rfl, rfl, rfl⟩ rfl (by kernel_rfl) (by kernel_rfl) (by kernel_rfl) (by kernel_rfl) (fun _ _ _ h => h) (fun _ => hS) ?_
          simp only [Act.put, sZc, sZa, sZb]
          refine wpAnyB_skip (i := 30) (some 64) (Op.load 24 (Operand.tmp 63)) 24 (some (19, false)) ⟨_, rfl, rfl, rfl, rfl, rfl⟩ rfl (by kernel_rfl) (by kernel_rfl) (by kernel_rfl) (by kernel_rfl) (fun _ _ _ h => h) (fun _ => hS) ?_
          simp only [Act.put, sZc, sZa, sZb]
          refine wpAnyB_skip (i := 31) (some 65) (Op.move (Operand.tmp 13)) 3 (some (19, false)) ⟨_, rfl, rfl, rfl, rfl, rfl⟩ rfl (by kernel_rfl) (by kernel_rfl) (by kernel_rfl) (by kernel_rfl) (fun _ _ _ h => h) (fun _ => hS) ?_
          simp only [Act.put, sZc, sZa, sZb]
          refine wpAnyB_skip (i := 32) (some 66) (Op.fieldAddr 27 (Operand.tmp 8) 3) 0 (some (19, false)) ⟨_, rfl, rfl, rfl, rfl, rfl⟩ rfl (by kernel_rfl) (by kernel_rfl) (by kernel_rfl) (by kernel_rfl) (fun _ _ _ h => h) (fun _ => hS) ?_
          simp only [Act.put, sZc, sZa, sZb]
          refine wpAnyB_skip (i := 33) (some 67) (Op.indexAddr 25 (Operand.tmp 66) (Operand.tmp 65)) 0 (some (19, false)) ⟨_, rfl, rfl, rfl, rfl, rfl⟩ rfl (by kernel_rfl) (by kernel_rfl) (by kernel_rfl) (by kernel_rfl) (fun _ _ _ h => h) (fun _ => hS) ?_
          simp only [Act.put, sZc, sZa, sZb]
          refine wpAnyB_skip (i := 34) (some 68) (Op.load 24 (Operand.tmp 67)) 24 (some (19, false)) ⟨_, rfl, rfl, rfl, rfl, rfl⟩ rfl (by kernel_rfl) (by kernel_rfl) (by kernel_rfl) (by kernel_rfl) (fun _ _ _ h => h) (fun _ => hS) ?_
          simp only [Act.put, sZc, sZa, sZb]
          refine wpAnyB_skip (i := 35) (some 69) (Op.call { callee := Callee.value (Operand.func 122), args := #[Operand.tmp 54, Operand.tmp 55, Operand.tmp 56, Operand.tmp 60, Operand.tmp 64, Operand.tmp 68], argTypes := #[49, 24, 24, 24, 24, 24] }) 4 (some (19, false)) ⟨_, rfl, rfl, rfl, rfl, rfl⟩ rfl (by kernel_rfl) (by kernel_rfl) (by kernel_rfl) (by kernel_rfl) (fun _ _ _ h => h) (fun _ => hS) ?_
          simp only [Act.put, sZc, sZa, sZb]
          refine wpAnyB_skip (i := 36) (some 70) (Op.unOp UnOp.not 4 (Operand.tmp 69)) 4 (some (19, false)) ⟨_, rfl, rfl, rfl, rfl, rfl⟩ rfl (by kernel_rfl) (by kernel_rfl) (by kernel_rfl) (by kernel_rfl) (fun _ _ _ h => h) (fun _ => hS) ?_
          simp only [Act.put, sZc, sZa, sZb]
          refine wpAnyB_only (i := 37) (some 71) (Op.pick (Operand.tmp 53) (Operand.const (Value.bool true)) (Operand.tmp 70)) 4 ⟨_, rfl, rfl, rfl, rfl, rfl⟩ (by kernel_rfl) (fun K hK => ?_)
          unfold bareOp
          go_wp2_with fail
          refine hK.out _ _ (fun h => absurd (h.symm.trans (by kernel_rfl : _ = true)) (by decide)) ?_
          clear hK K
          try simp only [Act.put, sZc, sZa, sZb]
          refine wpAnyB_done (by kernel_rfl) ?_ _
          go_wp2_with fail
          go_ret2
          exact ⟨ret_bi HZ.out rfl, HBW.out⟩
        case pos =>
          by_cases hF : powm y z0 P = s0 * powm b c0 P % P
          case neg =>
            have HE := Lib.hid hE
            have HF := Lib.hid hF
            have HZ := Lib.hid (show false = v by rw [Bool.eq_iff_iff, HV.out]; simp [hF])
            clear hE hF
            go_wp2_with fail
            replace F_g := Lib.hid F_g.out.drew
            replace F_s := Lib.hid F_s.out.drew
            replace F_p := Lib.hid F_p.out.drew
            replace HBW := Lib.hid HBW.out.drew
            have hS := And.intro F_g.out.s (And.intro F_s.out.s F_p.out.s)
            refine wp_region_stage 37 (fun w' => SBox w' w.heap.size P Q G ∧ SPair w' (w.heap.size + 1) a b ∧ S8 w' (w.heap.size + 1 + 1) r0 r1 s0 s1 c0 c1 z0 z1) (by kernel_rfl) ?_
            refine wpAnyB_take (i := 0) (some 34) (Op.load 49 (Operand.tmp 5)) 49 (v := ?_) ⟨_, rfl, rfl, rfl, rfl, rfl⟩ (by kernel_rfl) (by kernel_rfl) (by kernel_rfl) [17, 18, 19, 20, 21, 22, 23, 24, 25, 26, 27, 28, 29, 30, 31, 32, 33, 34, 35, 36, 37] (by kernel_rfl) (fun _ _ _ h => h) hS (fun w' hSw => ?_) ?_
            rotate_left
            · obtain ⟨⟨s0_, s1_, s2_⟩, ⟨s3_, s4_⟩, ⟨s5_, s6_, s7_, s8_, s9_, sa_, sb_, sc_⟩⟩ := hSw
              unfold bareOp
              go_simp
              try with_reducible rfl
            simp only [Act.put, sZc, sZa, sZb]
            refine wpAnyB_takeP (i := 1) (some 35) (Op.fieldAddr 49 (Operand.tmp 5) 2) 0 (v := ?_) ⟨_, rfl, rfl, rfl, rfl, rfl⟩ (by kernel_rfl) (by kernel_rfl) (by kernel_rfl) (by kernel_rfl) (fun _ _ _ h => h) (fun _ => hS) (fun w' => ?_) ?_
            rotate_left
            · unfold bareOp
              go_simp
              try with_reducible rfl
            simp only [Act.put, sZc, sZa, sZb]
            refine wpAnyB_take (i := 2) (some 36) (Op.load 24 (Operand.tmp 35)) 24 (v := ?_) ⟨_, rfl, rfl, rfl, rfl, rfl⟩ (by kernel_rfl) (by kernel_rfl) (by kernel_rfl) [17, 18, 19, 20, 21, 22, 23, 24, 25, 26, 27, 28, 29, 30, 31, 32, 33, 34, 35, 36, 37] (by kernel_rfl) (fun _ _ _ h => h) hS (fun w' hSw => ?_) ?_
            rotate_left
            · obtain ⟨⟨s0_, s1_, s2_⟩, ⟨s3_, s4_⟩, ⟨s5_, s6_, s7_, s8_, s9_, sa_, sb_, sc_⟩⟩ := hSw
              unfold bareOp
              go_simp
              try with_reducible rfl
            simp only [Act.put, sZc, sZa, sZb]
            refine wpAnyB_takeP (i := 3) (some 37) (Op.fieldAddr 78 (Operand.tmp 7) 0) 0 (v := ?_) ⟨_, rfl, rfl, rfl, rfl, rfl⟩ (by kernel_rfl) (by kernel_rfl) (by kernel_rfl) (by kernel_rfl) (fun _ _ _ h => h) (fun _ => hS) (fun w' => ?_) ?_
            rotate_left
            · unfold bareOp
              go_simp
              try with_reducible rfl
            simp only [Act.put, sZc, sZa, sZb]
            refine wpAnyB_take (i := 4) (some 38) (Op.load 24 (Operand.tmp 37)) 24 (v := ?_) ⟨_, rfl, rfl, rfl, rfl, rfl⟩ (by kernel_rfl) (by kernel_rfl) (by kernel_rfl) [17, 18, 19, 20, 21, 22, 23, 24, 25, 26, 27, 28, 29, 30, 31, 32, 33, 34, 35, 36, 37] (by kernel_rfl) (fun _ _ _ h => h) hS (fun w' hSw => ?_) ?_
            rotate_left
            · obtain ⟨⟨s0_, s1_, s2_⟩, ⟨s3_, s4_⟩, ⟨s5_, s6_, s7_, s8_, s9_, sa_, sb_, sc_⟩⟩ := hSw
              unfold bareOp
              go_simp
              try with_reducible rfl
            simp only [Act.put, sZc, sZa, sZb]
            refine wpAnyB_takeP (i := 5) (some 39) (Op.move (Operand.tmp 13)) 3 (v := ?_) ⟨_, rfl, rfl, rfl, rfl, rfl⟩ (by kernel_rfl) (by kernel_rfl) (by kernel_rfl) (by kernel_rfl) (fun _ _ _ h => h) (fun _ => hS) (fun w' => ?_) ?_
            rotate_left
            · unfold bareOp
              go_simp
              try with_reducible rfl
            simp only [Act.put, sZc, sZa, sZb]
            refine wpAnyB_takeP (i := 6) (some 40) (Op.fieldAddr 27 (Operand.tmp 8) 0) 0 (v := ?_) ⟨_, rfl, rfl, rfl, rfl, rfl⟩ (by kernel_rfl) (by kernel_rfl) (by kernel_rfl) (by kernel_rfl) (fun _ _ _ h => h) (fun _ => hS) (fun w' => ?_) ?_
            rotate_left
            · unfold bareOp
              go_simp
              try with_reducible rfl
            simp only [Act.put, sZc, sZa, sZb]
            refine wpAnyB_takeP (i := 7) (some 41) (Op.indexAddr 25 (Operand.tmp 40) (Operand.tmp 39)) 0 (v := ?_) ⟨_, rfl, rfl, rfl, rfl, rfl⟩ (by kernel_rfl) (by kernel_rfl) (by kernel_rfl) (by kernel_rfl) (fun _ _ _ h => h) (fun _ => hS) (fun w' => ?_) ?_
            rotate_left
            · unfold bareOp
              go_simp
              try with_reducible rfl
            simp only [Act.put, sZc, sZa, sZb]
            refine wpAnyB_take (i := 8) (some 42) (Op.load 24 (Operand.tmp 41)) 24 (v := ?_) ⟨_, rfl, rfl, rfl, rfl, rfl⟩ (by kernel_rfl) (by kernel_rfl) (by kernel_rfl) [17, 18, 19, 20, 21, 22, 23, 24, 25, 26, 27, 28, 29, 30, 31, 32, 33, 34, 35, 36, 37] (by kernel_rfl) (fun _ _ _ h => h) hS (fun w' hSw => ?_) ?_
            rotate_left
            · obtain ⟨⟨s0_, s1_, s2_⟩, ⟨s3_, s4_⟩, ⟨s5_, s6_, s7_, s8_, s9_, sa_, sb_, sc_⟩⟩ := hSw
              unfold bareOp
              go_simp
              try with_reducible rfl
            simp only [Act.put, sZc, sZa, sZb]
            refine wpAnyB_takeP (i := 9) (some 43) (Op.move (Operand.tmp 13)) 3 (v := ?_) ⟨_, rfl, rfl, rfl, rfl, rfl⟩ (by kernel_rfl) (by kernel_rfl) (by kernel_rfl) (by kernel_rfl) (fun _ _ _ h => h) (fun _ => hS) (fun w' => ?_) ?_
            rotate_left
            · unfold bareOp
              go_simp
              try with_reducible rfl
            simp only [Act.put, sZc, sZa, sZb]
            refine wpAnyB_takeP (i := 10) (some 44) (Op.fieldAddr 27 (Operand.tmp 8) 2) 0 (v := ?_) ⟨_, rfl, rfl, rfl, rfl, rfl⟩ (by kernel_rfl) (by kernel_rfl) (by kernel_rfl) (by kernel_rfl) (fun _ _ _ h => h) (fun _ => hS) (fun w' => ?_) ?_
            rotate_left
            · unfold bareOp
              go_simp
              try with_reducible rfl
            simp only [Act.put, sZc, sZa, sZb]
            refine wpAnyB_takeP (i := 11) (some 45) (Op.indexAddr 25 (Operand.tmp 44) (Operand.tmp 43)) 0 (v := ?_) ⟨_, rfl, rfl, rfl, rfl, rfl⟩ (by kernel_rfl) (by kernel_rfl) (by kernel_rfl) (by kernel_rfl) (fun _ _ _ h => h) (fun _ => hS) (fun w' => ?_) ?_
            rotate_left
            · unfold bareOp
              go_simp
              try with_reducible rfl
            simp only [Act.put, sZc, sZa, sZb]
            refine wpAnyB_take (i := 12) (some 46) (Op.load 24 (Operand.tmp 45)) 24 (v := ?_) ⟨_, rfl, rfl, rfl, rfl, rfl⟩ (by kernel_rfl) (by kernel_rfl) (by kernel_rfl) [17, 18, 19, 20, 21, 22, 23, 24, 25, 26, 27, 28, 29, 30, 31, 32, 33, 34, 35, 36, 37] (by kernel_rfl) (fun _ _ _ h => h) hS (fun w' hSw => ?_) ?_
            rotate_left
            · obtain ⟨⟨s0_, s1_, s2_⟩, ⟨s3_, s4_⟩, ⟨s5_, s6_, s7_, s8_, s9_, sa_, sb_, sc_⟩⟩ := hSw
              unfold bareOp
              go_simp
              try with_reducible rfl
            simp only [Act.put, sZc, sZa, sZb]
            refine wpAnyB_takeP (i := 13) (some 47) (Op.move (Operand.tmp 13)) 3 (v := ?_) ⟨_, rfl, rfl, rfl, rfl, rfl⟩ (by kernel_rfl) (by kernel_rfl) (by kernel_rfl) (by kernel_rfl) (fun _ _ _ h => h) (fun _ => hS) (fun w' => ?_) ?_
            rotate_left
            · unfold bareOp
              go_simp
              try with_reducible rfl
            simp only [Act.put, sZc, sZa, sZb]
            refine wpAnyB_takeP (i := 14) (some 48) (Op.fieldAddr 27 (Operand.tmp 8) 3) 0 (v := ?_) ⟨_, rfl, rfl, rfl, rfl, rfl⟩ (by kernel_rfl) (by kernel_rfl) (by kernel_rfl) (by kernel_rfl) (fun _ _ _ h => h) (fun _ => hS) (fun w' => ?_) ?_
            rotate_left
            · unfold bareOp
              go_simp
              try with_reducible rfl
            simp only [Act.put, sZc, sZa, sZb]
            refine wpAnyB_takeP (i := 15) (some 49) (Op.indexAddr 25 (Operand.tmp 48) (Operand.tmp 47)) 0 (v := ?_) ⟨_, rfl, rfl, rfl, rfl, rfl⟩ (by kernel_rfl) (by kernel_rfl) (by kernel_rfl) (by kernel_rfl) (fun _ _ _ h => h) (fun _ => hS) (fun w' => ?_) ?_
            rotate_left
            · unfold bareOp
              go_simp
              try with_reducible rfl
            simp only [Act.put, sZc, sZa, sZb]
            refine wpAnyB_take (i := 16) (some 50) (Op.load 24 (Operand.tmp 49)) 24 (v := ?_) ⟨_, rfl, rfl, rfl, rfl, rfl⟩ (by kernel_rfl) (by kernel_rfl) (by kernel_rfl) [17, 18, 19, 20, 21, 22, 23, 24, 25, 26, 27, 28, 29, 30, 31, 32, 33, 34, 35, 36, 37] (by kernel_rfl) (fun _ _ _ h => h) hS (fun w' hSw => ?_) ?_
            rotate_left
            · obtain ⟨⟨s0_, s1_, s2_⟩, ⟨s3_, s4_⟩, ⟨s5_, s6_, s7_, s8_, s9_, sa_, sb_, sc_⟩⟩ := hSw
              unfold bareOp
              go_simp
              try with_reducible rfl
            simp only [Act.put, sZc, sZa, sZb]
            refine wpAnyB_only (i := 17) (some 51) (Op.call { callee := Callee.value (Operand.func 122), args := #[Operand.tmp 34, Operand.tmp 36, Operand.tmp 38, Operand.tmp 42, Operand.tmp 46, Operand.tmp 50], argTypes := #[49, 24, 24, 24, 24, 24] }) 4 ⟨_, rfl, rfl, rfl, rfl, rfl⟩ (by kernel_rfl) (fun K hK => ?_)
            unfold bareOp
            go_wp2_with (go_at_call 122; refine (peqn_any (v := true) _ HH.out hG gP a0 aP r0_0 r0_P Uc0.out Uz0.out ⟨fun _ => HE.out, fun _ => rfl⟩).mono ?_; rintro e w11 ⟨rfl, hb11⟩)
            replace F_g := Lib.hid (F_g.out.keep hb11)
            replace F_s := Lib.hid (F_s.out.keep hb11)
            replace F_p := Lib.hid (F_p.out.keep hb11)
            replace HBW := Lib.hid (HBW.out.trans (hb11.mono HBW.out.size))
            replace hS := And.intro F_g.out.s (And.intro F_s.out.s F_p.out.s)
            clear hb11
            refine hK.out _ _ (fun _ => hS) ?_
            clear hK K
            try simp only [Act.put, sZc, sZa, sZb]
            refine wpAnyB_takeP (i := 18) (some 52) (Op.unOp UnOp.not 4 (Operand.tmp 51)) 4 (v := ?_) ⟨_, rfl, rfl, rfl, rfl, rfl⟩ (by kernel_rfl) (by kernel_rfl) (by kernel_rfl) (by kernel_rfl) (fun _ _ _ h => h) (fun _ => hS) (fun w' => ?_) ?_
            rotate_left
            · unfold bareOp
              go_simp
              try with_reducible rfl
            simp only [Act.put, sZc, sZa, sZb]
            refine wpAnyB_takeP (i := 19) (some 53) (Op.move (Operand.tmp 52)) 4 (v := ?_) ⟨_, rfl, rfl, rfl, rfl, rfl⟩ (by kernel_rfl) (by kernel_rfl) (by kernel_rfl) (by kernel_rfl) (fun _ _ _ h => h) (fun _ => hS) (fun w' => ?_) ?_
            rotate_left
            · unfold bareOp
              go_simp
              try with_reducible rfl
            simp only [Act.put, sZc, sZa, sZb]
            refine wpAnyB_takeG (i := 20) (some 54) (Op.load 49 (Operand.tmp 5)) 49 (some (19, false)) (v := ?_) ⟨_, rfl, rfl, rfl, rfl, rfl⟩ rfl (by kernel_rfl) (by kernel_rfl) (by kernel_rfl) [35, 36, 37] (by kernel_rfl) (fun _ _ _ h => h) hS (fun w' hSw => ?_) ?_
            rotate_left
            · obtain ⟨⟨s0_, s1_, s2_⟩, ⟨s3_, s4_⟩, ⟨s5_, s6_, s7_, s8_, s9_, sa_, sb_, sc_⟩⟩ := hSw
              unfold bareOp
              go_simp
              try with_reducible rfl
            simp only [Act.put, sZc, sZa, sZb]
            refine wpAnyB_takePG (i := 21) (some 55) (Op.move (Operand.tmp 1)) 24 (some (19, false)) (v := ?_) ⟨_, rfl, rfl, rfl, rfl, rfl⟩ rfl (by kernel_rfl) (by kernel_rfl) (by kernel_rfl) (by kernel_rfl) (fun _ _ _ h => h) (fun _ => hS) (fun w' => ?_) ?_
            rotate_left
            · unfold bareOp
              go_simp
              try with_reducible rfl
            simp only [Act.put, sZc, sZa, sZb]
            refine wpAnyB_takePG (i := 22) (some 56) (Op.move (Operand.tmp 14)) 24 (some (19, false)) (v := ?_) ⟨_, rfl, rfl, rfl, rfl, rfl⟩ rfl (by kernel_rfl) (by kernel_rfl) (by kernel_rfl) (by kernel_rfl) (fun _ _ _ h => h) (fun _ => hS) (fun w' => ?_) ?_
            rotate_left
            · unfold bareOp
              go_simp
              try with_reducible rfl
            simp only [Act.put, sZc, sZa, sZb]
            refine wpAnyB_takePG (i := 23) (some 57) (Op.move (Operand.tmp 13)) 3 (some (19, false)) (v := ?_) ⟨_, rfl, rfl, rfl, rfl, rfl⟩ rfl (by kernel_rfl) (by kernel_rfl) (by kernel_rfl) (by kernel_rfl) (fun _ _ _ h => h) (fun _ => hS) (fun w' => ?_) ?_
            rotate_left
            · unfold bareOp
              go_simp
              try with_reducible rfl
            simp only [Act.put, sZc, sZa, sZb]
            refine wpAnyB_takePG (i := 24) (some 58) (Op.fieldAddr 27 (Operand.tmp 8) 1) 0 (some (19, false)) (v := ?_) ⟨_, rfl, rfl, rfl, rfl, rfl⟩ rfl (by kernel_rfl) (by kernel_rfl) (by kernel_rfl) (by kernel_rfl) (fun _ _ _ h => h) (fun _ => hS) (fun w' => ?_) ?_
            rotate_left
            · unfold bareOp
              go_simp
              try with_reducible rfl
            simp only [Act.put, sZc, sZa, sZb]
            refine wpAnyB_takePG (i := 25) (some 59) (Op.indexAddr 25 (Operand.tmp 58) (Operand.tmp 57)) 0 (some (19, false)) (v := ?_) ⟨_, rfl, rfl, rfl, rfl, rfl⟩ rfl (by kernel_rfl) (by kernel_rfl) (by kernel_rfl) (by kernel_rfl) (fun _ _ _ h => h) (fun _ => hS) (fun w' => ?_) ?_
            rotate_left
            · unfold bareOp
              go_simp
              try with_reducible rfl
            simp only [Act.put, sZc, sZa, sZb]
            refine wpAnyB_takeG (i := 26) (some 60) (Op.load 24 (Operand.tmp 59)) 24 (some (19, false)) (v := ?_) ⟨_, rfl, rfl, rfl, rfl, rfl⟩ rfl (by kernel_rfl) (by kernel_rfl) (by kernel_rfl) [35, 36, 37] (by kernel_rfl) (fun _ _ _ h => h) hS (fun w' hSw => ?_) ?_
            rotate_left
            · obtain ⟨⟨s0_, s1_, s2_⟩, ⟨s3_, s4_⟩, ⟨s5_, s6_, s7_, s8_, s9_, sa_, sb_, sc_⟩⟩ := hSw
              unfold bareOp
              go_simp
              try with_reducible rfl
            simp only [Act.put, sZc, sZa, sZb]
            refine wpAnyB_takePG (i := 27) (some 61) (Op.move (Operand.tmp 13)) 3 (some (19, false)) (v := ?_) ⟨_, rfl, rfl, rfl, rfl, rfl⟩ rfl (by kernel_rfl) (by kernel_rfl) (by kernel_rfl) (by kernel_rfl) (fun _ _ _ h => h) (fun _ => hS) (fun w' => ?_) ?_
            rotate_left
            · unfold bareOp
              go_simp
              try with_reducible rfl
            simp only [Act.put, sZc, sZa, sZb]
            refine wpAnyB_takePG (i := 28) (some 62) (Op.fieldAddr 27 (Operand.tmp 8) 2) 0 (some (19, false)) (v := ?_) ⟨_, rfl, rfl, rfl, rfl, rfl⟩ rfl (by kernel_rfl) (by kernel_rfl) (by kernel_rfl) (by kernel_rfl) (fun _ _ _ h => h) (fun _ => hS) (fun w' => ?_) ?_
            rotate_left
            · unfold bareOp
              go_simp
              try with_reducible rfl
            simp only [Act.put, sZc, sZa, sZb]
            refine wpAnyB_takePG (i := 29) (some 63) (Op.indexAddr 25 (Operand.tmp 62) (Operand.tmp 61)) 0 (some (19, false)) (v := ?_) ⟨_, rfl, rfl, rfl, rfl, rfl⟩ rfl (by kernel_rfl) (by kernel_rfl) (by kernel_rfl) (by kernel_rfl) (fun _ _ _ h => h) (fun _ => hS) (fun w' => ?_) ?_
            rotate_left
            · unfold bareOp
              go_simp
              try with_reducible rfl
            simp only [Act.put, sZc, sZa, sZb]
            refine wpAnyB_takeG (i := 30) (some 64) (Op.load 24 (Operand.tmp 63)) 24 (some (19, false)) (v := ?_) ⟨_, rfl, rfl, rfl, rfl, rfl⟩ rfl (by kernel_rfl) (by kernel_rfl) (by kernel_rfl) [35, 36, 37] (by kernel_rfl) (fun _ _ _ h => h) hS (fun w' hSw => ?_) ?_
            rotate_left
            · obtain ⟨⟨s0_, s1_, s2_⟩, ⟨s3_, s4_⟩, ⟨s5_, s6_, s7_, s8_, s9_, sa_, sb_, sc_⟩⟩ := hSw
              unfold bareOp
              go_simp
              try with_reducible rfl
            simp only [Act.put, sZc, sZa, sZb]
            refine wpAnyB_takePG (i := 31) (some 65) (Op.move (Operand.tmp 13)) 3 (some (19, false)) (v := ?_) ⟨_, rfl, rfl, rfl, rfl, rfl⟩ rfl (by kernel_rfl) (by kernel_rfl) (by kernel_rfl) (by kernel_rfl) (fun _ _ _ h => h) (fun _ => hS) (fun w' => ?_) ?_
            rotate_left
            · unfold bareOp
              go_simp
              try with_reducible rfl
            simp only [Act.put, sZc, sZa, sZb]
            refine wpAnyB_takePG (i := 32) (some 66) (Op.fieldAddr 27 (Operand.tmp 8) 3) 0 (some (19, false)) (v := ?_) ⟨_, rfl, rfl, rfl, rfl, rfl⟩ rfl (by kernel_rfl) (by kernel_rfl) (by kernel_rfl) (by kernel_rfl) (fun _ _ _ h => h) (fun _ => hS) (fun w' => ?_) ?_
            rotate_left
            · unfold bareOp
              go_simp
              try with_reducible rfl
            simp only [Act.put, sZc, sZa, sZb]
            refine wpAnyB_takePG (i := 33) (some 67) (Op.indexAddr 25 (Operand.tmp 66) (Operand.tmp 65)) 0 (some (19, false)) (v := ?_) ⟨_, rfl, rfl, rfl, rfl, rfl⟩ rfl (by kernel_rfl) (by kernel_rfl) (by kernel_rfl) (by kernel_rfl) (fun _ _ _ h => h) (fun _ => hS) (fun w' => ?_) ?_
            rotate_left
            · unfold bareOp
              go_simp
              try with_reducible rfl
            simp only [Act.put, sZc, sZa, sZb]
            refine wpAnyB_takeG (i := 34) (some 68) (Op.load 24 (Operand.tmp 67)) 24 (some (19, false)) (v := ?_) ⟨_, rfl, rfl, rfl, rfl, rfl⟩ rfl (by kernel_rfl) (by kernel_rfl) (by kernel_rfl) [35, 36, 37] (by kernel_rfl) (fun _ _ _ h => h) hS (fun w' hSw => ?_) ?_
            rotate_left
            · obtain ⟨⟨s0_, s1_, s2_⟩, ⟨s3_, s4_⟩, ⟨s5_, s6_, s7_, s8_, s9_, sa_, sb_, sc_⟩⟩ := hSw
              unfold bareOp
              go_simp
              try with_reducible rfl
            simp only [Act.put, sZc, sZa, sZb]
            refine wpAnyB_onlyG (i := 35) (some 69) (Op.call { callee := Callee.value (Operand.func 122), args := #[Operand.tmp 54, Operand.tmp 55, Operand.tmp 56, Operand.tmp 60, Operand.tmp 64, Operand.tmp 68], argTypes := #[49, 24, 24, 24, 24, 24] }) 4 (some (19, false)) ⟨_, rfl, rfl, rfl, rfl, rfl⟩ (by kernel_rfl) rfl (fun K hK => ?_)
            unfold bareOp
            go_wp2_with (go_at_call 122; refine (peqn_any (v := false) _ HH.out y0 yP b_0 b_P s0_0 s0_P Uc0.out Uz0.out ⟨fun h => (by cases h), fun h => absurd h HF.out⟩).mono ?_; rintro e w12 ⟨rfl, hb12⟩)
            replace F_g := Lib.hid (F_g.out.keep hb12)
            replace F_s := Lib.hid (F_s.out.keep hb12)
            replace F_p := Lib.hid (F_p.out.keep hb12)
            replace HBW := Lib.hid (HBW.out.trans (hb12.mono HBW.out.size))
            replace hS := And.intro F_g.out.s (And.intro F_s.out.s F_p.out.s)
            clear hb12
            refine hK.out _ _ (fun _ => hS) ?_
            clear hK K
            try simp only [Act.put, sZc, sZa, sZb]
            refine wpAnyB_takePG (i := 36) (some 70) (Op.unOp UnOp.not 4 (Operand.tmp 69)) 4 (some (19, false)) (v := ?_) ⟨_, rfl, rfl, rfl, rfl, rfl⟩ rfl (by kernel_rfl) (by kernel_rfl) (by kernel_rfl) (by kernel_rfl) (fun _ _ _ h => h) (fun _ => hS) (fun w' => ?_) ?_
            rotate_left
            · unfold bareOp
              go_simp
              try with_reducible rfl
            simp only [Act.put, sZc, sZa, sZb]
            refine wpAnyB_only (i := 37) (some 71) (Op.pick (Operand.tmp 53) (Operand.const (Value.bool true)) (Operand.tmp 70)) 4 ⟨_, rfl, rfl, rfl, rfl, rfl⟩ (by kernel_rfl) (fun K hK => ?_)
            unfold bareOp
            go_wp2_with fail
            refine hK.out _ _ (fun h => absurd (h.symm.trans (by kernel_rfl : _ = true)) (by decide)) ?_
            clear hK K
            try simp only [Act.put, sZc, sZa, sZb]
            refine wpAnyB_done (by kernel_rfl) ?_ _
            go_wp2_with fail
            go_ret2
            exact ⟨ret_bi HZ.out rfl, HBW.out⟩
          case pos =>
            have HE := Lib.hid hE
            have HF := Lib.hid hF
            clear hE hF
            go_wp2_with fail
            replace F_g := Lib.hid F_g.out.drew
            replace F_s := Lib.hid F_s.out.drew
            replace F_p := Lib.hid F_p.out.drew
            replace HBW := Lib.hid HBW.out.drew
            have hS := And.intro F_g.out.s (And.intro F_s.out.s F_p.out.s)
            refine wp_region_stage 37 (fun w' => SBox w' w.heap.size P Q G ∧ SPair w' (w.heap.size + 1) a b ∧ S8 w' (w.heap.size + 1 + 1) r0 r1 s0 s1 c0 c1 z0 z1) (by kernel_rfl) ?_
            refine wpAnyB_take (i := 0) (some 34) (Op.load 49 (Operand.tmp 5)) 49 (v := ?_) ⟨_, rfl, rfl, rfl, rfl, rfl⟩ (by kernel_rfl) (by kernel_rfl) (by kernel_rfl) [17, 18, 19, 20, 21, 22, 23, 24, 25, 26, 27, 28, 29, 30, 31, 32, 33, 34, 35, 36, 37] (by kernel_rfl) (fun _ _ _ h => h) hS (fun w' hSw => ?_) ?_
            rotate_left
            · obtain ⟨⟨s0_, s1_, s2_⟩, ⟨s3_, s4_⟩, ⟨s5_, s6_, s7_, s8_, s9_, sa_, sb_, sc_⟩⟩ := hSw
              unfold bareOp
              go_simp
              try with_reducible rfl
            simp only [Act.put, sZc, sZa, sZb]
            refine wpAnyB_takeP (i := 1) (some 35) (Op.fieldAddr 49 (Operand.tmp 5) 2) 0 (v := ?_) ⟨_, rfl, rfl, rfl, rfl, rfl⟩ (by kernel_rfl) (by kernel_rfl) (by kernel_rfl) (by kernel_rfl) (fun _ _ _ h => h) (fun _ => hS) (fun w' => ?_) ?_
            rotate_left
            · unfold bareOp
              go_simp
              try with_reducible rfl
            simp only [Act.put, sZc, sZa, sZb]
            refine wpAnyB_take (i := 2) (some 36) (Op.load 24 (Operand.tmp 35)) 24 (v := ?_) ⟨_, rfl, rfl, rfl, rfl, rfl⟩ (by kernel_rfl) (by kernel_rfl) (by kernel_rfl) [17, 18, 19, 20, 21, 22, 23, 24, 25, 26, 27, 28, 29, 30, 31, 32, 33, 34, 35, 36, 37] (by kernel_rfl) (fun _ _ _ h => h) hS (fun w' hSw => ?_) ?_
            rotate_left
            · obtain ⟨⟨s0_, s1_, s2_⟩, ⟨s3_, s4_⟩, ⟨s5_, s6_, s7_, s8_, s9_, sa_, sb_, sc_⟩⟩ := hSw
              unfold bareOp
              go_simp
              try with_reducible rfl
            simp only [Act.put, sZc, sZa, sZb]
            refine wpAnyB_takeP (i := 3) (some 37) (Op.fieldAddr 78 (Operand.tmp 7) 0) 0 (v := ?_) ⟨_, rfl, rfl, rfl, rfl, rfl⟩ (by kernel_rfl) (by kernel_rfl) (by kernel_rfl) (by kernel_rfl) (fun _ _ _ h => h) (fun _ => hS) (fun w' => ?_) ?_
            rotate_left
            · unfold bareOp
              go_simp
              try with_reducible rfl
            simp only [Act.put, sZc, sZa, sZb]
            refine wpAnyB_take (i := 4) (some 38) (Op.load 24 (Operand.tmp 37)) 24 (v := ?_) ⟨_, rfl, rfl, rfl, rfl, rfl⟩ (by kernel_rfl) (by kernel_rfl) (by kernel_rfl) [17, 18, 19, 20, 21, 22, 23, 24, 25, 26, 27, 28, 29, 30, 31, 32, 33, 34, 35, 36, 37] (by kernel_rfl) (fun _ _ _ h => h) hS (fun w' hSw => ?_) ?_
            rotate_left
            · obtain ⟨⟨s0_, s1_, s2_⟩, ⟨s3_, s4_⟩, ⟨s5_, s6_, s7_, s8_, s9_, sa_, sb_, sc_⟩⟩ := hSw
              unfold bareOp
              go_simp
              try with_reducible rfl
            simp only [Act.put, sZc, sZa, sZb]
            refine wpAnyB_takeP (i := 5) (some 39) (Op.move (Operand.tmp 13)) 3 (v := ?_) ⟨_, rfl, rfl, rfl, rfl, rfl⟩ (by kernel_rfl) (by kernel_rfl) (by kernel_rfl) (by kernel_rfl) (fun _ _ _ h => h) (fun _ => hS) (fun w' => ?_) ?_
            rotate_left
            · unfold bareOp
              go_simp
              try with_reducible rfl
            simp only [Act.put, sZc, sZa, sZb]
            refine wpAnyB_takeP (i := 6) (some 40) (Op.fieldAddr 27 (Operand.tmp 8) 0) 0 (v := ?_) ⟨_, rfl, rfl, rfl, rfl, rfl⟩ (by kernel_rfl) (by kernel_rfl) (by kernel_rfl) (by kernel_rfl) (fun _ _ _ h => h) (fun _ => hS) (fun w' => ?_) ?_
            rotate_left
            · unfold bareOp
              go_simp
              try with_reducible rfl
            simp only [Act.put, sZc, sZa, sZb]
            refine wpAnyB_takeP (i := 7) (some 41) (Op.indexAddr 25 (Operand.tmp 40) (Operand.tmp 39)) 0 (v := ?_) ⟨_, rfl, rfl, rfl, rfl, rfl⟩ (by kernel_rfl) (by kernel_rfl) (by kernel_rfl) (by kernel_rfl) (fun _ _ _ h => h) (fun _ => hS) (fun w' => ?_) ?_
            rotate_left
            · unfold bareOp
              go_simp
              try with_reducible rfl
            simp only [Act.put, sZc, sZa, sZb]
            refine wpAnyB_take (i := 8) (some 42) (Op.load 24 (Operand.tmp 41)) 24 (v := ?_) ⟨_, rfl, rfl, rfl, rfl, rfl⟩ (by kernel_rfl) (by kernel_rfl) (by kernel_rfl) [17, 18, 19, 20, 21, 22, 23, 24, 25, 26, 27, 28, 29, 30, 31, 32, 33, 34, 35, 36, 37] (by kernel_rfl) (fun _ _ _ h => h) hS (fun w' hSw => ?_) ?_
            rotate_left
            · obtain ⟨⟨s0_, s1_, s2_⟩, ⟨s3_, s4_⟩, ⟨s5_, s6_, s7_, s8_, s9_, sa_, sb_, sc_⟩⟩ := hSw
              unfold bareOp
              go_simp
              try with_reducible rfl
            simp only [Act.put, sZc, sZa, sZb]
            refine wpAnyB_takeP (i := 9) (some 43) (Op.move (Operand.tmp 13)) 3 (v := ?_) ⟨_, rfl, rfl, rfl, rfl, rfl⟩ (by kernel_rfl) (by kernel_rfl) (by kernel_rfl) (by kernel_rfl) (fun _ _ _ h => h) (fun _ => hS) (fun w' => ?_) ?_
            rotate_left
            · unfold bareOp
              go_simp
              try with_reducible rfl
            simp only [Act.put, sZc, sZa, sZb]
            refine wpAnyB_takeP (i := 10) (some 44) (Op.fieldAddr 27 (Operand.tmp 8) 2) 0 (v := ?_) ⟨_, rfl, rfl, rfl, rfl, rfl⟩ (by kernel_rfl) (by kernel_rfl) (by kernel_rfl) (by kernel_rfl) (fun _ _ _ h => h) (fun _ => hS) (fun w' => ?_) ?_
            rotate_left
            · unfold bareOp
              go_simp
              try with_reducible rfl
            simp only [Act.put, sZc, sZa, sZb]
            refine wpAnyB_takeP (i := 11) (some 45) (Op.indexAddr 25 (Operand.tmp 44) (Operand.tmp 43)) 0 (v := ?_) ⟨_, rfl, rfl, rfl, rfl, rfl⟩ (by kernel_rfl) (by kernel_rfl) (by kernel_rfl) (by kernel_rfl) (fun _ _ _ h => h) (fun _ => hS) (fun w' => ?_) ?_
            rotate_left
            · unfold bareOp
              go_simp
              try with_reducible rfl
            simp only [Act.put, sZc, sZa, sZb]
            refine wpAnyB_take (i := 12) (some 46) (Op.load 24 (Operand.tmp 45)) 24 (v := ?_) ⟨_, rfl, rfl, rfl, rfl, rfl⟩ (by kernel_rfl) (by kernel_rfl) (by kernel_rfl) [17, 18, 19, 20, 21, 22, 23, 24, 25, 26, 27, 28, 29, 30, 31, 32, 33, 34, 35, 36, 37] (by kernel_rfl) (fun _ _ _ h => h) hS (fun w' hSw => ?_) ?_
            rotate_left
            · obtain ⟨⟨s0_, s1_, s2_⟩, ⟨s3_, s4_⟩, ⟨s5_, s6_, s7_, s8_, s9_, sa_, sb_, sc_⟩⟩ := hSw
              unfold bareOp
              go_simp
              try with_reducible rfl
            simp only [Act.put, sZc, sZa, sZb]
            refine wpAnyB_takeP (i := 13) (some 47) (Op.move (Operand.tmp 13)) 3 (v := ?_) ⟨_, rfl, rfl, rfl, rfl, rfl⟩ (by kernel_rfl) (by kernel_rfl) (by kernel_rfl) (by kernel_rfl) (fun _ _ _ h => h) (fun _ => hS) (fun w' => ?_) ?_
            rotate_left
            · unfold bareOp
              go_simp
              try with_reducible rfl
            simp only [Act.put, sZc, sZa, sZb]
            refine wpAnyB_takeP (i := 14) (some 48) (Op.fieldAddr 27 (Operand.tmp 8) 3) 0 (v := ?_) ⟨_, rfl, rfl, rfl, rfl, rfl⟩ (by kernel_rfl) (by kernel_rfl) (by kernel_rfl) (by kernel_rfl) (fun _ _ _ h => h) (fun _ => hS) (fun w' => ?_) ?_
            rotate_left
            · unfold bareOp
              go_simp
              try with_reducible rfl
            simp only [Act.put, sZc, sZa, sZb]
            refine wpAnyB_takeP (i := 15) (some 49) (Op.indexAddr 25 (Operand.tmp 48) (Operand.tmp 47)) 0 (v := ?_) ⟨_, rfl, rfl, rfl, rfl, rfl⟩ (by kernel_rfl) (by kernel_rfl) (by kernel_rfl) (by kernel_rfl) (fun _ _ _ h => h) (fun _ => hS) (fun w' => ?_) ?_
            rotate_left
            · unfold bareOp
              go_simp
              try with_reducible rfl
            simp only [Act.put, sZc, sZa, sZb]
            refine wpAnyB_take (i := 16) (some 50) (Op.load 24 (Operand.tmp 49)) 24 (v := ?_) ⟨_, rfl, rfl, rfl, rfl, rfl⟩ (by kernel_rfl) (by kernel_rfl) (by kernel_rfl) [17, 18, 19, 20, 21, 22, 23, 24, 25, 26, 27, 28, 29, 30, 31, 32, 33, 34, 35, 36, 37] (by kernel_rfl) (fun _ _ _ h => h) hS (fun w' hSw => ?_) ?_
            rotate_left
            · obtain ⟨⟨s0_, s1_, s2_⟩, ⟨s3_, s4_⟩, ⟨s5_, s6_, s7_, s8_, s9_, sa_, sb_, sc_⟩⟩ := hSw
              unfold bareOp
              go_simp
              try with_reducible rfl
            simp only [Act.put, sZc, sZa, sZb]
            refine wpAnyB_only (i := 17) (some 51) (Op.call { callee := Callee.value (Operand.func 122), args := #[Operand.tmp 34, Operand.tmp 36, Operand.tmp 38, Operand.tmp 42, Operand.tmp 46, Operand.tmp 50], argTypes := #[49, 24, 24, 24, 24, 24] }) 4 ⟨_, rfl, rfl, rfl, rfl, rfl⟩ (by kernel_rfl) (fun K hK => ?_)
            unfold bareOp
            go_wp2_with (go_at_call 122; refine (peqn_any (v := true) _ HH.out hG gP a0 aP r0_0 r0_P Uc0.out Uz0.out ⟨fun _ => HE.out, fun _ => rfl⟩).mono ?_; rintro e w11 ⟨rfl, hb11⟩)
            replace F_g := Lib.hid (F_g.out.keep hb11)
            replace F_s := Lib.hid (F_s.out.keep hb11)
            replace F_p := Lib.hid (F_p.out.keep hb11)
            replace HBW := Lib.hid (HBW.out.trans (hb11.mono HBW.out.size))
            replace hS := And.intro F_g.out.s (And.intro F_s.out.s F_p.out.s)
            clear hb11
            refine hK.out _ _ (fun _ => hS) ?_
            clear hK K
            try simp only [Act.put, sZc, sZa, sZb]
            refine wpAnyB_takeP (i := 18) (some 52) (Op.unOp UnOp.not 4 (Operand.tmp 51)) 4 (v := ?_) ⟨_, rfl, rfl, rfl, rfl, rfl⟩ (by kernel_rfl) (by kernel_rfl) (by kernel_rfl) (by kernel_rfl) (fun _ _ _ h => h) (fun _ => hS) (fun w' => ?_) ?_
            rotate_left
            · unfold bareOp
              go_simp
              try with_reducible rfl
            simp only [Act.put, sZc, sZa, sZb]
            refine wpAnyB_takeP (i := 19) (some 53) (Op.move (Operand.tmp 52)) 4 (v := ?_) ⟨_, rfl, rfl, rfl, rfl, rfl⟩ (by kernel_rfl) (by kernel_rfl) (by kernel_rfl) (by kernel_rfl) (fun _ _ _ h => h) (fun _ => hS) (fun w' => ?_) ?_
            rotate_left
            · unfold bareOp
              go_simp
              try with_reducible rfl
            simp only [Act.put, sZc, sZa, sZb]
            refine wpAnyB_takeG (i := 20) (some 54) (Op.load 49 (Operand.tmp 5)) 49 (some (19, false)) (v := ?_) ⟨_, rfl, rfl, rfl, rfl, rfl⟩ rfl (by kernel_rfl) (by kernel_rfl) (by kernel_rfl) [35, 36, 37] (by kernel_rfl) (fun _ _ _ h => h) hS (fun w' hSw => ?_) ?_
            rotate_left
            · obtain ⟨⟨s0_, s1_, s2_⟩, ⟨s3_, s4_⟩, ⟨s5_, s6_, s7_, s8_, s9_, sa_, sb_, sc_⟩⟩ := hSw
              unfold bareOp
              go_simp
              try with_reducible rfl
            simp only [Act.put, sZc, sZa, sZb]
            refine wpAnyB_takePG (i := 21) (some 55) (Op.move (Operand.tmp 1)) 24 (some (19, false)) (v := ?_) ⟨_, rfl, rfl, rfl, rfl, rfl⟩ rfl (by kernel_rfl) (by kernel_rfl) (by kernel_rfl) (by kernel_rfl) (fun _ _ _ h => h) (fun _ => hS) (fun w' => ?_) ?_
            rotate_left
            · unfold bareOp
              go_simp
              try with_reducible rfl
            simp only [Act.put, sZc, sZa, sZb]
            refine wpAnyB_takePG (i := 22) (some 56) (Op.move (Operand.tmp 14)) 24 (some (19, false)) (v := ?_) ⟨_, rfl, rfl, rfl, rfl, rfl⟩ rfl (by kernel_rfl) (by kernel_rfl) (by kernel_rfl) (by kernel_rfl) (fun _ _ _ h => h) (fun _ => hS) (fun w' => ?_) ?_
            rotate_left
            · unfold bareOp
              go_simp
              try with_reducible rfl
            simp only [Act.put, sZc, sZa, sZb]
            refine wpAnyB_takePG (i := 23) (some 57) (Op.move (Operand.tmp 13)) 3 (some (19, false)) (v := ?_) ⟨_, rfl, rfl, rfl, rfl, rfl⟩ rfl (by kernel_rfl) (by kernel_rfl) (by kernel_rfl) (by kernel_rfl) (fun _ _ _ h => h) (fun _ => hS) (fun w' => ?_) ?_
            rotate_left
            · unfold bareOp
              go_simp
              try with_reducible rfl
            simp only [Act.put, sZc, sZa, sZb]
            refine wpAnyB_takePG (i := 24) (some 58) (Op.fieldAddr 27 (Operand.tmp 8) 1) 0 (some (19, false)) (v := ?_) ⟨_, rfl, rfl, rfl, rfl, rfl⟩ rfl (by kernel_rfl) (by kernel_rfl) (by kernel_rfl) (by kernel_rfl) (fun _ _ _ h => h) (fun _ => hS) (fun w' => ?_) ?_
            rotate_left
            · unfold bareOp
              go_simp
              try with_reducible rfl
            simp only [Act.put, sZc, sZa, sZb]
            refine wpAnyB_takePG (i := 25) (some 59) (Op.indexAddr 25 (Operand.tmp 58) (Operand.tmp 57)) 0 (some (19, false)) (v := ?_) ⟨_, rfl, rfl, rfl, rfl, rfl⟩ rfl (by kernel_rfl) (by kernel_rfl) (by kernel_rfl) (by kernel_rfl) (fun _ _ _ h => h) (fun _ => hS) (fun w' => ?_) ?_
            rotate_left
            · unfold bareOp
              go_simp
              try with_reducible rfl
            simp only [Act.put, sZc, sZa, sZb]
            refine wpAnyB_takeG (i := 26) (some 60) (Op.load 24 (Operand.tmp 59)) 24 (some (19, false)) (v := ?_) ⟨_, rfl, rfl, rfl, rfl, rfl⟩ rfl (by kernel_rfl) (by kernel_rfl) (by kernel_rfl) [35, 36, 37] (by kernel_rfl) (fun _ _ _ h => h) hS (fun w' hSw => ?_) ?_
            rotate_left
            · obtain ⟨⟨s0_, s1_, s2_⟩, ⟨s3_, s4_⟩, ⟨s5_, s6_, s7_, s8_, s9_, sa_, sb_, sc_⟩⟩ := hSw
              unfold bareOp
              go_simp
              try with_reducible rfl
            simp only [Act.put, sZc, sZa, sZb]
            refine wpAnyB_takePG (i := 27) (some 61) (Op.move (Operand.tmp 13)) 3 (some (19, false)) (v := ?_) ⟨_, rfl, rfl, rfl, rfl, rfl⟩ rfl (by kernel_rfl) (by kernel_rfl) (by kernel_rfl) (by kernel_rfl) (fun _ _ _ h => h) (fun _ => hS) (fun w' => ?_) ?_
            rotate_left
            · unfold bareOp
              go_simp
              try with_reducible rfl
            simp only [Act.put, sZc, sZa, sZb]
            refine wpAnyB_takePG (i := 28) (some 62) (Op.fieldAddr 27 (Operand.tmp 8) 2) 0 (some (19, false)) (v := ?_) ⟨_, rfl, rfl, rfl, rfl, rfl⟩ rfl (by kernel_rfl) (by kernel_rfl) (by kernel_rfl) (by kernel_rfl) (fun _ _ _ h => h) (fun _ => hS) (fun w' => ?_) ?_
            rotate_left
            · unfold bareOp
              go_simp
              try with_reducible rfl
            simp only [Act.put, sZc, sZa, sZb]
            refine wpAnyB_takePG (i := 29) (some 63) (Op.indexAddr 25 (Operand.tmp 62) (Operand.tmp 61)) 0 (some (19, false)) (v := ?_) ⟨_, rfl, rfl, rfl, rfl, rfl⟩ rfl (by kernel_rfl) (by kernel_rfl) (by kernel_rfl) (by kernel_rfl) (fun _ _ _ h => h) (fun _ => hS) (fun w' => ?_) ?_
            rotate_left
            · unfold bareOp
              go_simp
              try with_reducible rfl
            simp only [Act.put, sZc, sZa, sZb]
            refine wpAnyB_takeG (i := 30) (some 64) (Op.load 24 (Operand.tmp 63)) 24 (some (19, false)) (v := ?_) ⟨_, rfl, rfl, rfl, rfl, rfl⟩ rfl (by kernel_rfl) (by kernel_rfl) (by kernel_rfl) [35, 36, 37] (by kernel_rfl) (fun _ _ _ h => h) hS (fun w' hSw => ?_) ?_
            rotate_left
            · obtain ⟨⟨s0_, s1_, s2_⟩, ⟨s3_, s4_⟩, ⟨s5_, s6_, s7_, s8_, s9_, sa_, sb_, sc_⟩⟩ := hSw
              unfold bareOp
              go_simp
              try with_reducible rfl
            simp only [Act.put, sZc, sZa, sZb]
            refine wpAnyB_takePG (i := 31) (some 65) (Op.move (Operand.tmp 13)) 3 (some (19, false)) (v := ?_) ⟨_, rfl, rfl, rfl, rfl, rfl⟩ rfl (by kernel_rfl) (by kernel_rfl) (by kernel_rfl) (by kernel_rfl) (fun _ _ _ h => h) (fun _ => hS) (fun w' => ?_) ?_
            rotate_left
            · unfold bareOp
              go_simp
              try with_reducible rfl
            simp only [Act.put, sZc, sZa, sZb]
            refine wpAnyB_takePG (i := 32) (some 66) (Op.fieldAddr 27 (Operand.tmp 8) 3) 0 (some (19, false)) (v := ?_) ⟨_, rfl, rfl, rfl, rfl, rfl⟩ rfl (by kernel_rfl) (by kernel_rfl) (by kernel_rfl) (by kernel_rfl) (fun _ _ _ h => h) (fun _ => hS) (fun w' => ?_) ?_
            rotate_left
            · unfold bareOp
              go_simp
              try with_reducible rfl
            simp only [Act.put, sZc, sZa, sZb]
            refine wpAnyB_takePG (i := 33) (some 67) (Op.indexAddr 25 (Operand.tmp 66) (Operand.tmp 65)) 0 (some (19, false)) (v := ?_) ⟨_, rfl, rfl, rfl, rfl, rfl⟩ rfl (by kernel_rfl) (by kernel_rfl) (by kernel_rfl) (by kernel_rfl) (fun _ _ _ h => h) (fun _ => hS) (fun w' => ?_) ?_
            rotate_left
            · unfold bareOp
              go_simp
              try with_reducible rfl
            simp only [Act.put, sZc, sZa, sZb]
            refine wpAnyB_takeG (i := 34) (some 68) (Op.load 24 (Operand.tmp 67)) 24 (some (19, false)) (v := ?_) ⟨_, rfl, rfl, rfl, rfl, rfl⟩ rfl (by kernel_rfl) (by kernel_rfl) (by kernel_rfl) [35, 36, 37] (by kernel_rfl) (fun _ _ _ h => h) hS (fun w' hSw => ?_) ?_
            rotate_left
            · obtain ⟨⟨s0_, s1_, s2_⟩, ⟨s3_, s4_⟩, ⟨s5_, s6_, s7_, s8_, s9_, sa_, sb_, sc_⟩⟩ := hSw
              unfold bareOp
              go_simp
              try with_reducible rfl
            simp only [Act.put, sZc, sZa, sZb]
            refine wpAnyB_onlyG (i := 35) (some 69) (Op.call { callee := Callee.value (Operand.func 122), args := #[Operand.tmp 54, Operand.tmp 55, Operand.tmp 56, Operand.tmp 60, Operand.tmp 64, Operand.tmp 68], argTypes := #[49, 24, 24, 24, 24, 24] }) 4 (some (19, false)) ⟨_, rfl, rfl, rfl, rfl, rfl⟩ (by kernel_rfl) rfl (fun K hK => ?_)
            unfold bareOp
            go_wp2_with (go_at_call 122; refine (peqn_any (v := true) _ HH.out y0 yP b_0 b_P s0_0 s0_P Uc0.out Uz0.out ⟨fun _ => HF.out, fun _ => rfl⟩).mono ?_; rintro e w12 ⟨rfl, hb12⟩)
            replace F_g := Lib.hid (F_g.out.keep hb12)
            replace F_s := Lib.hid (F_s.out.keep hb12)
            replace F_p := Lib.hid (F_p.out.keep hb12)
            replace HBW := Lib.hid (HBW.out.trans (hb12.mono HBW.out.size))
            replace hS := And.intro F_g.out.s (And.intro F_s.out.s F_p.out.s)
            clear hb12
            refine hK.out _ _ (fun _ => hS) ?_
            clear hK K
            try simp only [Act.put, sZc, sZa, sZb]
            refine wpAnyB_takePG (i := 36) (some 70) (Op.unOp UnOp.not 4 (Operand.tmp 69)) 4 (some (19, false)) (v := ?_) ⟨_, rfl, rfl, rfl, rfl, rfl⟩ rfl (by kernel_rfl) (by kernel_rfl) (by kernel_rfl) (by kernel_rfl) (fun _ _ _ h => h) (fun _ => hS) (fun w' => ?_) ?_
            rotate_left
            · unfold bareOp
              go_simp
              try with_reducible rfl
            simp only [Act.put, sZc, sZa, sZb]
            refine wpAnyB_only (i := 37) (some 71) (Op.pick (Operand.tmp 53) (Operand.const (Value.bool true)) (Operand.tmp 70)) 4 ⟨_, rfl, rfl, rfl, rfl, rfl⟩ (by kernel_rfl) (fun K hK => ?_)
            unfold bareOp
            go_wp2_with fail
            refine hK.out _ _ (fun h => absurd (h.symm.trans (by kernel_rfl : _ = true)) (by decide)) ?_
            clear hK K
            try simp only [Act.put, sZc, sZa, sZb]
            refine wpAnyB_done (by kernel_rfl) ?_ _
            go_wp2_with fail
            go_roundw
            case rel => exact ⟨1, by omega, by go_num, ⟨F_g.out, F_s.out, F_p.out, HBW.out, fun _ => ⟨HE.out, HF.out⟩, fun h => absurd h (by omega)⟩⟩
            case measure => simp [intOf]
      case inr.inl =>
        have HX0 := Lib.hid (HK.out.x0 (by omega))
        clear HK
        rw [show ((1 : Nat) : Int) = 1 from rfl]
        have hix : ∀ w' : World, (Instr.index 25 (.agg #[.int .u64 b, .int .u64 t]) (.int .i64 1)).run Tryd.prog w' = .ok (.int .u64 t) w' := fun w' => rfl
        by_cases hE : powm G z1 P = r1 * powm a c1 P % P
        case neg =>
          have HE := Lib.hid hE
          have HZ := Lib.hid (show false = v by rw [Bool.eq_iff_iff, HV.out]; simp [hE])
          clear hE
          go_wp2_with fail
          replace F_g := Lib.hid F_g.out.drew
          replace F_s := Lib.hid F_s.out.drew
          replace F_p := Lib.hid F_p.out.drew
          replace HBW := Lib.hid HBW.out.drew
          have hS := And.intro F_g.out.s (And.intro F_s.out.s F_p.out.s)
          refine wp_region_stage 37 (fun w' => SBox w' w.heap.size P Q G ∧ SPair w' (w.heap.size + 1) a b ∧ S8 w' (w.heap.size + 1 + 1) r0 r1 s0 s1 c0 c1 z0 z1) (by kernel_rfl) ?_
          refine wpAnyB_take (i := 0) (some 34) (Op.load 49 (Operand.tmp 5)) 49 (v := ?_) ⟨_, rfl, rfl, rfl, rfl, rfl⟩ (by kernel_rfl) (by kernel_rfl) (by kernel_rfl) [17, 18, 19, 20, 21, 22, 23, 24, 25, 26, 27, 28, 29, 30, 31, 32, 33, 34, 35, 36, 37] (by kernel_rfl) (fun _ _ _ h => h) hS (fun w' hSw => ?_) ?_
          rotate_left
          · obtain ⟨⟨s0_, s1_, s2_⟩, ⟨s3_, s4_⟩, ⟨s5_, s6_, s7_, s8_, s9_, sa_, sb_, sc_⟩⟩ := hSw
            unfold bareOp
            go_simp
            try with_reducible rfl
          simp only [Act.put, sZc, sZa, sZb]
          refine wpAnyB_takeP (i := 1) (some 35) (Op.fieldAddr 49 (Operand.tmp 5) 2) 0 (v := ?_) ⟨_, rfl, rfl, rfl, rfl, rfl⟩ (by kernel_rfl) (by kernel_rfl) (by kernel_rfl) (by kernel_rfl) (fun _ _ _ h => h) (fun _ => hS) (fun w' => ?_) ?_
          rotate_left
          · unfold bareOp
            go_simp
            try with_reducible rfl
          simp only [Act.put, sZc, sZa, sZb]
          refine wpAnyB_take (i := 2) (some 36) (Op.load 24 (Operand.tmp 35)) 24 (v := ?_) ⟨_, rfl, rfl, rfl, rfl, rfl⟩ (by kernel_rfl) (by kernel_rfl) (by kernel_rfl) [17, 18, 19, 20, 21, 22, 23, 24, 25, 26, 27, 28, 29, 30, 31, 32, 33, 34, 35, 36, 37] (by kernel_rfl) (fun _ _ _ h => h) hS (fun w' hSw => ?_) ?_
          rotate_left
          · obtain ⟨⟨s0_, s1_, s2_⟩, ⟨s3_, s4_⟩, ⟨s5_, s6_, s7_, s8_, s9_, sa_, sb_, sc_⟩⟩ := hSw
            unfold bareOp
            go_simp
            try with_reducible rfl
          simp only [Act.put, sZc, sZa, sZb]
          refine wpAnyB_takeP (i := 3) (some 37) (Op.fieldAddr 78 (Operand.tmp 7) 0) 0 (v := ?_) ⟨_, rfl, rfl, rfl, rfl, rfl⟩ (by kernel_rfl) (by kernel_rfl) (by kernel_rfl) (by kernel_rfl) (fun _ _ _ h => h) (fun _ => hS) (fun w' => ?_) ?_
          rotate_left
          · unfold bareOp
            go_simp
            try with_reducible rfl
          simp only [Act.put, sZc, sZa, sZb]
          refine wpAnyB_take (i := 4) (some 38) (Op.load 24 (Operand.tmp 37)) 24 (v := ?_) ⟨_, rfl, rfl, rfl, rfl, rfl⟩ (by kernel_rfl) (by kernel_rfl) (by kernel_rfl) [17, 18, 19, 20, 21, 22, 23, 24, 25, 26, 27, 28, 29, 30, 31, 32, 33, 34, 35, 36, 37] (by kernel_rfl) (fun _ _ _ h => h) hS (fun w' hSw => ?_) ?_
          rotate_left
          · obtain ⟨⟨s0_, s1_, s2_⟩, ⟨s3_, s4_⟩, ⟨s5_, s6_, s7_, s8_, s9_, sa_, sb_, sc_⟩⟩ := hSw
            unfold bareOp
            go_simp
            try with_reducible rfl
          simp only [Act.put, sZc, sZa, sZb]
          refine wpAnyB_takeP (i := 5) (some 39) (Op.move (Operand.tmp 13)) 3 (v := ?_) ⟨_, rfl, rfl, rfl, rfl, rfl⟩ (by kernel_rfl) (by kernel_rfl) (by kernel_rfl) (by kernel_rfl) (fun _ _ _ h => h) (fun _ => hS) (fun w' => ?_) ?_
          rotate_left
          · unfold bareOp
            go_simp
            try with_reducible rfl
          simp only [Act.put, sZc, sZa, sZb]
          refine wpAnyB_takeP (i := 6) (some 40) (Op.fieldAddr 27 (Operand.tmp 8) 0) 0 (v := ?_) ⟨_, rfl, rfl, rfl, rfl, rfl⟩ (by kernel_rfl) (by kernel_rfl) (by kernel_rfl) (by kernel_rfl) (fun _ _ _ h => h) (fun _ => hS) (fun w' => ?_) ?_
          rotate_left
          · unfold bareOp
            go_simp
            try with_reducible rfl
          simp only [Act.put, sZc, sZa, sZb]
          refine wpAnyB_takeP (i := 7) (some 41) (Op.indexAddr 25 (Operand.tmp 40) (Operand.tmp 39)) 0 (v := ?_) ⟨_, rfl, rfl, rfl, rfl, rfl⟩ (by kernel_rfl) (by kernel_rfl) (by kernel_rfl) (by kernel_rfl) (fun _ _ _ h => h) (fun _ => hS) (fun w' => ?_) ?_
          rotate_left
          · unfold bareOp
            go_simp
            try with_reducible rfl
          simp only [Act.put, sZc, sZa, sZb]
          refine wpAnyB_take (i := 8) (some 42) (Op.load 24 (Operand.tmp 41)) 24 (v := ?_) ⟨_, rfl, rfl, rfl, rfl, rfl⟩ (by kernel_rfl) (by kernel_rfl) (by kernel_rfl) [17, 18, 19, 20, 21, 22, 23, 24, 25, 26, 27, 28, 29, 30, 31, 32, 33, 34, 35, 36, 37] (by kernel_rfl) (fun _ _ _ h => h) hS (fun w' hSw => ?_) ?_
          rotate_left
          · obtain ⟨⟨s0_, s1_, s2_⟩, ⟨s3_, s4_⟩, ⟨s5_, s6_, s7_, s8_, s9_, sa_, sb_, sc_⟩⟩ := hSw
            unfold bareOp
            go_simp
            try with_reducible rfl
          simp only [Act.put, sZc, sZa, sZb]
          refine wpAnyB_takeP (i := 9) (some 43) (Op.move (Operand.tmp 13)) 3 (v := ?_) ⟨_, rfl, rfl, rfl, rfl, rfl⟩ (by kernel_rfl) (by kernel_rfl) (by kernel_rfl) (by kernel_rfl) (fun _ _ _ h => h) (fun _ => hS) (fun w' => ?_) ?_
          rotate_left
          · unfold bareOp
            go_simp
            try with_reducible rfl
          simp only [Act.put, sZc, sZa, sZb]
          refine wpAnyB_takeP (i := 10) (some 44) (Op.fieldAddr 27 (Operand.tmp 8) 2) 0 (v := ?_) ⟨_, rfl, rfl, rfl, rfl, rfl⟩ (by kernel_rfl) (by kernel_rfl) (by kernel_rfl) (by kernel_rfl) (fun _ _ _ h => h) (fun _ => hS) (fun w' => ?_) ?_
          rotate_left
          · unfold bareOp
            go_simp
            try with_reducible rfl
          simp only [Act.put, sZc, sZa, sZb]
          refine wpAnyB_takeP (i := 11) (some 45) (Op.indexAddr 25 (Operand.tmp 44) (Operand.tmp 43)) 0 (v := ?_) ⟨_, rfl, rfl, rfl, rfl, rfl⟩ (by kernel_rfl) (by kernel_rfl) (by kernel_rfl) (by kernel_rfl) (fun _ _ _ h => h) (fun _ => hS) (fun w' => ?_) ?_
          rotate_left
          · unfold bareOp
            go_simp
            try with_reducible rfl
          simp only [Act.put, sZc, sZa, sZb]
          refine wpAnyB_take (i := 12) (some 46) (Op.load 24 (Operand.tmp 45)) 24 (v := ?_) ⟨_, rfl, rfl, rfl, rfl, rfl⟩ (by kernel_rfl) (by kernel_rfl) (by kernel_rfl) [17, 18, 19, 20, 21, 22, 23, 24, 25, 26, 27, 28, 29, 30, 31, 32, 33, 34, 35, 36, 37] (by kernel_rfl) (fun _ _ _ h => h) hS (fun w' hSw => ?_) ?_
          rotate_left
          · obtain ⟨⟨s0_, s1_, s2_⟩, ⟨s3_, s4_⟩, ⟨s5_, s6_, s7_, s8_, s9_, sa_, sb_, sc_⟩⟩ := hSw
            unfold bareOp
            go_simp
            try with_reducible rfl
          simp only [Act.put, sZc, sZa, sZb]
          refine wpAnyB_takeP (i := 13) (some 47) (Op.move (Operand.tmp 13)) 3 (v := ?_) ⟨_, rfl, rfl, rfl, rfl, rfl⟩ (by kernel_rfl) (by kernel_rfl) (by kernel_rfl) (by kernel_rfl) (fun _ _ _ h => h) (fun _ => hS) (fun w' => ?_) ?_
          rotate_left
          · unfold bareOp
            go_simp
            try with_reducible rfl
          simp only [Act.put, sZc, sZa, sZb]
          refine wpAnyB_takeP (i := 14) (some 48) (Op.fieldAddr 27 (Operand.tmp 8) 3) 0 (v := ?_) ⟨_, rfl, rfl, rfl, rfl, rfl⟩ (by kernel_rfl) (by kernel_rfl) (by kernel_rfl) (by kernel_rfl) (fun _ _ _ h => h) (fun _ => hS) (fun w' => ?_) ?_
          rotate_left
          · unfold bareOp
            go_simp
            try with_reducible rfl
          simp only [Act.put, sZc, sZa, sZb]
          refine wpAnyB_takeP (i := 15) (some 49) (Op.indexAddr 25 (Operand.tmp 48) (Operand.tmp 47)) 0 (v := ?_) ⟨_, rfl, rfl, rfl, rfl, rfl⟩ (by kernel_rfl) (by kernel_rfl) (by kernel_rfl) (by kernel_rfl) (fun _ _ _ h => h) (fun _ => hS) (fun w' => ?_) ?_
          rotate_left
          · unfold bareOp
            go_simp
            try with_reducible rfl
          simp only [Act.put, sZc, sZa, sZb]
          refine wpAnyB_take (i := 16) (some 50) (Op.load 24 (Operand.tmp 49)) 24 (v := ?_) ⟨_, rfl, rfl, rfl, rfl, rfl⟩ (by kernel_rfl) (by kernel_rfl) (by kernel_rfl) [17, 18, 19, 20, 21, 22, 23, 24, 25, 26, 27, 28, 29, 30, 31, 32, 33, 34, 35, 36, 37] (by kernel_rfl) (fun _ _ _ h => h) hS (fun w' hSw => ?_) ?_
          rotate_left
          · obtain ⟨⟨s0_, s1_, s2_⟩, ⟨s3_, s4_⟩, ⟨s5_, s6_, s7_, s8_, s9_, sa_, sb_, sc_⟩⟩ := hSw
            unfold bareOp
            go_simp
            try with_reducible rfl
          simp only [Act.put, sZc, sZa, sZb]
          refine wpAnyB_only (i := 17) (some 51) (Op.call { callee := Callee.value (Operand.func 122), args := #[Operand.tmp 34, Operand.tmp 36, Operand.tmp 38, Operand.tmp 42, Operand.tmp 46, Operand.tmp 50], argTypes := #[49, 24, 24, 24, 24, 24] }) 4 ⟨_, rfl, rfl, rfl, rfl, rfl⟩ (by kernel_rfl) (fun K hK => ?_)
          unfold bareOp
          go_wp2_with (go_at_call 122; refine (peqn_any (v := false) _ HH.out hG gP a0 aP r1_0 r1_P Uc1.out Uz1.out ⟨fun h => (by cases h), fun h => absurd h HE.out⟩).mono ?_; rintro e w11 ⟨rfl, hb11⟩)
          replace F_g := Lib.hid (F_g.out.keep hb11)
          replace F_s := Lib.hid (F_s.out.keep hb11)
          replace F_p := Lib.hid (F_p.out.keep hb11)
          replace HBW := Lib.hid (HBW.out.trans (hb11.mono HBW.out.size))
          replace hS := And.intro F_g.out.s (And.intro F_s.out.s F_p.out.s)
          clear hb11
          refine hK.out _ _ (fun _ => hS) ?_
          clear hK K
          try simp only [Act.put, sZc, sZa, sZb]
          refine wpAnyB_takeP (i := 18) (some 52) (Op.unOp UnOp.not 4 (Operand.tmp 51)) 4 (v := ?_) ⟨_, rfl, rfl, rfl, rfl, rfl⟩ (by kernel_rfl) (by kernel_rfl) (by kernel_rfl) (by kernel_rfl) (fun _ _ _ h => h) (fun _ => hS) (fun w' => ?_) ?_
          rotate_left
          · unfold bareOp
            go_simp
            try with_reducible rfl
          simp only [Act.put, sZc, sZa, sZb]
          refine wpAnyB_takeP (i := 19) (some 53) (Op.move (Operand.tmp 52)) 4 (v := ?_) ⟨_, rfl, rfl, rfl, rfl, rfl⟩ (by kernel_rfl) (by kernel_rfl) (by kernel_rfl) (by kernel_rfl) (fun _ _ _ h => h) (fun _ => hS) (fun w' => ?_) ?_
          rotate_left
          · unfold bareOp
            go_simp
            try with_reducible rfl
          simp only [Act.put, sZc, sZa, sZb]
          refine wpAnyB_skip (i := 20) (some 54) (Op.load 49 (Operand.tmp 5)) 49 (some (19, false)) ⟨_, rfl, rfl, rfl, rfl, rfl⟩ rfl (by kernel_rfl) (by kernel_rfl) (by kernel_rfl) (by kernel_rfl) (fun _ _ _ h => h) (fun _ => hS) ?_
          simp only [Act.put, sZc, sZa, sZb]
          refine wpAnyB_skip (i := 21) (some 55) (Op.move (Operand.tmp 1)) 24 (some (19, false)) ⟨_, rfl, rfl, rfl, rfl, rfl⟩ rfl (by kernel_rfl) (by kernel_rfl) (by kernel_rfl) (by kernel_rfl) (fun _ _ _ h => h) (fun _ => hS) ?_
          simp only [Act.put, sZc, sZa, sZb]
          refine wpAnyB_skip (i := 22) (some 56) (Op.move (Operand.tmp 14)) 24 (some (19, false)) ⟨_, rfl, rfl, rfl, rfl, rfl⟩ rfl (by kernel_rfl) (by kernel_rfl) (by kernel_rfl) (by kernel_rfl) (fun _ _ _ h => h) (fun _ => hS) ?_
          simp only [Act.put, sZc, sZa, sZb]
          refine wpAnyB_skip (i := 23) (some 57) (Op.move (Operand.tmp 13)) 3 (some (19, false)) ⟨_, rfl, rfl, rfl, rfl, rfl⟩ rfl (by kernel_rfl) (by kernel_rfl) (by kernel_rfl) (by kernel_rfl) (fun _ _ _ h => h) (fun _ => hS) ?_
          simp only [Act.put, sZc, sZa, sZb]
          refine wpAnyB_skip (i := 24) (some 58) (Op.fieldAddr 27 (Operand.tmp 8) 1) 0 (some (19, false)) ⟨_, rfl, rfl, rfl, rfl, rfl⟩ rfl (by kernel_rfl) (by kernel_rfl) (by kernel_rfl) (by kernel_rfl) (fun _ _ _ h => h) (fun _ => hS) ?_
          simp only [Act.put, sZc, sZa, sZb]
          refine wpAnyB_skip (i := 25) (some 59) (Op.indexAddr 25 (Operand.tmp 58) (Operand.tmp 57)) 0 (some (19, false)) ⟨_, rfl, rfl, rfl, rfl, rfl⟩ rfl (by kernel_rfl) (by kernel_rfl) (by kernel_rfl) (by kernel_rfl) (fun _ _ _ h => h) (fun _ => hS) ?_
          simp only [Act.put, sZc, sZa, sZb]
          refine wpAnyB_skip (i := 26) (some 60) (Op.load 24 (Operand.tmp 59)) 24 (some (19, false)) ⟨_, rfl, rfl, rfl, rfl, rfl⟩ rfl (by kernel_rfl) (by kernel_rfl) (by kernel_rfl) (by kernel_rfl) (fun _ _ _ h => h) (fun _ => hS) ?_
          simp only [Act.put, sZc, sZa, sZb]
          refine wpAnyB_skip (i := 27) (some 61) (Op.move (Operand.tmp 13)) 3 (some (19, false)) ⟨_, rfl, rfl, rfl, rfl, rfl⟩ rfl (by kernel_rfl) (by kernel_rfl) (by kernel_rfl) (by kernel_rfl) (fun _ _ _ h => h) (fun _ => hS) ?_
          simp only [Act.put, sZc, sZa, sZb]
          refine wpAnyB_skip (i := 28) (some 62) (Op.fieldAddr 27 (Operand.tmp 8) 2) 0 (some (19, false)) ⟨_, rfl, rfl, rfl, rfl, rfl⟩ rfl (by kernel_rfl) (by kernel_rfl) (by kernel_rfl) (by kernel_rfl) (fun _ _ _ h => h) (fun _ => hS) ?_
          simp only [Act.put, sZc, sZa, sZb]
          refine wpAnyB_skip (i := 29) (some 63) (Op.indexAddr 25 (Operand.tmp 62) (Operand.tmp 61)) 0 (some (19, false)) ⟨_, rfl, rfl, rfl, rfl, rfl⟩ rfl (by kernel_rfl) (by kernel_rfl) (by kernel_rfl) (by kernel_rfl) (fun _ _ _ h => h) (fun _ => hS) ?_
          simp only [Act.put, sZc, sZa, sZb]
          refine wpAnyB_skip (i := 30) (some 64) (Op.load 24 (Operand.tmp 63)) 24 (some (19, false)) ⟨_, rfl, rfl, rfl, rfl, rfl⟩ rfl (by kernel_rfl) (by kernel_rfl) (by kernel_rfl) (by kernel_rfl) (fun _ _ _ h => h) (fun _ => hS) ?_
          simp only [Act.put, sZc, sZa, sZb]
          refine wpAnyB_skip (i := 31) (some 65) (Op.move (Operand.tmp 13)) 3 (some (19, false)) ⟨_, rfl, rfl, rfl, rfl, rfl⟩ rfl (by kernel_rfl) (by kernel_rfl) (by kernel_rfl) (by kernel_rfl) (fun _ _ _ h => h) (fun _ => hS) ?_
          simp only [Act.put, sZc, sZa, sZb]
          refine wpAnyB_skip (i := 32) (some 66) (Op.fieldAddr 27 (Operand.tmp 8) 3) 0 (some (19, false)) ⟨_, rfl, rfl, rfl, rfl, rfl⟩ rfl (by kernel_rfl) (by kernel_rfl) (by kernel_rfl) (by kernel_rfl) (fun _ _ _ h => h) (fun _ => hS) ?_
          simp only [Act.put, sZc, sZa, sZb]
          refine wpAnyB_skip (i := 33) (some 67) (Op.indexAddr 25 (Operand.tmp 66) (Operand.tmp 65)) 0 (some (19, false)) ⟨_, rfl, rfl, rfl, rfl, rfl⟩ rfl (by kernel_rfl) (by kernel_rfl) (by kernel_rfl) (by kernel_rfl) (fun _ _ _ h => h) (fun _ => hS) ?_
          simp only [Act.put, sZc, sZa, sZb]
          refine wpAnyB_skip (i := 34) (some 68) (Op.load 24 (Operand.tmp 67)) 24 (some (19, false)) ⟨_, rfl, rfl, rfl, rfl, rfl⟩ rfl (by kernel_rfl) (by kernel_rfl) (by kernel_rfl) (by kernel_rfl) (fun _ _ _ h => h) (fun _ => hS) ?_
          simp only [Act.put, sZc, sZa, sZb]
          refine wpAnyB_skip (i := 35) (some 69) (Op.call { callee := Callee.value (Operand.func 122), args := #[Operand.tmp 54, Operand.tmp 55, Operand.tmp 56, Operand.tmp 60, Operand.tmp 64, Operand.tmp 68], argTypes := #[49, 24, 24, 24, 24, 24] }) 4 (some (19, false)) ⟨_, rfl, rfl, rfl, rfl, rfl⟩ rfl (by kernel_rfl) (by kernel_rfl) (by kernel_rfl) (by kernel_rfl) (fun _ _ _ h => h) (fun _ => hS) ?_
          simp only [Act.put, sZc, sZa, sZb]
          refine wpAnyB_skip (i := 36) (some 70) (Op.unOp UnOp.not 4 (Operand.tmp 69)) 4 (some (19, false)) ⟨_, rfl, rfl, rfl, rfl, rfl⟩ rfl (by kernel_rfl) (by kernel_rfl) (by kernel_rfl) (by kernel_rfl) (fun _ _ _ h => h) (fun _ => hS) ?_
          simp only [Act.put, sZc, sZa, sZb]
          refine wpAnyB_only (i := 37) (some 71) (Op.pick (Operand.tmp 53) (Operand.const (Value.bool true)) (Operand.tmp 70)) 4 ⟨_, rfl, rfl, rfl, rfl, rfl⟩ (by kernel_rfl) (fun K hK => ?_)
          unfold bareOp
          go_wp2_with fail
          refine hK.out _ _ (fun h => absurd (h.symm.trans (by kernel_rfl : _ = true)) (by decide)) ?_
          clear hK K
          try simp only [Act.put, sZc, sZa, sZb]
          refine wpAnyB_done (by kernel_rfl) ?_ _
          go_wp2_with fail
          go_ret2
          exact ⟨ret_bi HZ.out rfl, HBW.out⟩
        case pos =>
          by_cases hF : powm y z1 P = s1 * powm t c1 P % P
          case neg =>
            have HE := Lib.hid hE
            have HF := Lib.hid hF
            have HZ := Lib.hid (show false = v by rw [Bool.eq_iff_iff, HV.out]; simp [hF])
            clear hE hF
            go_wp2_with fail
            replace F_g := Lib.hid F_g.out.drew
            replace F_s := Lib.hid F_s.out.drew
            replace F_p := Lib.hid F_p.out.drew
            replace HBW := Lib.hid HBW.out.drew
            have hS := And.intro F_g.out.s (And.intro F_s.out.s F_p.out.s)
            refine wp_region_stage 37 (fun w' => SBox w' w.heap.size P Q G ∧ SPair w' (w.heap.size + 1) a b ∧ S8 w' (w.heap.size + 1 + 1) r0 r1 s0 s1 c0 c1 z0 z1) (by kernel_rfl) ?_
            refine wpAnyB_take (i := 0) (some 34) (Op.load 49 (Operand.tmp 5)) 49 (v := ?_) ⟨_, rfl, rfl, rfl, rfl, rfl⟩ (by kernel_rfl) (by kernel_rfl) (by kernel_rfl) [17, 18, 19, 20, 21, 22, 23, 24, 25, 26, 27, 28, 29, 30, 31, 32, 33, 34, 35, 36, 37] (by kernel_rfl) (fun _ _ _ h => h) hS (fun w' hSw => ?_) ?_
            rotate_left
            · obtain ⟨⟨s0_, s1_, s2_⟩, ⟨s3_, s4_⟩, ⟨s5_, s6_, s7_, s8_, s9_, sa_, sb_, sc_⟩⟩ := hSw
              unfold bareOp
              go_simp
              try with_reducible rfl
            simp only [Act.put, sZc, sZa, sZb]
            refine wpAnyB_takeP (i := 1) (some 35) (Op.fieldAddr 49 (Operand.tmp 5) 2) 0 (v := ?_) ⟨_, rfl, rfl, rfl, rfl, rfl⟩ (by kernel_rfl) (by kernel_rfl) (by kernel_rfl) (by kernel_rfl) (fun _ _ _ h => h) (fun _ => hS) (fun w' => ?_) ?_
            rotate_left
            · unfold bareOp
              go_simp
              try with_reducible rfl
            simp only [Act.put, sZc, sZa, sZb]
            refine wpAnyB_take (i := 2) (some 36) (Op.load 24 (Operand.tmp 35)) 24 (v := ?_) ⟨_, rfl, rfl, rfl, rfl, rfl⟩ (by kernel_rfl) (by kernel_rfl) (by kernel_rfl) [17, 18, 19, 20, 21, 22, 23, 24, 25, 26, 27, 28, 29, 30, 31, 32, 33, 34, 35, 36, 37] (by kernel_rfl) (fun _ _ _ h => h) hS (fun w' hSw => ?_) ?_
            rotate_left
            · obtain ⟨⟨s0_, s1_, s2_⟩, ⟨s3_, s4_⟩, ⟨s5_, s6_, s7_, s8_, s9_, sa_, sb_, sc_⟩⟩ := hSw
              unfold bareOp
              go_simp
              try with_reducible rfl
            simp only [Act.put, sZc, sZa, sZb]
            refine wpAnyB_takeP (i := 3) (some 37) (Op.fieldAddr 78 (Operand.tmp 7) 0) 0 (v := ?_) ⟨_, rfl, rfl, rfl, rfl, rfl⟩ (by kernel_rfl) (by kernel_rfl) (by kernel_rfl) (by kernel_rfl) (fun _ _ _ h => h) (fun _ => hS) (fun w' => ?_) ?_
            rotate_left
            · unfold bareOp
              go_simp
              try with_reducible rfl
            simp only [Act.put, sZc, sZa, sZb]
            refine wpAnyB_take (i := 4) (some 38) (Op.load 24 (Operand.tmp 37)) 24 (v := ?_) ⟨_, rfl, rfl, rfl, rfl, rfl⟩ (by kernel_rfl) (by kernel_rfl) (by kernel_rfl) [17, 18, 19, 20, 21, 22, 23, 24, 25, 26, 27, 28, 29, 30, 31, 32, 33, 34, 35, 36, 37] (by kernel_rfl) (fun _ _ _ h => h) hS (fun w' hSw => ?_) ?_
            rotate_left
            · obtain ⟨⟨s0_, s1_, s2_⟩, ⟨s3_, s4_⟩, ⟨s5_, s6_, s7_, s8_, s9_, sa_, sb_, sc_⟩⟩ := hSw
              unfold bareOp
              go_simp
              try with_reducible rfl
            simp only [Act.put, sZc, sZa, sZb]
            refine wpAnyB_takeP (i := 5) (some 39) (Op.move (Operand.tmp 13)) 3 (v := ?_) ⟨_, rfl, rfl, rfl, rfl, rfl⟩ (by kernel_rfl) (by kernel_rfl) (by kernel_rfl) (by kernel_rfl) (fun _ _ _ h => h) (fun _ => hS) (fun w' => ?_) ?_
            rotate_left
            · unfold bareOp
              go_simp
              try with_reducible rfl
            simp only [Act.put, sZc, sZa, sZb]
            refine wpAnyB_takeP (i := 6) (some 40) (Op.fieldAddr 27 (Operand.tmp 8) 0) 0 (v := ?_) ⟨_, rfl, rfl, rfl, rfl, rfl⟩ (by kernel_rfl) (by kernel_rfl) (by kernel_rfl) (by kernel_rfl) (fun _ _ _ h => h) (fun _ => hS) (fun w' => ?_) ?_
            rotate_left
            · unfold bareOp
              go_simp
              try with_reducible rfl
            simp only [Act.put, sZc, sZa, sZb]
            refine wpAnyB_takeP (i := 7) (some 41) (Op.indexAddr 25 (Operand.tmp 40) (Operand.tmp 39)) 0 (v := ?_) ⟨_, rfl, rfl, rfl, rfl, rfl⟩ (by kernel_rfl) (by kernel_rfl) (by kernel_rfl) (by kernel_rfl) (fun _ _ _ h => h) (fun _ => hS) (fun w' => ?_) ?_
            rotate_left
            · unfold bareOp
              go_simp
              try with_reducible rfl
            simp only [Act.put, sZc, sZa, sZb]
            refine wpAnyB_take (i := 8) (some 42) (Op.load 24 (Operand.tmp 41)) 24 (v := ?_) ⟨_, rfl, rfl, rfl, rfl, rfl⟩ (by kernel_rfl) (by kernel_rfl) (by kernel_rfl) [17, 18, 19, 20, 21, 22, 23, 24, 25, 26, 27, 28, 29, 30, 31, 32, 33, 34, 35, 36, 37] (by kernel_rfl) (fun _ _ _ h => h) hS (fun w' hSw => ?_) ?_
            rotate_left
            · obtain ⟨⟨s0_, s1_, s2_⟩, ⟨s3_, s4_⟩, ⟨s5_, s6_, s7_, s8_, s9_, sa_, sb_, sc_⟩⟩ := hSw
              unfold bareOp
              go_simp
              try with_reducible rfl
            simp only [Act.put, sZc, sZa, sZb]
            refine wpAnyB_takeP (i := 9) (some 43) (Op.move (Operand.tmp 13)) 3 (v := ?_) ⟨_, rfl, rfl, rfl, rfl, rfl⟩ (by kernel_rfl) (by kernel_rfl) (by kernel_rfl) (by kernel_rfl) (fun _ _ _ h => h) (fun _ => hS) (fun w' => ?_) ?_
            rotate_left
            · unfold bareOp
              go_simp
              try with_reducible rfl
            simp only [Act.put, sZc, sZa, sZb]
            refine wpAnyB_takeP (i := 10) (some 44) (Op.fieldAddr 27 (Operand.tmp 8) 2) 0 (v := ?_) ⟨_, rfl, rfl, rfl, rfl, rfl⟩ (by kernel_rfl) (by kernel_rfl) (by kernel_rfl) (by kernel_rfl) (fun _ _ _ h => h) (fun _ => hS) (fun w' => ?_) ?_
            rotate_left
            · unfold bareOp
              go_simp
              try with_reducible rfl
            simp only [Act.put, sZc, sZa, sZb]
            refine wpAnyB_takeP (i := 11) (some 45) (Op.indexAddr 25 (Operand.tmp 44) (Operand.tmp 43)) 0 (v := ?_) ⟨_, rfl, rfl, rfl, rfl, rfl⟩ (by kernel_rfl) (by kernel_rfl) (by kernel_rfl) (by kernel_rfl) (fun _ _ _ h => h) (fun _ => hS) (fun w' => ?_) ?_
            rotate_left
            · unfold bareOp
              go_simp
              try with_reducible rfl
            simp only [Act.put, sZc, sZa, sZb]
            refine wpAnyB_take (i := 12) (some 46) (Op.load 24 (Operand.tmp 45)) 24 (v := ?_) ⟨_, rfl, rfl, rfl, rfl, rfl⟩ (by kernel_rfl) (by kernel_rfl) (by kernel_rfl) [17, 18, 19, 20, 21, 22, 23, 24, 25, 26, 27, 28, 29, 30, 31, 32, 33, 34, 35, 36, 37] (by kernel_rfl) (fun _ _ _ h => h) hS (fun w' hSw => ?_) ?_
            rotate_left
            · obtain ⟨⟨s0_, s1_, s2_⟩, ⟨s3_, s4_⟩, ⟨s5_, s6_, s7_, s8_, s9_, sa_, sb_, sc_⟩⟩ := hSw
              unfold bareOp
              go_simp
              try with_reducible rfl
            simp only [Act.put, sZc, sZa, sZb]
            refine wpAnyB_takeP (i := 13) (some 47) (Op.move (Operand.tmp 13)) 3 (v := ?_) ⟨_, rfl, rfl, rfl, rfl, rfl⟩ (by kernel_rfl) (by kernel_rfl) (by kernel_rfl) (by kernel_rfl) (fun _ _ _ h => h) (fun _ => hS) (fun w' => ?_) ?_
            rotate_left
            · unfold bareOp
              go_simp
              try with_reducible rfl
            simp only [Act.put, sZc, sZa, sZb]
            refine wpAnyB_takeP (i := 14) (some 48) (Op.fieldAddr 27 (Operand.tmp 8) 3) 0 (v := ?_) ⟨_, rfl, rfl, rfl, rfl, rfl⟩ (by kernel_rfl) (by kernel_rfl) (by kernel_rfl) (by kernel_rfl) (fun _ _ _ h => h) (fun _ => hS) (fun w' => ?_) ?_
            rotate_left
            · unfold bareOp
              go_simp
              try with_reducible rfl
            simp only [Act.put, sZc, sZa, sZb]
            refine wpAnyB_takeP (i := 15) (some 49) (Op.indexAddr 25 (Operand.tmp 48) (Operand.tmp 47)) 0 (v := ?_) ⟨_, rfl, rfl, rfl, rfl, rfl⟩ (by kernel_rfl) (by kernel_rfl) (by kernel_rfl) (by kernel_rfl) (fun _ _ _ h => h) (fun _ => hS) (fun w' => ?_) ?_
            rotate_left
            · unfold bareOp
              go_simp
              try with_reducible rfl
            simp only [Act.put, sZc, sZa, sZb]
            refine wpAnyB_take (i := 16) (some 50) (Op.load 24 (Operand.tmp 49)) 24 (v := ?_) ⟨_, rfl, rfl, rfl, rfl, rfl⟩ (by kernel_rfl) (by kernel_rfl) (by kernel_rfl) [17, 18, 19, 20, 21, 22, 23, 24, 25, 26, 27, 28, 29, 30, 31, 32, 33, 34, 35, 36, 37] (by kernel_rfl) (fun _ _ _ h => h) hS (fun w' hSw => ?_) ?_
            rotate_left
            · obtain ⟨⟨s0_, s1_, s2_⟩, ⟨s3_, s4_⟩, ⟨s5_, s6_, s7_, s8_, s9_, sa_, sb_, sc_⟩⟩ := hSw
              unfold bareOp
              go_simp
              try with_reducible rfl
            simp only [Act.put, sZc, sZa, sZb]
            refine wpAnyB_only (i := 17) (some 51) (Op.call { callee := Callee.value (Operand.func 122), args := #[Operand.tmp 34, Operand.tmp 36, Operand.tmp 38, Operand.tmp 42, Operand.tmp 46, Operand.tmp 50], argTypes := #[49, 24, 24, 24, 24, 24] }) 4 ⟨_, rfl, rfl, rfl, rfl, rfl⟩ (by kernel_rfl) (fun K hK => ?_)
            unfold bareOp
            go_wp2_with (go_at_call 122; refine (peqn_any (v := true) _ HH.out hG gP a0 aP r1_0 r1_P Uc1.out Uz1.out ⟨fun _ => HE.out, fun _ => rfl⟩).mono ?_; rintro e w11 ⟨rfl, hb11⟩)
            replace F_g := Lib.hid (F_g.out.keep hb11)
            replace F_s := Lib.hid (F_s.out.keep hb11)
            replace F_p := Lib.hid (F_p.out.keep hb11)
            replace HBW := Lib.hid (HBW.out.trans (hb11.mono HBW.out.size))
            replace hS := And.intro F_g.out.s (And.intro F_s.out.s F_p.out.s)
            clear hb11
            refine hK.out _ _ (fun _ => hS) ?_
            clear hK K
            try simp only [Act.put, sZc, sZa, sZb]
            refine wpAnyB_takeP (i := 18) (some 52) (Op.unOp UnOp.not 4 (Operand.tmp 51)) 4 (v := ?_) ⟨_, rfl, rfl, rfl, rfl, rfl⟩ (by kernel_rfl) (by kernel_rfl) (by kernel_rfl) (by kernel_rfl) (fun _ _ _ h => h) (fun _ => hS) (fun w' => ?_) ?_
            rotate_left
            · unfold bareOp
              go_simp
              try with_reducible rfl
            simp only [Act.put, sZc, sZa, sZb]
            refine wpAnyB_takeP (i := 19) (some 53) (Op.move (Operand.tmp 52)) 4 (v := ?_) ⟨_, rfl, rfl, rfl, rfl, rfl⟩ (by kernel_rfl) (by kernel_rfl) (by kernel_rfl) (by kernel_rfl) (fun _ _ _ h => h) (fun _ => hS) (fun w' => ?_) ?_
            rotate_left
            · unfold bareOp
              go_simp
              try with_reducible rfl
            simp only [Act.put, sZc, sZa, sZb]
            refine wpAnyB_takeG (i := 20) (some 54) (Op.load 49 (Operand.tmp 5)) 49 (some (19, false)) (v := ?_) ⟨_, rfl, rfl, rfl, rfl, rfl⟩ rfl (by kernel_rfl) (by kernel_rfl) (by kernel_rfl) [35, 36, 37] (by kernel_rfl) (fun _ _ _ h => h) hS (fun w' hSw => ?_) ?_
            rotate_left
            · obtain ⟨⟨s0_, s1_, s2_⟩, ⟨s3_, s4_⟩, ⟨s5_, s6_, s7_, s8_, s9_, sa_, sb_, sc_⟩⟩ := hSw
              unfold bareOp
              go_simp
              try with_reducible rfl
            simp only [Act.put, sZc, sZa, sZb]
            refine wpAnyB_takePG (i := 21) (some 55) (Op.move (Operand.tmp 1)) 24 (some (19, false)) (v := ?_) ⟨_, rfl, rfl, rfl, rfl, rfl⟩ rfl (by kernel_rfl) (by kernel_rfl) (by kernel_rfl) (by kernel_rfl) (fun _ _ _ h => h) (fun _ => hS) (fun w' => ?_) ?_
            rotate_left
            · unfold bareOp
              go_simp
              try with_reducible rfl
            simp only [Act.put, sZc, sZa, sZb]
            refine wpAnyB_takePG (i := 22) (some 56) (Op.move (Operand.tmp 14)) 24 (some (19, false)) (v := ?_) ⟨_, rfl, rfl, rfl, rfl, rfl⟩ rfl (by kernel_rfl) (by kernel_rfl) (by kernel_rfl) (by kernel_rfl) (fun _ _ _ h => h) (fun _ => hS) (fun w' => ?_) ?_
            rotate_left
            · unfold bareOp
              go_simp
              try with_reducible rfl
            simp only [Act.put, sZc, sZa, sZb]
            refine wpAnyB_takePG (i := 23) (some 57) (Op.move (Operand.tmp 13)) 3 (some (19, false)) (v := ?_) ⟨_, rfl, rfl, rfl, rfl, rfl⟩ rfl (by kernel_rfl) (by kernel_rfl) (by kernel_rfl) (by kernel_rfl) (fun _ _ _ h => h) (fun _ => hS) (fun w' => ?_) ?_
            rotate_left
            · unfold bareOp
              go_simp
              try with_reducible rfl
            simp only [Act.put, sZc, sZa, sZb]
            refine wpAnyB_takePG (i := 24) (some 58) (Op.fieldAddr 27 (Operand.tmp 8) 1) 0 (some (19, false)) (v := ?_) ⟨_, rfl, rfl, rfl, rfl, rfl⟩ rfl (by kernel_rfl) (by kernel_rfl) (by kernel_rfl) (by kernel_rfl) (fun _ _ _ h => h) (fun _ => hS) (fun w' => ?_) ?_
            rotate_left
            · unfold bareOp
              go_simp
              try with_reducible rfl
            simp only [Act.put, sZc, sZa, sZb]
            refine wpAnyB_takePG (i := 25) (some 59) (Op.indexAddr 25 (Operand.tmp 58) (Operand.tmp 57)) 0 (some (19, false)) (v := ?_) ⟨_, rfl, rfl, rfl, rfl, rfl⟩ rfl (by kernel_rfl) (by kernel_rfl) (by kernel_rfl) (by kernel_rfl) (fun _ _ _ h => h) (fun _ => hS) (fun w' => ?_) ?_
            rotate_left
            · unfold bareOp
              go_simp
              try with_reducible rfl
            simp only [Act.put, sZc, sZa, sZb]
            refine wpAnyB_takeG (i := 26) (some 60) (Op.load 24 (Operand.tmp 59)) 24 (some (19, false)) (v := ?_) ⟨_, rfl, rfl, rfl, rfl, rfl⟩ rfl (by kernel_rfl) (by kernel_rfl) (by kernel_rfl) [35, 36, 37] (by kernel_rfl) (fun _ _ _ h => h) hS (fun w' hSw => ?_) ?_
            rotate_left
            · obtain ⟨⟨s0_, s1_, s2_⟩, ⟨s3_, s4_⟩, ⟨s5_, s6_, s7_, s8_, s9_, sa_, sb_, sc_⟩⟩ := hSw
              unfold bareOp
              go_simp
              try with_reducible rfl
            simp only [Act.put, sZc, sZa, sZb]
            refine wpAnyB_takePG (i := 27) (some 61) (Op.move (Operand.tmp 13)) 3 (some (19, false)) (v := ?_) ⟨_, rfl, rfl, rfl, rfl, rfl⟩ rfl (by kernel_rfl) (by kernel_rfl) (by kernel_rfl) (by kernel_rfl) (fun _ _ _ h => h) (fun _ => hS) (fun w' => ?_) ?_
            rotate_left
            · unfold bareOp
              go_simp
              try with_reducible rfl
            simp only [Act.put, sZc, sZa, sZb]
            refine wpAnyB_takePG (i := 28) (some 62) (Op.fieldAddr 27 (Operand.tmp 8) 2) 0 (some (19, false)) (v := ?_) ⟨_, rfl, rfl, rfl, rfl, rfl⟩ rfl (by kernel_rfl) (by kernel_rfl) (by kernel_rfl) (by kernel_rfl) (fun _ _ _ h => h) (fun _ => hS) (fun w' => ?_) ?_
            rotate_left
            · unfold bareOp
              go_simp
              try with_reducible rfl
            simp only [Act.put, sZc, sZa, sZb]
            refine wpAnyB_takePG (i := 29) (some 63) (Op.indexAddr 25 (Operand.tmp 62) (Operand.tmp 61)) 0 (some (19, false)) (v := ?_) ⟨_, rfl, rfl, rfl, rfl, rfl⟩ rfl (by kernel_rfl) (by kernel_rfl) (by kernel_rfl) (by kernel_rfl) (fun _ _ _ h => h) (fun _ => hS) (fun w' => ?_) ?_
            rotate_left
            · unfold bareOp
              go_simp
              try with_reducible rfl
            simp only [Act.put, sZc, sZa, sZb]
            refine wpAnyB_takeG (i := 30) (some 64) (Op.load 24 (Operand.tmp 63)) 24 (some (19, false)) (v := ?_) ⟨_, rfl, rfl, rfl, rfl, rfl⟩ rfl (by kernel_rfl) (by kernel_rfl) (by kernel_rfl) [35, 36, 37] (by kernel_rfl) (fun _ _ _ h => h) hS (fun w' hSw => ?_) ?_
            rotate_left
            · obtain ⟨⟨s0_, s1_, s2_⟩, ⟨s3_, s4_⟩, ⟨s5_, s6_, s7_, s8_, s9_, sa_, sb_, sc_⟩⟩ := hSw
              unfold bareOp
              go_simp
              try with_reducible rfl
            simp only [Act.put, sZc, sZa, sZb]
            refine wpAnyB_takePG (i := 31) (some 65) (Op.move (Operand.tmp 13)) 3 (some (19, false)) (v := ?_) ⟨_, rfl, rfl, rfl, rfl, rfl⟩ rfl (by kernel_rfl) (by kernel_rfl) (by kernel_rfl) (by kernel_rfl) (fun _ _ _ h => h) (fun _ => hS) (fun w' => ?_) ?_
            rotate_left
            · unfold bareOp
              go_simp
              try with_reducible rfl
            simp only [Act.put, sZc, sZa, sZb]
            refine wpAnyB_takePG (i := 32) (some 66) (Op.fieldAddr 27 (Operand.tmp 8) 3) 0 (some (19, false)) (v := ?_) ⟨_, rfl, rfl, rfl, rfl, rfl⟩ rfl (by kernel_rfl) (by kernel_rfl) (by kernel_rfl) (by kernel_rfl) (fun _ _ _ h => h) (fun _ => hS) (fun w' => ?_) ?_
            rotate_left
            · unfold bareOp
              go_simp
              try with_reducible rfl
            simp only [Act.put, sZc, sZa, sZb]
            refine wpAnyB_takePG (i := 33) (some 67) (Op.indexAddr 25 (Operand.tmp 66) (Operand.tmp 65)) 0 (some (19, false)) (v := ?_) ⟨_, rfl, rfl, rfl, rfl, rfl⟩ rfl (by kernel_rfl) (by kernel_rfl) (by kernel_rfl) (by kernel_rfl) (fun _ _ _ h => h) (fun _ => hS) (fun w' => ?_) ?_
            rotate_left
            · unfold bareOp
              go_simp
              try with_reducible rfl
            simp only [Act.put, sZc, sZa, sZb]
            refine wpAnyB_takeG (i := 34) (some 68) (Op.load 24 (Operand.tmp 67)) 24 (some (19, false)) (v := ?_) ⟨_, rfl, rfl, rfl, rfl, rfl⟩ rfl (by kernel_rfl) (by kernel_rfl) (by kernel_rfl) [35, 36, 37] (by kernel_rfl) (fun _ _ _ h => h) hS (fun w' hSw => ?_) ?_
            rotate_left
            · obtain ⟨⟨s0_, s1_, s2_⟩, ⟨s3_, s4_⟩, ⟨s5_, s6_, s7_, s8_, s9_, sa_, sb_, sc_⟩⟩ := hSw
              unfold bareOp
              go_simp
              try with_reducible rfl
            simp only [Act.put, sZc, sZa, sZb]
            refine wpAnyB_onlyG (i := 35) (some 69) (Op.call { callee := Callee.value (Operand.func 122), args := #[Operand.tmp 54, Operand.tmp 55, Operand.tmp 56, Operand.tmp 60, Operand.tmp 64, Operand.tmp 68], argTypes := #[49, 24, 24, 24, 24, 24] }) 4 (some (19, false)) ⟨_, rfl, rfl, rfl, rfl, rfl⟩ (by kernel_rfl) rfl (fun K hK => ?_)
            unfold bareOp
            go_wp2_with (go_at_call 122; refine (peqn_any (v := false) _ HH.out y0 yP t_0 t_P s1_0 s1_P Uc1.out Uz1.out ⟨fun h => (by cases h), fun h => absurd h HF.out⟩).mono ?_; rintro e w12 ⟨rfl, hb12⟩)
            replace F_g := Lib.hid (F_g.out.keep hb12)
            replace F_s := Lib.hid (F_s.out.keep hb12)
            replace F_p := Lib.hid (F_p.out.keep hb12)
            replace HBW := Lib.hid (HBW.out.trans (hb12.mono HBW.out.size))
            replace hS := And.intro F_g.out.s (And.intro F_s.out.s F_p.out.s)
            clear hb12
            refine hK.out _ _ (fun _ => hS) ?_
            clear hK K
            try simp only [Act.put, sZc, sZa, sZb]
            refine wpAnyB_takePG (i := 36) (some 70) (Op.unOp UnOp.not 4 (Operand.tmp 69)) 4 (some (19, false)) (v := ?_) ⟨_, rfl, rfl, rfl, rfl, rfl⟩ rfl (by kernel_rfl) (by kernel_rfl) (by kernel_rfl) (by kernel_rfl) (fun _ _ _ h => h) (fun _ => hS) (fun w' => ?_) ?_
            rotate_left
            · unfold bareOp
              go_simp
              try with_reducible rfl
            simp only [Act.put, sZc, sZa, sZb]
            refine wpAnyB_only (i := 37) (some 71) (Op.pick (Operand.tmp 53) (Operand.const (Value.bool true)) (Operand.tmp 70)) 4 ⟨_, rfl, rfl, rfl, rfl, rfl⟩ (by kernel_rfl) (fun K hK => ?_)
            unfold bareOp
            go_wp2_with fail
            refine hK.out _ _ (fun h => absurd (h.symm.trans (by kernel_rfl : _ = true)) (by decide)) ?_
            clear hK K
            try simp only [Act.put, sZc, sZa, sZb]
            refine wpAnyB_done (by kernel_rfl) ?_ _
            go_wp2_with fail
            go_ret2
            exact ⟨ret_bi HZ.out rfl, HBW.out⟩
          case pos =>
            have HE := Lib.hid hE
            have HF := Lib.hid hF
            clear hE hF
            go_wp2_with fail
            replace F_g := Lib.hid F_g.out.drew
            replace F_s := Lib.hid F_s.out.drew
            replace F_p := Lib.hid F_p.out.drew
            replace HBW := Lib.hid HBW.out.drew
            have hS := And.intro F_g.out.s (And.intro F_s.out.s F_p.out.s)
            refine wp_region_stage 37 (fun w' => SBox w' w.heap.size P Q G ∧ SPair w' (w.heap.size + 1) a b ∧ S8 w' (w.heap.size + 1 + 1) r0 r1 s0 s1 c0 c1 z0 z1) (by kernel_rfl) ?_
            refine wpAnyB_take (i := 0) (some 34) (Op.load 49 (Operand.tmp 5)) 49 (v := ?_) ⟨_, rfl, rfl, rfl, rfl, rfl⟩ (by kernel_rfl) (by kernel_rfl) (by kernel_rfl) [17, 18, 19, 20, 21, 22, 23, 24, 25, 26, 27, 28, 29, 30, 31, 32, 33, 34, 35, 36, 37] (by kernel_rfl) (fun _ _ _ h => h) hS (fun w' hSw => ?_) ?_
            rotate_left
            · obtain ⟨⟨s0_, s1_, s2_⟩, ⟨s3_, s4_⟩, ⟨s5_, s6_, s7_, s8_, s9_, sa_, sb_, sc_⟩⟩ := hSw
              unfold bareOp
              go_simp
              try with_reducible rfl
            simp only [Act.put, sZc, sZa, sZb]
            refine wpAnyB_takeP (i := 1) (some 35) (Op.fieldAddr 49 (Operand.tmp 5) 2) 0 (v := ?_) ⟨_, rfl, rfl, rfl, rfl, rfl⟩ (by kernel_rfl) (by kernel_rfl) (by kernel_rfl) (by kernel_rfl) (fun _ _ _ h => h) (fun _ => hS) (fun w' => ?_) ?_
            rotate_left
            · unfold bareOp
              go_simp
              try with_reducible rfl
            simp only [Act.put, sZc, sZa, sZb]
            refine wpAnyB_take (i := 2) (some 36) (Op.load 24 (Operand.tmp 35)) 24 (v := ?_) ⟨_, rfl, rfl, rfl, rfl, rfl⟩ (by kernel_rfl) (by kernel_rfl) (by kernel_rfl) [17, 18, 19, 20, 21, 22, 23, 24, 25, 26, 27, 28, 29, 30, 31, 32, 33, 34, 35, 36, 37] (by kernel_rfl) (fun _ _ _ h => h) hS (fun w' hSw => ?_) ?_
            rotate_left
            · obtain ⟨⟨s0_, s1_, s2_⟩, ⟨s3_, s4_⟩, ⟨s5_, s6_, s7_, s8_, s9_, sa_, sb_, sc_⟩⟩ := hSw
              unfold bareOp
              go_simp
              try with_reducible rfl
            simp only [Act.put, sZc, sZa, sZb]
            refine wpAnyB_takeP (i := 3) (some 37) (Op.fieldAddr 78 (Operand.tmp 7) 0) 0 (v := ?_) ⟨_, rfl, rfl, rfl, rfl, rfl⟩ (by kernel_rfl) (by kernel_rfl) (by kernel_rfl) (by kernel_rfl) (fun _ _ _ h => h) (fun _ => hS) (fun w' => ?_) ?_
            rotate_left
            · unfold bareOp
              go_simp
              try with_reducible rfl
            simp only [Act.put, sZc, sZa, sZb]
            refine wpAnyB_take (i := 4) (some 38) (Op.load 24 (Operand.tmp 37)) 24 (v := ?_) ⟨_, rfl, rfl, rfl, rfl, rfl⟩ (by kernel_rfl) (by kernel_rfl) (by kernel_rfl) [17, 18, 19, 20, 21, 22, 23, 24, 25, 26, 27, 28, 29, 30, 31, 32, 33, 34, 35, 36, 37] (by kernel_rfl) (fun _ _ _ h => h) hS (fun w' hSw => ?_) ?_
            rotate_left
            · obtain ⟨⟨s0_, s1_, s2_⟩, ⟨s3_, s4_⟩, ⟨s5_, s6_, s7_, s8_, s9_, sa_, sb_, sc_⟩⟩ := hSw
              unfold bareOp
              go_simp
              try with_reducible rfl
            simp only [Act.put, sZc, sZa, sZb]
            refine wpAnyB_takeP (i := 5) (some 39) (Op.move (Operand.tmp 13)) 3 (v := ?_) ⟨_, rfl, rfl, rfl, rfl, rfl⟩ (by kernel_rfl) (by kernel_rfl) (by kernel_rfl) (by kernel_rfl) (fun _ _ _ h => h) (fun _ => hS) (fun w' => ?_) ?_
            rotate_left
            · unfold bareOp
              go_simp
              try with_reducible rfl
            simp only [Act.put, sZc, sZa, sZb]
            refine wpAnyB_takeP (i := 6) (some 40) (Op.fieldAddr 27 (Operand.tmp 8) 0) 0 (v := ?_) ⟨_, rfl, rfl, rfl, rfl, rfl⟩ (by kernel_rfl) (by kernel_rfl) (by kernel_rfl) (by kernel_rfl) (fun _ _ _ h => h) (fun _ => hS) (fun w' => ?_) ?_
            rotate_left
            · unfold bareOp
              go_simp
              try with_reducible rfl
            simp only [Act.put, sZc, sZa, sZb]
            refine wpAnyB_takeP (i := 7) (some 41) (Op.indexAddr 25 (Operand.tmp 40) (Operand.tmp 39)) 0 (v := ?_) ⟨_, rfl, rfl, rfl, rfl, rfl⟩ (by kernel_rfl) (by kernel_rfl) (by kernel_rfl) (by kernel_rfl) (fun _ _ _ h => h) (fun _ => hS) (fun w' => ?_) ?_
            rotate_left
            · unfold bareOp
              go_simp
              try with_reducible rfl
            simp only [Act.put, sZc, sZa, sZb]
            refine wpAnyB_take (i := 8) (some 42) (Op.load 24 (Operand.tmp 41)) 24 (v := ?_) ⟨_, rfl, rfl, rfl, rfl, rfl⟩ (by kernel_rfl) (by kernel_rfl) (by kernel_rfl) [17, 18, 19, 20, 21, 22, 23, 24, 25, 26, 27, 28, 29, 30, 31, 32, 33, 34, 35, 36, 37] (by kernel_rfl) (fun _ _ _ h => h) hS (fun w' hSw => ?_) ?_
            rotate_left
            · obtain ⟨⟨s0_, s1_, s2_⟩, ⟨s3_, s4_⟩, ⟨s5_, s6_, s7_, s8_, s9_, sa_, sb_, sc_⟩⟩ := hSw
              unfold bareOp
              go_simp
              try with_reducible rfl
            simp only [Act.put, sZc, sZa, sZb]
            refine wpAnyB_takeP (i := 9) (some 43) (Op.move (Operand.tmp 13)) 3 (v := ?_) ⟨_, rfl, rfl, rfl, rfl, rfl⟩ (by kernel_rfl) (by kernel_rfl) (by kernel_rfl) (by kernel_rfl) (fun _ _ _ h => h) (fun _ => hS) (fun w' => ?_) ?_
            rotate_left
            · unfold bareOp
              go_simp
              try with_reducible rfl
            simp only [Act.put, sZc, sZa, sZb]
            refine wpAnyB_takeP (i := 10) (some 44) (Op.fieldAddr 27 (Operand.tmp 8) 2) 0 (v := ?_) ⟨_, rfl, rfl, rfl, rfl, rfl⟩ (by kernel_rfl) (by kernel_rfl) (by kernel_rfl) (by kernel_rfl) (fun _ _ _ h => h) (fun _ => hS) (fun w' => ?_) ?_
            rotate_left
            · unfold bareOp
              go_simp
              try with_reducible rfl
            simp only [Act.put, sZc, sZa, sZb]
            refine wpAnyB_takeP (i := 11) (some 45) (Op.indexAddr 25 (Operand.tmp 44) (Operand.tmp 43)) 0 (v := ?_) ⟨_, rfl, rfl, rfl, rfl, rfl⟩ (by kernel_rfl) (by kernel_rfl) (by kernel_rfl) (by kernel_rfl) (fun _ _ _ h => h) (fun _ => hS) (fun w' => ?_) ?_
            rotate_left
            · unfold bareOp
              go_simp
              try with_reducible rfl
            simp only [Act.put, sZc, sZa, sZb]
            refine wpAnyB_take (i := 12) (some 46) (Op.load 24 (Operand.tmp 45)) 24 (v := ?_) ⟨_, rfl, rfl, rfl, rfl, rfl⟩ (by kernel_rfl) (by kernel_rfl) (by kernel_rfl) [17, 18, 19, 20, 21, 22, 23, 24, 25, 26, 27, 28, 29, 30, 31, 32, 33, 34, 35, 36, 37] (by kernel_rfl) (fun _ _ _ h => h) hS (fun w' hSw => ?_) ?_
            rotate_left
            · obtain ⟨⟨s0_, s1_, s2_⟩, ⟨s3_, s4_⟩, ⟨s5_, s6_, s7_, s8_, s9_, sa_, sb_, sc_⟩⟩ := hSw
              unfold bareOp
              go_simp
              try with_reducible rfl
            simp only [Act.put, sZc, sZa, sZb]
            refine wpAnyB_takeP (i := 13) (some 47) (Op.move (Operand.tmp 13)) 3 (v := ?_) ⟨_, rfl, rfl, rfl, rfl, rfl⟩ (by kernel_rfl) (by kernel_rfl) (by kernel_rfl) (by kernel_rfl) (fun _ _ _ h => h) (fun _ => hS) (fun w' => ?_) ?_
            rotate_left
            · unfold bareOp
              go_simp
              try with_reducible rfl
            simp only [Act.put, sZc, sZa, sZb]
            refine wpAnyB_takeP (i := 14) (some 48) (Op.fieldAddr 27 (Operand.tmp 8) 3) 0 (v := ?_) ⟨_, rfl, rfl, rfl, rfl, rfl⟩ (by kernel_rfl) (by kernel_rfl) (by kernel_rfl) (by kernel_rfl) (fun _ _ _ h => h) (fun _ => hS) (fun w' => ?_) ?_
            rotate_left
            · unfold bareOp
              go_simp
              try with_reducible rfl
            simp only [Act.put, sZc, sZa, sZb]
            refine wpAnyB_takeP (i := 15) (some 49) (Op.indexAddr 25 (Operand.tmp 48) (Operand.tmp 47)) 0 (v := ?_) ⟨_, rfl, rfl, rfl, rfl, rfl⟩ (by kernel_rfl) (by kernel_rfl) (by kernel_rfl) (by kernel_rfl) (fun _ _ _ h => h) (fun _ => hS) (fun w' => ?_) ?_
            rotate_left
            · unfold bareOp
              go_simp
              try with_reducible rfl
            simp only [Act.put, sZc, sZa, sZb]
            refine wpAnyB_take (i := 16) (some 50) (Op.load 24 (Operand.tmp 49)) 24 (v := ?_) ⟨_, rfl, rfl, rfl, rfl, rfl⟩ (by kernel_rfl) (by kernel_rfl) (by kernel_rfl) [17, 18, 19, 20, 21, 22, 23, 24, 25, 26, 27, 28, 29, 30, 31, 32, 33, 34, 35, 36, 37] (by kernel_rfl) (fun _ _ _ h => h) hS (fun w' hSw => ?_) ?_
            rotate_left
            · obtain ⟨⟨s0_, s1_, s2_⟩, ⟨s3_, s4_⟩, ⟨s5_, s6_, s7_, s8_, s9_, sa_, sb_, sc_⟩⟩ := hSw
              unfold bareOp
              go_simp
              try with_reducible rfl
            simp only [Act.put, sZc, sZa, sZb]
            refine wpAnyB_only (i := 17) (some 51) (Op.call { callee := Callee.value (Operand.func 122), args := #[Operand.tmp 34, Operand.tmp 36, Operand.tmp 38, Operand.tmp 42, Operand.tmp 46, Operand.tmp 50], argTypes := #[49, 24, 24, 24, 24, 24] }) 4 ⟨_, rfl, rfl, rfl, rfl, rfl⟩ (by kernel_rfl) (fun K hK => ?_)
            unfold bareOp
            go_wp2_with (go_at_call 122; refine (peqn_any (v := true) _ HH.out hG gP a0 aP r1_0 r1_P Uc1.out Uz1.out ⟨fun _ => HE.out, fun _ => rfl⟩).mono ?_; rintro e w11 ⟨rfl, hb11⟩)
            replace F_g := Lib.hid (F_g.out.keep hb11)
            replace F_s := Lib.hid (F_s.out.keep hb11)
            replace F_p := Lib.hid (F_p.out.keep hb11)
            replace HBW := Lib.hid (HBW.out.trans (hb11.mono HBW.out.size))
            replace hS := And.intro F_g.out.s (And.intro F_s.out.s F_p.out.s)
            clear hb11
            refine hK.out _ _ (fun _ => hS) ?_
            clear hK K
            try simp only [Act.put, sZc, sZa, sZb]
            refine wpAnyB_takeP (i := 18) (some 52) (Op.unOp UnOp.not 4 (Operand.tmp 51)) 4 (v := ?_) ⟨_, rfl, rfl, rfl, rfl, rfl⟩ (by kernel_rfl) (by kernel_rfl) (by kernel_rfl) (by kernel_rfl) (fun _ _ _ h => h) (fun _ => hS) (fun w' => ?_) ?_
            rotate_left
            · unfold bareOp
              go_simp
              try with_reducible rfl
            simp only [Act.put, sZc, sZa, sZb]
            refine wpAnyB_takeP (i := 19) (some 53) (Op.move (Operand.tmp 52)) 4 (v := ?_) ⟨_, rfl, rfl, rfl, rfl, rfl⟩ (by kernel_rfl) (by kernel_rfl) (by kernel_rfl) (by kernel_rfl) (fun _ _ _ h => h) (fun _ => hS) (fun w' => ?_) ?_
            rotate_left
            · unfold bareOp
              go_simp
              try with_reducible rfl
            simp only [Act.put, sZc, sZa, sZb]
            refine wpAnyB_takeG (i := 20) (some 54) (Op.load 49 (Operand.tmp 5)) 49 (some (19, false)) (v := ?_) ⟨_, rfl, rfl, rfl, rfl, rfl⟩ rfl (by kernel_rfl) (by kernel_rfl) (by kernel_rfl) [35, 36, 37] (by kernel_rfl) (fun _ _ _ h => h) hS (fun w' hSw => ?_) ?_
            rotate_left
            · obtain ⟨⟨s0_, s1_, s2_⟩, ⟨s3_, s4_⟩, ⟨s5_, s6_, s7_, s8_, s9_, sa_, sb_, sc_⟩⟩ := hSw
              unfold bareOp
              go_simp
              try with_reducible rfl
            simp only [Act.put, sZc, sZa, sZb]
            refine wpAnyB_takePG (i := 21) (some 55) (Op.move (Operand.tmp 1)) 24 (some (19, false)) (v := ?_) ⟨_, rfl, rfl, rfl, rfl, rfl⟩ rfl (by kernel_rfl) (by kernel_rfl) (by kernel_rfl) (by kernel_rfl) (fun _ _ _ h => h) (fun _ => hS) (fun w' => ?_) ?_
            rotate_left
            · unfold bareOp
              go_simp
              try with_reducible rfl
            simp only [Act.put, sZc, sZa, sZb]
            refine wpAnyB_takePG (i := 22) (some 56) (Op.move (Operand.tmp 14)) 24 (some (19, false)) (v := ?_) ⟨_, rfl, rfl, rfl, rfl, rfl⟩ rfl (by kernel_rfl) (by kernel_rfl) (by kernel_rfl) (by kernel_rfl) (fun _ _ _ h => h) (fun _ => hS) (fun w' => ?_) ?_
            rotate_left
            · unfold bareOp
              go_simp
              try with_reducible rfl
            simp only [Act.put, sZc, sZa, sZb]
            refine wpAnyB_takePG (i := 23) (some 57) (Op.move (Operand.tmp 13)) 3 (some (19, false)) (v := ?_) ⟨_, rfl, rfl, rfl, rfl, rfl⟩ rfl (by kernel_rfl) (by kernel_rfl) (by kernel_rfl) (by kernel_rfl) (fun _ _ _ h => h) (fun _ => hS) (fun w' => ?_) ?_
            rotate_left
            · unfold bareOp
              go_simp
              try with_reducible rfl
            simp only [Act.put, sZc, sZa, sZb]
            refine wpAnyB_takePG (i := 24) (some 58) (Op.fieldAddr 27 (Operand.tmp 8) 1) 0 (some (19, false)) (v := ?_) ⟨_, rfl, rfl, rfl, rfl, rfl⟩ rfl (by kernel_rfl) (by kernel_rfl) (by kernel_rfl) (by kernel_rfl) (fun _ _ _ h => h) (fun _ => hS) (fun w' => ?_) ?_
            rotate_left
            · unfold bareOp
              go_simp
              try with_reducible rfl
            simp only [Act.put, sZc, sZa, sZb]
            refine wpAnyB_takePG (i := 25) (some 59) (Op.indexAddr 25 (Operand.tmp 58) (Operand.tmp 57)) 0 (some (19, false)) (v := ?_) ⟨_, rfl, rfl, rfl, rfl, rfl⟩ rfl (by kernel_rfl) (by kernel_rfl) (by kernel_rfl) (by kernel_rfl) (fun _ _ _ h => h) (fun _ => hS) (fun w' => ?_) ?_
            rotate_left
            · unfold bareOp
              go_simp
              try with_reducible rfl
            simp only [Act.put, sZc, sZa, sZb]
            refine wpAnyB_takeG (i := 26) (some 60) (Op.load 24 (Operand.tmp 59)) 24 (some (19, false)) (v := ?_) ⟨_, rfl, rfl, rfl, rfl, rfl⟩ rfl (by kernel_rfl) (by kernel_rfl) (by kernel_rfl) [35, 36, 37] (by kernel_rfl) (fun _ _ _ h => h) hS (fun w' hSw => ?_) ?_
            rotate_left
            · obtain ⟨⟨s0_, s1_, s2_⟩, ⟨s3_, s4_⟩, ⟨s5_, s6_, s7_, s8_, s9_, sa_, sb_, sc_⟩⟩ := hSw
              unfold bareOp
              go_simp
              try with_reducible rfl
            simp only [Act.put, sZc, sZa, sZb]
            refine wpAnyB_takePG (i := 27) (some 61) (Op.move (Operand.tmp 13)) 3 (some (19, false)) (v := ?_) ⟨_, rfl, rfl, rfl, rfl, rfl⟩ rfl (by kernel_rfl) (by kernel_rfl) (by kernel_rfl) (by kernel_rfl) (fun _ _ _ h => h) (fun _ => hS) (fun w' => ?_) ?_
            rotate_left
            · unfold bareOp
              go_simp
              try with_reducible rfl
            simp only [Act.put, sZc, sZa, sZb]
            refine wpAnyB_takePG (i := 28) (some 62) (Op.fieldAddr 27 (Operand.tmp 8) 2) 0 (some (19, false)) (v := ?_) ⟨_, rfl, rfl, rfl, rfl, rfl⟩ rfl (by kernel_rfl) (by kernel_rfl) (by kernel_rfl) (by kernel_rfl) (fun _ _ _ h => h) (fun _ => hS) (fun w' => ?_) ?_
            rotate_left
            · unfold bareOp
              go_simp
              try with_reducible rfl
            simp only [Act.put, sZc, sZa, sZb]
            refine wpAnyB_takePG (i := 29) (some 63) (Op.indexAddr 25 (Operand.tmp 62) (Operand.tmp 61)) 0 (some (19, false)) (v := ?_) ⟨_, rfl, rfl, rfl, rfl, rfl⟩ rfl (by kernel_rfl) (by kernel_rfl) (by kernel_rfl) (by kernel_rfl) (fun _ _ _ h => h) (fun _ => hS) (fun w' => ?_) ?_
            rotate_left
            · unfold bareOp
              go_simp
              try with_reducible rfl
            simp only [Act.put, sZc, sZa, sZb]
            refine wpAnyB_takeG (i := 30) (some 64) (Op.load 24 (Operand.tmp 63)) 24 (some (19, false)) (v := ?_) ⟨_, rfl, rfl, rfl, rfl, rfl⟩ rfl (by kernel_rfl) (by kernel_rfl) (by kernel_rfl) [35, 36, 37] (by kernel_rfl) (fun _ _ _ h => h) hS (fun w' hSw => ?_) ?_
            rotate_left
            · obtain ⟨⟨s0_, s1_, s2_⟩, ⟨s3_, s4_⟩, ⟨s5_, s6_, s7_, s8_, s9_, sa_, sb_, sc_⟩⟩ := hSw
              unfold bareOp
              go_simp
              try with_reducible rfl
            simp only [Act.put, sZc, sZa, sZb]
            refine wpAnyB_takePG (i := 31) (some 65) (Op.move (Operand.tmp 13)) 3 (some (19, false)) (v := ?_) ⟨_, rfl, rfl, rfl, rfl, rfl⟩ rfl (by kernel_rfl) (by kernel_rfl) (by kernel_rfl) (by kernel_rfl) (fun _ _ _ h => h) (fun _ => hS) (fun w' => ?_) ?_
            rotate_left
            · unfold bareOp
              go_simp
              try with_reducible rfl
            simp only [Act.put, sZc, sZa, sZb]
            refine wpAnyB_takePG (i := 32) (some 66) (Op.fieldAddr 27 (Operand.tmp 8) 3) 0 (some (19, false)) (v := ?_) ⟨_, rfl, rfl, rfl, rfl, rfl⟩ rfl (by kernel_rfl) (by kernel_rfl) (by kernel_rfl) (by kernel_rfl) (fun _ _ _ h => h) (fun _ => hS) (fun w' => ?_) ?_
            rotate_left
            · unfold bareOp
              go_simp
              try with_reducible rfl
            simp only [Act.put, sZc, sZa, sZb]
            refine wpAnyB_takePG (i := 33) (some 67) (Op.indexAddr 25 (Operand.tmp 66) (Operand.tmp 65)) 0 (some (19, false)) (v := ?_) ⟨_, rfl, rfl, rfl, rfl, rfl⟩ rfl (by kernel_rfl) (by kernel_rfl) (by kernel_rfl) (by kernel_rfl) (fun _ _ _ h => h) (fun _ => hS) (fun w' => ?_) ?_
            rotate_left
            · unfold bareOp
              go_simp
              try with_reducible rfl
            simp only [Act.put, sZc, sZa, sZb]
            refine wpAnyB_takeG (i := 34) (some 68) (Op.load 24 (Operand.tmp 67)) 24 (some (19, false)) (v := ?_) ⟨_, rfl, rfl, rfl, rfl, rfl⟩ rfl (by kernel_rfl) (by kernel_rfl) (by kernel_rfl) [35, 36, 37] (by kernel_rfl) (fun _ _ _ h => h) hS (fun w' hSw => ?_) ?_
            rotate_left
            · obtain ⟨⟨s0_, s1_, s2_⟩, ⟨s3_, s4_⟩, ⟨s5_, s6_, s7_, s8_, s9_, sa_, sb_, sc_⟩⟩ := hSw
              unfold bareOp
              go_simp
              try with_reducible rfl
            simp only [Act.put, sZc, sZa, sZb]
            refine wpAnyB_onlyG (i := 35) (some 69) (Op.call { callee := Callee.value (Operand.func 122), args := #[Operand.tmp 54, Operand.tmp 55, Operand.tmp 56, Operand.tmp 60, Operand.tmp 64, Operand.tmp 68], argTypes := #[49, 24, 24, 24, 24, 24] }) 4 (some (19, false)) ⟨_, rfl, rfl, rfl, rfl, rfl⟩ (by kernel_rfl) rfl (fun K hK => ?_)
            unfold bareOp
            go_wp2_with (go_at_call 122; refine (peqn_any (v := true) _ HH.out y0 yP t_0 t_P s1_0 s1_P Uc1.out Uz1.out ⟨fun _ => HF.out, fun _ => rfl⟩).mono ?_; rintro e w12 ⟨rfl, hb12⟩)
            replace F_g := Lib.hid (F_g.out.keep hb12)
            replace F_s := Lib.hid (F_s.out.keep hb12)
            replace F_p := Lib.hid (F_p.out.keep hb12)
            replace HBW := Lib.hid (HBW.out.trans (hb12.mono HBW.out.size))
            replace hS := And.intro F_g.out.s (And.intro F_s.out.s F_p.out.s)
            clear hb12
            refine hK.out _ _ (fun _ => hS) ?_
            clear hK K
            try simp only [Act.put, sZc, sZa, sZb]
            refine wpAnyB_takePG (i := 36) (some 70) (Op.unOp UnOp.not 4 (Operand.tmp 69)) 4 (some (19, false)) (v := ?_) ⟨_, rfl, rfl, rfl, rfl, rfl⟩ rfl (by kernel_rfl) (by kernel_rfl) (by kernel_rfl) (by kernel_rfl) (fun _ _ _ h => h) (fun _ => hS) (fun w' => ?_) ?_
            rotate_left
            · unfold bareOp
              go_simp
              try with_reducible rfl
            simp only [Act.put, sZc, sZa, sZb]
            refine wpAnyB_only (i := 37) (some 71) (Op.pick (Operand.tmp 53) (Operand.const (Value.bool true)) (Operand.tmp 70)) 4 ⟨_, rfl, rfl, rfl, rfl, rfl⟩ (by kernel_rfl) (fun K hK => ?_)
            unfold bareOp
            go_wp2_with fail
            refine hK.out _ _ (fun h => absurd (h.symm.trans (by kernel_rfl : _ = true)) (by decide)) ?_
            clear hK K
            try simp only [Act.put, sZc, sZa, sZb]
            refine wpAnyB_done (by kernel_rfl) ?_ _
            go_wp2_with fail
            go_roundw
            case rel => exact ⟨2, by omega, by go_num, ⟨F_g.out, F_s.out, F_p.out, HBW.out, fun _ => HX0.out, fun _ => ⟨HE.out, HF.out⟩⟩⟩
            case measure => simp [intOf]
      case inr.inr =>
        have HX0 := Lib.hid (HK.out.x0 (by omega))
        have HX1 := Lib.hid (HK.out.x1 (by omega))
        clear HK
        obtain ⟨x0, x1, x2, -⟩ := id F_g.out
        obtain ⟨x3, x4, x5, x6, x7, x8, x9, xa, -⟩ := id F_p.out
        go_wp2_with fail
        clear x0 x1 x2 x3 x4 x5 x6 x7 x8 x9 xa
        refine (addExp_ok P Q G c0 c1 m _ HH.out c0_0 c0_Q c1_0 c1_Q HM.out).mono ?_
        rintro e w9 ⟨rfl, hb9⟩
        replace HBW := Lib.hid (HBW.out.trans (hb9.mono HBW.out.size))
        clear hb9
        by_cases hmc : m = c
        case neg =>
          have hq : (m == c) = false := by simpa using hmc
          have HZ := Lib.hid (show false = v by rw [Bool.eq_iff_iff, HV.out, HM.out]; simp [hmc])
          clear hmc
          go_wp2_with fail
          go_ret2
          exact ⟨ret_bi HZ.out rfl, HBW.out⟩
        case pos =>
          have hq : (m == c) = true := by simpa using hmc
          have HZ := Lib.hid (show true = v by rw [eq_comm, HV.out, HM.out]; exact ⟨HX0.out, HX1.out, hmc⟩)
          clear hmc
          go_wp2_with fail
          go_ret2
          exact ⟨ret_bi HZ.out rfl, HBW.out⟩
  · have hnc : e' ≠ 0 := by rw [hcc]; exact h
    have hn1 : (e' != 0) = true := by simpa using hnc
    have HR := Lib.hid hcc.symm
    clear hcc h hnc hnn hpp htt
    have HOW := Lib.hid (show World.ownsRow ((((w.alloc (.cells #[.int .u64 P, .int .u64 Q, .int .u64 G] 49)).alloc (.cells #[.int .u64 a, .int .u64 b] 78)).alloc (.cells #[.int .u64 r0, .int .u64 r1, .int .u64 s0, .int .u64 s1, .int .u64 c0, .int .u64 c1, .int .u64 z0, .int .u64 z1] 27)).alloc (.cells #[.int .u64 c] 24)) (w.heap.size + 1 + 1 + 1) 24 1 (.slice (some ⟨w.heap.size + 1 + 1 + 1, 0, none⟩) 1 1) 1 [.int .u64 c] from by
      have h := World.ownsRow_lit (base := w.heap.size + 1 + 1 + 1) (e := 24) (size := 1) (((w.alloc (.cells #[.int .u64 P, .int .u64 Q, .int .u64 G] 49)).alloc (.cells #[.int .u64 a, .int .u64 b] 78)).alloc (.cells #[.int .u64 r0, .int .u64 r1, .int .u64 s0, .int .u64 s1, .int .u64 c0, .int .u64 c1, .int .u64 z0, .int .u64 z1] 27)) #[.int .u64 c] 1 (by simp) (by decide) rfl
      rw [show (((w.alloc (.cells #[.int .u64 P, .int .u64 Q, .int .u64 G] 49)).alloc (.cells #[.int .u64 a, .int .u64 b] 78)).alloc (.cells #[.int .u64 r0, .int .u64 r1, .int .u64 s0, .int .u64 s1, .int .u64 c0, .int .u64 c1, .int .u64 z0, .int .u64 z1] 27)).heap.size = w.heap.size + 1 + 1 + 1 by simp] at h
      exact h)
    have F_g := Lib.hid (show Boxed ((((w.alloc (.cells #[.int .u64 P, .int .u64 Q, .int .u64 G] 49)).alloc (.cells #[.int .u64 a, .int .u64 b] 78)).alloc (.cells #[.int .u64 r0, .int .u64 r1, .int .u64 s0, .int .u64 s1, .int .u64 c0, .int .u64 c1, .int .u64 z0, .int .u64 z1] 27)).alloc (.cells #[.int .u64 c] 24)) w.heap.size P Q G from (((Boxed.at _ P Q G _ w.heap.size rfl).alloc _).alloc _).alloc _)
    have F_s := Lib.hid (show Pair ((((w.alloc (.cells #[.int .u64 P, .int .u64 Q, .int .u64 G] 49)).alloc (.cells #[.int .u64 a, .int .u64 b] 78)).alloc (.cells #[.int .u64 r0, .int .u64 r1, .int .u64 s0, .int .u64 s1, .int .u64 c0, .int .u64 c1, .int .u64 z0, .int .u64 z1] 27)).alloc (.cells #[.int .u64 c] 24)) (w.heap.size + 1) a b from ((Pair.at _ a b _ (w.heap.size + 1) (by simp)).alloc _).alloc _)
    have F_p := Lib.hid (show Eight ((((w.alloc (.cells #[.int .u64 P, .int .u64 Q, .int .u64 G] 49)).alloc (.cells #[.int .u64 a, .int .u64 b] 78)).alloc (.cells #[.int .u64 r0, .int .u64 r1, .int .u64 s0, .int .u64 s1, .int .u64 c0, .int .u64 c1, .int .u64 z0, .int .u64 z1] 27)).alloc (.cells #[.int .u64 c] 24)) (w.heap.size + 1 + 1) r0 r1 s0 s1 c0 c1 z0 z1 from (Eight.at _ r0 r1 s0 s1 c0 c1 z0 z1 _ (w.heap.size + 1 + 1) (by simp)).alloc _)
    have HBW := Lib.hid (show Below w.heap.size w ((((w.alloc (.cells #[.int .u64 P, .int .u64 Q, .int .u64 G] 49)).alloc (.cells #[.int .u64 a, .int .u64 b] 78)).alloc (.cells #[.int .u64 r0, .int .u64 r1, .int .u64 s0, .int .u64 s1, .int .u64 c0, .int .u64 c1, .int .u64 z0, .int .u64 z1] 27)).alloc (.cells #[.int .u64 c] 24)) from ((((Below.refl _ _).alloc (by simp <;> omega) _).alloc (by simp <;> omega) _).alloc (by simp <;> omega) _).alloc (by simp <;> omega) _)
    go_enter Tryd.func115, Tryd.ntmps115
    go_wp2_with fail
    refine (bitCheck_any _ hP hQ hG (by simp) HOW.out HR.out).mono ?_
    rintro e w1 ⟨rfl, hb1⟩
    replace F_g := Lib.hid (boxed_below F_g.out hb1 (by omega))
    replace F_s := Lib.hid (pair_below F_s.out hb1 (by omega))
    replace F_p := Lib.hid (eight_below F_p.out hb1 (by omega))
    replace HBW := Lib.hid (HBW.out.trans (hb1.mono (by omega)))
    clear hb1 HOW
    obtain ⟨x0, x1, x2, -⟩ := id F_g.out
    obtain ⟨x3, x4, x5, x6, -⟩ := id F_s.out
    go_wp2_with fail
    clear x0 x1 x2 x3 x4 x5 x6
    go_ret2
    exact ⟨rfl, HBW.out⟩
end Go.Proofs.YtlbldpkgnonbpaaDoor
