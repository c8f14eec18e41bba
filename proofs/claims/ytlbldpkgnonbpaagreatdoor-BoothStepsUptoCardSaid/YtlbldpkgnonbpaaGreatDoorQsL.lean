/- proof.BitHolds. -/
import Derived.Test.YtlbldpkgnonbpaaGreatDoorQsK
import Derived.Laws.OwnMore
import Derived.LoopTactic
set_option linter.unusedSimpArgs false
set_option linter.unusedVariables false
set_option maxRecDepth 100000
namespace Go.Proofs.YtlbldpkgnonbpaaGreatDoor
open Go.RowKit Num
theorem boxed_below {w w' : World} {b B : Nat} {P Q G : Int} (h : Boxed w b P Q G) (hb : Below B w w') (hlt : b < B) : Boxed w' b P Q G :=
 ⟨(hb.cell (p := ⟨b, 0, none⟩) hlt).trans h.c0, (hb.cell (p := ⟨b, 1, none⟩) hlt).trans h.c1, (hb.cell (p := ⟨b, 2, none⟩) hlt).trans h.c2, Nat.lt_of_lt_of_le h.lt hb.size⟩
theorem pair_below {w w' : World} {b B : Nat} {x y : Int} (h : Pair w b x y) (hb : Below B w w') (hlt : b < B) : Pair w' b x y :=
 ⟨(hb.cell (p := ⟨b, 0, none⟩) hlt).trans h.c0, (hb.cell (p := ⟨b, 1, none⟩) hlt).trans h.c1, (hb.frozen (p := ⟨b, 0, none⟩) hlt).trans h.f0, (hb.frozen (p := ⟨b, 1, none⟩) hlt).trans h.f1, Nat.lt_of_lt_of_le h.lt hb.size⟩
theorem eight_below {w w' : World} {b B : Nat} {r0 r1 s0 s1 c0 c1 z0 z1 : Int} (h : Eight w b r0 r1 s0 s1 c0 c1 z0 z1) (hb : Below B w w') (hlt : b < B) : Eight w' b r0 r1 s0 s1 c0 c1 z0 z1 :=
 ⟨(hb.cell (p := ⟨b, 0, none⟩) hlt).trans h.k0, (hb.cell (p := ⟨b, 1, none⟩) hlt).trans h.k1, (hb.cell (p := ⟨b, 2, none⟩) hlt).trans h.k2, (hb.cell (p := ⟨b, 3, none⟩) hlt).trans h.k3, (hb.cell (p := ⟨b, 4, none⟩) hlt).trans h.k4, (hb.cell (p := ⟨b, 5, none⟩) hlt).trans h.k5, (hb.cell (p := ⟨b, 6, none⟩) hlt).trans h.k6, (hb.cell (p := ⟨b, 7, none⟩) hlt).trans h.k7, Nat.lt_of_lt_of_le h.lt hb.size⟩
structure BitIn (w wr : World) (P Q G a b r0 r1 s0 s1 c0 c1 z0 z1 : Int) (X0 X1 : Prop) (k : Nat) : Prop where
 box : Boxed wr w.heap.size P Q G
 pr : Pair wr (w.heap.size + 1) a b
 eight : Eight wr (w.heap.size + 1 + 1) r0 r1 s0 s1 c0 c1 z0 z1
 bel : Below w.heap.size w wr
 x0 : 1 ≤ k → X0
 x1 : 2 ≤ k → X1
set_option maxHeartbeats 8000000 in
theorem bitHolds_any {P Q G y a b c r0 r1 s0 s1 c0 c1 z0 z1 nn pp t e' : Int} {v : Bool} (w : World) (hP : 0 ≤ P) (hQ : 0 ≤ Q) (hG : 0 ≤ G) (y0 : 0 ≤ y) (a0 : 0 ≤ a) (b_0 : 0 ≤ b) (c_0 : 0 ≤ c) (r0_0 : 0 ≤ r0) (r1_0 : 0 ≤ r1) (s0_0 : 0 ≤ s0) (s1_0 : 0 ≤ s1) (c0_0 : 0 ≤ c0) (c1_0 : 0 ≤ c1) (z0_0 : 0 ≤ z0) (z1_0 : 0 ≤ z1)
 (hnn : (0 - 1) % Q = nn) (hpp : powm G nn P = pp) (htt : b * pp % P = t) (h : RetB (askS P Q G [c, c0, c1, z0, z1] [y, a, b, r0, r1, s0, s1]) ((powm G z0 P = r0 * powm a c0 P % P ∧ powm y z0 P = s0 * powm b c0 P % P) ∧ (powm G z1 P = r1 * powm a c1 P % P ∧ powm y z1 P = s1 * powm t c1 P % P) ∧ (c0 + c1) % Q = c) v e') :
 Calls Tryz.prog 133 #[.agg #[υ P, υ Q, υ G], υ y, .agg #[υ a, υ b], .agg #[υ r0, υ r1, υ s0, υ s1, υ c0, υ c1, υ z0, υ z1], υ c] w fun e w' => e = .returned (.tuple #[.bool v, .int .i64 e']) ∧ Below w.heap.size w w' := by
 rcases h with ⟨h, hv, rfl⟩ | ⟨h, rfl, hcc⟩
 · obtain ⟨hH, he, hn⟩ := askS_zero h
   have c_Q := he c (by simp)
   have c0_Q := he c0 (by simp)
   have c1_Q := he c1 (by simp)
   have z0_Q := he z0 (by simp)
   have z1_Q := he z1 (by simp)
   have y_P := hn y (by simp)
   have a_P := hn a (by simp)
   have b_P := hn b (by simp)
   have r0_P := hn r0 (by simp)
   have r1_P := hn r1 (by simp)
   have s0_P := hn s0 (by simp)
   have s1_P := hn s1 (by simp)
   obtain ⟨p5, p3, hQ', pq, g2, gP⟩ := id hH
   have q3 : Q < 1073741824 := by omega
   have aP := a_P
   have yP := y_P
   have t_0 : 0 ≤ t := by rw [← htt]; exact Int.emod_nonneg _ (by omega)
   have t_P : t < P := by rw [← htt]; exact Int.emod_lt_of_pos _ (by omega)
   obtain ⟨m, hm⟩ : ∃ m, (c0 + c1) % Q = m := ⟨_, rfl⟩
   have HM := Lh hm
   have HR := Lh h
   have HV := Lh hv
   have HH := Lh hH
   have HNN := Lh hnn
   have HPP := Lh hpp
   have HTT := Lh htt
   have Uc0 := Lh (U64.of_lt c0_0 (by omega))
   have Uc1 := Lh (U64.of_lt c1_0 (by omega))
   have Uz0 := Lh (U64.of_lt z0_0 (by omega))
   have Uz1 := Lh (U64.of_lt z1_0 (by omega))
   clear h hv he hn hH hnn hpp htt hm pq
   have HOW := Lh (show World.ownsRow ((((w.alloc (.cells #[υ P, υ Q, υ G] 24)).alloc (.cells #[υ a, υ b] 75)).alloc (.cells #[υ r0, υ r1, υ s0, υ s1, υ c0, υ c1, υ z0, υ z1] 31)).alloc (.cells #[υ c] 22)) (w.heap.size + 1 + 1 + 1) 22 1 (.slice (some ⟨w.heap.size + 1 + 1 + 1, 0, none⟩) 1 1) 1 [υ c] from by
    have h := World.ownsRow_lit (base := w.heap.size + 1 + 1 + 1) (e := 22) (size := 1) (((w.alloc (.cells #[υ P, υ Q, υ G] 24)).alloc (.cells #[υ a, υ b] 75)).alloc (.cells #[υ r0, υ r1, υ s0, υ s1, υ c0, υ c1, υ z0, υ z1] 31)) #[υ c] 1 (by simp) (by decide) rfl
    rw [show (((w.alloc (.cells #[υ P, υ Q, υ G] 24)).alloc (.cells #[υ a, υ b] 75)).alloc (.cells #[υ r0, υ r1, υ s0, υ s1, υ c0, υ c1, υ z0, υ z1] 31)).heap.size = w.heap.size + 1 + 1 + 1 by simp] at h
    exact h)
   have F_g := Lh (show Boxed ((((w.alloc (.cells #[υ P, υ Q, υ G] 24)).alloc (.cells #[υ a, υ b] 75)).alloc (.cells #[υ r0, υ r1, υ s0, υ s1, υ c0, υ c1, υ z0, υ z1] 31)).alloc (.cells #[υ c] 22)) w.heap.size P Q G from (((Boxed.at _ P Q G _ w.heap.size rfl).alloc _).alloc _).alloc _)
   have F_s := Lh (show Pair ((((w.alloc (.cells #[υ P, υ Q, υ G] 24)).alloc (.cells #[υ a, υ b] 75)).alloc (.cells #[υ r0, υ r1, υ s0, υ s1, υ c0, υ c1, υ z0, υ z1] 31)).alloc (.cells #[υ c] 22)) (w.heap.size + 1) a b from ((Pair.at _ a b _ (w.heap.size + 1) (by simp)).alloc _).alloc _)
   have F_p := Lh (show Eight ((((w.alloc (.cells #[υ P, υ Q, υ G] 24)).alloc (.cells #[υ a, υ b] 75)).alloc (.cells #[υ r0, υ r1, υ s0, υ s1, υ c0, υ c1, υ z0, υ z1] 31)).alloc (.cells #[υ c] 22)) (w.heap.size + 1 + 1) r0 r1 s0 s1 c0 c1 z0 z1 from (Eight.at _ r0 r1 s0 s1 c0 c1 z0 z1 _ (w.heap.size + 1 + 1) (by simp)).alloc _)
   have HBW := Lh (show Below w.heap.size w ((((w.alloc (.cells #[υ P, υ Q, υ G] 24)).alloc (.cells #[υ a, υ b] 75)).alloc (.cells #[υ r0, υ r1, υ s0, υ s1, υ c0, υ c1, υ z0, υ z1] 31)).alloc (.cells #[υ c] 22)) from ((((Below.refl _ _).alloc (by simp <;> omega) _).alloc (by simp <;> omega) _).alloc (by simp <;> omega) _).alloc (by simp <;> omega) _)
   go_enter Tryz.func133, Tryz.ntmps133
   go_wp2_with fail
   refine (bitCheck_any _ hP hQ hG (by simp) HOW.o HR.o).mono ?_
   rintro e w1 ⟨rfl, hb1⟩
   replace F_g := Lh (boxed_below F_g.o hb1 (by omega))
   replace F_s := Lh (pair_below F_s.o hb1 (by omega))
   replace F_p := Lh (eight_below F_p.o hb1 (by omega))
   replace HBW := Lh (HBW.o.trans (hb1.mono (by omega)))
   clear hb1 HOW
   obtain ⟨x0, x1, x2, -⟩ := id F_g.o
   obtain ⟨x3, x4, x5, x6, -⟩ := id F_s.o
   go_wp2_with fail
   clear x0 x1 x2 x3 x4 x5 x6
   refine (targets_any _ HH.o b_0 b_P HNN.o HPP.o HTT.o).mono ?_
   rintro e w2 ⟨rfl, hb2⟩
   replace F_g := Lh (F_g.o.keep hb2)
   replace F_s := Lh (F_s.o.keep hb2)
   replace F_p := Lh (F_p.o.keep hb2)
   replace HBW := Kt HBW hb2
   clear hb2
   go_wp2_with fail
   go_loopw [13, 14, 30] (fun c13 c14 c30 wr => ∃ k : Nat, k ≤ 2 ∧ c30 = .int .i64 k ∧ Hid (BitIn w wr P Q G a b r0 r1 s0 s1 c0 c1 z0 z1 (powm G z0 P = r0 * powm a c0 P % P ∧ powm y z0 P = s0 * powm b c0 P % P) (powm G z1 P = r1 * powm a c1 P % P ∧ powm y z1 P = s1 * powm t c1 P % P) k)) (fun _ _ c30 _ => 2 - (intOf c30).toNat)
   case atStart => exact ⟨0, by omega, rfl, ⟨F_g.o, F_s.o, F_p.o, HBW.o, fun h => absurd h (by omega), fun h => absurd h (by omega)⟩⟩
   case round =>
    clear F_g F_s F_p HBW
    obtain ⟨k, hk, rfl, HK⟩ := hrel
    have F_g := Lh HK.o.box
    have F_s := Lh HK.o.pr
    have F_p := Lh HK.o.eight
    have HBW := Lh HK.o.bel
    obtain rfl | rfl | rfl : k = 0 ∨ k = 1 ∨ k = 2 := by omega
    case inl =>
     clear HK
     rw [show ((0 : Nat) : Int) = 0 from rfl]
     have hix : ∀ w' : World, (Instr.index 29 (.agg #[υ b, υ t]) (.int .i64 0)).run Tryz.prog w' = .ok (υ b) w' := fun w' => rfl
     by_cases hE : powm G z0 P = r0 * powm a c0 P % P
     case neg =>
      have HE := Lh hE
      have HZ := Lh (show false = v by rw [Bool.eq_iff_iff, HV.o]; simp [hE])
      clear hE
      go_wp2_with fail
      replace F_g := Lh F_g.o.drew
      replace F_s := Lh F_s.o.drew
      replace F_p := Lh F_p.o.drew
      replace HBW := Lh HBW.o.drew
      have hS := And.intro F_g.o.s (And.intro F_s.o.s F_p.o.s)
      refine wp_region_stage 37 (fun w' => SBox w' w.heap.size P Q G ∧ SPair w' (w.heap.size + 1) a b ∧ S8 w' (w.heap.size + 1 + 1) r0 r1 s0 s1 c0 c1 z0 z1) (by kernel_rfl) ?_
      refine tk8 0 (some 34) (.load 24 (.tmp 5)) 24 [17, 18, 19, 20, 21, 22, 23, 24, 25, 26, 27, 28, 29, 30, 31, 32, 33, 34, 35, 36, 37] ?_
      simp only [sY]
      refine tkQ 1 (some 35) (.fieldAddr 24 (.tmp 5) 2) 0 ?_
      simp only [sY]
      refine tk8 2 (some 36) (.load 22 (.tmp 35)) 22 [17, 18, 19, 20, 21, 22, 23, 24, 25, 26, 27, 28, 29, 30, 31, 32, 33, 34, 35, 36, 37] ?_
      simp only [sY]
      refine tkQ 3 (some 37) (.fieldAddr 75 (.tmp 7) 0) 0 ?_
      simp only [sY]
      refine tk8 4 (some 38) (.load 22 (.tmp 37)) 22 [17, 18, 19, 20, 21, 22, 23, 24, 25, 26, 27, 28, 29, 30, 31, 32, 33, 34, 35, 36, 37] ?_
      simp only [sY]
      refine tkQ 5 (some 39) (.move (.tmp 13)) 3 ?_
      simp only [sY]
      refine tkQ 6 (some 40) (.fieldAddr 31 (.tmp 8) 0) 0 ?_
      simp only [sY]
      refine tkQ 7 (some 41) (.indexAddr 29 (.tmp 40) (.tmp 39)) 0 ?_
      simp only [sY]
      refine tk8 8 (some 42) (.load 22 (.tmp 41)) 22 [17, 18, 19, 20, 21, 22, 23, 24, 25, 26, 27, 28, 29, 30, 31, 32, 33, 34, 35, 36, 37] ?_
      simp only [sY]
      refine tkQ 9 (some 43) (.move (.tmp 13)) 3 ?_
      simp only [sY]
      refine tkQ 10 (some 44) (.fieldAddr 31 (.tmp 8) 2) 0 ?_
      simp only [sY]
      refine tkQ 11 (some 45) (.indexAddr 29 (.tmp 44) (.tmp 43)) 0 ?_
      simp only [sY]
      refine tk8 12 (some 46) (.load 22 (.tmp 45)) 22 [17, 18, 19, 20, 21, 22, 23, 24, 25, 26, 27, 28, 29, 30, 31, 32, 33, 34, 35, 36, 37] ?_
      simp only [sY]
      refine tkQ 13 (some 47) (.move (.tmp 13)) 3 ?_
      simp only [sY]
      refine tkQ 14 (some 48) (.fieldAddr 31 (.tmp 8) 3) 0 ?_
      simp only [sY]
      refine tkQ 15 (some 49) (.indexAddr 29 (.tmp 48) (.tmp 47)) 0 ?_
      simp only [sY]
      refine tk8 16 (some 50) (.load 22 (.tmp 49)) 22 [17, 18, 19, 20, 21, 22, 23, 24, 25, 26, 27, 28, 29, 30, 31, 32, 33, 34, 35, 36, 37] ?_
      simp only [sY]
      refine onl (i := 17) (some 51) (.call { callee := .value (.func 150), args := #[.tmp 34, .tmp 36, .tmp 38, .tmp 42, .tmp 46, .tmp 50], argTypes := #[24, 22, 22, 22, 22, 22] }) 4 (fun K hK => ?_)
      unfold bareOp
      go_wp2_with (go_at_call 150; refine (peqn_any (v := false) _ HH.o hG gP a0 aP r0_0 r0_P Uc0.o Uz0.o ⟨fun h => (by cases h), fun h => absurd h HE.o⟩).mono ?_; rintro e w11 ⟨rfl, hb11⟩)
      replace F_g := Lh (F_g.o.keep hb11)
      replace F_s := Lh (F_s.o.keep hb11)
      replace F_p := Lh (F_p.o.keep hb11)
      replace HBW := Kt HBW hb11
      replace hS := And.intro F_g.o.s (And.intro F_s.o.s F_p.o.s)
      clear hb11
      refine hK.o _ _ (fun _ => hS) ?_
      clear hK K
      try simp only [sY]
      refine tkQ 18 (some 52) (.unOp .not 4 (.tmp 51)) 4 ?_
      simp only [sY]
      refine tkQ 19 (some 53) (.move (.tmp 52)) 4 ?_
      simp only [sY]
      refine skG (i := 20) (some 54) (.load 24 (.tmp 5)) 24 (some (19, false)) (fun _ => hS) ?_
      simp only [sY]
      refine skG (i := 21) (some 55) (.move (.tmp 1)) 22 (some (19, false)) (fun _ => hS) ?_
      simp only [sY]
      refine skG (i := 22) (some 56) (.move (.tmp 14)) 22 (some (19, false)) (fun _ => hS) ?_
      simp only [sY]
      refine skG (i := 23) (some 57) (.move (.tmp 13)) 3 (some (19, false)) (fun _ => hS) ?_
      simp only [sY]
      refine skG (i := 24) (some 58) (.fieldAddr 31 (.tmp 8) 1) 0 (some (19, false)) (fun _ => hS) ?_
      simp only [sY]
      refine skG (i := 25) (some 59) (.indexAddr 29 (.tmp 58) (.tmp 57)) 0 (some (19, false)) (fun _ => hS) ?_
      simp only [sY]
      refine skG (i := 26) (some 60) (.load 22 (.tmp 59)) 22 (some (19, false)) (fun _ => hS) ?_
      simp only [sY]
      refine skG (i := 27) (some 61) (.move (.tmp 13)) 3 (some (19, false)) (fun _ => hS) ?_
      simp only [sY]
      refine skG (i := 28) (some 62) (.fieldAddr 31 (.tmp 8) 2) 0 (some (19, false)) (fun _ => hS) ?_
      simp only [sY]
      refine skG (i := 29) (some 63) (.indexAddr 29 (.tmp 62) (.tmp 61)) 0 (some (19, false)) (fun _ => hS) ?_
      simp only [sY]
      refine skG (i := 30) (some 64) (.load 22 (.tmp 63)) 22 (some (19, false)) (fun _ => hS) ?_
      simp only [sY]
      refine skG (i := 31) (some 65) (.move (.tmp 13)) 3 (some (19, false)) (fun _ => hS) ?_
      simp only [sY]
      refine skG (i := 32) (some 66) (.fieldAddr 31 (.tmp 8) 3) 0 (some (19, false)) (fun _ => hS) ?_
      simp only [sY]
      refine skG (i := 33) (some 67) (.indexAddr 29 (.tmp 66) (.tmp 65)) 0 (some (19, false)) (fun _ => hS) ?_
      simp only [sY]
      refine skG (i := 34) (some 68) (.load 22 (.tmp 67)) 22 (some (19, false)) (fun _ => hS) ?_
      simp only [sY]
      refine skG (i := 35) (some 69) (.call { callee := .value (.func 150), args := #[.tmp 54, .tmp 55, .tmp 56, .tmp 60, .tmp 64, .tmp 68], argTypes := #[24, 22, 22, 22, 22, 22] }) 4 (some (19, false)) (fun _ => hS) ?_
      simp only [sY]
      refine skG (i := 36) (some 70) (.unOp .not 4 (.tmp 69)) 4 (some (19, false)) (fun _ => hS) ?_
      simp only [sY]
      refine onl (i := 37) (some 71) (.pick (.tmp 53) (.const (.bool true)) (.tmp 70)) 4 (fun K hK => ?_)
      unfold bareOp
      go_wp2_with fail
      refine hK.o _ _ lt8 ?_
      clear hK K
      try simp only [sY]
      refine wpAnyB_done (by kernel_rfl) ?_ _
      go_wp2_with fail
      go_ret2
      exact ⟨ret_bi HZ.o rfl, HBW.o⟩
     case pos =>
      by_cases hF : powm y z0 P = s0 * powm b c0 P % P
      case neg =>
       have HE := Lh hE
       have HF := Lh hF
       have HZ := Lh (show false = v by rw [Bool.eq_iff_iff, HV.o]; simp [hF])
       clear hE hF
       go_wp2_with fail
       replace F_g := Lh F_g.o.drew
       replace F_s := Lh F_s.o.drew
       replace F_p := Lh F_p.o.drew
       replace HBW := Lh HBW.o.drew
       have hS := And.intro F_g.o.s (And.intro F_s.o.s F_p.o.s)
       refine wp_region_stage 37 (fun w' => SBox w' w.heap.size P Q G ∧ SPair w' (w.heap.size + 1) a b ∧ S8 w' (w.heap.size + 1 + 1) r0 r1 s0 s1 c0 c1 z0 z1) (by kernel_rfl) ?_
       refine tk8 0 (some 34) (.load 24 (.tmp 5)) 24 [17, 18, 19, 20, 21, 22, 23, 24, 25, 26, 27, 28, 29, 30, 31, 32, 33, 34, 35, 36, 37] ?_
       simp only [sY]
       refine tkQ 1 (some 35) (.fieldAddr 24 (.tmp 5) 2) 0 ?_
       simp only [sY]
       refine tk8 2 (some 36) (.load 22 (.tmp 35)) 22 [17, 18, 19, 20, 21, 22, 23, 24, 25, 26, 27, 28, 29, 30, 31, 32, 33, 34, 35, 36, 37] ?_
       simp only [sY]
       refine tkQ 3 (some 37) (.fieldAddr 75 (.tmp 7) 0) 0 ?_
       simp only [sY]
       refine tk8 4 (some 38) (.load 22 (.tmp 37)) 22 [17, 18, 19, 20, 21, 22, 23, 24, 25, 26, 27, 28, 29, 30, 31, 32, 33, 34, 35, 36, 37] ?_
       simp only [sY]
       refine tkQ 5 (some 39) (.move (.tmp 13)) 3 ?_
       simp only [sY]
       refine tkQ 6 (some 40) (.fieldAddr 31 (.tmp 8) 0) 0 ?_
       simp only [sY]
       refine tkQ 7 (some 41) (.indexAddr 29 (.tmp 40) (.tmp 39)) 0 ?_
       simp only [sY]
       refine tk8 8 (some 42) (.load 22 (.tmp 41)) 22 [17, 18, 19, 20, 21, 22, 23, 24, 25, 26, 27, 28, 29, 30, 31, 32, 33, 34, 35, 36, 37] ?_
       simp only [sY]
       refine tkQ 9 (some 43) (.move (.tmp 13)) 3 ?_
       simp only [sY]
       refine tkQ 10 (some 44) (.fieldAddr 31 (.tmp 8) 2) 0 ?_
       simp only [sY]
       refine tkQ 11 (some 45) (.indexAddr 29 (.tmp 44) (.tmp 43)) 0 ?_
       simp only [sY]
       refine tk8 12 (some 46) (.load 22 (.tmp 45)) 22 [17, 18, 19, 20, 21, 22, 23, 24, 25, 26, 27, 28, 29, 30, 31, 32, 33, 34, 35, 36, 37] ?_
       simp only [sY]
       refine tkQ 13 (some 47) (.move (.tmp 13)) 3 ?_
       simp only [sY]
       refine tkQ 14 (some 48) (.fieldAddr 31 (.tmp 8) 3) 0 ?_
       simp only [sY]
       refine tkQ 15 (some 49) (.indexAddr 29 (.tmp 48) (.tmp 47)) 0 ?_
       simp only [sY]
       refine tk8 16 (some 50) (.load 22 (.tmp 49)) 22 [17, 18, 19, 20, 21, 22, 23, 24, 25, 26, 27, 28, 29, 30, 31, 32, 33, 34, 35, 36, 37] ?_
       simp only [sY]
       refine onl (i := 17) (some 51) (.call { callee := .value (.func 150), args := #[.tmp 34, .tmp 36, .tmp 38, .tmp 42, .tmp 46, .tmp 50], argTypes := #[24, 22, 22, 22, 22, 22] }) 4 (fun K hK => ?_)
       unfold bareOp
       go_wp2_with (go_at_call 150; refine (peqn_any (v := true) _ HH.o hG gP a0 aP r0_0 r0_P Uc0.o Uz0.o ⟨fun _ => HE.o, fun _ => rfl⟩).mono ?_; rintro e w11 ⟨rfl, hb11⟩)
       replace F_g := Lh (F_g.o.keep hb11)
       replace F_s := Lh (F_s.o.keep hb11)
       replace F_p := Lh (F_p.o.keep hb11)
       replace HBW := Kt HBW hb11
       replace hS := And.intro F_g.o.s (And.intro F_s.o.s F_p.o.s)
       clear hb11
       refine hK.o _ _ (fun _ => hS) ?_
       clear hK K
       try simp only [sY]
       refine tkQ 18 (some 52) (.unOp .not 4 (.tmp 51)) 4 ?_
       simp only [sY]
       refine tkQ 19 (some 53) (.move (.tmp 52)) 4 ?_
       simp only [sY]
       refine tkLG (i := 20) (some 54) (.load 24 (.tmp 5)) 24 (some (19, false)) [35, 36, 37] (v := ?_) hS (fun w' hSw => ?_) ?_
       rotate_left
       · obtain ⟨⟨s0_, s1_, s2_⟩, ⟨s3_, s4_⟩, ⟨s5_, s6_, s7_, s8_, s9_, sa_, sb_, sc_⟩⟩ := hSw
         unfold bareOp; go_simp; try with_reducible rfl
       simp only [sY]
       refine tkPG (i := 21) (some 55) (.move (.tmp 1)) 22 (some (19, false)) (fun _ => hS) ?_
       simp only [sY]
       refine tkPG (i := 22) (some 56) (.move (.tmp 14)) 22 (some (19, false)) (fun _ => hS) ?_
       simp only [sY]
       refine tkPG (i := 23) (some 57) (.move (.tmp 13)) 3 (some (19, false)) (fun _ => hS) ?_
       simp only [sY]
       refine tkPG (i := 24) (some 58) (.fieldAddr 31 (.tmp 8) 1) 0 (some (19, false)) (fun _ => hS) ?_
       simp only [sY]
       refine tkPG (i := 25) (some 59) (.indexAddr 29 (.tmp 58) (.tmp 57)) 0 (some (19, false)) (fun _ => hS) ?_
       simp only [sY]
       refine tkLG (i := 26) (some 60) (.load 22 (.tmp 59)) 22 (some (19, false)) [35, 36, 37] (v := ?_) hS (fun w' hSw => ?_) ?_
       rotate_left
       · obtain ⟨⟨s0_, s1_, s2_⟩, ⟨s3_, s4_⟩, ⟨s5_, s6_, s7_, s8_, s9_, sa_, sb_, sc_⟩⟩ := hSw
         unfold bareOp; go_simp; try with_reducible rfl
       simp only [sY]
       refine tkPG (i := 27) (some 61) (.move (.tmp 13)) 3 (some (19, false)) (fun _ => hS) ?_
       simp only [sY]
       refine tkPG (i := 28) (some 62) (.fieldAddr 31 (.tmp 8) 2) 0 (some (19, false)) (fun _ => hS) ?_
       simp only [sY]
       refine tkPG (i := 29) (some 63) (.indexAddr 29 (.tmp 62) (.tmp 61)) 0 (some (19, false)) (fun _ => hS) ?_
       simp only [sY]
       refine tkLG (i := 30) (some 64) (.load 22 (.tmp 63)) 22 (some (19, false)) [35, 36, 37] (v := ?_) hS (fun w' hSw => ?_) ?_
       rotate_left
       · obtain ⟨⟨s0_, s1_, s2_⟩, ⟨s3_, s4_⟩, ⟨s5_, s6_, s7_, s8_, s9_, sa_, sb_, sc_⟩⟩ := hSw
         unfold bareOp; go_simp; try with_reducible rfl
       simp only [sY]
       refine tkPG (i := 31) (some 65) (.move (.tmp 13)) 3 (some (19, false)) (fun _ => hS) ?_
       simp only [sY]
       refine tkPG (i := 32) (some 66) (.fieldAddr 31 (.tmp 8) 3) 0 (some (19, false)) (fun _ => hS) ?_
       simp only [sY]
       refine tkPG (i := 33) (some 67) (.indexAddr 29 (.tmp 66) (.tmp 65)) 0 (some (19, false)) (fun _ => hS) ?_
       simp only [sY]
       refine tkLG (i := 34) (some 68) (.load 22 (.tmp 67)) 22 (some (19, false)) [35, 36, 37] (v := ?_) hS (fun w' hSw => ?_) ?_
       rotate_left
       · obtain ⟨⟨s0_, s1_, s2_⟩, ⟨s3_, s4_⟩, ⟨s5_, s6_, s7_, s8_, s9_, sa_, sb_, sc_⟩⟩ := hSw
         unfold bareOp; go_simp; try with_reducible rfl
       simp only [sY]
       refine wpAnyB_onlyG (i := 35) (some 69) (.call { callee := .value (.func 150), args := #[.tmp 54, .tmp 55, .tmp 56, .tmp 60, .tmp 64, .tmp 68], argTypes := #[24, 22, 22, 22, 22, 22] }) 4 (some (19, false)) ⟨_, rfl, rfl, rfl, rfl, rfl⟩ (by kernel_rfl) rfl (fun K hK => ?_)
       unfold bareOp
       go_wp2_with (go_at_call 150; refine (peqn_any (v := false) _ HH.o y0 yP b_0 b_P s0_0 s0_P Uc0.o Uz0.o ⟨fun h => (by cases h), fun h => absurd h HF.o⟩).mono ?_; rintro e w12 ⟨rfl, hb12⟩)
       replace F_g := Lh (F_g.o.keep hb12)
       replace F_s := Lh (F_s.o.keep hb12)
       replace F_p := Lh (F_p.o.keep hb12)
       replace HBW := Kt HBW hb12
       replace hS := And.intro F_g.o.s (And.intro F_s.o.s F_p.o.s)
       clear hb12
       refine hK.o _ _ (fun _ => hS) ?_
       clear hK K
       try simp only [sY]
       refine tkPG (i := 36) (some 70) (.unOp .not 4 (.tmp 69)) 4 (some (19, false)) (fun _ => hS) ?_
       simp only [sY]
       refine onl (i := 37) (some 71) (.pick (.tmp 53) (.const (.bool true)) (.tmp 70)) 4 (fun K hK => ?_)
       unfold bareOp
       go_wp2_with fail
       refine hK.o _ _ lt8 ?_
       clear hK K
       try simp only [sY]
       refine wpAnyB_done (by kernel_rfl) ?_ _
       go_wp2_with fail
       go_ret2
       exact ⟨ret_bi HZ.o rfl, HBW.o⟩
      case pos =>
       have HE := Lh hE
       have HF := Lh hF
       clear hE hF
       go_wp2_with fail
       replace F_g := Lh F_g.o.drew
       replace F_s := Lh F_s.o.drew
       replace F_p := Lh F_p.o.drew
       replace HBW := Lh HBW.o.drew
       have hS := And.intro F_g.o.s (And.intro F_s.o.s F_p.o.s)
       refine wp_region_stage 37 (fun w' => SBox w' w.heap.size P Q G ∧ SPair w' (w.heap.size + 1) a b ∧ S8 w' (w.heap.size + 1 + 1) r0 r1 s0 s1 c0 c1 z0 z1) (by kernel_rfl) ?_
       refine tk8 0 (some 34) (.load 24 (.tmp 5)) 24 [17, 18, 19, 20, 21, 22, 23, 24, 25, 26, 27, 28, 29, 30, 31, 32, 33, 34, 35, 36, 37] ?_
       simp only [sY]
       refine tkQ 1 (some 35) (.fieldAddr 24 (.tmp 5) 2) 0 ?_
       simp only [sY]
       refine tk8 2 (some 36) (.load 22 (.tmp 35)) 22 [17, 18, 19, 20, 21, 22, 23, 24, 25, 26, 27, 28, 29, 30, 31, 32, 33, 34, 35, 36, 37] ?_
       simp only [sY]
       refine tkQ 3 (some 37) (.fieldAddr 75 (.tmp 7) 0) 0 ?_
       simp only [sY]
       refine tk8 4 (some 38) (.load 22 (.tmp 37)) 22 [17, 18, 19, 20, 21, 22, 23, 24, 25, 26, 27, 28, 29, 30, 31, 32, 33, 34, 35, 36, 37] ?_
       simp only [sY]
       refine tkQ 5 (some 39) (.move (.tmp 13)) 3 ?_
       simp only [sY]
       refine tkQ 6 (some 40) (.fieldAddr 31 (.tmp 8) 0) 0 ?_
       simp only [sY]
       refine tkQ 7 (some 41) (.indexAddr 29 (.tmp 40) (.tmp 39)) 0 ?_
       simp only [sY]
       refine tk8 8 (some 42) (.load 22 (.tmp 41)) 22 [17, 18, 19, 20, 21, 22, 23, 24, 25, 26, 27, 28, 29, 30, 31, 32, 33, 34, 35, 36, 37] ?_
       simp only [sY]
       refine tkQ 9 (some 43) (.move (.tmp 13)) 3 ?_
       simp only [sY]
       refine tkQ 10 (some 44) (.fieldAddr 31 (.tmp 8) 2) 0 ?_
       simp only [sY]
       refine tkQ 11 (some 45) (.indexAddr 29 (.tmp 44) (.tmp 43)) 0 ?_
       simp only [sY]
       refine tk8 12 (some 46) (.load 22 (.tmp 45)) 22 [17, 18, 19, 20, 21, 22, 23, 24, 25, 26, 27, 28, 29, 30, 31, 32, 33, 34, 35, 36, 37] ?_
       simp only [sY]
       refine tkQ 13 (some 47) (.move (.tmp 13)) 3 ?_
       simp only [sY]
       refine tkQ 14 (some 48) (.fieldAddr 31 (.tmp 8) 3) 0 ?_
       simp only [sY]
       refine tkQ 15 (some 49) (.indexAddr 29 (.tmp 48) (.tmp 47)) 0 ?_
       simp only [sY]
       refine tk8 16 (some 50) (.load 22 (.tmp 49)) 22 [17, 18, 19, 20, 21, 22, 23, 24, 25, 26, 27, 28, 29, 30, 31, 32, 33, 34, 35, 36, 37] ?_
       simp only [sY]
       refine onl (i := 17) (some 51) (.call { callee := .value (.func 150), args := #[.tmp 34, .tmp 36, .tmp 38, .tmp 42, .tmp 46, .tmp 50], argTypes := #[24, 22, 22, 22, 22, 22] }) 4 (fun K hK => ?_)
       unfold bareOp
       go_wp2_with (go_at_call 150; refine (peqn_any (v := true) _ HH.o hG gP a0 aP r0_0 r0_P Uc0.o Uz0.o ⟨fun _ => HE.o, fun _ => rfl⟩).mono ?_; rintro e w11 ⟨rfl, hb11⟩)
       replace F_g := Lh (F_g.o.keep hb11)
       replace F_s := Lh (F_s.o.keep hb11)
       replace F_p := Lh (F_p.o.keep hb11)
       replace HBW := Kt HBW hb11
       replace hS := And.intro F_g.o.s (And.intro F_s.o.s F_p.o.s)
       clear hb11
       refine hK.o _ _ (fun _ => hS) ?_
       clear hK K
       try simp only [sY]
       refine tkQ 18 (some 52) (.unOp .not 4 (.tmp 51)) 4 ?_
       simp only [sY]
       refine tkQ 19 (some 53) (.move (.tmp 52)) 4 ?_
       simp only [sY]
       refine tkLG (i := 20) (some 54) (.load 24 (.tmp 5)) 24 (some (19, false)) [35, 36, 37] (v := ?_) hS (fun w' hSw => ?_) ?_
       rotate_left
       · obtain ⟨⟨s0_, s1_, s2_⟩, ⟨s3_, s4_⟩, ⟨s5_, s6_, s7_, s8_, s9_, sa_, sb_, sc_⟩⟩ := hSw
         unfold bareOp; go_simp; try with_reducible rfl
       simp only [sY]
       refine tkPG (i := 21) (some 55) (.move (.tmp 1)) 22 (some (19, false)) (fun _ => hS) ?_
       simp only [sY]
       refine tkPG (i := 22) (some 56) (.move (.tmp 14)) 22 (some (19, false)) (fun _ => hS) ?_
       simp only [sY]
       refine tkPG (i := 23) (some 57) (.move (.tmp 13)) 3 (some (19, false)) (fun _ => hS) ?_
       simp only [sY]
       refine tkPG (i := 24) (some 58) (.fieldAddr 31 (.tmp 8) 1) 0 (some (19, false)) (fun _ => hS) ?_
       simp only [sY]
       refine tkPG (i := 25) (some 59) (.indexAddr 29 (.tmp 58) (.tmp 57)) 0 (some (19, false)) (fun _ => hS) ?_
       simp only [sY]
       refine tkLG (i := 26) (some 60) (.load 22 (.tmp 59)) 22 (some (19, false)) [35, 36, 37] (v := ?_) hS (fun w' hSw => ?_) ?_
       rotate_left
       · obtain ⟨⟨s0_, s1_, s2_⟩, ⟨s3_, s4_⟩, ⟨s5_, s6_, s7_, s8_, s9_, sa_, sb_, sc_⟩⟩ := hSw
         unfold bareOp; go_simp; try with_reducible rfl
       simp only [sY]
       refine tkPG (i := 27) (some 61) (.move (.tmp 13)) 3 (some (19, false)) (fun _ => hS) ?_
       simp only [sY]
       refine tkPG (i := 28) (some 62) (.fieldAddr 31 (.tmp 8) 2) 0 (some (19, false)) (fun _ => hS) ?_
       simp only [sY]
       refine tkPG (i := 29) (some 63) (.indexAddr 29 (.tmp 62) (.tmp 61)) 0 (some (19, false)) (fun _ => hS) ?_
       simp only [sY]
       refine tkLG (i := 30) (some 64) (.load 22 (.tmp 63)) 22 (some (19, false)) [35, 36, 37] (v := ?_) hS (fun w' hSw => ?_) ?_
       rotate_left
       · obtain ⟨⟨s0_, s1_, s2_⟩, ⟨s3_, s4_⟩, ⟨s5_, s6_, s7_, s8_, s9_, sa_, sb_, sc_⟩⟩ := hSw
         unfold bareOp; go_simp; try with_reducible rfl
       simp only [sY]
       refine tkPG (i := 31) (some 65) (.move (.tmp 13)) 3 (some (19, false)) (fun _ => hS) ?_
       simp only [sY]
       refine tkPG (i := 32) (some 66) (.fieldAddr 31 (.tmp 8) 3) 0 (some (19, false)) (fun _ => hS) ?_
       simp only [sY]
       refine tkPG (i := 33) (some 67) (.indexAddr 29 (.tmp 66) (.tmp 65)) 0 (some (19, false)) (fun _ => hS) ?_
       simp only [sY]
       refine tkLG (i := 34) (some 68) (.load 22 (.tmp 67)) 22 (some (19, false)) [35, 36, 37] (v := ?_) hS (fun w' hSw => ?_) ?_
       rotate_left
       · obtain ⟨⟨s0_, s1_, s2_⟩, ⟨s3_, s4_⟩, ⟨s5_, s6_, s7_, s8_, s9_, sa_, sb_, sc_⟩⟩ := hSw
         unfold bareOp; go_simp; try with_reducible rfl
       simp only [sY]
       refine wpAnyB_onlyG (i := 35) (some 69) (.call { callee := .value (.func 150), args := #[.tmp 54, .tmp 55, .tmp 56, .tmp 60, .tmp 64, .tmp 68], argTypes := #[24, 22, 22, 22, 22, 22] }) 4 (some (19, false)) ⟨_, rfl, rfl, rfl, rfl, rfl⟩ (by kernel_rfl) rfl (fun K hK => ?_)
       unfold bareOp
       go_wp2_with (go_at_call 150; refine (peqn_any (v := true) _ HH.o y0 yP b_0 b_P s0_0 s0_P Uc0.o Uz0.o ⟨fun _ => HF.o, fun _ => rfl⟩).mono ?_; rintro e w12 ⟨rfl, hb12⟩)
       replace F_g := Lh (F_g.o.keep hb12)
       replace F_s := Lh (F_s.o.keep hb12)
       replace F_p := Lh (F_p.o.keep hb12)
       replace HBW := Kt HBW hb12
       replace hS := And.intro F_g.o.s (And.intro F_s.o.s F_p.o.s)
       clear hb12
       refine hK.o _ _ (fun _ => hS) ?_
       clear hK K
       try simp only [sY]
       refine tkPG (i := 36) (some 70) (.unOp .not 4 (.tmp 69)) 4 (some (19, false)) (fun _ => hS) ?_
       simp only [sY]
       refine onl (i := 37) (some 71) (.pick (.tmp 53) (.const (.bool true)) (.tmp 70)) 4 (fun K hK => ?_)
       unfold bareOp
       go_wp2_with fail
       refine hK.o _ _ lt8 ?_
       clear hK K
       try simp only [sY]
       refine wpAnyB_done (by kernel_rfl) ?_ _
       go_wp2_with fail
       go_roundw
       case rel => exact ⟨1, by omega, by go_num, ⟨F_g.o, F_s.o, F_p.o, HBW.o, fun _ => ⟨HE.o, HF.o⟩, fun h => absurd h (by omega)⟩⟩
       case measure => simp [intOf]
    case inr.inl =>
     have HX0 := Lh (HK.o.x0 (by omega))
     clear HK
     rw [show ((1 : Nat) : Int) = 1 from rfl]
     have hix : ∀ w' : World, (Instr.index 29 (.agg #[υ b, υ t]) (.int .i64 1)).run Tryz.prog w' = .ok (υ t) w' := fun w' => rfl
     by_cases hE : powm G z1 P = r1 * powm a c1 P % P
     case neg =>
      have HE := Lh hE
      have HZ := Lh (show false = v by rw [Bool.eq_iff_iff, HV.o]; simp [hE])
      clear hE
      go_wp2_with fail
      replace F_g := Lh F_g.o.drew
      replace F_s := Lh F_s.o.drew
      replace F_p := Lh F_p.o.drew
      replace HBW := Lh HBW.o.drew
      have hS := And.intro F_g.o.s (And.intro F_s.o.s F_p.o.s)
      refine wp_region_stage 37 (fun w' => SBox w' w.heap.size P Q G ∧ SPair w' (w.heap.size + 1) a b ∧ S8 w' (w.heap.size + 1 + 1) r0 r1 s0 s1 c0 c1 z0 z1) (by kernel_rfl) ?_
      refine tk8 0 (some 34) (.load 24 (.tmp 5)) 24 [17, 18, 19, 20, 21, 22, 23, 24, 25, 26, 27, 28, 29, 30, 31, 32, 33, 34, 35, 36, 37] ?_
      simp only [sY]
      refine tkQ 1 (some 35) (.fieldAddr 24 (.tmp 5) 2) 0 ?_
      simp only [sY]
      refine tk8 2 (some 36) (.load 22 (.tmp 35)) 22 [17, 18, 19, 20, 21, 22, 23, 24, 25, 26, 27, 28, 29, 30, 31, 32, 33, 34, 35, 36, 37] ?_
      simp only [sY]
      refine tkQ 3 (some 37) (.fieldAddr 75 (.tmp 7) 0) 0 ?_
      simp only [sY]
      refine tk8 4 (some 38) (.load 22 (.tmp 37)) 22 [17, 18, 19, 20, 21, 22, 23, 24, 25, 26, 27, 28, 29, 30, 31, 32, 33, 34, 35, 36, 37] ?_
      simp only [sY]
      refine tkQ 5 (some 39) (.move (.tmp 13)) 3 ?_
      simp only [sY]
      refine tkQ 6 (some 40) (.fieldAddr 31 (.tmp 8) 0) 0 ?_
      simp only [sY]
      refine tkQ 7 (some 41) (.indexAddr 29 (.tmp 40) (.tmp 39)) 0 ?_
      simp only [sY]
      refine tk8 8 (some 42) (.load 22 (.tmp 41)) 22 [17, 18, 19, 20, 21, 22, 23, 24, 25, 26, 27, 28, 29, 30, 31, 32, 33, 34, 35, 36, 37] ?_
      simp only [sY]
      refine tkQ 9 (some 43) (.move (.tmp 13)) 3 ?_
      simp only [sY]
      refine tkQ 10 (some 44) (.fieldAddr 31 (.tmp 8) 2) 0 ?_
      simp only [sY]
      refine tkQ 11 (some 45) (.indexAddr 29 (.tmp 44) (.tmp 43)) 0 ?_
      simp only [sY]
      refine tk8 12 (some 46) (.load 22 (.tmp 45)) 22 [17, 18, 19, 20, 21, 22, 23, 24, 25, 26, 27, 28, 29, 30, 31, 32, 33, 34, 35, 36, 37] ?_
      simp only [sY]
      refine tkQ 13 (some 47) (.move (.tmp 13)) 3 ?_
      simp only [sY]
      refine tkQ 14 (some 48) (.fieldAddr 31 (.tmp 8) 3) 0 ?_
      simp only [sY]
      refine tkQ 15 (some 49) (.indexAddr 29 (.tmp 48) (.tmp 47)) 0 ?_
      simp only [sY]
      refine tk8 16 (some 50) (.load 22 (.tmp 49)) 22 [17, 18, 19, 20, 21, 22, 23, 24, 25, 26, 27, 28, 29, 30, 31, 32, 33, 34, 35, 36, 37] ?_
      simp only [sY]
      refine onl (i := 17) (some 51) (.call { callee := .value (.func 150), args := #[.tmp 34, .tmp 36, .tmp 38, .tmp 42, .tmp 46, .tmp 50], argTypes := #[24, 22, 22, 22, 22, 22] }) 4 (fun K hK => ?_)
      unfold bareOp
      go_wp2_with (go_at_call 150; refine (peqn_any (v := false) _ HH.o hG gP a0 aP r1_0 r1_P Uc1.o Uz1.o ⟨fun h => (by cases h), fun h => absurd h HE.o⟩).mono ?_; rintro e w11 ⟨rfl, hb11⟩)
      replace F_g := Lh (F_g.o.keep hb11)
      replace F_s := Lh (F_s.o.keep hb11)
      replace F_p := Lh (F_p.o.keep hb11)
      replace HBW := Kt HBW hb11
      replace hS := And.intro F_g.o.s (And.intro F_s.o.s F_p.o.s)
      clear hb11
      refine hK.o _ _ (fun _ => hS) ?_
      clear hK K
      try simp only [sY]
      refine tkQ 18 (some 52) (.unOp .not 4 (.tmp 51)) 4 ?_
      simp only [sY]
      refine tkQ 19 (some 53) (.move (.tmp 52)) 4 ?_
      simp only [sY]
      refine skG (i := 20) (some 54) (.load 24 (.tmp 5)) 24 (some (19, false)) (fun _ => hS) ?_
      simp only [sY]
      refine skG (i := 21) (some 55) (.move (.tmp 1)) 22 (some (19, false)) (fun _ => hS) ?_
      simp only [sY]
      refine skG (i := 22) (some 56) (.move (.tmp 14)) 22 (some (19, false)) (fun _ => hS) ?_
      simp only [sY]
      refine skG (i := 23) (some 57) (.move (.tmp 13)) 3 (some (19, false)) (fun _ => hS) ?_
      simp only [sY]
      refine skG (i := 24) (some 58) (.fieldAddr 31 (.tmp 8) 1) 0 (some (19, false)) (fun _ => hS) ?_
      simp only [sY]
      refine skG (i := 25) (some 59) (.indexAddr 29 (.tmp 58) (.tmp 57)) 0 (some (19, false)) (fun _ => hS) ?_
      simp only [sY]
      refine skG (i := 26) (some 60) (.load 22 (.tmp 59)) 22 (some (19, false)) (fun _ => hS) ?_
      simp only [sY]
      refine skG (i := 27) (some 61) (.move (.tmp 13)) 3 (some (19, false)) (fun _ => hS) ?_
      simp only [sY]
      refine skG (i := 28) (some 62) (.fieldAddr 31 (.tmp 8) 2) 0 (some (19, false)) (fun _ => hS) ?_
      simp only [sY]
      refine skG (i := 29) (some 63) (.indexAddr 29 (.tmp 62) (.tmp 61)) 0 (some (19, false)) (fun _ => hS) ?_
      simp only [sY]
      refine skG (i := 30) (some 64) (.load 22 (.tmp 63)) 22 (some (19, false)) (fun _ => hS) ?_
      simp only [sY]
      refine skG (i := 31) (some 65) (.move (.tmp 13)) 3 (some (19, false)) (fun _ => hS) ?_
      simp only [sY]
      refine skG (i := 32) (some 66) (.fieldAddr 31 (.tmp 8) 3) 0 (some (19, false)) (fun _ => hS) ?_
      simp only [sY]
      refine skG (i := 33) (some 67) (.indexAddr 29 (.tmp 66) (.tmp 65)) 0 (some (19, false)) (fun _ => hS) ?_
      simp only [sY]
      refine skG (i := 34) (some 68) (.load 22 (.tmp 67)) 22 (some (19, false)) (fun _ => hS) ?_
      simp only [sY]
      refine skG (i := 35) (some 69) (.call { callee := .value (.func 150), args := #[.tmp 54, .tmp 55, .tmp 56, .tmp 60, .tmp 64, .tmp 68], argTypes := #[24, 22, 22, 22, 22, 22] }) 4 (some (19, false)) (fun _ => hS) ?_
      simp only [sY]
      refine skG (i := 36) (some 70) (.unOp .not 4 (.tmp 69)) 4 (some (19, false)) (fun _ => hS) ?_
      simp only [sY]
      refine onl (i := 37) (some 71) (.pick (.tmp 53) (.const (.bool true)) (.tmp 70)) 4 (fun K hK => ?_)
      unfold bareOp
      go_wp2_with fail
      refine hK.o _ _ lt8 ?_
      clear hK K
      try simp only [sY]
      refine wpAnyB_done (by kernel_rfl) ?_ _
      go_wp2_with fail
      go_ret2
      exact ⟨ret_bi HZ.o rfl, HBW.o⟩
     case pos =>
      by_cases hF : powm y z1 P = s1 * powm t c1 P % P
      case neg =>
       have HE := Lh hE
       have HF := Lh hF
       have HZ := Lh (show false = v by rw [Bool.eq_iff_iff, HV.o]; simp [hF])
       clear hE hF
       go_wp2_with fail
       replace F_g := Lh F_g.o.drew
       replace F_s := Lh F_s.o.drew
       replace F_p := Lh F_p.o.drew
       replace HBW := Lh HBW.o.drew
       have hS := And.intro F_g.o.s (And.intro F_s.o.s F_p.o.s)
       refine wp_region_stage 37 (fun w' => SBox w' w.heap.size P Q G ∧ SPair w' (w.heap.size + 1) a b ∧ S8 w' (w.heap.size + 1 + 1) r0 r1 s0 s1 c0 c1 z0 z1) (by kernel_rfl) ?_
       refine tk8 0 (some 34) (.load 24 (.tmp 5)) 24 [17, 18, 19, 20, 21, 22, 23, 24, 25, 26, 27, 28, 29, 30, 31, 32, 33, 34, 35, 36, 37] ?_
       simp only [sY]
       refine tkQ 1 (some 35) (.fieldAddr 24 (.tmp 5) 2) 0 ?_
       simp only [sY]
       refine tk8 2 (some 36) (.load 22 (.tmp 35)) 22 [17, 18, 19, 20, 21, 22, 23, 24, 25, 26, 27, 28, 29, 30, 31, 32, 33, 34, 35, 36, 37] ?_
       simp only [sY]
       refine tkQ 3 (some 37) (.fieldAddr 75 (.tmp 7) 0) 0 ?_
       simp only [sY]
       refine tk8 4 (some 38) (.load 22 (.tmp 37)) 22 [17, 18, 19, 20, 21, 22, 23, 24, 25, 26, 27, 28, 29, 30, 31, 32, 33, 34, 35, 36, 37] ?_
       simp only [sY]
       refine tkQ 5 (some 39) (.move (.tmp 13)) 3 ?_
       simp only [sY]
       refine tkQ 6 (some 40) (.fieldAddr 31 (.tmp 8) 0) 0 ?_
       simp only [sY]
       refine tkQ 7 (some 41) (.indexAddr 29 (.tmp 40) (.tmp 39)) 0 ?_
       simp only [sY]
       refine tk8 8 (some 42) (.load 22 (.tmp 41)) 22 [17, 18, 19, 20, 21, 22, 23, 24, 25, 26, 27, 28, 29, 30, 31, 32, 33, 34, 35, 36, 37] ?_
       simp only [sY]
       refine tkQ 9 (some 43) (.move (.tmp 13)) 3 ?_
       simp only [sY]
       refine tkQ 10 (some 44) (.fieldAddr 31 (.tmp 8) 2) 0 ?_
       simp only [sY]
       refine tkQ 11 (some 45) (.indexAddr 29 (.tmp 44) (.tmp 43)) 0 ?_
       simp only [sY]
       refine tk8 12 (some 46) (.load 22 (.tmp 45)) 22 [17, 18, 19, 20, 21, 22, 23, 24, 25, 26, 27, 28, 29, 30, 31, 32, 33, 34, 35, 36, 37] ?_
       simp only [sY]
       refine tkQ 13 (some 47) (.move (.tmp 13)) 3 ?_
       simp only [sY]
       refine tkQ 14 (some 48) (.fieldAddr 31 (.tmp 8) 3) 0 ?_
       simp only [sY]
       refine tkQ 15 (some 49) (.indexAddr 29 (.tmp 48) (.tmp 47)) 0 ?_
       simp only [sY]
       refine tk8 16 (some 50) (.load 22 (.tmp 49)) 22 [17, 18, 19, 20, 21, 22, 23, 24, 25, 26, 27, 28, 29, 30, 31, 32, 33, 34, 35, 36, 37] ?_
       simp only [sY]
       refine onl (i := 17) (some 51) (.call { callee := .value (.func 150), args := #[.tmp 34, .tmp 36, .tmp 38, .tmp 42, .tmp 46, .tmp 50], argTypes := #[24, 22, 22, 22, 22, 22] }) 4 (fun K hK => ?_)
       unfold bareOp
       go_wp2_with (go_at_call 150; refine (peqn_any (v := true) _ HH.o hG gP a0 aP r1_0 r1_P Uc1.o Uz1.o ⟨fun _ => HE.o, fun _ => rfl⟩).mono ?_; rintro e w11 ⟨rfl, hb11⟩)
       replace F_g := Lh (F_g.o.keep hb11)
       replace F_s := Lh (F_s.o.keep hb11)
       replace F_p := Lh (F_p.o.keep hb11)
       replace HBW := Kt HBW hb11
       replace hS := And.intro F_g.o.s (And.intro F_s.o.s F_p.o.s)
       clear hb11
       refine hK.o _ _ (fun _ => hS) ?_
       clear hK K
       try simp only [sY]
       refine tkQ 18 (some 52) (.unOp .not 4 (.tmp 51)) 4 ?_
       simp only [sY]
       refine tkQ 19 (some 53) (.move (.tmp 52)) 4 ?_
       simp only [sY]
       refine tkLG (i := 20) (some 54) (.load 24 (.tmp 5)) 24 (some (19, false)) [35, 36, 37] (v := ?_) hS (fun w' hSw => ?_) ?_
       rotate_left
       · obtain ⟨⟨s0_, s1_, s2_⟩, ⟨s3_, s4_⟩, ⟨s5_, s6_, s7_, s8_, s9_, sa_, sb_, sc_⟩⟩ := hSw
         unfold bareOp; go_simp; try with_reducible rfl
       simp only [sY]
       refine tkPG (i := 21) (some 55) (.move (.tmp 1)) 22 (some (19, false)) (fun _ => hS) ?_
       simp only [sY]
       refine tkPG (i := 22) (some 56) (.move (.tmp 14)) 22 (some (19, false)) (fun _ => hS) ?_
       simp only [sY]
       refine tkPG (i := 23) (some 57) (.move (.tmp 13)) 3 (some (19, false)) (fun _ => hS) ?_
       simp only [sY]
       refine tkPG (i := 24) (some 58) (.fieldAddr 31 (.tmp 8) 1) 0 (some (19, false)) (fun _ => hS) ?_
       simp only [sY]
       refine tkPG (i := 25) (some 59) (.indexAddr 29 (.tmp 58) (.tmp 57)) 0 (some (19, false)) (fun _ => hS) ?_
       simp only [sY]
       refine tkLG (i := 26) (some 60) (.load 22 (.tmp 59)) 22 (some (19, false)) [35, 36, 37] (v := ?_) hS (fun w' hSw => ?_) ?_
       rotate_left
       · obtain ⟨⟨s0_, s1_, s2_⟩, ⟨s3_, s4_⟩, ⟨s5_, s6_, s7_, s8_, s9_, sa_, sb_, sc_⟩⟩ := hSw
         unfold bareOp; go_simp; try with_reducible rfl
       simp only [sY]
       refine tkPG (i := 27) (some 61) (.move (.tmp 13)) 3 (some (19, false)) (fun _ => hS) ?_
       simp only [sY]
       refine tkPG (i := 28) (some 62) (.fieldAddr 31 (.tmp 8) 2) 0 (some (19, false)) (fun _ => hS) ?_
       simp only [sY]
       refine tkPG (i := 29) (some 63) (.indexAddr 29 (.tmp 62) (.tmp 61)) 0 (some (19, false)) (fun _ => hS) ?_
       simp only [sY]
       refine tkLG (i := 30) (some 64) (.load 22 (.tmp 63)) 22 (some (19, false)) [35, 36, 37] (v := ?_) hS (fun w' hSw => ?_) ?_
       rotate_left
       · obtain ⟨⟨s0_, s1_, s2_⟩, ⟨s3_, s4_⟩, ⟨s5_, s6_, s7_, s8_, s9_, sa_, sb_, sc_⟩⟩ := hSw
         unfold bareOp; go_simp; try with_reducible rfl
       simp only [sY]
       refine tkPG (i := 31) (some 65) (.move (.tmp 13)) 3 (some (19, false)) (fun _ => hS) ?_
       simp only [sY]
       refine tkPG (i := 32) (some 66) (.fieldAddr 31 (.tmp 8) 3) 0 (some (19, false)) (fun _ => hS) ?_
       simp only [sY]
       refine tkPG (i := 33) (some 67) (.indexAddr 29 (.tmp 66) (.tmp 65)) 0 (some (19, false)) (fun _ => hS) ?_
       simp only [sY]
       refine tkLG (i := 34) (some 68) (.load 22 (.tmp 67)) 22 (some (19, false)) [35, 36, 37] (v := ?_) hS (fun w' hSw => ?_) ?_
       rotate_left
       · obtain ⟨⟨s0_, s1_, s2_⟩, ⟨s3_, s4_⟩, ⟨s5_, s6_, s7_, s8_, s9_, sa_, sb_, sc_⟩⟩ := hSw
         unfold bareOp; go_simp; try with_reducible rfl
       simp only [sY]
       refine wpAnyB_onlyG (i := 35) (some 69) (.call { callee := .value (.func 150), args := #[.tmp 54, .tmp 55, .tmp 56, .tmp 60, .tmp 64, .tmp 68], argTypes := #[24, 22, 22, 22, 22, 22] }) 4 (some (19, false)) ⟨_, rfl, rfl, rfl, rfl, rfl⟩ (by kernel_rfl) rfl (fun K hK => ?_)
       unfold bareOp
       go_wp2_with (go_at_call 150; refine (peqn_any (v := false) _ HH.o y0 yP t_0 t_P s1_0 s1_P Uc1.o Uz1.o ⟨fun h => (by cases h), fun h => absurd h HF.o⟩).mono ?_; rintro e w12 ⟨rfl, hb12⟩)
       replace F_g := Lh (F_g.o.keep hb12)
       replace F_s := Lh (F_s.o.keep hb12)
       replace F_p := Lh (F_p.o.keep hb12)
       replace HBW := Kt HBW hb12
       replace hS := And.intro F_g.o.s (And.intro F_s.o.s F_p.o.s)
       clear hb12
       refine hK.o _ _ (fun _ => hS) ?_
       clear hK K
       try simp only [sY]
       refine tkPG (i := 36) (some 70) (.unOp .not 4 (.tmp 69)) 4 (some (19, false)) (fun _ => hS) ?_
       simp only [sY]
       refine onl (i := 37) (some 71) (.pick (.tmp 53) (.const (.bool true)) (.tmp 70)) 4 (fun K hK => ?_)
       unfold bareOp
       go_wp2_with fail
       refine hK.o _ _ lt8 ?_
       clear hK K
       try simp only [sY]
       refine wpAnyB_done (by kernel_rfl) ?_ _
       go_wp2_with fail
       go_ret2
       exact ⟨ret_bi HZ.o rfl, HBW.o⟩
      case pos =>
       have HE := Lh hE
       have HF := Lh hF
       clear hE hF
       go_wp2_with fail
       replace F_g := Lh F_g.o.drew
       replace F_s := Lh F_s.o.drew
       replace F_p := Lh F_p.o.drew
       replace HBW := Lh HBW.o.drew
       have hS := And.intro F_g.o.s (And.intro F_s.o.s F_p.o.s)
       refine wp_region_stage 37 (fun w' => SBox w' w.heap.size P Q G ∧ SPair w' (w.heap.size + 1) a b ∧ S8 w' (w.heap.size + 1 + 1) r0 r1 s0 s1 c0 c1 z0 z1) (by kernel_rfl) ?_
       refine tk8 0 (some 34) (.load 24 (.tmp 5)) 24 [17, 18, 19, 20, 21, 22, 23, 24, 25, 26, 27, 28, 29, 30, 31, 32, 33, 34, 35, 36, 37] ?_
       simp only [sY]
       refine tkQ 1 (some 35) (.fieldAddr 24 (.tmp 5) 2) 0 ?_
       simp only [sY]
       refine tk8 2 (some 36) (.load 22 (.tmp 35)) 22 [17, 18, 19, 20, 21, 22, 23, 24, 25, 26, 27, 28, 29, 30, 31, 32, 33, 34, 35, 36, 37] ?_
       simp only [sY]
       refine tkQ 3 (some 37) (.fieldAddr 75 (.tmp 7) 0) 0 ?_
       simp only [sY]
       refine tk8 4 (some 38) (.load 22 (.tmp 37)) 22 [17, 18, 19, 20, 21, 22, 23, 24, 25, 26, 27, 28, 29, 30, 31, 32, 33, 34, 35, 36, 37] ?_
       simp only [sY]
       refine tkQ 5 (some 39) (.move (.tmp 13)) 3 ?_
       simp only [sY]
       refine tkQ 6 (some 40) (.fieldAddr 31 (.tmp 8) 0) 0 ?_
       simp only [sY]
       refine tkQ 7 (some 41) (.indexAddr 29 (.tmp 40) (.tmp 39)) 0 ?_
       simp only [sY]
       refine tk8 8 (some 42) (.load 22 (.tmp 41)) 22 [17, 18, 19, 20, 21, 22, 23, 24, 25, 26, 27, 28, 29, 30, 31, 32, 33, 34, 35, 36, 37] ?_
       simp only [sY]
       refine tkQ 9 (some 43) (.move (.tmp 13)) 3 ?_
       simp only [sY]
       refine tkQ 10 (some 44) (.fieldAddr 31 (.tmp 8) 2) 0 ?_
       simp only [sY]
       refine tkQ 11 (some 45) (.indexAddr 29 (.tmp 44) (.tmp 43)) 0 ?_
       simp only [sY]
       refine tk8 12 (some 46) (.load 22 (.tmp 45)) 22 [17, 18, 19, 20, 21, 22, 23, 24, 25, 26, 27, 28, 29, 30, 31, 32, 33, 34, 35, 36, 37] ?_
       simp only [sY]
       refine tkQ 13 (some 47) (.move (.tmp 13)) 3 ?_
       simp only [sY]
       refine tkQ 14 (some 48) (.fieldAddr 31 (.tmp 8) 3) 0 ?_
       simp only [sY]
       refine tkQ 15 (some 49) (.indexAddr 29 (.tmp 48) (.tmp 47)) 0 ?_
       simp only [sY]
       refine tk8 16 (some 50) (.load 22 (.tmp 49)) 22 [17, 18, 19, 20, 21, 22, 23, 24, 25, 26, 27, 28, 29, 30, 31, 32, 33, 34, 35, 36, 37] ?_
       simp only [sY]
       refine onl (i := 17) (some 51) (.call { callee := .value (.func 150), args := #[.tmp 34, .tmp 36, .tmp 38, .tmp 42, .tmp 46, .tmp 50], argTypes := #[24, 22, 22, 22, 22, 22] }) 4 (fun K hK => ?_)
       unfold bareOp
       go_wp2_with (go_at_call 150; refine (peqn_any (v := true) _ HH.o hG gP a0 aP r1_0 r1_P Uc1.o Uz1.o ⟨fun _ => HE.o, fun _ => rfl⟩).mono ?_; rintro e w11 ⟨rfl, hb11⟩)
       replace F_g := Lh (F_g.o.keep hb11)
       replace F_s := Lh (F_s.o.keep hb11)
       replace F_p := Lh (F_p.o.keep hb11)
       replace HBW := Kt HBW hb11
       replace hS := And.intro F_g.o.s (And.intro F_s.o.s F_p.o.s)
       clear hb11
       refine hK.o _ _ (fun _ => hS) ?_
       clear hK K
       try simp only [sY]
       refine tkQ 18 (some 52) (.unOp .not 4 (.tmp 51)) 4 ?_
       simp only [sY]
       refine tkQ 19 (some 53) (.move (.tmp 52)) 4 ?_
       simp only [sY]
       refine tkLG (i := 20) (some 54) (.load 24 (.tmp 5)) 24 (some (19, false)) [35, 36, 37] (v := ?_) hS (fun w' hSw => ?_) ?_
       rotate_left
       · obtain ⟨⟨s0_, s1_, s2_⟩, ⟨s3_, s4_⟩, ⟨s5_, s6_, s7_, s8_, s9_, sa_, sb_, sc_⟩⟩ := hSw
         unfold bareOp; go_simp; try with_reducible rfl
       simp only [sY]
       refine tkPG (i := 21) (some 55) (.move (.tmp 1)) 22 (some (19, false)) (fun _ => hS) ?_
       simp only [sY]
       refine tkPG (i := 22) (some 56) (.move (.tmp 14)) 22 (some (19, false)) (fun _ => hS) ?_
       simp only [sY]
       refine tkPG (i := 23) (some 57) (.move (.tmp 13)) 3 (some (19, false)) (fun _ => hS) ?_
       simp only [sY]
       refine tkPG (i := 24) (some 58) (.fieldAddr 31 (.tmp 8) 1) 0 (some (19, false)) (fun _ => hS) ?_
       simp only [sY]
       refine tkPG (i := 25) (some 59) (.indexAddr 29 (.tmp 58) (.tmp 57)) 0 (some (19, false)) (fun _ => hS) ?_
       simp only [sY]
       refine tkLG (i := 26) (some 60) (.load 22 (.tmp 59)) 22 (some (19, false)) [35, 36, 37] (v := ?_) hS (fun w' hSw => ?_) ?_
       rotate_left
       · obtain ⟨⟨s0_, s1_, s2_⟩, ⟨s3_, s4_⟩, ⟨s5_, s6_, s7_, s8_, s9_, sa_, sb_, sc_⟩⟩ := hSw
         unfold bareOp; go_simp; try with_reducible rfl
       simp only [sY]
       refine tkPG (i := 27) (some 61) (.move (.tmp 13)) 3 (some (19, false)) (fun _ => hS) ?_
       simp only [sY]
       refine tkPG (i := 28) (some 62) (.fieldAddr 31 (.tmp 8) 2) 0 (some (19, false)) (fun _ => hS) ?_
       simp only [sY]
       refine tkPG (i := 29) (some 63) (.indexAddr 29 (.tmp 62) (.tmp 61)) 0 (some (19, false)) (fun _ => hS) ?_
       simp only [sY]
       refine tkLG (i := 30) (some 64) (.load 22 (.tmp 63)) 22 (some (19, false)) [35, 36, 37] (v := ?_) hS (fun w' hSw => ?_) ?_
       rotate_left
       · obtain ⟨⟨s0_, s1_, s2_⟩, ⟨s3_, s4_⟩, ⟨s5_, s6_, s7_, s8_, s9_, sa_, sb_, sc_⟩⟩ := hSw
         unfold bareOp; go_simp; try with_reducible rfl
       simp only [sY]
       refine tkPG (i := 31) (some 65) (.move (.tmp 13)) 3 (some (19, false)) (fun _ => hS) ?_
       simp only [sY]
       refine tkPG (i := 32) (some 66) (.fieldAddr 31 (.tmp 8) 3) 0 (some (19, false)) (fun _ => hS) ?_
       simp only [sY]
       refine tkPG (i := 33) (some 67) (.indexAddr 29 (.tmp 66) (.tmp 65)) 0 (some (19, false)) (fun _ => hS) ?_
       simp only [sY]
       refine tkLG (i := 34) (some 68) (.load 22 (.tmp 67)) 22 (some (19, false)) [35, 36, 37] (v := ?_) hS (fun w' hSw => ?_) ?_
       rotate_left
       · obtain ⟨⟨s0_, s1_, s2_⟩, ⟨s3_, s4_⟩, ⟨s5_, s6_, s7_, s8_, s9_, sa_, sb_, sc_⟩⟩ := hSw
         unfold bareOp; go_simp; try with_reducible rfl
       simp only [sY]
       refine wpAnyB_onlyG (i := 35) (some 69) (.call { callee := .value (.func 150), args := #[.tmp 54, .tmp 55, .tmp 56, .tmp 60, .tmp 64, .tmp 68], argTypes := #[24, 22, 22, 22, 22, 22] }) 4 (some (19, false)) ⟨_, rfl, rfl, rfl, rfl, rfl⟩ (by kernel_rfl) rfl (fun K hK => ?_)
       unfold bareOp
       go_wp2_with (go_at_call 150; refine (peqn_any (v := true) _ HH.o y0 yP t_0 t_P s1_0 s1_P Uc1.o Uz1.o ⟨fun _ => HF.o, fun _ => rfl⟩).mono ?_; rintro e w12 ⟨rfl, hb12⟩)
       replace F_g := Lh (F_g.o.keep hb12)
       replace F_s := Lh (F_s.o.keep hb12)
       replace F_p := Lh (F_p.o.keep hb12)
       replace HBW := Kt HBW hb12
       replace hS := And.intro F_g.o.s (And.intro F_s.o.s F_p.o.s)
       clear hb12
       refine hK.o _ _ (fun _ => hS) ?_
       clear hK K
       try simp only [sY]
       refine tkPG (i := 36) (some 70) (.unOp .not 4 (.tmp 69)) 4 (some (19, false)) (fun _ => hS) ?_
       simp only [sY]
       refine onl (i := 37) (some 71) (.pick (.tmp 53) (.const (.bool true)) (.tmp 70)) 4 (fun K hK => ?_)
       unfold bareOp
       go_wp2_with fail
       refine hK.o _ _ lt8 ?_
       clear hK K
       try simp only [sY]
       refine wpAnyB_done (by kernel_rfl) ?_ _
       go_wp2_with fail
       go_roundw
       case rel => exact ⟨2, by omega, by go_num, ⟨F_g.o, F_s.o, F_p.o, HBW.o, fun _ => HX0.o, fun _ => ⟨HE.o, HF.o⟩⟩⟩
       case measure => simp [intOf]
    case inr.inr =>
     have HX0 := Lh (HK.o.x0 (by omega))
     have HX1 := Lh (HK.o.x1 (by omega))
     clear HK
     obtain ⟨x0, x1, x2, -⟩ := id F_g.o
     obtain ⟨x3, x4, x5, x6, x7, x8, x9, xa, -⟩ := id F_p.o
     go_wp2_with fail
     clear x0 x1 x2 x3 x4 x5 x6 x7 x8 x9 xa
     refine (addExp_ok P Q G c0 c1 m _ HH.o c0_0 c0_Q c1_0 c1_Q HM.o).mono ?_
     rintro e w9 ⟨rfl, hb9⟩
     replace HBW := Kt HBW hb9
     clear hb9
     by_cases hmc : m = c
     case neg =>
      have hq : (m == c) = false := by simpa using hmc
      have HZ := Lh (show false = v by rw [Bool.eq_iff_iff, HV.o, HM.o]; simp [hmc])
      clear hmc
      go_wp2_with fail
      go_ret2
      exact ⟨ret_bi HZ.o rfl, HBW.o⟩
     case pos =>
      have hq : (m == c) = true := by simpa using hmc
      have HZ := Lh (show true = v by rw [eq_comm, HV.o, HM.o]; exact ⟨HX0.o, HX1.o, hmc⟩)
      clear hmc
      go_wp2_with fail
      go_ret2
      exact ⟨ret_bi HZ.o rfl, HBW.o⟩
 · have hnc : e' ≠ 0 := by rw [hcc]; exact h
   have hn1 : (e' != 0) = true := by simpa using hnc
   have HR := Lh hcc.symm
   clear hcc h hnc hnn hpp htt
   have HOW := Lh (show World.ownsRow ((((w.alloc (.cells #[υ P, υ Q, υ G] 24)).alloc (.cells #[υ a, υ b] 75)).alloc (.cells #[υ r0, υ r1, υ s0, υ s1, υ c0, υ c1, υ z0, υ z1] 31)).alloc (.cells #[υ c] 22)) (w.heap.size + 1 + 1 + 1) 22 1 (.slice (some ⟨w.heap.size + 1 + 1 + 1, 0, none⟩) 1 1) 1 [υ c] from by
    have h := World.ownsRow_lit (base := w.heap.size + 1 + 1 + 1) (e := 22) (size := 1) (((w.alloc (.cells #[υ P, υ Q, υ G] 24)).alloc (.cells #[υ a, υ b] 75)).alloc (.cells #[υ r0, υ r1, υ s0, υ s1, υ c0, υ c1, υ z0, υ z1] 31)) #[υ c] 1 (by simp) (by decide) rfl
    rw [show (((w.alloc (.cells #[υ P, υ Q, υ G] 24)).alloc (.cells #[υ a, υ b] 75)).alloc (.cells #[υ r0, υ r1, υ s0, υ s1, υ c0, υ c1, υ z0, υ z1] 31)).heap.size = w.heap.size + 1 + 1 + 1 by simp] at h
    exact h)
   have F_g := Lh (show Boxed ((((w.alloc (.cells #[υ P, υ Q, υ G] 24)).alloc (.cells #[υ a, υ b] 75)).alloc (.cells #[υ r0, υ r1, υ s0, υ s1, υ c0, υ c1, υ z0, υ z1] 31)).alloc (.cells #[υ c] 22)) w.heap.size P Q G from (((Boxed.at _ P Q G _ w.heap.size rfl).alloc _).alloc _).alloc _)
   have F_s := Lh (show Pair ((((w.alloc (.cells #[υ P, υ Q, υ G] 24)).alloc (.cells #[υ a, υ b] 75)).alloc (.cells #[υ r0, υ r1, υ s0, υ s1, υ c0, υ c1, υ z0, υ z1] 31)).alloc (.cells #[υ c] 22)) (w.heap.size + 1) a b from ((Pair.at _ a b _ (w.heap.size + 1) (by simp)).alloc _).alloc _)
   have F_p := Lh (show Eight ((((w.alloc (.cells #[υ P, υ Q, υ G] 24)).alloc (.cells #[υ a, υ b] 75)).alloc (.cells #[υ r0, υ r1, υ s0, υ s1, υ c0, υ c1, υ z0, υ z1] 31)).alloc (.cells #[υ c] 22)) (w.heap.size + 1 + 1) r0 r1 s0 s1 c0 c1 z0 z1 from (Eight.at _ r0 r1 s0 s1 c0 c1 z0 z1 _ (w.heap.size + 1 + 1) (by simp)).alloc _)
   have HBW := Lh (show Below w.heap.size w ((((w.alloc (.cells #[υ P, υ Q, υ G] 24)).alloc (.cells #[υ a, υ b] 75)).alloc (.cells #[υ r0, υ r1, υ s0, υ s1, υ c0, υ c1, υ z0, υ z1] 31)).alloc (.cells #[υ c] 22)) from ((((Below.refl _ _).alloc (by simp <;> omega) _).alloc (by simp <;> omega) _).alloc (by simp <;> omega) _).alloc (by simp <;> omega) _)
   go_enter Tryz.func133, Tryz.ntmps133
   go_wp2_with fail
   refine (bitCheck_any _ hP hQ hG (by simp) HOW.o HR.o).mono ?_
   rintro e w1 ⟨rfl, hb1⟩
   replace F_g := Lh (boxed_below F_g.o hb1 (by omega))
   replace F_s := Lh (pair_below F_s.o hb1 (by omega))
   replace F_p := Lh (eight_below F_p.o hb1 (by omega))
   replace HBW := Lh (HBW.o.trans (hb1.mono (by omega)))
   clear hb1 HOW
   obtain ⟨x0, x1, x2, -⟩ := id F_g.o
   obtain ⟨x3, x4, x5, x6, -⟩ := id F_s.o
   go_wp2_with fail
   clear x0 x1 x2 x3 x4 x5 x6
   go_ret2
   exact ⟨rfl, HBW.o⟩
end Go.Proofs.YtlbldpkgnonbpaaGreatDoor
