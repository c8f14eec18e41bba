/- The reference's BitAsked, BitIs, BitHolds, BitGood, BitVerify. -/
import Derived.Test.YtlbldpkgnonbpaaGreatDoorQsP
set_option linter.unusedSimpArgs false
set_option linter.unusedVariables false
set_option maxRecDepth 100000
namespace Go.Proofs.YtlbldpkgnonbpaaGreatDoor
open Go Go.RowKit Num Sha
theorem askS_perm (P Q G y a b r0 r1 s0 s1 : Int) (es : List Int) : askS P Q G es [y, a, b, r0, r1, s0, s1] = askS P Q G es [y, a, b, r0, s0, r1, s1] := by
 have h : okAll P [y, a, b, r0, r1, s0, s1] = okAll P [y, a, b, r0, s0, r1, s1] := by simp [okAll, Bool.and_assoc, Bool.and_left_comm, Bool.and_comm]
 unfold askS
 rw [h]
theorem mems_perm (P Q y a b r0 r1 s0 s1 : Int) : memsP P Q [y, a, b, r0, r1, s0, s1] ↔ memsP P Q [y, a, b, r0, s0, r1, s1] := by
 constructor <;> intro h x hx <;> refine h x ?_ <;> simp only [List.mem_cons, List.not_mem_nil, or_false] at hx ⊢ <;> rcases hx with rfl | rfl | rfl | rfl | rfl | rfl | rfl <;> simp
set_option maxHeartbeats 8000000 in
theorem rBitAsked_any {P Q G y a b r r0 r1 s0 s1 c0 c1 z0 z1 : Int} (w : World) (hP : 0 ≤ P) (hQ : 0 ≤ Q) (hG : 0 ≤ G) (hr : askS P Q G [c0, c1, z0, z1] [y, a, b, r0, s0, r1, s1] = r) :
 Calls Tryz.prog 136 #[.agg #[υ P, υ Q, υ G], υ y, .agg #[υ a, υ b], .agg #[υ r0, υ r1, υ s0, υ s1, υ c0, υ c1, υ z0, υ z1]] w fun e w' => e = .returned (.int .i64 r) ∧ Below w.heap.size w w' := by
 have HR := Lh hr
 clear hr
 have F_g := Lh (show Boxed (((w.alloc (.cells #[υ P, υ Q, υ G] 24)).alloc (.cells #[υ a, υ b] 75)).alloc (.cells #[υ r0, υ r1, υ s0, υ s1, υ c0, υ c1, υ z0, υ z1] 31)) (w.heap.size) P Q G from ((Boxed.at _ P Q G _ (w.heap.size) (by simp)).alloc _).alloc _)
 have F_s := Lh (show Pair (((w.alloc (.cells #[υ P, υ Q, υ G] 24)).alloc (.cells #[υ a, υ b] 75)).alloc (.cells #[υ r0, υ r1, υ s0, υ s1, υ c0, υ c1, υ z0, υ z1] 31)) (w.heap.size + 1) a b from (Pair.at _ a b _ (w.heap.size + 1) (by simp)).alloc _)
 have F_p := Lh (show Arr .u64 (((w.alloc (.cells #[υ P, υ Q, υ G] 24)).alloc (.cells #[υ a, υ b] 75)).alloc (.cells #[υ r0, υ r1, υ s0, υ s1, υ c0, υ c1, υ z0, υ z1] 31)) (w.heap.size + 1 + 1) [r0, r1, s0, s1, c0, c1, z0, z1] from Arr.new .u64 _ [r0, r1, s0, s1, c0, c1, z0, z1] _ (w.heap.size + 1 + 1) (by simp))
 have HBW := Lh (show Below w.heap.size w (((w.alloc (.cells #[υ P, υ Q, υ G] 24)).alloc (.cells #[υ a, υ b] 75)).alloc (.cells #[υ r0, υ r1, υ s0, υ s1, υ c0, υ c1, υ z0, υ z1] 31)) from (((Below.refl _ _).alloc (by simp <;> omega) _).alloc (by simp <;> omega) _).alloc (by simp <;> omega) _)
 go_enter Tryz.func136, Tryz.ntmps136
 obtain ⟨Q0, Q1, Q2, Q3, Q4, Q5, Q6, Q7, Q8, Q9, Qa, Qb, Qc, Qd, Qe, Qf⟩ := Arr.k8 F_p.o
 obtain ⟨xa, xb, xc, -⟩ := id F_g.o
 obtain ⟨ya, yb, yc, yd, -⟩ := id F_s.o
 go_wp2_with fail
 clear xa xb xc ya yb yc yd Q0 Q1 Q2 Q3 Q4 Q5 Q6 Q7 Q8 Q9 Qa Qb Qc Qd Qe Qf
 replace F_g := Lh F_g.o.drew
 replace F_s := Lh F_s.o.drew
 replace F_p := Lh F_p.o.drew
 replace HBW := Lh HBW.o.drew
 refine wp_region_stage 18 (fun w' => SBox w' w.heap.size P Q G ∧ SPair w' (w.heap.size + 1) a b ∧ S8 w' (w.heap.size + 1 + 1) r0 r1 s0 s1 c0 c1 z0 z1) (by kernel_rfl) ?_
 generalize (((w.alloc (.cells #[υ P, υ Q, υ G] 24)).alloc (.cells #[υ a, υ b] 75)).alloc (.cells #[υ r0, υ r1, υ s0, υ s1, υ c0, υ c1, υ z0, υ z1] 31)).drew = wx0 at F_g F_s F_p HBW ⊢
 have hS := And.intro F_g.o.s (And.intro F_s.o.s F_p.o.s8)
 refine tk8 0 (some 9) (.load 24 (.tmp 4)) 24 [18] ?_
 simp only [sY]
 refine tkQ 1 (some 10) (.fieldAddr 31 (.tmp 7) 2) 0 ?_
 simp only [sY]
 refine tkQ 2 (some 11) (.indexAddr 29 (.tmp 10) (.const (.int .i64 0))) 0 ?_
 simp only [sY]
 refine tk8 3 (some 12) (.load 22 (.tmp 11)) 22 [13, 18] ?_
 simp only [sY]
 refine tkQ 4 (some 13) (.fieldAddr 31 (.tmp 7) 2) 0 ?_
 simp only [sY]
 refine tkQ 5 (some 14) (.indexAddr 29 (.tmp 13) (.const (.int .i64 1))) 0 ?_
 simp only [sY]
 refine tk8 6 (some 15) (.load 22 (.tmp 14)) 22 [13, 18] ?_
 simp only [sY]
 refine tkQ 7 (some 16) (.fieldAddr 31 (.tmp 7) 3) 0 ?_
 simp only [sY]
 refine tkQ 8 (some 17) (.indexAddr 29 (.tmp 16) (.const (.int .i64 0))) 0 ?_
 simp only [sY]
 refine tk8 9 (some 18) (.load 22 (.tmp 17)) 22 [13, 18] ?_
 simp only [sY]
 refine tkQ 10 (some 19) (.fieldAddr 31 (.tmp 7) 3) 0 ?_
 simp only [sY]
 refine tkQ 11 (some 20) (.indexAddr 29 (.tmp 19) (.const (.int .i64 1))) 0 ?_
 simp only [sY]
 refine tk8 12 (some 21) (.load 22 (.tmp 20)) 22 [13, 18] ?_
 simp only [sY]
 refine tkQ 14 (some 23) (.move (.tmp 1)) 22 ?_
 simp only [sY]
 refine tk8 15 (some 24) (.load 75 (.tmp 6)) 75 [17, 18] ?_
 simp only [sY]
 refine tk8 16 (some 25) (.load 31 (.tmp 7)) 31 [17, 18] ?_
 simp only [sY]
 refine wpAnyB_two (i := 13) (j := 17) (some 22) (Op.buildSlice 34 4 #[(0, Operand.tmp 12), (1, Operand.tmp 15), (2, Operand.tmp 18), (3, Operand.tmp 21)]) 34 (some 26) (Op.call { callee := Callee.value (Operand.func 110), args := #[Operand.tmp 23, Operand.tmp 24, Operand.tmp 25], argTypes := #[22, 75, 31] }) 34 ⟨_, rfl, rfl, rfl, rfl, rfl⟩ ⟨_, rfl, rfl, rfl, rfl, rfl⟩ (by kernel_rfl) (fun K hK => ?_) (fun K hK => ?_)
 · skip
   unfold bareOp
   go_wp2_with fail
   have F_es := Lh (show ShL (wx0.alloc (.cells #[υ c0, υ c1, υ z0, υ z1] 22)) (some ⟨wx0.heap.size, 0, none⟩) 4 4 [c0, c1, z0, z1] from ShL.laid wx0 [c0, c1, z0, z1] _ 22 _ 4 4 rfl rfl rfl)
   replace F_g := Lh (F_g.o.alloc (.cells #[υ c0, υ c1, υ z0, υ z1] 22))
   replace F_s := Lh (F_s.o.alloc (.cells #[υ c0, υ c1, υ z0, υ z1] 22))
   replace F_p := Lh (F_p.o.alloc (.cells #[υ c0, υ c1, υ z0, υ z1] 22))
   replace HBW := Lh (HBW.o.alloc HBW.o.size (.cells #[υ c0, υ c1, υ z0, υ z1] 22))
   replace hS := And.intro F_g.o.s (And.intro F_s.o.s F_p.o.s8)
   generalize wx0.alloc (.cells #[υ c0, υ c1, υ z0, υ z1] 22) = wx1 at F_g F_s F_p F_es HBW hS ⊢
   refine hK.o _ _ (fun _ => hS) ?_
   clear hK K
   try simp only [sY]
   refine onl (i := 17) (some 26) (.call { callee := .value (.func 110), args := #[.tmp 23, .tmp 24, .tmp 25], argTypes := #[22, 75, 31] }) 34 (fun K hK => ?_)
   unfold bareOp
   go_wp2_with (go_at_call 110; refine (rlist_any _).mono ?_; rintro e wx2 ⟨BL, rfl, hms, hbwx2⟩)
   replace F_g := Lh (F_g.o.keep hbwx2)
   replace F_s := Lh (F_s.o.keep hbwx2)
   replace F_p := Lh (F_p.o.keep hbwx2)
   replace F_es := Lh (F_es.o.keep hbwx2)
   replace HBW := Kt HBW hbwx2
   replace hS := And.intro F_g.o.s (And.intro F_s.o.s F_p.o.s8)
   clear hbwx2
   have F_ms := Lh hms
   clear hms
   refine hK.o _ _ (fun _ => hS) ?_
   clear hK K
   try simp only [sY]
   refine onl (i := 18) (some 27) (.call { callee := .value (.func 75), args := #[.tmp 9, .tmp 22, .tmp 26], argTypes := #[24, 34, 34] }) 3 (fun K hK => ?_)
   unfold bareOp
   go_wp2_with (go_at_call 75; refine (rAsked_any _ hP hQ hG F_es.o F_ms.o (by simp) (by simp) HR.o).mono ?_; rintro e wx3 ⟨rfl, hbwx3⟩)
   replace F_g := Lh (F_g.o.keep hbwx3)
   replace F_s := Lh (F_s.o.keep hbwx3)
   replace F_p := Lh (F_p.o.keep hbwx3)
   replace F_es := Lh (F_es.o.keep hbwx3)
   replace F_ms := Lh (F_ms.o.keep hbwx3)
   replace HBW := Kt HBW hbwx3
   replace hS := And.intro F_g.o.s (And.intro F_s.o.s F_p.o.s8)
   clear hbwx3
   refine hK.o _ _ lt8 ?_
   clear hK K
   try simp only [sY]
   refine tkP (i := 19) (some 8) (.assign (.tmp 27)) 3 lt8 ?_
   simp only [sY]
   refine wpAnyB_done (by kernel_rfl) ?_ _
   go_wp2_with fail
   go_ret
   exact ⟨rfl, HBW.o⟩
 · skip
   unfold bareOp
   go_wp2_with (go_at_call 110; refine (rlist_any _).mono ?_; rintro e wx1 ⟨BL, rfl, hms, hbwx1⟩)
   replace F_g := Lh (F_g.o.keep hbwx1)
   replace F_s := Lh (F_s.o.keep hbwx1)
   replace F_p := Lh (F_p.o.keep hbwx1)
   replace HBW := Kt HBW hbwx1
   replace hS := And.intro F_g.o.s (And.intro F_s.o.s F_p.o.s8)
   clear hbwx1
   have F_ms := Lh hms
   clear hms
   refine hK.o _ _ (fun _ => hS) ?_
   clear hK K
   try simp only [sY]
   refine onl (i := 13) (some 22) (.buildSlice 34 4 #[(0, .tmp 12), (1, .tmp 15), (2, .tmp 18), (3, .tmp 21)]) 34 (fun K hK => ?_)
   unfold bareOp
   go_wp2_with fail
   have F_es := Lh (show ShL (wx1.alloc (.cells #[υ c0, υ c1, υ z0, υ z1] 22)) (some ⟨wx1.heap.size, 0, none⟩) 4 4 [c0, c1, z0, z1] from ShL.laid wx1 [c0, c1, z0, z1] _ 22 _ 4 4 rfl rfl rfl)
   replace F_g := Lh (F_g.o.alloc (.cells #[υ c0, υ c1, υ z0, υ z1] 22))
   replace F_s := Lh (F_s.o.alloc (.cells #[υ c0, υ c1, υ z0, υ z1] 22))
   replace F_p := Lh (F_p.o.alloc (.cells #[υ c0, υ c1, υ z0, υ z1] 22))
   replace F_ms := Lh (F_ms.o.alloc (.cells #[υ c0, υ c1, υ z0, υ z1] 22))
   replace HBW := Lh (HBW.o.alloc HBW.o.size (.cells #[υ c0, υ c1, υ z0, υ z1] 22))
   replace hS := And.intro F_g.o.s (And.intro F_s.o.s F_p.o.s8)
   generalize wx1.alloc (.cells #[υ c0, υ c1, υ z0, υ z1] 22) = wx2 at F_g F_s F_p F_ms F_es HBW hS ⊢
   refine hK.o _ _ (fun _ => hS) ?_
   clear hK K
   try simp only [sY]
   refine onl (i := 18) (some 27) (.call { callee := .value (.func 75), args := #[.tmp 9, .tmp 22, .tmp 26], argTypes := #[24, 34, 34] }) 3 (fun K hK => ?_)
   unfold bareOp
   go_wp2_with (go_at_call 75; refine (rAsked_any _ hP hQ hG F_es.o F_ms.o (by simp) (by simp) HR.o).mono ?_; rintro e wx3 ⟨rfl, hbwx3⟩)
   replace F_g := Lh (F_g.o.keep hbwx3)
   replace F_s := Lh (F_s.o.keep hbwx3)
   replace F_p := Lh (F_p.o.keep hbwx3)
   replace F_ms := Lh (F_ms.o.keep hbwx3)
   replace F_es := Lh (F_es.o.keep hbwx3)
   replace HBW := Kt HBW hbwx3
   replace hS := And.intro F_g.o.s (And.intro F_s.o.s F_p.o.s8)
   clear hbwx3
   refine hK.o _ _ lt8 ?_
   clear hK K
   try simp only [sY]
   refine tkP (i := 19) (some 8) (.assign (.tmp 27)) 3 lt8 ?_
   simp only [sY]
   refine wpAnyB_done (by kernel_rfl) ?_ _
   go_wp2_with fail
   go_ret
   exact ⟨rfl, HBW.o⟩
set_option maxHeartbeats 8000000 in
theorem rBitIs_any {P Q G y a b r0 r1 s0 s1 c0 c1 z0 z1 c : Int} {v : Bool} (w : World) (hH : Has P Q G) (y0 : 0 ≤ y) (yP : y < P) (a0 : 0 ≤ a) (aP : a < P) (b_0 : 0 ≤ b) (b_P : b < P) (r0_0 : 0 ≤ r0) (r0_P : r0 < P) (r1_0 : 0 ≤ r1) (r1_P : r1 < P) (s0_0 : 0 ≤ s0) (s0_P : s0 < P) (s1_0 : 0 ≤ s1) (s1_P : s1 < P) (c0_0 : 0 ≤ c0) (c0_Q : c0 < Q) (c1_0 : 0 ≤ c1) (c1_Q : c1 < Q) (z0_0 : 0 ≤ z0) (z0_Q : z0 < Q) (z1_0 : 0 ≤ z1) (z1_Q : z1 < Q) (hv : v = true ↔ bhP P Q G y a b r0 r1 s0 s1 c0 c1 z0 z1 c) :
 Calls Tryz.prog 152 #[.agg #[υ P, υ Q, υ G], υ y, .agg #[υ a, υ b], .agg #[υ r0, υ r1, υ s0, υ s1, υ c0, υ c1, υ z0, υ z1], υ c] w fun e w' => e = .returned (.bool v) ∧ Below w.heap.size w w' := by
 obtain ⟨p5, p3, hQ', pq, g2, gP⟩ := id hH
 have hP1 : 1 ≤ P := by omega
 have hGM : G < 2147483648 := by omega
 have q3 : Q < 1073741824 := by omega
 have q2 : 2 ≤ Q := by omega
 have HH := Lh hH
 clear hH pq
 have hG : 0 ≤ G := by omega
 have PM : P < 2147483648 := by omega
 obtain ⟨nn, hnn⟩ : ∃ nn, (0 - 1) % Q = nn := ⟨_, rfl⟩
 obtain ⟨pp, hpp⟩ : ∃ pp, powm G nn P = pp := ⟨_, rfl⟩
 obtain ⟨t, htt⟩ : ∃ t, b * pp % P = t := ⟨_, rfl⟩
 unfold bhP at hv
 rw [hnn, hpp, htt] at hv
 have t_0 : 0 ≤ t := by rw [← htt]; exact Int.emod_nonneg _ (by omega)
 have t_P : t < P := by rw [← htt]; exact Int.emod_lt_of_pos _ (by omega)
 obtain ⟨m, hm⟩ : ∃ m, (c0 + c1) % Q = m := ⟨_, rfl⟩
 obtain ⟨pz, hpz⟩ : ∃ pz, powm G 0 P = pz := ⟨_, rfl⟩
 have HPZ := Lh hpz
 have HBZ := Lh (show b * pz % P = b by rw [← hpz, powm_zero_one (by omega), Int.mul_one]; exact Int.emod_eq_of_lt b_0 b_P)
 have HM := Lh hm
 have HV := Lh hv
 have HNN := Lh hnn
 have HPP := Lh hpp
 have HTT := Lh htt
 have Uc0 := Lh (U64.of_lt c0_0 (by omega))
 have Uc1 := Lh (U64.of_lt c1_0 (by omega))
 have Uz0 := Lh (U64.of_lt z0_0 (by omega))
 have Uz1 := Lh (U64.of_lt z1_0 (by omega))
 clear hv hnn hpp htt hm hpz
 have F_g := Lh (show Boxed (((w.alloc (.cells #[υ P, υ Q, υ G] 24)).alloc (.cells #[υ a, υ b] 75)).alloc (.cells #[υ r0, υ r1, υ s0, υ s1, υ c0, υ c1, υ z0, υ z1] 31)) (w.heap.size) P Q G from ((Boxed.at _ P Q G _ (w.heap.size) (by simp)).alloc _).alloc _)
 have F_s := Lh (show Pair (((w.alloc (.cells #[υ P, υ Q, υ G] 24)).alloc (.cells #[υ a, υ b] 75)).alloc (.cells #[υ r0, υ r1, υ s0, υ s1, υ c0, υ c1, υ z0, υ z1] 31)) (w.heap.size + 1) a b from (Pair.at _ a b _ (w.heap.size + 1) (by simp)).alloc _)
 have F_p := Lh (show Arr .u64 (((w.alloc (.cells #[υ P, υ Q, υ G] 24)).alloc (.cells #[υ a, υ b] 75)).alloc (.cells #[υ r0, υ r1, υ s0, υ s1, υ c0, υ c1, υ z0, υ z1] 31)) (w.heap.size + 1 + 1) [r0, r1, s0, s1, c0, c1, z0, z1] from Arr.new .u64 _ [r0, r1, s0, s1, c0, c1, z0, z1] _ (w.heap.size + 1 + 1) (by simp))
 have HBW := Lh (show Below w.heap.size w (((w.alloc (.cells #[υ P, υ Q, υ G] 24)).alloc (.cells #[υ a, υ b] 75)).alloc (.cells #[υ r0, υ r1, υ s0, υ s1, υ c0, υ c1, υ z0, υ z1] 31)) from (((Below.refl _ _).alloc (by simp <;> omega) _).alloc (by simp <;> omega) _).alloc (by simp <;> omega) _)
 go_enter Tryz.func152, Tryz.ntmps152
 obtain ⟨Q0, Q1, Q2, Q3, Q4, Q5, Q6, Q7, Q8, Q9, Qa, Qb, Qc, Qd, Qe, Qf⟩ := Arr.k8 F_p.o
 obtain ⟨xa, xb, xc, -⟩ := id F_g.o
 obtain ⟨ya, yb, yc, yd, -⟩ := id F_s.o
 go_wp2_with fail
 clear xa xb xc ya yb yc yd Q0 Q1 Q2 Q3 Q4 Q5 Q6 Q7 Q8 Q9 Qa Qb Qc Qd Qe Qf
 go_loopw [11] (fun c11 wr => ∃ k : Nat, k ≤ 2 ∧ c11 = .int .i64 k ∧ Hid (Boxed wr w.heap.size P Q G) ∧ Hid (Pair wr (w.heap.size + 1) a b) ∧ Hid (Arr .u64 wr (w.heap.size + 1 + 1) [r0, r1, s0, s1, c0, c1, z0, z1]) ∧ Hid (Below w.heap.size w wr) ∧ Hid (1 ≤ k → (powm G z0 P = r0 * powm a c0 P % P ∧ powm y z0 P = s0 * powm b c0 P % P)) ∧ Hid (2 ≤ k → (powm G z1 P = r1 * powm a c1 P % P ∧ powm y z1 P = s1 * powm t c1 P % P))) (fun c11 _ => 2 - (intOf c11).toNat)
 case atStart => exact ⟨0, by omega, rfl, F_g.o, F_s.o, F_p.o, HBW.o, fun h => absurd h (by omega), fun h => absurd h (by omega)⟩
 case round =>
  clear F_g F_s F_p HBW
  obtain ⟨k, hk, rfl, F_g, F_s, F_p, HBW, HX0_, HX1_⟩ := hrel
  obtain rfl | rfl | rfl : k = 0 ∨ k = 1 ∨ k = 2 := by omega
  case inl =>
   clear HX0_ HX1_
   rw [show ((0 : Nat) : Int) = 0 from rfl]
   by_cases hE : powm G z0 P = r0 * powm a c0 P % P
   case neg =>
    have HE := Lh hE
    have HZ := Lh (show false = v by rw [Bool.eq_iff_iff, HV.o]; simp [hE])
    clear hE
    obtain ⟨Q0, Q1, Q2, Q3, Q4, Q5, Q6, Q7, Q8, Q9, Qa, Qb, Qc, Qd, Qe, Qf⟩ := Arr.k8 F_p.o
    obtain ⟨xa, xb, xc, -⟩ := id F_g.o
    obtain ⟨ya, yb, yc, yd, -⟩ := id F_s.o
    go_wp2_with fail
    clear xa xb xc ya yb yc yd Q0 Q1 Q2 Q3 Q4 Q5 Q6 Q7 Q8 Q9 Qa Qb Qc Qd Qe Qf
    replace F_g := Lh F_g.o.drew
    replace F_s := Lh F_s.o.drew
    replace F_p := Lh F_p.o.drew
    replace HBW := Lh HBW.o.drew
    have hS := And.intro F_g.o.s (And.intro F_s.o.s F_p.o.s8)
    refine wp_region_stage 17 (fun w' => SBox w' w.heap.size P Q G ∧ SPair w' (w.heap.size + 1) a b ∧ S8 w' (w.heap.size + 1 + 1) r0 r1 s0 s1 c0 c1 z0 z1) (by kernel_rfl) ?_
    refine tk8 0 (some 16) (.load 24 (.tmp 5)) 24 [17] ?_
    simp only [sY]
    refine tkQ 1 (some 17) (.fieldAddr 24 (.tmp 5) 2) 0 ?_
    simp only [sY]
    refine tk8 2 (some 18) (.load 22 (.tmp 17)) 22 [17] ?_
    simp only [sY]
    refine tkQ 3 (some 19) (.fieldAddr 75 (.tmp 7) 0) 0 ?_
    simp only [sY]
    refine tk8 4 (some 20) (.load 22 (.tmp 19)) 22 [17] ?_
    simp only [sY]
    refine tkQ 5 (some 21) (.move (.tmp 11)) 3 ?_
    simp only [sY]
    refine tkQ 6 (some 22) (.fieldAddr 31 (.tmp 8) 0) 0 ?_
    simp only [sY]
    refine tkQ 7 (some 23) (.indexAddr 29 (.tmp 22) (.tmp 21)) 0 ?_
    simp only [sY]
    refine tk8 8 (some 24) (.load 22 (.tmp 23)) 22 [17] ?_
    simp only [sY]
    refine tkQ 9 (some 25) (.move (.tmp 11)) 3 ?_
    simp only [sY]
    refine tkQ 10 (some 26) (.fieldAddr 31 (.tmp 8) 2) 0 ?_
    simp only [sY]
    refine tkQ 11 (some 27) (.indexAddr 29 (.tmp 26) (.tmp 25)) 0 ?_
    simp only [sY]
    refine tk8 12 (some 28) (.load 22 (.tmp 27)) 22 [17] ?_
    simp only [sY]
    refine tkQ 13 (some 29) (.move (.tmp 11)) 3 ?_
    simp only [sY]
    refine tkQ 14 (some 30) (.fieldAddr 31 (.tmp 8) 3) 0 ?_
    simp only [sY]
    refine tkQ 15 (some 31) (.indexAddr 29 (.tmp 30) (.tmp 29)) 0 ?_
    simp only [sY]
    refine tk8 16 (some 32) (.load 22 (.tmp 31)) 22 [17] ?_
    simp only [sY]
    refine onl (i := 17) (some 33) (.call { callee := .value (.func 163), args := #[.tmp 16, .tmp 18, .tmp 20, .tmp 24, .tmp 28, .tmp 32], argTypes := #[24, 22, 22, 22, 22, 22] }) 4 (fun K hK => ?_)
    unfold bareOp
    go_wp2_with (go_at_call 163; refine (reven_any (v := false) _ hP1 PM hG gP a0 aP r0_0 r0_P Uc0.o Uz0.o ⟨fun h => (by cases h), fun h => absurd h HE.o⟩).mono ?_; rintro e w11 ⟨rfl, hb11⟩)
    replace F_g := Lh (F_g.o.keep hb11)
    replace F_s := Lh (F_s.o.keep hb11)
    replace F_p := Lh (F_p.o.keep hb11)
    replace HBW := Kt HBW hb11
    replace hS := And.intro F_g.o.s (And.intro F_s.o.s F_p.o.s8)
    clear hb11
    refine hK.o _ _ lt8 ?_
    clear hK K
    try simp only [sY]
    refine tkP (i := 18) (some 34) (.unOp .not 4 (.tmp 33)) 4 lt8 ?_
    simp only [sY]
    refine tkP (i := 19) (some 35) (.move (.tmp 34)) 4 lt8 ?_
    simp only [sY]
    refine skG (i := 20) (some 36) (.load 24 (.tmp 5)) 24 (some (19, false)) lt8 ?_
    simp only [sY]
    refine skG (i := 21) (some 37) (.move (.tmp 1)) 22 (some (19, false)) lt8 ?_
    simp only [sY]
    refine skG (i := 22) (some 38) (.load 24 (.tmp 5)) 24 (some (19, false)) lt8 ?_
    simp only [sY]
    refine skG (i := 23) (some 39) (.load 75 (.tmp 7)) 75 (some (19, false)) lt8 ?_
    simp only [sY]
    refine skG (i := 24) (some 40) (.move (.tmp 11)) 3 (some (19, false)) lt8 ?_
    simp only [sY]
    refine skG (i := 25) (some 41) (.call { callee := .value (.func 108), args := #[.tmp 38, .tmp 39, .tmp 40], argTypes := #[24, 75, 3] }) 22 (some (19, false)) lt8 ?_
    simp only [sY]
    refine skG (i := 26) (some 42) (.move (.tmp 11)) 3 (some (19, false)) lt8 ?_
    simp only [sY]
    refine skG (i := 27) (some 43) (.fieldAddr 31 (.tmp 8) 1) 0 (some (19, false)) lt8 ?_
    simp only [sY]
    refine skG (i := 28) (some 44) (.indexAddr 29 (.tmp 43) (.tmp 42)) 0 (some (19, false)) lt8 ?_
    simp only [sY]
    refine skG (i := 29) (some 45) (.load 22 (.tmp 44)) 22 (some (19, false)) lt8 ?_
    simp only [sY]
    refine skG (i := 30) (some 46) (.move (.tmp 11)) 3 (some (19, false)) lt8 ?_
    simp only [sY]
    refine skG (i := 31) (some 47) (.fieldAddr 31 (.tmp 8) 2) 0 (some (19, false)) lt8 ?_
    simp only [sY]
    refine skG (i := 32) (some 48) (.indexAddr 29 (.tmp 47) (.tmp 46)) 0 (some (19, false)) lt8 ?_
    simp only [sY]
    refine skG (i := 33) (some 49) (.load 22 (.tmp 48)) 22 (some (19, false)) lt8 ?_
    simp only [sY]
    refine skG (i := 34) (some 50) (.move (.tmp 11)) 3 (some (19, false)) lt8 ?_
    simp only [sY]
    refine skG (i := 35) (some 51) (.fieldAddr 31 (.tmp 8) 3) 0 (some (19, false)) lt8 ?_
    simp only [sY]
    refine skG (i := 36) (some 52) (.indexAddr 29 (.tmp 51) (.tmp 50)) 0 (some (19, false)) lt8 ?_
    simp only [sY]
    refine skG (i := 37) (some 53) (.load 22 (.tmp 52)) 22 (some (19, false)) lt8 ?_
    simp only [sY]
    refine skG (i := 38) (some 54) (.call { callee := .value (.func 163), args := #[.tmp 36, .tmp 37, .tmp 41, .tmp 45, .tmp 49, .tmp 53], argTypes := #[24, 22, 22, 22, 22, 22] }) 4 (some (19, false)) lt8 ?_
    simp only [sY]
    refine skG (i := 39) (some 55) (.unOp .not 4 (.tmp 54)) 4 (some (19, false)) lt8 ?_
    simp only [sY]
    refine tkP (i := 40) (some 56) (.pick (.tmp 35) (.const (.bool true)) (.tmp 55)) 4 lt8 ?_
    simp only [sY]
    refine wpAnyB_done (by kernel_rfl) ?_ _
    clear hS
    go_wp2_with fail
    go_ret
    exact ⟨ret_bool HZ.o, HBW.o⟩
   case pos =>
    by_cases hF : powm y z0 P = s0 * powm b c0 P % P
    case neg =>
     have HE := Lh hE
     have HF := Lh hF
     have HZ := Lh (show false = v by rw [Bool.eq_iff_iff, HV.o]; simp [hF])
     clear hE hF
     obtain ⟨Q0, Q1, Q2, Q3, Q4, Q5, Q6, Q7, Q8, Q9, Qa, Qb, Qc, Qd, Qe, Qf⟩ := Arr.k8 F_p.o
     obtain ⟨xa, xb, xc, -⟩ := id F_g.o
     obtain ⟨ya, yb, yc, yd, -⟩ := id F_s.o
     go_wp2_with fail
     clear xa xb xc ya yb yc yd Q0 Q1 Q2 Q3 Q4 Q5 Q6 Q7 Q8 Q9 Qa Qb Qc Qd Qe Qf
     replace F_g := Lh F_g.o.drew
     replace F_s := Lh F_s.o.drew
     replace F_p := Lh F_p.o.drew
     replace HBW := Lh HBW.o.drew
     have hS := And.intro F_g.o.s (And.intro F_s.o.s F_p.o.s8)
     refine wp_region_stage 38 (fun w' => SBox w' w.heap.size P Q G ∧ SPair w' (w.heap.size + 1) a b ∧ S8 w' (w.heap.size + 1 + 1) r0 r1 s0 s1 c0 c1 z0 z1) (by kernel_rfl) ?_
     refine tk8 0 (some 16) (.load 24 (.tmp 5)) 24 [17, 18, 19, 20, 21, 22, 23, 24, 25, 26, 27, 28, 29, 30, 31, 32, 33, 34, 35, 36, 37, 38] ?_
     simp only [sY]
     refine tkQ 1 (some 17) (.fieldAddr 24 (.tmp 5) 2) 0 ?_
     simp only [sY]
     refine tk8 2 (some 18) (.load 22 (.tmp 17)) 22 [17, 18, 19, 20, 21, 22, 23, 24, 25, 26, 27, 28, 29, 30, 31, 32, 33, 34, 35, 36, 37, 38] ?_
     simp only [sY]
     refine tkQ 3 (some 19) (.fieldAddr 75 (.tmp 7) 0) 0 ?_
     simp only [sY]
     refine tk8 4 (some 20) (.load 22 (.tmp 19)) 22 [17, 18, 19, 20, 21, 22, 23, 24, 25, 26, 27, 28, 29, 30, 31, 32, 33, 34, 35, 36, 37, 38] ?_
     simp only [sY]
     refine tkQ 5 (some 21) (.move (.tmp 11)) 3 ?_
     simp only [sY]
     refine tkQ 6 (some 22) (.fieldAddr 31 (.tmp 8) 0) 0 ?_
     simp only [sY]
     refine tkQ 7 (some 23) (.indexAddr 29 (.tmp 22) (.tmp 21)) 0 ?_
     simp only [sY]
     refine tk8 8 (some 24) (.load 22 (.tmp 23)) 22 [17, 18, 19, 20, 21, 22, 23, 24, 25, 26, 27, 28, 29, 30, 31, 32, 33, 34, 35, 36, 37, 38] ?_
     simp only [sY]
     refine tkQ 9 (some 25) (.move (.tmp 11)) 3 ?_
     simp only [sY]
     refine tkQ 10 (some 26) (.fieldAddr 31 (.tmp 8) 2) 0 ?_
     simp only [sY]
     refine tkQ 11 (some 27) (.indexAddr 29 (.tmp 26) (.tmp 25)) 0 ?_
     simp only [sY]
     refine tk8 12 (some 28) (.load 22 (.tmp 27)) 22 [17, 18, 19, 20, 21, 22, 23, 24, 25, 26, 27, 28, 29, 30, 31, 32, 33, 34, 35, 36, 37, 38] ?_
     simp only [sY]
     refine tkQ 13 (some 29) (.move (.tmp 11)) 3 ?_
     simp only [sY]
     refine tkQ 14 (some 30) (.fieldAddr 31 (.tmp 8) 3) 0 ?_
     simp only [sY]
     refine tkQ 15 (some 31) (.indexAddr 29 (.tmp 30) (.tmp 29)) 0 ?_
     simp only [sY]
     refine tk8 16 (some 32) (.load 22 (.tmp 31)) 22 [17, 18, 19, 20, 21, 22, 23, 24, 25, 26, 27, 28, 29, 30, 31, 32, 33, 34, 35, 36, 37, 38] ?_
     simp only [sY]
     refine onl (i := 17) (some 33) (.call { callee := .value (.func 163), args := #[.tmp 16, .tmp 18, .tmp 20, .tmp 24, .tmp 28, .tmp 32], argTypes := #[24, 22, 22, 22, 22, 22] }) 4 (fun K hK => ?_)
     unfold bareOp
     go_wp2_with (go_at_call 163; refine (reven_any (v := true) _ hP1 PM hG gP a0 aP r0_0 r0_P Uc0.o Uz0.o ⟨fun _ => HE.o, fun _ => rfl⟩).mono ?_; rintro e w11 ⟨rfl, hb11⟩)
     replace F_g := Lh (F_g.o.keep hb11)
     replace F_s := Lh (F_s.o.keep hb11)
     replace F_p := Lh (F_p.o.keep hb11)
     replace HBW := Kt HBW hb11
     replace hS := And.intro F_g.o.s (And.intro F_s.o.s F_p.o.s8)
     clear hb11
     refine hK.o _ _ (fun _ => hS) ?_
     clear hK K
     try simp only [sY]
     refine tkQ 18 (some 34) (.unOp .not 4 (.tmp 33)) 4 ?_
     simp only [sY]
     refine tkQ 19 (some 35) (.move (.tmp 34)) 4 ?_
     simp only [sY]
     refine tkLG (i := 20) (some 36) (.load 24 (.tmp 5)) 24 (some (19, false)) [38] (v := ?_) hS (fun w' hSw => ?_) ?_
     rotate_left
     · obtain ⟨⟨Z0, Z1, Z2⟩, ⟨Z3, Z4⟩, ⟨Z5, Z6, Z7, Z8, Z9, Za, Zb, Zc⟩⟩ := hSw
       unfold bareOp; go_simp; try with_reducible rfl
     simp only [sY]
     refine tkPG (i := 21) (some 37) (.move (.tmp 1)) 22 (some (19, false)) (fun _ => hS) ?_
     simp only [sY]
     refine tkLG (i := 22) (some 38) (.load 24 (.tmp 5)) 24 (some (19, false)) [25, 38] (v := ?_) hS (fun w' hSw => ?_) ?_
     rotate_left
     · obtain ⟨⟨Z0, Z1, Z2⟩, ⟨Z3, Z4⟩, ⟨Z5, Z6, Z7, Z8, Z9, Za, Zb, Zc⟩⟩ := hSw
       unfold bareOp; go_simp; try with_reducible rfl
     simp only [sY]
     refine tkLG (i := 23) (some 39) (.load 75 (.tmp 7)) 75 (some (19, false)) [25, 38] (v := ?_) hS (fun w' hSw => ?_) ?_
     rotate_left
     · obtain ⟨⟨Z0, Z1, Z2⟩, ⟨Z3, Z4⟩, ⟨Z5, Z6, Z7, Z8, Z9, Za, Zb, Zc⟩⟩ := hSw
       unfold bareOp; go_simp; try with_reducible rfl
     simp only [sY]
     refine tkPG (i := 24) (some 40) (.move (.tmp 11)) 3 (some (19, false)) (fun _ => hS) ?_
     simp only [sY]
     refine tkPG (i := 26) (some 42) (.move (.tmp 11)) 3 (some (19, false)) (fun _ => hS) ?_
     simp only [sY]
     refine tkPG (i := 27) (some 43) (.fieldAddr 31 (.tmp 8) 1) 0 (some (19, false)) (fun _ => hS) ?_
     simp only [sY]
     refine tkPG (i := 28) (some 44) (.indexAddr 29 (.tmp 43) (.tmp 42)) 0 (some (19, false)) (fun _ => hS) ?_
     simp only [sY]
     refine tkLG (i := 29) (some 45) (.load 22 (.tmp 44)) 22 (some (19, false)) [38] (v := ?_) hS (fun w' hSw => ?_) ?_
     rotate_left
     · obtain ⟨⟨Z0, Z1, Z2⟩, ⟨Z3, Z4⟩, ⟨Z5, Z6, Z7, Z8, Z9, Za, Zb, Zc⟩⟩ := hSw
       unfold bareOp; go_simp; try with_reducible rfl
     simp only [sY]
     refine tkPG (i := 30) (some 46) (.move (.tmp 11)) 3 (some (19, false)) (fun _ => hS) ?_
     simp only [sY]
     refine tkPG (i := 31) (some 47) (.fieldAddr 31 (.tmp 8) 2) 0 (some (19, false)) (fun _ => hS) ?_
     simp only [sY]
     refine tkPG (i := 32) (some 48) (.indexAddr 29 (.tmp 47) (.tmp 46)) 0 (some (19, false)) (fun _ => hS) ?_
     simp only [sY]
     refine tkLG (i := 33) (some 49) (.load 22 (.tmp 48)) 22 (some (19, false)) [38] (v := ?_) hS (fun w' hSw => ?_) ?_
     rotate_left
     · obtain ⟨⟨Z0, Z1, Z2⟩, ⟨Z3, Z4⟩, ⟨Z5, Z6, Z7, Z8, Z9, Za, Zb, Zc⟩⟩ := hSw
       unfold bareOp; go_simp; try with_reducible rfl
     simp only [sY]
     refine tkPG (i := 34) (some 50) (.move (.tmp 11)) 3 (some (19, false)) (fun _ => hS) ?_
     simp only [sY]
     refine tkPG (i := 35) (some 51) (.fieldAddr 31 (.tmp 8) 3) 0 (some (19, false)) (fun _ => hS) ?_
     simp only [sY]
     refine tkPG (i := 36) (some 52) (.indexAddr 29 (.tmp 51) (.tmp 50)) 0 (some (19, false)) (fun _ => hS) ?_
     simp only [sY]
     refine tkLG (i := 37) (some 53) (.load 22 (.tmp 52)) 22 (some (19, false)) [38] (v := ?_) hS (fun w' hSw => ?_) ?_
     rotate_left
     · obtain ⟨⟨Z0, Z1, Z2⟩, ⟨Z3, Z4⟩, ⟨Z5, Z6, Z7, Z8, Z9, Za, Zb, Zc⟩⟩ := hSw
       unfold bareOp; go_simp; try with_reducible rfl
     simp only [sY]
     refine wpAnyB_onlyG (i := 25) (some 41) (.call { callee := .value (.func 108), args := #[.tmp 38, .tmp 39, .tmp 40], argTypes := #[24, 75, 3] }) 22 (some (19, false)) ⟨_, rfl, rfl, rfl, rfl, rfl⟩ (by kernel_rfl) rfl (fun K hK => ?_)
     unfold bareOp
     go_wp2_with (go_at_call 108; refine (rWithout0_any _ HH.o b_0 b_P (show (0 - 0) % Q = 0 by simp) HPZ.o HBZ.o).mono ?_; rintro e w12 ⟨rfl, hb12⟩)
     replace F_g := Lh (F_g.o.keep hb12)
     replace F_s := Lh (F_s.o.keep hb12)
     replace F_p := Lh (F_p.o.keep hb12)
     replace HBW := Kt HBW hb12
     replace hS := And.intro F_g.o.s (And.intro F_s.o.s F_p.o.s8)
     clear hb12
     refine hK.o _ _ (fun _ => hS) ?_
     clear hK K
     try simp only [sY]
     refine wpAnyB_onlyG (i := 38) (some 54) (.call { callee := .value (.func 163), args := #[.tmp 36, .tmp 37, .tmp 41, .tmp 45, .tmp 49, .tmp 53], argTypes := #[24, 22, 22, 22, 22, 22] }) 4 (some (19, false)) ⟨_, rfl, rfl, rfl, rfl, rfl⟩ (by kernel_rfl) rfl (fun K hK => ?_)
     unfold bareOp
     go_wp2_with (go_at_call 163; refine (reven_any (v := false) _ hP1 PM y0 yP b_0 b_P s0_0 s0_P Uc0.o Uz0.o ⟨fun h => (by cases h), fun h => absurd h HF.o⟩).mono ?_; rintro e w13 ⟨rfl, hb13⟩)
     replace F_g := Lh (F_g.o.keep hb13)
     replace F_s := Lh (F_s.o.keep hb13)
     replace F_p := Lh (F_p.o.keep hb13)
     replace HBW := Kt HBW hb13
     replace hS := And.intro F_g.o.s (And.intro F_s.o.s F_p.o.s8)
     clear hb13
     refine hK.o _ _ lt8 ?_
     clear hK K
     try simp only [sY]
     refine tkPG (i := 39) (some 55) (.unOp .not 4 (.tmp 54)) 4 (some (19, false)) lt8 ?_
     simp only [sY]
     refine tkP (i := 40) (some 56) (.pick (.tmp 35) (.const (.bool true)) (.tmp 55)) 4 lt8 ?_
     simp only [sY]
     refine wpAnyB_done (by kernel_rfl) ?_ _
     clear hS
     go_wp2_with fail
     go_ret
     exact ⟨ret_bool HZ.o, HBW.o⟩
    case pos =>
     have HE := Lh hE
     have HF := Lh hF
     clear hE hF
     obtain ⟨Q0, Q1, Q2, Q3, Q4, Q5, Q6, Q7, Q8, Q9, Qa, Qb, Qc, Qd, Qe, Qf⟩ := Arr.k8 F_p.o
     obtain ⟨xa, xb, xc, -⟩ := id F_g.o
     obtain ⟨ya, yb, yc, yd, -⟩ := id F_s.o
     go_wp2_with fail
     clear xa xb xc ya yb yc yd Q0 Q1 Q2 Q3 Q4 Q5 Q6 Q7 Q8 Q9 Qa Qb Qc Qd Qe Qf
     replace F_g := Lh F_g.o.drew
     replace F_s := Lh F_s.o.drew
     replace F_p := Lh F_p.o.drew
     replace HBW := Lh HBW.o.drew
     have hS := And.intro F_g.o.s (And.intro F_s.o.s F_p.o.s8)
     refine wp_region_stage 38 (fun w' => SBox w' w.heap.size P Q G ∧ SPair w' (w.heap.size + 1) a b ∧ S8 w' (w.heap.size + 1 + 1) r0 r1 s0 s1 c0 c1 z0 z1) (by kernel_rfl) ?_
     refine tk8 0 (some 16) (.load 24 (.tmp 5)) 24 [17, 18, 19, 20, 21, 22, 23, 24, 25, 26, 27, 28, 29, 30, 31, 32, 33, 34, 35, 36, 37, 38] ?_
     simp only [sY]
     refine tkQ 1 (some 17) (.fieldAddr 24 (.tmp 5) 2) 0 ?_
     simp only [sY]
     refine tk8 2 (some 18) (.load 22 (.tmp 17)) 22 [17, 18, 19, 20, 21, 22, 23, 24, 25, 26, 27, 28, 29, 30, 31, 32, 33, 34, 35, 36, 37, 38] ?_
     simp only [sY]
     refine tkQ 3 (some 19) (.fieldAddr 75 (.tmp 7) 0) 0 ?_
     simp only [sY]
     refine tk8 4 (some 20) (.load 22 (.tmp 19)) 22 [17, 18, 19, 20, 21, 22, 23, 24, 25, 26, 27, 28, 29, 30, 31, 32, 33, 34, 35, 36, 37, 38] ?_
     simp only [sY]
     refine tkQ 5 (some 21) (.move (.tmp 11)) 3 ?_
     simp only [sY]
     refine tkQ 6 (some 22) (.fieldAddr 31 (.tmp 8) 0) 0 ?_
     simp only [sY]
     refine tkQ 7 (some 23) (.indexAddr 29 (.tmp 22) (.tmp 21)) 0 ?_
     simp only [sY]
     refine tk8 8 (some 24) (.load 22 (.tmp 23)) 22 [17, 18, 19, 20, 21, 22, 23, 24, 25, 26, 27, 28, 29, 30, 31, 32, 33, 34, 35, 36, 37, 38] ?_
     simp only [sY]
     refine tkQ 9 (some 25) (.move (.tmp 11)) 3 ?_
     simp only [sY]
     refine tkQ 10 (some 26) (.fieldAddr 31 (.tmp 8) 2) 0 ?_
     simp only [sY]
     refine tkQ 11 (some 27) (.indexAddr 29 (.tmp 26) (.tmp 25)) 0 ?_
     simp only [sY]
     refine tk8 12 (some 28) (.load 22 (.tmp 27)) 22 [17, 18, 19, 20, 21, 22, 23, 24, 25, 26, 27, 28, 29, 30, 31, 32, 33, 34, 35, 36, 37, 38] ?_
     simp only [sY]
     refine tkQ 13 (some 29) (.move (.tmp 11)) 3 ?_
     simp only [sY]
     refine tkQ 14 (some 30) (.fieldAddr 31 (.tmp 8) 3) 0 ?_
     simp only [sY]
     refine tkQ 15 (some 31) (.indexAddr 29 (.tmp 30) (.tmp 29)) 0 ?_
     simp only [sY]
     refine tk8 16 (some 32) (.load 22 (.tmp 31)) 22 [17, 18, 19, 20, 21, 22, 23, 24, 25, 26, 27, 28, 29, 30, 31, 32, 33, 34, 35, 36, 37, 38] ?_
     simp only [sY]
     refine onl (i := 17) (some 33) (.call { callee := .value (.func 163), args := #[.tmp 16, .tmp 18, .tmp 20, .tmp 24, .tmp 28, .tmp 32], argTypes := #[24, 22, 22, 22, 22, 22] }) 4 (fun K hK => ?_)
     unfold bareOp
     go_wp2_with (go_at_call 163; refine (reven_any (v := true) _ hP1 PM hG gP a0 aP r0_0 r0_P Uc0.o Uz0.o ⟨fun _ => HE.o, fun _ => rfl⟩).mono ?_; rintro e w11 ⟨rfl, hb11⟩)
     replace F_g := Lh (F_g.o.keep hb11)
     replace F_s := Lh (F_s.o.keep hb11)
     replace F_p := Lh (F_p.o.keep hb11)
     replace HBW := Kt HBW hb11
     replace hS := And.intro F_g.o.s (And.intro F_s.o.s F_p.o.s8)
     clear hb11
     refine hK.o _ _ (fun _ => hS) ?_
     clear hK K
     try simp only [sY]
     refine tkQ 18 (some 34) (.unOp .not 4 (.tmp 33)) 4 ?_
     simp only [sY]
     refine tkQ 19 (some 35) (.move (.tmp 34)) 4 ?_
     simp only [sY]
     refine tkLG (i := 20) (some 36) (.load 24 (.tmp 5)) 24 (some (19, false)) [38] (v := ?_) hS (fun w' hSw => ?_) ?_
     rotate_left
     · obtain ⟨⟨Z0, Z1, Z2⟩, ⟨Z3, Z4⟩, ⟨Z5, Z6, Z7, Z8, Z9, Za, Zb, Zc⟩⟩ := hSw
       unfold bareOp; go_simp; try with_reducible rfl
     simp only [sY]
     refine tkPG (i := 21) (some 37) (.move (.tmp 1)) 22 (some (19, false)) (fun _ => hS) ?_
     simp only [sY]
     refine tkLG (i := 22) (some 38) (.load 24 (.tmp 5)) 24 (some (19, false)) [25, 38] (v := ?_) hS (fun w' hSw => ?_) ?_
     rotate_left
     · obtain ⟨⟨Z0, Z1, Z2⟩, ⟨Z3, Z4⟩, ⟨Z5, Z6, Z7, Z8, Z9, Za, Zb, Zc⟩⟩ := hSw
       unfold bareOp; go_simp; try with_reducible rfl
     simp only [sY]
     refine tkLG (i := 23) (some 39) (.load 75 (.tmp 7)) 75 (some (19, false)) [25, 38] (v := ?_) hS (fun w' hSw => ?_) ?_
     rotate_left
     · obtain ⟨⟨Z0, Z1, Z2⟩, ⟨Z3, Z4⟩, ⟨Z5, Z6, Z7, Z8, Z9, Za, Zb, Zc⟩⟩ := hSw
       unfold bareOp; go_simp; try with_reducible rfl
     simp only [sY]
     refine tkPG (i := 24) (some 40) (.move (.tmp 11)) 3 (some (19, false)) (fun _ => hS) ?_
     simp only [sY]
     refine tkPG (i := 26) (some 42) (.move (.tmp 11)) 3 (some (19, false)) (fun _ => hS) ?_
     simp only [sY]
     refine tkPG (i := 27) (some 43) (.fieldAddr 31 (.tmp 8) 1) 0 (some (19, false)) (fun _ => hS) ?_
     simp only [sY]
     refine tkPG (i := 28) (some 44) (.indexAddr 29 (.tmp 43) (.tmp 42)) 0 (some (19, false)) (fun _ => hS) ?_
     simp only [sY]
     refine tkLG (i := 29) (some 45) (.load 22 (.tmp 44)) 22 (some (19, false)) [38] (v := ?_) hS (fun w' hSw => ?_) ?_
     rotate_left
     · obtain ⟨⟨Z0, Z1, Z2⟩, ⟨Z3, Z4⟩, ⟨Z5, Z6, Z7, Z8, Z9, Za, Zb, Zc⟩⟩ := hSw
       unfold bareOp; go_simp; try with_reducible rfl
     simp only [sY]
     refine tkPG (i := 30) (some 46) (.move (.tmp 11)) 3 (some (19, false)) (fun _ => hS) ?_
     simp only [sY]
     refine tkPG (i := 31) (some 47) (.fieldAddr 31 (.tmp 8) 2) 0 (some (19, false)) (fun _ => hS) ?_
     simp only [sY]
     refine tkPG (i := 32) (some 48) (.indexAddr 29 (.tmp 47) (.tmp 46)) 0 (some (19, false)) (fun _ => hS) ?_
     simp only [sY]
     refine tkLG (i := 33) (some 49) (.load 22 (.tmp 48)) 22 (some (19, false)) [38] (v := ?_) hS (fun w' hSw => ?_) ?_
     rotate_left
     · obtain ⟨⟨Z0, Z1, Z2⟩, ⟨Z3, Z4⟩, ⟨Z5, Z6, Z7, Z8, Z9, Za, Zb, Zc⟩⟩ := hSw
       unfold bareOp; go_simp; try with_reducible rfl
     simp only [sY]
     refine tkPG (i := 34) (some 50) (.move (.tmp 11)) 3 (some (19, false)) (fun _ => hS) ?_
     simp only [sY]
     refine tkPG (i := 35) (some 51) (.fieldAddr 31 (.tmp 8) 3) 0 (some (19, false)) (fun _ => hS) ?_
     simp only [sY]
     refine tkPG (i := 36) (some 52) (.indexAddr 29 (.tmp 51) (.tmp 50)) 0 (some (19, false)) (fun _ => hS) ?_
     simp only [sY]
     refine tkLG (i := 37) (some 53) (.load 22 (.tmp 52)) 22 (some (19, false)) [38] (v := ?_) hS (fun w' hSw => ?_) ?_
     rotate_left
     · obtain ⟨⟨Z0, Z1, Z2⟩, ⟨Z3, Z4⟩, ⟨Z5, Z6, Z7, Z8, Z9, Za, Zb, Zc⟩⟩ := hSw
       unfold bareOp; go_simp; try with_reducible rfl
     simp only [sY]
     refine wpAnyB_onlyG (i := 25) (some 41) (.call { callee := .value (.func 108), args := #[.tmp 38, .tmp 39, .tmp 40], argTypes := #[24, 75, 3] }) 22 (some (19, false)) ⟨_, rfl, rfl, rfl, rfl, rfl⟩ (by kernel_rfl) rfl (fun K hK => ?_)
     unfold bareOp
     go_wp2_with (go_at_call 108; refine (rWithout0_any _ HH.o b_0 b_P (show (0 - 0) % Q = 0 by simp) HPZ.o HBZ.o).mono ?_; rintro e w12 ⟨rfl, hb12⟩)
     replace F_g := Lh (F_g.o.keep hb12)
     replace F_s := Lh (F_s.o.keep hb12)
     replace F_p := Lh (F_p.o.keep hb12)
     replace HBW := Kt HBW hb12
     replace hS := And.intro F_g.o.s (And.intro F_s.o.s F_p.o.s8)
     clear hb12
     refine hK.o _ _ (fun _ => hS) ?_
     clear hK K
     try simp only [sY]
     refine wpAnyB_onlyG (i := 38) (some 54) (.call { callee := .value (.func 163), args := #[.tmp 36, .tmp 37, .tmp 41, .tmp 45, .tmp 49, .tmp 53], argTypes := #[24, 22, 22, 22, 22, 22] }) 4 (some (19, false)) ⟨_, rfl, rfl, rfl, rfl, rfl⟩ (by kernel_rfl) rfl (fun K hK => ?_)
     unfold bareOp
     go_wp2_with (go_at_call 163; refine (reven_any (v := true) _ hP1 PM y0 yP b_0 b_P s0_0 s0_P Uc0.o Uz0.o ⟨fun _ => HF.o, fun _ => rfl⟩).mono ?_; rintro e w13 ⟨rfl, hb13⟩)
     replace F_g := Lh (F_g.o.keep hb13)
     replace F_s := Lh (F_s.o.keep hb13)
     replace F_p := Lh (F_p.o.keep hb13)
     replace HBW := Kt HBW hb13
     replace hS := And.intro F_g.o.s (And.intro F_s.o.s F_p.o.s8)
     clear hb13
     refine hK.o _ _ lt8 ?_
     clear hK K
     try simp only [sY]
     refine tkPG (i := 39) (some 55) (.unOp .not 4 (.tmp 54)) 4 (some (19, false)) lt8 ?_
     simp only [sY]
     refine tkP (i := 40) (some 56) (.pick (.tmp 35) (.const (.bool true)) (.tmp 55)) 4 lt8 ?_
     simp only [sY]
     refine wpAnyB_done (by kernel_rfl) ?_ _
     clear hS
     go_wp2_with fail
     go_roundw
     case rel => exact ⟨1, by omega, by go_num, F_g.o, F_s.o, F_p.o, HBW.o, fun _ => ⟨HE.o, HF.o⟩, fun h => absurd h (by omega)⟩
     case measure => simp [intOf]
  case inr.inl =>
   have HX0 := Lh (HX0_.o (by omega))
   clear HX0_ HX1_
   rw [show ((1 : Nat) : Int) = 1 from rfl]
   by_cases hE : powm G z1 P = r1 * powm a c1 P % P
   case neg =>
    have HE := Lh hE
    have HZ := Lh (show false = v by rw [Bool.eq_iff_iff, HV.o]; simp [hE])
    clear hE
    obtain ⟨Q0, Q1, Q2, Q3, Q4, Q5, Q6, Q7, Q8, Q9, Qa, Qb, Qc, Qd, Qe, Qf⟩ := Arr.k8 F_p.o
    obtain ⟨xa, xb, xc, -⟩ := id F_g.o
    obtain ⟨ya, yb, yc, yd, -⟩ := id F_s.o
    go_wp2_with fail
    clear xa xb xc ya yb yc yd Q0 Q1 Q2 Q3 Q4 Q5 Q6 Q7 Q8 Q9 Qa Qb Qc Qd Qe Qf
    replace F_g := Lh F_g.o.drew
    replace F_s := Lh F_s.o.drew
    replace F_p := Lh F_p.o.drew
    replace HBW := Lh HBW.o.drew
    have hS := And.intro F_g.o.s (And.intro F_s.o.s F_p.o.s8)
    refine wp_region_stage 17 (fun w' => SBox w' w.heap.size P Q G ∧ SPair w' (w.heap.size + 1) a b ∧ S8 w' (w.heap.size + 1 + 1) r0 r1 s0 s1 c0 c1 z0 z1) (by kernel_rfl) ?_
    refine tk8 0 (some 16) (.load 24 (.tmp 5)) 24 [17] ?_
    simp only [sY]
    refine tkQ 1 (some 17) (.fieldAddr 24 (.tmp 5) 2) 0 ?_
    simp only [sY]
    refine tk8 2 (some 18) (.load 22 (.tmp 17)) 22 [17] ?_
    simp only [sY]
    refine tkQ 3 (some 19) (.fieldAddr 75 (.tmp 7) 0) 0 ?_
    simp only [sY]
    refine tk8 4 (some 20) (.load 22 (.tmp 19)) 22 [17] ?_
    simp only [sY]
    refine tkQ 5 (some 21) (.move (.tmp 11)) 3 ?_
    simp only [sY]
    refine tkQ 6 (some 22) (.fieldAddr 31 (.tmp 8) 0) 0 ?_
    simp only [sY]
    refine tkQ 7 (some 23) (.indexAddr 29 (.tmp 22) (.tmp 21)) 0 ?_
    simp only [sY]
    refine tk8 8 (some 24) (.load 22 (.tmp 23)) 22 [17] ?_
    simp only [sY]
    refine tkQ 9 (some 25) (.move (.tmp 11)) 3 ?_
    simp only [sY]
    refine tkQ 10 (some 26) (.fieldAddr 31 (.tmp 8) 2) 0 ?_
    simp only [sY]
    refine tkQ 11 (some 27) (.indexAddr 29 (.tmp 26) (.tmp 25)) 0 ?_
    simp only [sY]
    refine tk8 12 (some 28) (.load 22 (.tmp 27)) 22 [17] ?_
    simp only [sY]
    refine tkQ 13 (some 29) (.move (.tmp 11)) 3 ?_
    simp only [sY]
    refine tkQ 14 (some 30) (.fieldAddr 31 (.tmp 8) 3) 0 ?_
    simp only [sY]
    refine tkQ 15 (some 31) (.indexAddr 29 (.tmp 30) (.tmp 29)) 0 ?_
    simp only [sY]
    refine tk8 16 (some 32) (.load 22 (.tmp 31)) 22 [17] ?_
    simp only [sY]
    refine onl (i := 17) (some 33) (.call { callee := .value (.func 163), args := #[.tmp 16, .tmp 18, .tmp 20, .tmp 24, .tmp 28, .tmp 32], argTypes := #[24, 22, 22, 22, 22, 22] }) 4 (fun K hK => ?_)
    unfold bareOp
    go_wp2_with (go_at_call 163; refine (reven_any (v := false) _ hP1 PM hG gP a0 aP r1_0 r1_P Uc1.o Uz1.o ⟨fun h => (by cases h), fun h => absurd h HE.o⟩).mono ?_; rintro e w11 ⟨rfl, hb11⟩)
    replace F_g := Lh (F_g.o.keep hb11)
    replace F_s := Lh (F_s.o.keep hb11)
    replace F_p := Lh (F_p.o.keep hb11)
    replace HBW := Kt HBW hb11
    replace hS := And.intro F_g.o.s (And.intro F_s.o.s F_p.o.s8)
    clear hb11
    refine hK.o _ _ lt8 ?_
    clear hK K
    try simp only [sY]
    refine tkP (i := 18) (some 34) (.unOp .not 4 (.tmp 33)) 4 lt8 ?_
    simp only [sY]
    refine tkP (i := 19) (some 35) (.move (.tmp 34)) 4 lt8 ?_
    simp only [sY]
    refine skG (i := 20) (some 36) (.load 24 (.tmp 5)) 24 (some (19, false)) lt8 ?_
    simp only [sY]
    refine skG (i := 21) (some 37) (.move (.tmp 1)) 22 (some (19, false)) lt8 ?_
    simp only [sY]
    refine skG (i := 22) (some 38) (.load 24 (.tmp 5)) 24 (some (19, false)) lt8 ?_
    simp only [sY]
    refine skG (i := 23) (some 39) (.load 75 (.tmp 7)) 75 (some (19, false)) lt8 ?_
    simp only [sY]
    refine skG (i := 24) (some 40) (.move (.tmp 11)) 3 (some (19, false)) lt8 ?_
    simp only [sY]
    refine skG (i := 25) (some 41) (.call { callee := .value (.func 108), args := #[.tmp 38, .tmp 39, .tmp 40], argTypes := #[24, 75, 3] }) 22 (some (19, false)) lt8 ?_
    simp only [sY]
    refine skG (i := 26) (some 42) (.move (.tmp 11)) 3 (some (19, false)) lt8 ?_
    simp only [sY]
    refine skG (i := 27) (some 43) (.fieldAddr 31 (.tmp 8) 1) 0 (some (19, false)) lt8 ?_
    simp only [sY]
    refine skG (i := 28) (some 44) (.indexAddr 29 (.tmp 43) (.tmp 42)) 0 (some (19, false)) lt8 ?_
    simp only [sY]
    refine skG (i := 29) (some 45) (.load 22 (.tmp 44)) 22 (some (19, false)) lt8 ?_
    simp only [sY]
    refine skG (i := 30) (some 46) (.move (.tmp 11)) 3 (some (19, false)) lt8 ?_
    simp only [sY]
    refine skG (i := 31) (some 47) (.fieldAddr 31 (.tmp 8) 2) 0 (some (19, false)) lt8 ?_
    simp only [sY]
    refine skG (i := 32) (some 48) (.indexAddr 29 (.tmp 47) (.tmp 46)) 0 (some (19, false)) lt8 ?_
    simp only [sY]
    refine skG (i := 33) (some 49) (.load 22 (.tmp 48)) 22 (some (19, false)) lt8 ?_
    simp only [sY]
    refine skG (i := 34) (some 50) (.move (.tmp 11)) 3 (some (19, false)) lt8 ?_
    simp only [sY]
    refine skG (i := 35) (some 51) (.fieldAddr 31 (.tmp 8) 3) 0 (some (19, false)) lt8 ?_
    simp only [sY]
    refine skG (i := 36) (some 52) (.indexAddr 29 (.tmp 51) (.tmp 50)) 0 (some (19, false)) lt8 ?_
    simp only [sY]
    refine skG (i := 37) (some 53) (.load 22 (.tmp 52)) 22 (some (19, false)) lt8 ?_
    simp only [sY]
    refine skG (i := 38) (some 54) (.call { callee := .value (.func 163), args := #[.tmp 36, .tmp 37, .tmp 41, .tmp 45, .tmp 49, .tmp 53], argTypes := #[24, 22, 22, 22, 22, 22] }) 4 (some (19, false)) lt8 ?_
    simp only [sY]
    refine skG (i := 39) (some 55) (.unOp .not 4 (.tmp 54)) 4 (some (19, false)) lt8 ?_
    simp only [sY]
    refine tkP (i := 40) (some 56) (.pick (.tmp 35) (.const (.bool true)) (.tmp 55)) 4 lt8 ?_
    simp only [sY]
    refine wpAnyB_done (by kernel_rfl) ?_ _
    clear hS
    go_wp2_with fail
    go_ret
    exact ⟨ret_bool HZ.o, HBW.o⟩
   case pos =>
    by_cases hF : powm y z1 P = s1 * powm t c1 P % P
    case neg =>
     have HE := Lh hE
     have HF := Lh hF
     have HZ := Lh (show false = v by rw [Bool.eq_iff_iff, HV.o]; simp [hF])
     clear hE hF
     obtain ⟨Q0, Q1, Q2, Q3, Q4, Q5, Q6, Q7, Q8, Q9, Qa, Qb, Qc, Qd, Qe, Qf⟩ := Arr.k8 F_p.o
     obtain ⟨xa, xb, xc, -⟩ := id F_g.o
     obtain ⟨ya, yb, yc, yd, -⟩ := id F_s.o
     go_wp2_with fail
     clear xa xb xc ya yb yc yd Q0 Q1 Q2 Q3 Q4 Q5 Q6 Q7 Q8 Q9 Qa Qb Qc Qd Qe Qf
     replace F_g := Lh F_g.o.drew
     replace F_s := Lh F_s.o.drew
     replace F_p := Lh F_p.o.drew
     replace HBW := Lh HBW.o.drew
     have hS := And.intro F_g.o.s (And.intro F_s.o.s F_p.o.s8)
     refine wp_region_stage 38 (fun w' => SBox w' w.heap.size P Q G ∧ SPair w' (w.heap.size + 1) a b ∧ S8 w' (w.heap.size + 1 + 1) r0 r1 s0 s1 c0 c1 z0 z1) (by kernel_rfl) ?_
     refine tk8 0 (some 16) (.load 24 (.tmp 5)) 24 [17, 18, 19, 20, 21, 22, 23, 24, 25, 26, 27, 28, 29, 30, 31, 32, 33, 34, 35, 36, 37, 38] ?_
     simp only [sY]
     refine tkQ 1 (some 17) (.fieldAddr 24 (.tmp 5) 2) 0 ?_
     simp only [sY]
     refine tk8 2 (some 18) (.load 22 (.tmp 17)) 22 [17, 18, 19, 20, 21, 22, 23, 24, 25, 26, 27, 28, 29, 30, 31, 32, 33, 34, 35, 36, 37, 38] ?_
     simp only [sY]
     refine tkQ 3 (some 19) (.fieldAddr 75 (.tmp 7) 0) 0 ?_
     simp only [sY]
     refine tk8 4 (some 20) (.load 22 (.tmp 19)) 22 [17, 18, 19, 20, 21, 22, 23, 24, 25, 26, 27, 28, 29, 30, 31, 32, 33, 34, 35, 36, 37, 38] ?_
     simp only [sY]
     refine tkQ 5 (some 21) (.move (.tmp 11)) 3 ?_
     simp only [sY]
     refine tkQ 6 (some 22) (.fieldAddr 31 (.tmp 8) 0) 0 ?_
     simp only [sY]
     refine tkQ 7 (some 23) (.indexAddr 29 (.tmp 22) (.tmp 21)) 0 ?_
     simp only [sY]
     refine tk8 8 (some 24) (.load 22 (.tmp 23)) 22 [17, 18, 19, 20, 21, 22, 23, 24, 25, 26, 27, 28, 29, 30, 31, 32, 33, 34, 35, 36, 37, 38] ?_
     simp only [sY]
     refine tkQ 9 (some 25) (.move (.tmp 11)) 3 ?_
     simp only [sY]
     refine tkQ 10 (some 26) (.fieldAddr 31 (.tmp 8) 2) 0 ?_
     simp only [sY]
     refine tkQ 11 (some 27) (.indexAddr 29 (.tmp 26) (.tmp 25)) 0 ?_
     simp only [sY]
     refine tk8 12 (some 28) (.load 22 (.tmp 27)) 22 [17, 18, 19, 20, 21, 22, 23, 24, 25, 26, 27, 28, 29, 30, 31, 32, 33, 34, 35, 36, 37, 38] ?_
     simp only [sY]
     refine tkQ 13 (some 29) (.move (.tmp 11)) 3 ?_
     simp only [sY]
     refine tkQ 14 (some 30) (.fieldAddr 31 (.tmp 8) 3) 0 ?_
     simp only [sY]
     refine tkQ 15 (some 31) (.indexAddr 29 (.tmp 30) (.tmp 29)) 0 ?_
     simp only [sY]
     refine tk8 16 (some 32) (.load 22 (.tmp 31)) 22 [17, 18, 19, 20, 21, 22, 23, 24, 25, 26, 27, 28, 29, 30, 31, 32, 33, 34, 35, 36, 37, 38] ?_
     simp only [sY]
     refine onl (i := 17) (some 33) (.call { callee := .value (.func 163), args := #[.tmp 16, .tmp 18, .tmp 20, .tmp 24, .tmp 28, .tmp 32], argTypes := #[24, 22, 22, 22, 22, 22] }) 4 (fun K hK => ?_)
     unfold bareOp
     go_wp2_with (go_at_call 163; refine (reven_any (v := true) _ hP1 PM hG gP a0 aP r1_0 r1_P Uc1.o Uz1.o ⟨fun _ => HE.o, fun _ => rfl⟩).mono ?_; rintro e w11 ⟨rfl, hb11⟩)
     replace F_g := Lh (F_g.o.keep hb11)
     replace F_s := Lh (F_s.o.keep hb11)
     replace F_p := Lh (F_p.o.keep hb11)
     replace HBW := Kt HBW hb11
     replace hS := And.intro F_g.o.s (And.intro F_s.o.s F_p.o.s8)
     clear hb11
     refine hK.o _ _ (fun _ => hS) ?_
     clear hK K
     try simp only [sY]
     refine tkQ 18 (some 34) (.unOp .not 4 (.tmp 33)) 4 ?_
     simp only [sY]
     refine tkQ 19 (some 35) (.move (.tmp 34)) 4 ?_
     simp only [sY]
     refine tkLG (i := 20) (some 36) (.load 24 (.tmp 5)) 24 (some (19, false)) [38] (v := ?_) hS (fun w' hSw => ?_) ?_
     rotate_left
     · obtain ⟨⟨Z0, Z1, Z2⟩, ⟨Z3, Z4⟩, ⟨Z5, Z6, Z7, Z8, Z9, Za, Zb, Zc⟩⟩ := hSw
       unfold bareOp; go_simp; try with_reducible rfl
     simp only [sY]
     refine tkPG (i := 21) (some 37) (.move (.tmp 1)) 22 (some (19, false)) (fun _ => hS) ?_
     simp only [sY]
     refine tkLG (i := 22) (some 38) (.load 24 (.tmp 5)) 24 (some (19, false)) [25, 38] (v := ?_) hS (fun w' hSw => ?_) ?_
     rotate_left
     · obtain ⟨⟨Z0, Z1, Z2⟩, ⟨Z3, Z4⟩, ⟨Z5, Z6, Z7, Z8, Z9, Za, Zb, Zc⟩⟩ := hSw
       unfold bareOp; go_simp; try with_reducible rfl
     simp only [sY]
     refine tkLG (i := 23) (some 39) (.load 75 (.tmp 7)) 75 (some (19, false)) [25, 38] (v := ?_) hS (fun w' hSw => ?_) ?_
     rotate_left
     · obtain ⟨⟨Z0, Z1, Z2⟩, ⟨Z3, Z4⟩, ⟨Z5, Z6, Z7, Z8, Z9, Za, Zb, Zc⟩⟩ := hSw
       unfold bareOp; go_simp; try with_reducible rfl
     simp only [sY]
     refine tkPG (i := 24) (some 40) (.move (.tmp 11)) 3 (some (19, false)) (fun _ => hS) ?_
     simp only [sY]
     refine tkPG (i := 26) (some 42) (.move (.tmp 11)) 3 (some (19, false)) (fun _ => hS) ?_
     simp only [sY]
     refine tkPG (i := 27) (some 43) (.fieldAddr 31 (.tmp 8) 1) 0 (some (19, false)) (fun _ => hS) ?_
     simp only [sY]
     refine tkPG (i := 28) (some 44) (.indexAddr 29 (.tmp 43) (.tmp 42)) 0 (some (19, false)) (fun _ => hS) ?_
     simp only [sY]
     refine tkLG (i := 29) (some 45) (.load 22 (.tmp 44)) 22 (some (19, false)) [38] (v := ?_) hS (fun w' hSw => ?_) ?_
     rotate_left
     · obtain ⟨⟨Z0, Z1, Z2⟩, ⟨Z3, Z4⟩, ⟨Z5, Z6, Z7, Z8, Z9, Za, Zb, Zc⟩⟩ := hSw
       unfold bareOp; go_simp; try with_reducible rfl
     simp only [sY]
     refine tkPG (i := 30) (some 46) (.move (.tmp 11)) 3 (some (19, false)) (fun _ => hS) ?_
     simp only [sY]
     refine tkPG (i := 31) (some 47) (.fieldAddr 31 (.tmp 8) 2) 0 (some (19, false)) (fun _ => hS) ?_
     simp only [sY]
     refine tkPG (i := 32) (some 48) (.indexAddr 29 (.tmp 47) (.tmp 46)) 0 (some (19, false)) (fun _ => hS) ?_
     simp only [sY]
     refine tkLG (i := 33) (some 49) (.load 22 (.tmp 48)) 22 (some (19, false)) [38] (v := ?_) hS (fun w' hSw => ?_) ?_
     rotate_left
     · obtain ⟨⟨Z0, Z1, Z2⟩, ⟨Z3, Z4⟩, ⟨Z5, Z6, Z7, Z8, Z9, Za, Zb, Zc⟩⟩ := hSw
       unfold bareOp; go_simp; try with_reducible rfl
     simp only [sY]
     refine tkPG (i := 34) (some 50) (.move (.tmp 11)) 3 (some (19, false)) (fun _ => hS) ?_
     simp only [sY]
     refine tkPG (i := 35) (some 51) (.fieldAddr 31 (.tmp 8) 3) 0 (some (19, false)) (fun _ => hS) ?_
     simp only [sY]
     refine tkPG (i := 36) (some 52) (.indexAddr 29 (.tmp 51) (.tmp 50)) 0 (some (19, false)) (fun _ => hS) ?_
     simp only [sY]
     refine tkLG (i := 37) (some 53) (.load 22 (.tmp 52)) 22 (some (19, false)) [38] (v := ?_) hS (fun w' hSw => ?_) ?_
     rotate_left
     · obtain ⟨⟨Z0, Z1, Z2⟩, ⟨Z3, Z4⟩, ⟨Z5, Z6, Z7, Z8, Z9, Za, Zb, Zc⟩⟩ := hSw
       unfold bareOp; go_simp; try with_reducible rfl
     simp only [sY]
     refine wpAnyB_onlyG (i := 25) (some 41) (.call { callee := .value (.func 108), args := #[.tmp 38, .tmp 39, .tmp 40], argTypes := #[24, 75, 3] }) 22 (some (19, false)) ⟨_, rfl, rfl, rfl, rfl, rfl⟩ (by kernel_rfl) rfl (fun K hK => ?_)
     unfold bareOp
     go_wp2_with (go_at_call 108; refine (rWithout1_any _ HH.o b_0 b_P HNN.o HPP.o HTT.o).mono ?_; rintro e w12 ⟨rfl, hb12⟩)
     replace F_g := Lh (F_g.o.keep hb12)
     replace F_s := Lh (F_s.o.keep hb12)
     replace F_p := Lh (F_p.o.keep hb12)
     replace HBW := Kt HBW hb12
     replace hS := And.intro F_g.o.s (And.intro F_s.o.s F_p.o.s8)
     clear hb12
     refine hK.o _ _ (fun _ => hS) ?_
     clear hK K
     try simp only [sY]
     refine wpAnyB_onlyG (i := 38) (some 54) (.call { callee := .value (.func 163), args := #[.tmp 36, .tmp 37, .tmp 41, .tmp 45, .tmp 49, .tmp 53], argTypes := #[24, 22, 22, 22, 22, 22] }) 4 (some (19, false)) ⟨_, rfl, rfl, rfl, rfl, rfl⟩ (by kernel_rfl) rfl (fun K hK => ?_)
     unfold bareOp
     go_wp2_with (go_at_call 163; refine (reven_any (v := false) _ hP1 PM y0 yP t_0 t_P s1_0 s1_P Uc1.o Uz1.o ⟨fun h => (by cases h), fun h => absurd h HF.o⟩).mono ?_; rintro e w13 ⟨rfl, hb13⟩)
     replace F_g := Lh (F_g.o.keep hb13)
     replace F_s := Lh (F_s.o.keep hb13)
     replace F_p := Lh (F_p.o.keep hb13)
     replace HBW := Kt HBW hb13
     replace hS := And.intro F_g.o.s (And.intro F_s.o.s F_p.o.s8)
     clear hb13
     refine hK.o _ _ lt8 ?_
     clear hK K
     try simp only [sY]
     refine tkPG (i := 39) (some 55) (.unOp .not 4 (.tmp 54)) 4 (some (19, false)) lt8 ?_
     simp only [sY]
     refine tkP (i := 40) (some 56) (.pick (.tmp 35) (.const (.bool true)) (.tmp 55)) 4 lt8 ?_
     simp only [sY]
     refine wpAnyB_done (by kernel_rfl) ?_ _
     clear hS
     go_wp2_with fail
     go_ret
     exact ⟨ret_bool HZ.o, HBW.o⟩
    case pos =>
     have HE := Lh hE
     have HF := Lh hF
     clear hE hF
     obtain ⟨Q0, Q1, Q2, Q3, Q4, Q5, Q6, Q7, Q8, Q9, Qa, Qb, Qc, Qd, Qe, Qf⟩ := Arr.k8 F_p.o
     obtain ⟨xa, xb, xc, -⟩ := id F_g.o
     obtain ⟨ya, yb, yc, yd, -⟩ := id F_s.o
     go_wp2_with fail
     clear xa xb xc ya yb yc yd Q0 Q1 Q2 Q3 Q4 Q5 Q6 Q7 Q8 Q9 Qa Qb Qc Qd Qe Qf
     replace F_g := Lh F_g.o.drew
     replace F_s := Lh F_s.o.drew
     replace F_p := Lh F_p.o.drew
     replace HBW := Lh HBW.o.drew
     have hS := And.intro F_g.o.s (And.intro F_s.o.s F_p.o.s8)
     refine wp_region_stage 38 (fun w' => SBox w' w.heap.size P Q G ∧ SPair w' (w.heap.size + 1) a b ∧ S8 w' (w.heap.size + 1 + 1) r0 r1 s0 s1 c0 c1 z0 z1) (by kernel_rfl) ?_
     refine tk8 0 (some 16) (.load 24 (.tmp 5)) 24 [17, 18, 19, 20, 21, 22, 23, 24, 25, 26, 27, 28, 29, 30, 31, 32, 33, 34, 35, 36, 37, 38] ?_
     simp only [sY]
     refine tkQ 1 (some 17) (.fieldAddr 24 (.tmp 5) 2) 0 ?_
     simp only [sY]
     refine tk8 2 (some 18) (.load 22 (.tmp 17)) 22 [17, 18, 19, 20, 21, 22, 23, 24, 25, 26, 27, 28, 29, 30, 31, 32, 33, 34, 35, 36, 37, 38] ?_
     simp only [sY]
     refine tkQ 3 (some 19) (.fieldAddr 75 (.tmp 7) 0) 0 ?_
     simp only [sY]
     refine tk8 4 (some 20) (.load 22 (.tmp 19)) 22 [17, 18, 19, 20, 21, 22, 23, 24, 25, 26, 27, 28, 29, 30, 31, 32, 33, 34, 35, 36, 37, 38] ?_
     simp only [sY]
     refine tkQ 5 (some 21) (.move (.tmp 11)) 3 ?_
     simp only [sY]
     refine tkQ 6 (some 22) (.fieldAddr 31 (.tmp 8) 0) 0 ?_
     simp only [sY]
     refine tkQ 7 (some 23) (.indexAddr 29 (.tmp 22) (.tmp 21)) 0 ?_
     simp only [sY]
     refine tk8 8 (some 24) (.load 22 (.tmp 23)) 22 [17, 18, 19, 20, 21, 22, 23, 24, 25, 26, 27, 28, 29, 30, 31, 32, 33, 34, 35, 36, 37, 38] ?_
     simp only [sY]
     refine tkQ 9 (some 25) (.move (.tmp 11)) 3 ?_
     simp only [sY]
     refine tkQ 10 (some 26) (.fieldAddr 31 (.tmp 8) 2) 0 ?_
     simp only [sY]
     refine tkQ 11 (some 27) (.indexAddr 29 (.tmp 26) (.tmp 25)) 0 ?_
     simp only [sY]
     refine tk8 12 (some 28) (.load 22 (.tmp 27)) 22 [17, 18, 19, 20, 21, 22, 23, 24, 25, 26, 27, 28, 29, 30, 31, 32, 33, 34, 35, 36, 37, 38] ?_
     simp only [sY]
     refine tkQ 13 (some 29) (.move (.tmp 11)) 3 ?_
     simp only [sY]
     refine tkQ 14 (some 30) (.fieldAddr 31 (.tmp 8) 3) 0 ?_
     simp only [sY]
     refine tkQ 15 (some 31) (.indexAddr 29 (.tmp 30) (.tmp 29)) 0 ?_
     simp only [sY]
     refine tk8 16 (some 32) (.load 22 (.tmp 31)) 22 [17, 18, 19, 20, 21, 22, 23, 24, 25, 26, 27, 28, 29, 30, 31, 32, 33, 34, 35, 36, 37, 38] ?_
     simp only [sY]
     refine onl (i := 17) (some 33) (.call { callee := .value (.func 163), args := #[.tmp 16, .tmp 18, .tmp 20, .tmp 24, .tmp 28, .tmp 32], argTypes := #[24, 22, 22, 22, 22, 22] }) 4 (fun K hK => ?_)
     unfold bareOp
     go_wp2_with (go_at_call 163; refine (reven_any (v := true) _ hP1 PM hG gP a0 aP r1_0 r1_P Uc1.o Uz1.o ⟨fun _ => HE.o, fun _ => rfl⟩).mono ?_; rintro e w11 ⟨rfl, hb11⟩)
     replace F_g := Lh (F_g.o.keep hb11)
     replace F_s := Lh (F_s.o.keep hb11)
     replace F_p := Lh (F_p.o.keep hb11)
     replace HBW := Kt HBW hb11
     replace hS := And.intro F_g.o.s (And.intro F_s.o.s F_p.o.s8)
     clear hb11
     refine hK.o _ _ (fun _ => hS) ?_
     clear hK K
     try simp only [sY]
     refine tkQ 18 (some 34) (.unOp .not 4 (.tmp 33)) 4 ?_
     simp only [sY]
     refine tkQ 19 (some 35) (.move (.tmp 34)) 4 ?_
     simp only [sY]
     refine tkLG (i := 20) (some 36) (.load 24 (.tmp 5)) 24 (some (19, false)) [38] (v := ?_) hS (fun w' hSw => ?_) ?_
     rotate_left
     · obtain ⟨⟨Z0, Z1, Z2⟩, ⟨Z3, Z4⟩, ⟨Z5, Z6, Z7, Z8, Z9, Za, Zb, Zc⟩⟩ := hSw
       unfold bareOp; go_simp; try with_reducible rfl
     simp only [sY]
     refine tkPG (i := 21) (some 37) (.move (.tmp 1)) 22 (some (19, false)) (fun _ => hS) ?_
     simp only [sY]
     refine tkLG (i := 22) (some 38) (.load 24 (.tmp 5)) 24 (some (19, false)) [25, 38] (v := ?_) hS (fun w' hSw => ?_) ?_
     rotate_left
     · obtain ⟨⟨Z0, Z1, Z2⟩, ⟨Z3, Z4⟩, ⟨Z5, Z6, Z7, Z8, Z9, Za, Zb, Zc⟩⟩ := hSw
       unfold bareOp; go_simp; try with_reducible rfl
     simp only [sY]
     refine tkLG (i := 23) (some 39) (.load 75 (.tmp 7)) 75 (some (19, false)) [25, 38] (v := ?_) hS (fun w' hSw => ?_) ?_
     rotate_left
     · obtain ⟨⟨Z0, Z1, Z2⟩, ⟨Z3, Z4⟩, ⟨Z5, Z6, Z7, Z8, Z9, Za, Zb, Zc⟩⟩ := hSw
       unfold bareOp; go_simp; try with_reducible rfl
     simp only [sY]
     refine tkPG (i := 24) (some 40) (.move (.tmp 11)) 3 (some (19, false)) (fun _ => hS) ?_
     simp only [sY]
     refine tkPG (i := 26) (some 42) (.move (.tmp 11)) 3 (some (19, false)) (fun _ => hS) ?_
     simp only [sY]
     refine tkPG (i := 27) (some 43) (.fieldAddr 31 (.tmp 8) 1) 0 (some (19, false)) (fun _ => hS) ?_
     simp only [sY]
     refine tkPG (i := 28) (some 44) (.indexAddr 29 (.tmp 43) (.tmp 42)) 0 (some (19, false)) (fun _ => hS) ?_
     simp only [sY]
     refine tkLG (i := 29) (some 45) (.load 22 (.tmp 44)) 22 (some (19, false)) [38] (v := ?_) hS (fun w' hSw => ?_) ?_
     rotate_left
     · obtain ⟨⟨Z0, Z1, Z2⟩, ⟨Z3, Z4⟩, ⟨Z5, Z6, Z7, Z8, Z9, Za, Zb, Zc⟩⟩ := hSw
       unfold bareOp; go_simp; try with_reducible rfl
     simp only [sY]
     refine tkPG (i := 30) (some 46) (.move (.tmp 11)) 3 (some (19, false)) (fun _ => hS) ?_
     simp only [sY]
     refine tkPG (i := 31) (some 47) (.fieldAddr 31 (.tmp 8) 2) 0 (some (19, false)) (fun _ => hS) ?_
     simp only [sY]
     refine tkPG (i := 32) (some 48) (.indexAddr 29 (.tmp 47) (.tmp 46)) 0 (some (19, false)) (fun _ => hS) ?_
     simp only [sY]
     refine tkLG (i := 33) (some 49) (.load 22 (.tmp 48)) 22 (some (19, false)) [38] (v := ?_) hS (fun w' hSw => ?_) ?_
     rotate_left
     · obtain ⟨⟨Z0, Z1, Z2⟩, ⟨Z3, Z4⟩, ⟨Z5, Z6, Z7, Z8, Z9, Za, Zb, Zc⟩⟩ := hSw
       unfold bareOp; go_simp; try with_reducible rfl
     simp only [sY]
     refine tkPG (i := 34) (some 50) (.move (.tmp 11)) 3 (some (19, false)) (fun _ => hS) ?_
     simp only [sY]
     refine tkPG (i := 35) (some 51) (.fieldAddr 31 (.tmp 8) 3) 0 (some (19, false)) (fun _ => hS) ?_
     simp only [sY]
     refine tkPG (i := 36) (some 52) (.indexAddr 29 (.tmp 51) (.tmp 50)) 0 (some (19, false)) (fun _ => hS) ?_
     simp only [sY]
     refine tkLG (i := 37) (some 53) (.load 22 (.tmp 52)) 22 (some (19, false)) [38] (v := ?_) hS (fun w' hSw => ?_) ?_
     rotate_left
     · obtain ⟨⟨Z0, Z1, Z2⟩, ⟨Z3, Z4⟩, ⟨Z5, Z6, Z7, Z8, Z9, Za, Zb, Zc⟩⟩ := hSw
       unfold bareOp; go_simp; try with_reducible rfl
     simp only [sY]
     refine wpAnyB_onlyG (i := 25) (some 41) (.call { callee := .value (.func 108), args := #[.tmp 38, .tmp 39, .tmp 40], argTypes := #[24, 75, 3] }) 22 (some (19, false)) ⟨_, rfl, rfl, rfl, rfl, rfl⟩ (by kernel_rfl) rfl (fun K hK => ?_)
     unfold bareOp
     go_wp2_with (go_at_call 108; refine (rWithout1_any _ HH.o b_0 b_P HNN.o HPP.o HTT.o).mono ?_; rintro e w12 ⟨rfl, hb12⟩)
     replace F_g := Lh (F_g.o.keep hb12)
     replace F_s := Lh (F_s.o.keep hb12)
     replace F_p := Lh (F_p.o.keep hb12)
     replace HBW := Kt HBW hb12
     replace hS := And.intro F_g.o.s (And.intro F_s.o.s F_p.o.s8)
     clear hb12
     refine hK.o _ _ (fun _ => hS) ?_
     clear hK K
     try simp only [sY]
     refine wpAnyB_onlyG (i := 38) (some 54) (.call { callee := .value (.func 163), args := #[.tmp 36, .tmp 37, .tmp 41, .tmp 45, .tmp 49, .tmp 53], argTypes := #[24, 22, 22, 22, 22, 22] }) 4 (some (19, false)) ⟨_, rfl, rfl, rfl, rfl, rfl⟩ (by kernel_rfl) rfl (fun K hK => ?_)
     unfold bareOp
     go_wp2_with (go_at_call 163; refine (reven_any (v := true) _ hP1 PM y0 yP t_0 t_P s1_0 s1_P Uc1.o Uz1.o ⟨fun _ => HF.o, fun _ => rfl⟩).mono ?_; rintro e w13 ⟨rfl, hb13⟩)
     replace F_g := Lh (F_g.o.keep hb13)
     replace F_s := Lh (F_s.o.keep hb13)
     replace F_p := Lh (F_p.o.keep hb13)
     replace HBW := Kt HBW hb13
     replace hS := And.intro F_g.o.s (And.intro F_s.o.s F_p.o.s8)
     clear hb13
     refine hK.o _ _ lt8 ?_
     clear hK K
     try simp only [sY]
     refine tkPG (i := 39) (some 55) (.unOp .not 4 (.tmp 54)) 4 (some (19, false)) lt8 ?_
     simp only [sY]
     refine tkP (i := 40) (some 56) (.pick (.tmp 35) (.const (.bool true)) (.tmp 55)) 4 lt8 ?_
     simp only [sY]
     refine wpAnyB_done (by kernel_rfl) ?_ _
     clear hS
     go_wp2_with fail
     go_roundw
     case rel => exact ⟨2, by omega, by go_num, F_g.o, F_s.o, F_p.o, HBW.o, fun _ => HX0.o, fun _ => ⟨HE.o, HF.o⟩⟩
     case measure => simp [intOf]
  case inr.inr =>
   rw [show ((2 : Nat) : Int) = 2 from rfl]
   have HX0 := Lh (HX0_.o (by omega))
   have HX1 := Lh (HX1_.o (by omega))
   clear HX0_ HX1_
   by_cases hmc : m = c
   case neg =>
    have hq : (m == c) = false := by simpa using hmc
    have HZ := Lh (show false = v by rw [Bool.eq_iff_iff, HV.o, HM.o]; simp [hmc])
    clear hmc
    obtain ⟨Q0, Q1, Q2, Q3, Q4, Q5, Q6, Q7, Q8, Q9, Qa, Qb, Qc, Qd, Qe, Qf⟩ := Arr.k8 F_p.o
    obtain ⟨xa, xb, xc, -⟩ := id F_g.o
    obtain ⟨ya, yb, yc, yd, -⟩ := id F_s.o
    go_wp2_with fail
    clear xa xb xc ya yb yc yd Q0 Q1 Q2 Q3 Q4 Q5 Q6 Q7 Q8 Q9 Qa Qb Qc Qd Qe Qf
    refine (rSum_gen _ HH.o c0_0 c0_Q c1_0 c1_Q HM.o).mono ?_
    rintro e w31 ⟨rfl, hb31⟩
    replace F_g := Lh (F_g.o.keep hb31)
    replace F_s := Lh (F_s.o.keep hb31)
    replace F_p := Lh (F_p.o.keep hb31)
    replace HBW := Kt HBW hb31
    clear hb31
    obtain ⟨Q0, Q1, Q2, Q3, Q4, Q5, Q6, Q7, Q8, Q9, Qa, Qb, Qc, Qd, Qe, Qf⟩ := Arr.k8 F_p.o
    obtain ⟨xa, xb, xc, -⟩ := id F_g.o
    obtain ⟨ya, yb, yc, yd, -⟩ := id F_s.o
    go_wp2_with fail
    go_ret
    exact ⟨ret_bool HZ.o, HBW.o⟩
   case pos =>
    have hq : (m == c) = true := by simpa using hmc
    have HZ := Lh (show true = v by rw [eq_comm, HV.o, HM.o]; exact ⟨HX0.o, HX1.o, hmc⟩)
    clear hmc
    obtain ⟨Q0, Q1, Q2, Q3, Q4, Q5, Q6, Q7, Q8, Q9, Qa, Qb, Qc, Qd, Qe, Qf⟩ := Arr.k8 F_p.o
    obtain ⟨xa, xb, xc, -⟩ := id F_g.o
    obtain ⟨ya, yb, yc, yd, -⟩ := id F_s.o
    go_wp2_with fail
    clear xa xb xc ya yb yc yd Q0 Q1 Q2 Q3 Q4 Q5 Q6 Q7 Q8 Q9 Qa Qb Qc Qd Qe Qf
    refine (rSum_gen _ HH.o c0_0 c0_Q c1_0 c1_Q HM.o).mono ?_
    rintro e w31 ⟨rfl, hb31⟩
    replace F_g := Lh (F_g.o.keep hb31)
    replace F_s := Lh (F_s.o.keep hb31)
    replace F_p := Lh (F_p.o.keep hb31)
    replace HBW := Kt HBW hb31
    clear hb31
    obtain ⟨Q0, Q1, Q2, Q3, Q4, Q5, Q6, Q7, Q8, Q9, Qa, Qb, Qc, Qd, Qe, Qf⟩ := Arr.k8 F_p.o
    obtain ⟨xa, xb, xc, -⟩ := id F_g.o
    obtain ⟨ya, yb, yc, yd, -⟩ := id F_s.o
    go_wp2_with fail
    go_ret
    exact ⟨ret_bool HZ.o, HBW.o⟩
set_option maxHeartbeats 8000000 in
theorem rBitGood_any {P Q G y a b r0 r1 s0 s1 c0 c1 z0 z1 : Int} {v : Bool} {tx : Option Addr} {n cp : Nat} {T : List Int} (w : World) (hT : Txt w tx n T) (hH : Has P Q G) (y0 : 0 ≤ y) (yP : y < P) (a0 : 0 ≤ a) (aP : a < P) (b_0 : 0 ≤ b) (b_P : b < P) (r0_0 : 0 ≤ r0) (r0_P : r0 < P) (r1_0 : 0 ≤ r1) (r1_P : r1 < P) (s0_0 : 0 ≤ s0) (s0_P : s0 < P) (s1_0 : 0 ≤ s1) (s1_P : s1 < P) (c0_0 : 0 ≤ c0) (c0_Q : c0 < Q) (c1_0 : 0 ≤ c1) (c1_Q : c1 < Q) (z0_0 : 0 ≤ z0) (z0_Q : z0 < Q) (z1_0 : 0 ≤ z1) (z1_Q : z1 < Q) (hn8 : n ≤ 8000) (hv : v = true ↔ bvP P Q G y a b r0 r1 s0 s1 c0 c1 z0 z1 T) :
 Calls Tryz.prog 137 #[.agg #[υ P, υ Q, υ G], υ y, .agg #[υ a, υ b], .agg #[υ r0, υ r1, υ s0, υ s1, υ c0, υ c1, υ z0, υ z1], .slice tx n cp] w fun e w' => e = .returned (.bool v) ∧ Below w.heap.size w w' := by
 have HT := Lh hT
 have HV := Lh hv
 clear hT hv
 obtain ⟨p5, p3, hQ', pq, g2, gP⟩ := id hH
 have hP1 : 1 ≤ P := by omega
 have hGM : G < 2147483648 := by omega
 have q3 : Q < 1073741824 := by omega
 have q2 : 2 ≤ Q := by omega
 have HH := Lh hH
 clear hH pq
 have HRG := Lh (show ∀ z, z ∈ [y, a, b, r0, s0, r1, s1] → 0 ≤ z ∧ z < P from fun z hz => by
  simp at hz
  rcases hz with rfl | rfl | rfl | rfl | rfl | rfl | rfl <;> exact ⟨by assumption, by assumption⟩)
 have HUS := Lh (show ∀ z, z ∈ [y, a, b, r0, s0, r1, s1] → U64 z from fun z hz => by
  simp at hz
  rcases hz with rfl | rfl | rfl | rfl | rfl | rfl | rfl <;> exact U64.of_lt (by assumption) (by omega))
 obtain ⟨h_, hh⟩ : ∃ h_, chV Q [y, a, b, r0, s0, r1, s1] T = h_ := ⟨_, rfl⟩
 obtain ⟨h0, hQQ⟩ : 0 ≤ h_ ∧ h_ < Q := by rw [← hh]; exact chV_range (by omega) _ _
 have HCC := Lh hh
 clear hh
 by_cases hM : memsP P Q [y, a, b, r0, s0, r1, s1]
 case neg =>
  have HM := Lh hM
  have HZ := Lh (show false = v by rw [Bool.eq_iff_iff, HV.o]; exact ⟨fun h => (by cases h), fun h => absurd ((mems_perm _ _ _ _ _ _ _ _ _).1 h.1) HM.o⟩)
  clear hM
  have F_g := Lh (show Boxed (((w.alloc (.cells #[υ P, υ Q, υ G] 24)).alloc (.cells #[υ a, υ b] 75)).alloc (.cells #[υ r0, υ r1, υ s0, υ s1, υ c0, υ c1, υ z0, υ z1] 31)) (w.heap.size) P Q G from ((Boxed.at _ P Q G _ (w.heap.size) (by simp)).alloc _).alloc _)
  have F_s := Lh (show Pair (((w.alloc (.cells #[υ P, υ Q, υ G] 24)).alloc (.cells #[υ a, υ b] 75)).alloc (.cells #[υ r0, υ r1, υ s0, υ s1, υ c0, υ c1, υ z0, υ z1] 31)) (w.heap.size + 1) a b from (Pair.at _ a b _ (w.heap.size + 1) (by simp)).alloc _)
  have F_p := Lh (show Arr .u64 (((w.alloc (.cells #[υ P, υ Q, υ G] 24)).alloc (.cells #[υ a, υ b] 75)).alloc (.cells #[υ r0, υ r1, υ s0, υ s1, υ c0, υ c1, υ z0, υ z1] 31)) (w.heap.size + 1 + 1) [r0, r1, s0, s1, c0, c1, z0, z1] from Arr.new .u64 _ [r0, r1, s0, s1, c0, c1, z0, z1] _ (w.heap.size + 1 + 1) (by simp))
  have HBW := Lh (show Below w.heap.size w (((w.alloc (.cells #[υ P, υ Q, υ G] 24)).alloc (.cells #[υ a, υ b] 75)).alloc (.cells #[υ r0, υ r1, υ s0, υ s1, υ c0, υ c1, υ z0, υ z1] 31)) from (((Below.refl _ _).alloc (by simp <;> omega) _).alloc (by simp <;> omega) _).alloc (by simp <;> omega) _)
  go_enter Tryz.func137, Tryz.ntmps137
  obtain ⟨Q0, Q1, Q2, Q3, Q4, Q5, Q6, Q7, Q8, Q9, Qa, Qb, Qc, Qd, Qe, Qf⟩ := Arr.k8 F_p.o
  obtain ⟨xa, xb, xc, -⟩ := id F_g.o
  obtain ⟨ya, yb, yc, yd, -⟩ := id F_s.o
  go_wp2_with fail
  clear xa xb xc ya yb yc yd Q0 Q1 Q2 Q3 Q4 Q5 Q6 Q7 Q8 Q9 Qa Qb Qc Qd Qe Qf
  refine (rlist_any _).mono ?_
  rintro e w1 ⟨BL, rfl, hms, hb1⟩
  replace F_g := Lh (F_g.o.keep hb1)
  replace F_s := Lh (F_s.o.keep hb1)
  replace F_p := Lh (F_p.o.keep hb1)
  replace HBW := Kt HBW hb1
  have F_ls := Lh hms
  clear hb1 hms
  obtain ⟨Q0, Q1, Q2, Q3, Q4, Q5, Q6, Q7, Q8, Q9, Qa, Qb, Qc, Qd, Qe, Qf⟩ := Arr.k8 F_p.o
  obtain ⟨xa, xb, xc, -⟩ := id F_g.o
  obtain ⟨ya, yb, yc, yd, -⟩ := id F_s.o
  go_wp2_with fail
  clear xa xb xc ya yb yc yd Q0 Q1 Q2 Q3 Q4 Q5 Q6 Q7 Q8 Q9 Qa Qb Qc Qd Qe Qf
  replace F_g := Lh F_g.o.drew
  replace F_s := Lh F_s.o.drew
  replace F_p := Lh F_p.o.drew
  replace F_ls := Lh F_ls.o.drew
  replace HBW := Lh HBW.o.drew
  have hS := And.intro F_g.o.s (And.intro F_s.o.s F_p.o.s8)
  refine wp_region_stage 2 (fun w' => SBox w' w.heap.size P Q G ∧ SPair w' (w.heap.size + 1) a b ∧ S8 w' (w.heap.size + 1 + 1) r0 r1 s0 s1 c0 c1 z0 z1) (by kernel_rfl) ?_
  refine tk8 0 (some 16) (.load 24 (.tmp 5)) 24 [2] ?_
  simp only [sY]
  refine tkQ 1 (some 17) (.move (.tmp 11)) 34 ?_
  simp only [sY]
  refine onl (i := 2) (some 18) (.call { callee := .value (.func 151), args := #[.tmp 16, .tmp 17], argTypes := #[24, 34] }) 4 (fun K hK => ?_)
  unfold bareOp
  go_wp2_with (go_at_call 151; refine (rmembers_any (v := false) _ HH.o F_ls.o HRG.o (by simp) ⟨fun h => (by cases h), fun h => absurd h HM.o⟩).mono ?_; rintro e w2 ⟨rfl, hb2⟩)
  replace F_g := Lh (F_g.o.keep hb2)
  replace F_s := Lh (F_s.o.keep hb2)
  replace F_p := Lh (F_p.o.keep hb2)
  replace F_ls := Lh (F_ls.o.keep hb2)
  replace HBW := Kt HBW hb2
  replace hS := And.intro F_g.o.s (And.intro F_s.o.s F_p.o.s8)
  clear hb2
  refine hK.o _ _ lt8 ?_
  clear hK K
  try simp only [sY]
  refine tkP (i := 3) (some 19) (.move (.tmp 18)) 4 lt8 ?_
  simp only [sY]
  refine skG (i := 4) (some 20) (.load 24 (.tmp 5)) 24 (some (3, true)) lt8 ?_
  simp only [sY]
  refine skG (i := 5) (some 21) (.move (.tmp 1)) 22 (some (3, true)) lt8 ?_
  simp only [sY]
  refine skG (i := 6) (some 22) (.load 75 (.tmp 7)) 75 (some (3, true)) lt8 ?_
  simp only [sY]
  refine skG (i := 7) (some 23) (.load 31 (.tmp 8)) 31 (some (3, true)) lt8 ?_
  simp only [sY]
  refine skG (i := 8) (some 24) (.load 24 (.tmp 5)) 24 (some (3, true)) lt8 ?_
  simp only [sY]
  refine skG (i := 9) (some 25) (.move (.tmp 11)) 34 (some (3, true)) lt8 ?_
  simp only [sY]
  refine skG (i := 10) (some 26) (.move (.tmp 4)) 80 (some (3, true)) lt8 ?_
  simp only [sY]
  refine skG (i := 11) (some 27) (.call { callee := .value (.func 109), args := #[.tmp 24, .tmp 25, .tmp 26], argTypes := #[24, 34, 80] }) 22 (some (3, true)) lt8 ?_
  simp only [sY]
  refine skG (i := 12) (some 28) (.call { callee := .value (.func 152), args := #[.tmp 20, .tmp 21, .tmp 22, .tmp 23, .tmp 27], argTypes := #[24, 22, 75, 31, 22] }) 4 (some (3, true)) lt8 ?_
  simp only [sY]
  refine tkP (i := 13) (some 29) (.pick (.tmp 19) (.tmp 28) (.const (.bool false))) 4 lt8 ?_
  simp only [sY]
  refine tkP (i := 14) (some 10) (.assign (.tmp 29)) 4 lt8 ?_
  simp only [sY]
  refine wpAnyB_done (by kernel_rfl) ?_ _
  clear hS
  go_wp2_with fail
  go_ret
  exact ⟨ret_bool HZ.o, HBW.o⟩
 case pos =>
  have HM := Lh hM
  have HZ := Lh (show v = true ↔ bhP P Q G y a b r0 r1 s0 s1 c0 c1 z0 z1 h_ from HV.o.trans ⟨fun h => by rw [← HCC.o]; exact h.2, fun h => ⟨(mems_perm _ _ _ _ _ _ _ _ _).2 HM.o, by rw [HCC.o]; exact h⟩⟩)
  clear hM
  have F_g := Lh (show Boxed (((w.alloc (.cells #[υ P, υ Q, υ G] 24)).alloc (.cells #[υ a, υ b] 75)).alloc (.cells #[υ r0, υ r1, υ s0, υ s1, υ c0, υ c1, υ z0, υ z1] 31)) (w.heap.size) P Q G from ((Boxed.at _ P Q G _ (w.heap.size) (by simp)).alloc _).alloc _)
  have F_s := Lh (show Pair (((w.alloc (.cells #[υ P, υ Q, υ G] 24)).alloc (.cells #[υ a, υ b] 75)).alloc (.cells #[υ r0, υ r1, υ s0, υ s1, υ c0, υ c1, υ z0, υ z1] 31)) (w.heap.size + 1) a b from (Pair.at _ a b _ (w.heap.size + 1) (by simp)).alloc _)
  have F_p := Lh (show Arr .u64 (((w.alloc (.cells #[υ P, υ Q, υ G] 24)).alloc (.cells #[υ a, υ b] 75)).alloc (.cells #[υ r0, υ r1, υ s0, υ s1, υ c0, υ c1, υ z0, υ z1] 31)) (w.heap.size + 1 + 1) [r0, r1, s0, s1, c0, c1, z0, z1] from Arr.new .u64 _ [r0, r1, s0, s1, c0, c1, z0, z1] _ (w.heap.size + 1 + 1) (by simp))
  have HBW := Lh (show Below w.heap.size w (((w.alloc (.cells #[υ P, υ Q, υ G] 24)).alloc (.cells #[υ a, υ b] 75)).alloc (.cells #[υ r0, υ r1, υ s0, υ s1, υ c0, υ c1, υ z0, υ z1] 31)) from (((Below.refl _ _).alloc (by simp <;> omega) _).alloc (by simp <;> omega) _).alloc (by simp <;> omega) _)
  go_enter Tryz.func137, Tryz.ntmps137
  obtain ⟨Q0, Q1, Q2, Q3, Q4, Q5, Q6, Q7, Q8, Q9, Qa, Qb, Qc, Qd, Qe, Qf⟩ := Arr.k8 F_p.o
  obtain ⟨xa, xb, xc, -⟩ := id F_g.o
  obtain ⟨ya, yb, yc, yd, -⟩ := id F_s.o
  go_wp2_with fail
  clear xa xb xc ya yb yc yd Q0 Q1 Q2 Q3 Q4 Q5 Q6 Q7 Q8 Q9 Qa Qb Qc Qd Qe Qf
  refine (rlist_any _).mono ?_
  rintro e w1 ⟨BL, rfl, hms, hb1⟩
  replace F_g := Lh (F_g.o.keep hb1)
  replace F_s := Lh (F_s.o.keep hb1)
  replace F_p := Lh (F_p.o.keep hb1)
  replace HBW := Kt HBW hb1
  have F_ls := Lh hms
  clear hb1 hms
  obtain ⟨Q0, Q1, Q2, Q3, Q4, Q5, Q6, Q7, Q8, Q9, Qa, Qb, Qc, Qd, Qe, Qf⟩ := Arr.k8 F_p.o
  obtain ⟨xa, xb, xc, -⟩ := id F_g.o
  obtain ⟨ya, yb, yc, yd, -⟩ := id F_s.o
  go_wp2_with fail
  clear xa xb xc ya yb yc yd Q0 Q1 Q2 Q3 Q4 Q5 Q6 Q7 Q8 Q9 Qa Qb Qc Qd Qe Qf
  replace F_g := Lh F_g.o.drew
  replace F_s := Lh F_s.o.drew
  replace F_p := Lh F_p.o.drew
  replace F_ls := Lh F_ls.o.drew
  replace HBW := Lh HBW.o.drew
  have hS := And.intro F_g.o.s (And.intro F_s.o.s F_p.o.s8)
  refine wp_region_stage 12 (fun w' => SBox w' w.heap.size P Q G ∧ SPair w' (w.heap.size + 1) a b ∧ S8 w' (w.heap.size + 1 + 1) r0 r1 s0 s1 c0 c1 z0 z1) (by kernel_rfl) ?_
  refine tk8 0 (some 16) (.load 24 (.tmp 5)) 24 [2, 3, 4, 5, 6, 7, 8, 9, 10, 11, 12] ?_
  simp only [sY]
  refine tkQ 1 (some 17) (.move (.tmp 11)) 34 ?_
  simp only [sY]
  refine onl (i := 2) (some 18) (.call { callee := .value (.func 151), args := #[.tmp 16, .tmp 17], argTypes := #[24, 34] }) 4 (fun K hK => ?_)
  unfold bareOp
  go_wp2_with (go_at_call 151; refine (rmembers_any (v := true) _ HH.o F_ls.o HRG.o (by simp) ⟨fun _ => HM.o, fun _ => rfl⟩).mono ?_; rintro e w2 ⟨rfl, hb2⟩)
  replace F_g := Lh (F_g.o.keep hb2)
  replace F_s := Lh (F_s.o.keep hb2)
  replace F_p := Lh (F_p.o.keep hb2)
  replace F_ls := Lh (F_ls.o.keep hb2)
  replace HBW := Kt HBW hb2
  replace hS := And.intro F_g.o.s (And.intro F_s.o.s F_p.o.s8)
  clear hb2
  refine hK.o _ _ (fun _ => hS) ?_
  clear hK K
  try simp only [sY]
  refine tkQ 3 (some 19) (.move (.tmp 18)) 4 ?_
  simp only [sY]
  refine tkLG (i := 4) (some 20) (.load 24 (.tmp 5)) 24 (some (3, true)) [12] (v := ?_) hS (fun w' hSw => ?_) ?_
  rotate_left
  · obtain ⟨⟨Z0, Z1, Z2⟩, ⟨Z3, Z4⟩, ⟨Z5, Z6, Z7, Z8, Z9, Za, Zb, Zc⟩⟩ := hSw
    unfold bareOp; go_simp; try with_reducible rfl
  simp only [sY]
  refine tkPG (i := 5) (some 21) (.move (.tmp 1)) 22 (some (3, true)) (fun _ => hS) ?_
  simp only [sY]
  refine tkLG (i := 6) (some 22) (.load 75 (.tmp 7)) 75 (some (3, true)) [12] (v := ?_) hS (fun w' hSw => ?_) ?_
  rotate_left
  · obtain ⟨⟨Z0, Z1, Z2⟩, ⟨Z3, Z4⟩, ⟨Z5, Z6, Z7, Z8, Z9, Za, Zb, Zc⟩⟩ := hSw
    unfold bareOp; go_simp; try with_reducible rfl
  simp only [sY]
  refine tkLG (i := 7) (some 23) (.load 31 (.tmp 8)) 31 (some (3, true)) [12] (v := ?_) hS (fun w' hSw => ?_) ?_
  rotate_left
  · obtain ⟨⟨Z0, Z1, Z2⟩, ⟨Z3, Z4⟩, ⟨Z5, Z6, Z7, Z8, Z9, Za, Zb, Zc⟩⟩ := hSw
    unfold bareOp; go_simp; try with_reducible rfl
  simp only [sY]
  refine tkLG (i := 8) (some 24) (.load 24 (.tmp 5)) 24 (some (3, true)) [11, 12] (v := ?_) hS (fun w' hSw => ?_) ?_
  rotate_left
  · obtain ⟨⟨Z0, Z1, Z2⟩, ⟨Z3, Z4⟩, ⟨Z5, Z6, Z7, Z8, Z9, Za, Zb, Zc⟩⟩ := hSw
    unfold bareOp; go_simp; try with_reducible rfl
  simp only [sY]
  refine tkPG (i := 9) (some 25) (.move (.tmp 11)) 34 (some (3, true)) (fun _ => hS) ?_
  simp only [sY]
  refine tkPG (i := 10) (some 26) (.move (.tmp 4)) 80 (some (3, true)) (fun _ => hS) ?_
  simp only [sY]
  refine wpAnyB_onlyG (i := 11) (some 27) (.call { callee := .value (.func 109), args := #[.tmp 24, .tmp 25, .tmp 26], argTypes := #[24, 34, 80] }) 22 (some (3, true)) ⟨_, rfl, rfl, rfl, rfl, rfl⟩ (by kernel_rfl) rfl (fun K hK => ?_)
  unfold bareOp
  go_wp2_with (go_at_call 109; refine (rOf31_any _ (HT.o.keep HBW.o) HH.o F_ls.o HUS.o (by simp) (by simp) (by omega) HCC.o).mono ?_; rintro e w3 ⟨rfl, hb3⟩)
  replace F_g := Lh (F_g.o.keep hb3)
  replace F_s := Lh (F_s.o.keep hb3)
  replace F_p := Lh (F_p.o.keep hb3)
  replace F_ls := Lh (F_ls.o.keep hb3)
  replace HBW := Kt HBW hb3
  replace hS := And.intro F_g.o.s (And.intro F_s.o.s F_p.o.s8)
  clear hb3
  refine hK.o _ _ (fun _ => hS) ?_
  clear hK K
  try simp only [sY]
  refine wpAnyB_onlyG (i := 12) (some 28) (.call { callee := .value (.func 152), args := #[.tmp 20, .tmp 21, .tmp 22, .tmp 23, .tmp 27], argTypes := #[24, 22, 75, 31, 22] }) 4 (some (3, true)) ⟨_, rfl, rfl, rfl, rfl, rfl⟩ (by kernel_rfl) rfl (fun K hK => ?_)
  unfold bareOp
  go_wp2_with (go_at_call 152; refine (rBitIs_any (v := v) _ HH.o y0 yP a0 aP b_0 b_P r0_0 r0_P r1_0 r1_P s0_0 s0_P s1_0 s1_P c0_0 c0_Q c1_0 c1_Q z0_0 z0_Q z1_0 z1_Q HZ.o).mono ?_; rintro e w4 ⟨rfl, hb4⟩)
  replace F_g := Lh (F_g.o.keep hb4)
  replace F_s := Lh (F_s.o.keep hb4)
  replace F_p := Lh (F_p.o.keep hb4)
  replace F_ls := Lh (F_ls.o.keep hb4)
  replace HBW := Kt HBW hb4
  replace hS := And.intro F_g.o.s (And.intro F_s.o.s F_p.o.s8)
  clear hb4
  refine hK.o _ _ lt8 ?_
  clear hK K
  try simp only [sY]
  refine tkP (i := 13) (some 29) (.pick (.tmp 19) (.tmp 28) (.const (.bool false))) 4 lt8 ?_
  simp only [sY]
  refine tkP (i := 14) (some 10) (.assign (.tmp 29)) 4 lt8 ?_
  simp only [sY]
  refine wpAnyB_done (by kernel_rfl) ?_ _
  clear hS
  go_wp2_with fail
  go_ret
  exact ⟨rfl, HBW.o⟩
set_option maxHeartbeats 8000000 in
theorem rbitVerify_any {P Q G y a b r0 r1 s0 s1 c0 c1 z0 z1 e' : Int} {v : Bool} {tx : Option Addr} {n cp : Nat} {T : List Int} (w : World) (hT : Txt w tx n T) (hP : 0 ≤ P) (hQ : 0 ≤ Q) (hG : 0 ≤ G) (y0 : 0 ≤ y) (a0 : 0 ≤ a) (b_0 : 0 ≤ b) (r0_0 : 0 ≤ r0) (r1_0 : 0 ≤ r1) (s0_0 : 0 ≤ s0) (s1_0 : 0 ≤ s1) (c0_0 : 0 ≤ c0) (c1_0 : 0 ≤ c1) (z0_0 : 0 ≤ z0) (z1_0 : 0 ≤ z1) (hn : n ≤ 8100) (h : RetB (lgS (askS P Q G [c0, c1, z0, z1] [y, a, b, r0, r1, s0, s1]) n) (bvP P Q G y a b r0 r1 s0 s1 c0 c1 z0 z1 T) v e') :
 Calls Tryz.prog 116 #[.agg #[υ P, υ Q, υ G], υ y, .agg #[υ a, υ b], .agg #[υ r0, υ r1, υ s0, υ s1, υ c0, υ c1, υ z0, υ z1], .slice tx n cp] w fun e w' => e = .returned (.tuple #[.bool v, .int .i64 e']) ∧ Below w.heap.size w w' := by
 have HT := Lh hT
 clear hT
 rcases h with ⟨h, hv, rfl⟩ | ⟨h, rfl, hc⟩
 · obtain ⟨h, hn8⟩ := lgS_zero h
   obtain ⟨hH, he, hnn⟩ := askS_zero h
   have HR := Lh h
   have HV := Lh hv
   have HLG := Lh (show lgS 0 n = 0 from lgS_ok rfl hn8)
   have c0_Q := he c0 (by simp)
   have c1_Q := he c1 (by simp)
   have z0_Q := he z0 (by simp)
   have z1_Q := he z1 (by simp)
   have y_P := hnn y (by simp)
   have a_P := hnn a (by simp)
   have b_P := hnn b (by simp)
   have r0_P := hnn r0 (by simp)
   have r1_P := hnn r1 (by simp)
   have s0_P := hnn s0 (by simp)
   have s1_P := hnn s1 (by simp)
   clear h hv he hnn
   obtain ⟨p5, p3, hQ', pq, g2, gP⟩ := id hH
   have hP1 : 1 ≤ P := by omega
   have hGM : G < 2147483648 := by omega
   have q3 : Q < 1073741824 := by omega
   have q2 : 2 ≤ Q := by omega
   have HH := Lh hH
   clear hH pq
   have HR2 := Lh ((askS_perm _ _ _ _ _ _ _ _ _ _ _).symm.trans HR.o)
   have yP := y_P
   have aP := a_P
   have F_g := Lh (show Boxed (((w.alloc (.cells #[υ P, υ Q, υ G] 24)).alloc (.cells #[υ a, υ b] 75)).alloc (.cells #[υ r0, υ r1, υ s0, υ s1, υ c0, υ c1, υ z0, υ z1] 31)) (w.heap.size) P Q G from ((Boxed.at _ P Q G _ (w.heap.size) (by simp)).alloc _).alloc _)
   have F_s := Lh (show Pair (((w.alloc (.cells #[υ P, υ Q, υ G] 24)).alloc (.cells #[υ a, υ b] 75)).alloc (.cells #[υ r0, υ r1, υ s0, υ s1, υ c0, υ c1, υ z0, υ z1] 31)) (w.heap.size + 1) a b from (Pair.at _ a b _ (w.heap.size + 1) (by simp)).alloc _)
   have F_p := Lh (show Arr .u64 (((w.alloc (.cells #[υ P, υ Q, υ G] 24)).alloc (.cells #[υ a, υ b] 75)).alloc (.cells #[υ r0, υ r1, υ s0, υ s1, υ c0, υ c1, υ z0, υ z1] 31)) (w.heap.size + 1 + 1) [r0, r1, s0, s1, c0, c1, z0, z1] from Arr.new .u64 _ [r0, r1, s0, s1, c0, c1, z0, z1] _ (w.heap.size + 1 + 1) (by simp))
   have HBW := Lh (show Below w.heap.size w (((w.alloc (.cells #[υ P, υ Q, υ G] 24)).alloc (.cells #[υ a, υ b] 75)).alloc (.cells #[υ r0, υ r1, υ s0, υ s1, υ c0, υ c1, υ z0, υ z1] 31)) from (((Below.refl _ _).alloc (by simp <;> omega) _).alloc (by simp <;> omega) _).alloc (by simp <;> omega) _)
   go_enter Tryz.func116, Tryz.ntmps116
   obtain ⟨Q0, Q1, Q2, Q3, Q4, Q5, Q6, Q7, Q8, Q9, Qa, Qb, Qc, Qd, Qe, Qf⟩ := Arr.k8 F_p.o
   obtain ⟨xa, xb, xc, -⟩ := id F_g.o
   obtain ⟨ya, yb, yc, yd, -⟩ := id F_s.o
   go_wp2_with fail
   clear xa xb xc ya yb yc yd Q0 Q1 Q2 Q3 Q4 Q5 Q6 Q7 Q8 Q9 Qa Qb Qc Qd Qe Qf
   refine (rBitAsked_any _ hP hQ hG HR2.o).mono ?_
   rintro e w1 ⟨rfl, hb1⟩
   replace F_g := Lh (F_g.o.keep hb1)
   replace F_s := Lh (F_s.o.keep hb1)
   replace F_p := Lh (F_p.o.keep hb1)
   replace HBW := Kt HBW hb1
   clear hb1
   obtain ⟨Q0, Q1, Q2, Q3, Q4, Q5, Q6, Q7, Q8, Q9, Qa, Qb, Qc, Qd, Qe, Qf⟩ := Arr.k8 F_p.o
   obtain ⟨xa, xb, xc, -⟩ := id F_g.o
   obtain ⟨ya, yb, yc, yd, -⟩ := id F_s.o
   go_wp2_with fail
   clear xa xb xc ya yb yc yd Q0 Q1 Q2 Q3 Q4 Q5 Q6 Q7 Q8 Q9 Qa Qb Qc Qd Qe Qf
   refine (rlong_any _ HLG.o).mono ?_
   rintro e w2 ⟨rfl, rfl⟩
   obtain ⟨Q0, Q1, Q2, Q3, Q4, Q5, Q6, Q7, Q8, Q9, Qa, Qb, Qc, Qd, Qe, Qf⟩ := Arr.k8 F_p.o
   obtain ⟨xa, xb, xc, -⟩ := id F_g.o
   obtain ⟨ya, yb, yc, yd, -⟩ := id F_s.o
   go_wp2_with fail
   clear xa xb xc ya yb yc yd Q0 Q1 Q2 Q3 Q4 Q5 Q6 Q7 Q8 Q9 Qa Qb Qc Qd Qe Qf
   refine (rBitGood_any (v := v) _ (HT.o.keep HBW.o) HH.o y0 yP a0 aP b_0 b_P r0_0 r0_P r1_0 r1_P s0_0 s0_P s1_0 s1_P c0_0 c0_Q c1_0 c1_Q z0_0 z0_Q z1_0 z1_Q hn8 HV.o).mono ?_
   rintro e w3 ⟨rfl, hb3⟩
   replace F_g := Lh (F_g.o.keep hb3)
   replace F_s := Lh (F_s.o.keep hb3)
   replace F_p := Lh (F_p.o.keep hb3)
   replace HBW := Kt HBW hb3
   clear hb3
   obtain ⟨Q0, Q1, Q2, Q3, Q4, Q5, Q6, Q7, Q8, Q9, Qa, Qb, Qc, Qd, Qe, Qf⟩ := Arr.k8 F_p.o
   obtain ⟨xa, xb, xc, -⟩ := id F_g.o
   obtain ⟨ya, yb, yc, yd, -⟩ := id F_s.o
   go_wp2_with fail
   go_ret2
   exact ⟨rfl, HBW.o⟩
 · by_cases ha : askS P Q G [c0, c1, z0, z1] [y, a, b, r0, r1, s0, s1] = 0
   · have hn8 := lgS_long ha h
     obtain rfl : e' = 4 := by rw [hc]; exact lgS_four ha hn8
     have HR := Lh ha
     have HLG := Lh (show lgS 0 n = 4 from lgS_four rfl hn8)
     clear h hc ha
     have HR2 := Lh ((askS_perm _ _ _ _ _ _ _ _ _ _ _).symm.trans HR.o)
     have F_g := Lh (show Boxed (((w.alloc (.cells #[υ P, υ Q, υ G] 24)).alloc (.cells #[υ a, υ b] 75)).alloc (.cells #[υ r0, υ r1, υ s0, υ s1, υ c0, υ c1, υ z0, υ z1] 31)) (w.heap.size) P Q G from ((Boxed.at _ P Q G _ (w.heap.size) (by simp)).alloc _).alloc _)
     have F_s := Lh (show Pair (((w.alloc (.cells #[υ P, υ Q, υ G] 24)).alloc (.cells #[υ a, υ b] 75)).alloc (.cells #[υ r0, υ r1, υ s0, υ s1, υ c0, υ c1, υ z0, υ z1] 31)) (w.heap.size + 1) a b from (Pair.at _ a b _ (w.heap.size + 1) (by simp)).alloc _)
     have F_p := Lh (show Arr .u64 (((w.alloc (.cells #[υ P, υ Q, υ G] 24)).alloc (.cells #[υ a, υ b] 75)).alloc (.cells #[υ r0, υ r1, υ s0, υ s1, υ c0, υ c1, υ z0, υ z1] 31)) (w.heap.size + 1 + 1) [r0, r1, s0, s1, c0, c1, z0, z1] from Arr.new .u64 _ [r0, r1, s0, s1, c0, c1, z0, z1] _ (w.heap.size + 1 + 1) (by simp))
     have HBW := Lh (show Below w.heap.size w (((w.alloc (.cells #[υ P, υ Q, υ G] 24)).alloc (.cells #[υ a, υ b] 75)).alloc (.cells #[υ r0, υ r1, υ s0, υ s1, υ c0, υ c1, υ z0, υ z1] 31)) from (((Below.refl _ _).alloc (by simp <;> omega) _).alloc (by simp <;> omega) _).alloc (by simp <;> omega) _)
     go_enter Tryz.func116, Tryz.ntmps116
     obtain ⟨Q0, Q1, Q2, Q3, Q4, Q5, Q6, Q7, Q8, Q9, Qa, Qb, Qc, Qd, Qe, Qf⟩ := Arr.k8 F_p.o
     obtain ⟨xa, xb, xc, -⟩ := id F_g.o
     obtain ⟨ya, yb, yc, yd, -⟩ := id F_s.o
     go_wp2_with fail
     clear xa xb xc ya yb yc yd Q0 Q1 Q2 Q3 Q4 Q5 Q6 Q7 Q8 Q9 Qa Qb Qc Qd Qe Qf
     refine (rBitAsked_any _ hP hQ hG HR2.o).mono ?_
     rintro e w1 ⟨rfl, hb1⟩
     replace F_g := Lh (F_g.o.keep hb1)
     replace F_s := Lh (F_s.o.keep hb1)
     replace F_p := Lh (F_p.o.keep hb1)
     replace HBW := Kt HBW hb1
     clear hb1
     obtain ⟨Q0, Q1, Q2, Q3, Q4, Q5, Q6, Q7, Q8, Q9, Qa, Qb, Qc, Qd, Qe, Qf⟩ := Arr.k8 F_p.o
     obtain ⟨xa, xb, xc, -⟩ := id F_g.o
     obtain ⟨ya, yb, yc, yd, -⟩ := id F_s.o
     go_wp2_with fail
     clear xa xb xc ya yb yc yd Q0 Q1 Q2 Q3 Q4 Q5 Q6 Q7 Q8 Q9 Qa Qb Qc Qd Qe Qf
     refine (rlong_any _ HLG.o).mono ?_
     rintro e w2 ⟨rfl, rfl⟩
     obtain ⟨Q0, Q1, Q2, Q3, Q4, Q5, Q6, Q7, Q8, Q9, Qa, Qb, Qc, Qd, Qe, Qf⟩ := Arr.k8 F_p.o
     obtain ⟨xa, xb, xc, -⟩ := id F_g.o
     obtain ⟨ya, yb, yc, yd, -⟩ := id F_s.o
     go_wp2_with fail
     go_ret2
     exact ⟨rfl, HBW.o⟩
   · have hc' : e' = askS P Q G [c0, c1, z0, z1] [y, a, b, r0, r1, s0, s1] := by rw [hc]; exact lgS_ne ha
     have hnc : e' ≠ 0 := by rw [hc']; exact ha
     have hn1 : (e' != 0) = true := by simpa using hnc
     have HR := Lh hc'.symm
     have HLG := Lh (show lgS e' n = e' from lgS_ne hnc)
     clear h hc ha hc' hnc
     have HR2 := Lh ((askS_perm _ _ _ _ _ _ _ _ _ _ _).symm.trans HR.o)
     have F_g := Lh (show Boxed (((w.alloc (.cells #[υ P, υ Q, υ G] 24)).alloc (.cells #[υ a, υ b] 75)).alloc (.cells #[υ r0, υ r1, υ s0, υ s1, υ c0, υ c1, υ z0, υ z1] 31)) (w.heap.size) P Q G from ((Boxed.at _ P Q G _ (w.heap.size) (by simp)).alloc _).alloc _)
     have F_s := Lh (show Pair (((w.alloc (.cells #[υ P, υ Q, υ G] 24)).alloc (.cells #[υ a, υ b] 75)).alloc (.cells #[υ r0, υ r1, υ s0, υ s1, υ c0, υ c1, υ z0, υ z1] 31)) (w.heap.size + 1) a b from (Pair.at _ a b _ (w.heap.size + 1) (by simp)).alloc _)
     have F_p := Lh (show Arr .u64 (((w.alloc (.cells #[υ P, υ Q, υ G] 24)).alloc (.cells #[υ a, υ b] 75)).alloc (.cells #[υ r0, υ r1, υ s0, υ s1, υ c0, υ c1, υ z0, υ z1] 31)) (w.heap.size + 1 + 1) [r0, r1, s0, s1, c0, c1, z0, z1] from Arr.new .u64 _ [r0, r1, s0, s1, c0, c1, z0, z1] _ (w.heap.size + 1 + 1) (by simp))
     have HBW := Lh (show Below w.heap.size w (((w.alloc (.cells #[υ P, υ Q, υ G] 24)).alloc (.cells #[υ a, υ b] 75)).alloc (.cells #[υ r0, υ r1, υ s0, υ s1, υ c0, υ c1, υ z0, υ z1] 31)) from (((Below.refl _ _).alloc (by simp <;> omega) _).alloc (by simp <;> omega) _).alloc (by simp <;> omega) _)
     go_enter Tryz.func116, Tryz.ntmps116
     obtain ⟨Q0, Q1, Q2, Q3, Q4, Q5, Q6, Q7, Q8, Q9, Qa, Qb, Qc, Qd, Qe, Qf⟩ := Arr.k8 F_p.o
     obtain ⟨xa, xb, xc, -⟩ := id F_g.o
     obtain ⟨ya, yb, yc, yd, -⟩ := id F_s.o
     go_wp2_with fail
     clear xa xb xc ya yb yc yd Q0 Q1 Q2 Q3 Q4 Q5 Q6 Q7 Q8 Q9 Qa Qb Qc Qd Qe Qf
     refine (rBitAsked_any _ hP hQ hG HR2.o).mono ?_
     rintro e w1 ⟨rfl, hb1⟩
     replace F_g := Lh (F_g.o.keep hb1)
     replace F_s := Lh (F_s.o.keep hb1)
     replace F_p := Lh (F_p.o.keep hb1)
     replace HBW := Kt HBW hb1
     clear hb1
     obtain ⟨Q0, Q1, Q2, Q3, Q4, Q5, Q6, Q7, Q8, Q9, Qa, Qb, Qc, Qd, Qe, Qf⟩ := Arr.k8 F_p.o
     obtain ⟨xa, xb, xc, -⟩ := id F_g.o
     obtain ⟨ya, yb, yc, yd, -⟩ := id F_s.o
     go_wp2_with fail
     clear xa xb xc ya yb yc yd Q0 Q1 Q2 Q3 Q4 Q5 Q6 Q7 Q8 Q9 Qa Qb Qc Qd Qe Qf
     refine (rlong_any _ HLG.o).mono ?_
     rintro e w2 ⟨rfl, rfl⟩
     obtain ⟨Q0, Q1, Q2, Q3, Q4, Q5, Q6, Q7, Q8, Q9, Qa, Qb, Qc, Qd, Qe, Qf⟩ := Arr.k8 F_p.o
     obtain ⟨xa, xb, xc, -⟩ := id F_g.o
     obtain ⟨ya, yb, yc, yd, -⟩ := id F_s.o
     go_wp2_with fail
     go_ret2
     exact ⟨rfl, HBW.o⟩
end Go.Proofs.YtlbldpkgnonbpaaGreatDoor
