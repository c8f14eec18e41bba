/- The reference's sums of lists of ciphertexts. -/
import Derived.Test.YtembepajnigfiaaSumE
import Derived.Test.YtembepajnigfiaaRelB
namespace Go.Proofs.Ytembepajnigfiaa
open Go.RowKit Num
set_option linter.unusedSimpArgs false
set_option linter.unusedVariables false

/-- What holds behind k rounds of All. -/
structure AllIn (w wr : World) (g R X : Nat) (P Q G : Int) (ps : List (Int × Int)) (k : Nat) : Prop where
  sum : ∃ p q, allP P (ps.take k) = (p, q) ∧ 0 ≤ p ∧ p < P ∧ 0 ≤ q ∧ q < P ∧ Pair wr X p q
  box : Boxed wr g P Q G
  res : Pair wr R 0 0
  bel : Below w.heap.size w wr
def SCells (w : World) (s o k : Nat) (u v : Int) : Prop := w.cell? ⟨s, o + k * 2, none⟩ = some (.int .u64 u) ∧ w.cell? ⟨s, o + k * 2 + 1, none⟩ = some (.int .u64 v)
theorem SCells.keep {w w' : World} {s o k : Nat} {u v : Int} (h : SCells w s o k u v) (hs : s < w.heap.size) (hb : Below w.heap.size w w') : SCells w' s o k u v :=
  ⟨(hb.cell (p := ⟨s, o + k * 2, none⟩) hs).trans h.1, (hb.cell (p := ⟨s, o + k * 2 + 1, none⟩) hs).trans h.2⟩
theorem okS_mem {P : Int} {ps : List (Int × Int)} (h : okS P ps = true) {p : Int × Int} (hm : p ∈ ps) : p.1 < P ∧ p.2 < P := by
  have := List.all_eq_true.1 h _ hm
  simpa using this

set_option maxRecDepth 100000 in
set_option maxHeartbeats 1600000 in
theorem rall_any {P Q G x y : Int} {a : Option Addr} {n c : Nat} {ps : List (Int × Int)} (w : World) (hH : Has P Q G) (hS : ShS w a n ps) (hN : ∀ p, p ∈ ps → 0 ≤ p.1 ∧ 0 ≤ p.2) (ho : okS P ps = true) (hn : n ≤ 10000) (hv : allP P ps = (x, y)) :
    Calls Try.prog 23 #[.agg #[.int .u64 P, .int .u64 Q, .int .u64 G], .slice a n c] w fun e w' => e = .returned (.agg #[.int .u64 x, .int .u64 y]) ∧ Below w.heap.size w w' := by
  have HS := Lib.hid hS
  have HN := Lib.hid hN
  have HO := Lib.hid ho
  have HV := Lib.hid hv
  have PM := hH.2.1
  have hP1 : 1 < P := by have := hH.1; omega
  clear hS hN ho hv hH
  have F_g := Lib.hid (show Boxed (((w.alloc (.cells #[.int .u64 P, .int .u64 Q, .int .u64 G] 24)).alloc (.cells #[.int .u64 0, .int .u64 0] 45)).alloc (.cells #[.int .u64 1, .int .u64 1] 45)) (w.heap.size) P Q G from ((Boxed.at _ P Q G _ (w.heap.size) (by simp)).alloc _).alloc _)
  have F_r := Lib.hid (show Pair (((w.alloc (.cells #[.int .u64 P, .int .u64 Q, .int .u64 G] 24)).alloc (.cells #[.int .u64 0, .int .u64 0] 45)).alloc (.cells #[.int .u64 1, .int .u64 1] 45)) (w.heap.size + 1) 0 0 from (Pair.at _ 0 0 _ (w.heap.size + 1) (by simp)).alloc _)
  have F_x := Lib.hid (show Pair (((w.alloc (.cells #[.int .u64 P, .int .u64 Q, .int .u64 G] 24)).alloc (.cells #[.int .u64 0, .int .u64 0] 45)).alloc (.cells #[.int .u64 1, .int .u64 1] 45)) (w.heap.size + 1 + 1) 1 1 from Pair.at _ 1 1 _ (w.heap.size + 1 + 1) (by simp))
  have HBW := Lib.hid (show Below w.heap.size w (((w.alloc (.cells #[.int .u64 P, .int .u64 Q, .int .u64 G] 24)).alloc (.cells #[.int .u64 0, .int .u64 0] 45)).alloc (.cells #[.int .u64 1, .int .u64 1] 45)) from (((Below.refl _ _).alloc (by simp <;> omega) _).alloc (by simp <;> omega) _).alloc (by simp <;> omega) _)
  go_enter Try.func23, Try.ntmps23
  go_wp2_with fail
  go_loopw [6] (fun c6 wr => ∃ k : Nat, k ≤ n ∧ c6 = .int .i64 k ∧ Hid (AllIn w wr w.heap.size (w.heap.size + 1) (w.heap.size + 1 + 1) P Q G ps k)) (fun c6 _ => n - (intOf c6).toNat)
  case atStart => exact ⟨0, Nat.zero_le _, rfl, ⟨⟨1, 1, rfl, by omega, hP1, by omega, hP1, F_x.out⟩, F_g.out, F_r.out, HBW.out⟩⟩
  case round =>
    clear F_g F_r HBW F_x
    obtain ⟨k, hk, rfl, HK⟩ := hrel
    have hln := HS.out.len
    by_cases hlt : k < n
    case neg =>
      have hkn : k = n := by omega
      obtain ⟨p, q, hpq, p0, pP, q0, qP, hX⟩ := HK.out.sum
      have htk : ps.take k = ps := by rw [hkn, hln, List.take_length]
      obtain ⟨rfl, rfl⟩ : p = x ∧ q = y := by rw [htk, HV.out] at hpq; cases hpq; exact ⟨rfl, rfl⟩
      have F_r := Lib.hid HK.out.res
      have HBW := Lib.hid HK.out.bel
      obtain ⟨e0, e1, -, -, -⟩ := id hX
      clear hpq htk HK
      have hzr := HBW.out.size
      obtain ⟨r0, r1, r2, r3, -⟩ := id F_r.out
      go_wp2_with fail
      exact bodyPost_ret (res_alone rfl (F_r.out.stored p q) _ rfl) rfl ⟨rfl, (HBW.out.setCell (by simp <;> omega) _).setCell (by simp <;> omega) _⟩
    case pos =>
      obtain ⟨s, o, hsa, hsl, d0, d1⟩ := (HS.out.keep HK.out.bel).at k hlt
      obtain ⟨u, v, huv⟩ : ∃ u v, ps.getD k (0, 0) = (u, v) := ⟨_, _, rfl⟩
      rw [huv] at d0 d1
      have hkl : k < ps.length := by omega
      have hsw : s < w.heap.size := by
        rcases HS.out with ⟨h, -⟩ | ⟨s', o', h0, -, h2, -⟩
        · omega
        · rw [h0] at hsa; cases hsa; exact h2
      have hmem := HN.out _ (mem_getD hkl huv)
      have hlim := okS_mem HO.out (mem_getD hkl huv)
      have hu0 : 0 ≤ u := hmem.1
      have hv0 : 0 ≤ v := hmem.2
      have hu : u < P := hlim.1
      have hv : v < P := hlim.2
      have HA := Lib.hid (allP_snoc P ps k u v hkl huv)
      clear huv hmem hlim hln
      obtain ⟨p, q, hpq, p0, pP, q0, qP, hX⟩ := HK.out.sum
      have HPQ := Lib.hid hpq
      clear hpq
      have hk0 : (0 : Int) ≤ (k : Int) := by omega
      have hk1 : (k : Int) < (n : Int) := by omega
      have hzr := HK.out.bel.size
      have hzR := HK.out.res.lt
      have hzX := hX.lt
      subst hsa
      go_wp2_with fail
      have F_b := Lib.hid HK.out.box.drew
      have F_r := Lib.hid HK.out.res.drew
      have F_x := Lib.hid hX.drew
      have HBW := Lib.hid HK.out.bel.drew
      clear HK hX
      have hS := And.intro F_b.out.s (And.intro F_x.out.s (show SCells wr.drew s o k u v from ⟨d0, d1⟩))
      clear d0 d1
      have c26 : Try.prog.cellsOf 45 = 2 := by kernel_rfl
      refine wp_region_stage 7 (fun w' => SBox w' w.heap.size P Q G ∧ SPair w' (w.heap.size + 1 + 1) p q ∧ SCells w' s o k u v) (by kernel_rfl) ?_
      refine wpAnyB_take (i := 0) (some 14) (Op.load 24 (Operand.tmp 2)) 24 (v := ?_) ⟨_, rfl, rfl, rfl, rfl, rfl⟩ (by kernel_rfl) (by kernel_rfl) (by kernel_rfl) [6, 7] (by kernel_rfl) (fun _ _ _ h => h) hS (fun w' hSw => ?_) ?_
      rotate_left
      · obtain ⟨⟨s0, s1, s2⟩, ⟨s3, s4⟩, ⟨s5, s6⟩⟩ := hSw
        unfold bareOp
        go_simp
        try with_reducible rfl
      simp only [Act.put, List.setIfInBounds_toArray, List.set_cons_zero, List.set_cons_succ]
      refine wpAnyB_take (i := 1) (some 15) (Op.load 45 (Operand.tmp 5)) 45 (v := ?_) ⟨_, rfl, rfl, rfl, rfl, rfl⟩ (by kernel_rfl) (by kernel_rfl) (by kernel_rfl) [6, 7] (by kernel_rfl) (fun _ _ _ h => h) hS (fun w' hSw => ?_) ?_
      rotate_left
      · obtain ⟨⟨s0, s1, s2⟩, ⟨s3, s4⟩, ⟨s5, s6⟩⟩ := hSw
        unfold bareOp
        go_simp
        try with_reducible rfl
      simp only [Act.put, List.setIfInBounds_toArray, List.set_cons_zero, List.set_cons_succ]
      refine wpAnyB_takeP (i := 2) (some 16) (Op.move (Operand.tmp 1)) 27 (v := ?_) ⟨_, rfl, rfl, rfl, rfl, rfl⟩ (by kernel_rfl) (by kernel_rfl) (by kernel_rfl) (by kernel_rfl) (fun _ _ _ h => h) (fun _ => hS) (fun w' => ?_) ?_
      rotate_left
      · unfold bareOp
        go_simp
        try with_reducible rfl
      simp only [Act.put, List.setIfInBounds_toArray, List.set_cons_zero, List.set_cons_succ]
      refine wpAnyB_takeP (i := 3) (some 17) (Op.move (Operand.tmp 6)) 3 (v := ?_) ⟨_, rfl, rfl, rfl, rfl, rfl⟩ (by kernel_rfl) (by kernel_rfl) (by kernel_rfl) (by kernel_rfl) (fun _ _ _ h => h) (fun _ => hS) (fun w' => ?_) ?_
      rotate_left
      · unfold bareOp
        go_simp
        try with_reducible rfl
      simp only [Act.put, List.setIfInBounds_toArray, List.set_cons_zero, List.set_cons_succ]
      refine wpAnyB_takeP (i := 4) (some 18) (Op.indexAddr 27 (Operand.tmp 16) (Operand.tmp 17)) 0 (v := ?_) ⟨_, rfl, rfl, rfl, rfl, rfl⟩ (by kernel_rfl) (by kernel_rfl) (by kernel_rfl) (by kernel_rfl) (fun _ _ _ h => h) (fun _ => hS) (fun w' => ?_) ?_
      rotate_left
      · unfold bareOp
        go_simp
        try with_reducible rfl
      simp only [Act.put, List.setIfInBounds_toArray, List.set_cons_zero, List.set_cons_succ]
      refine wpAnyB_take (i := 5) (some 19) (Op.load 45 (Operand.tmp 18)) 45 (v := ?_) ⟨_, rfl, rfl, rfl, rfl, rfl⟩ (by kernel_rfl) (by kernel_rfl) (by kernel_rfl) [6, 7] (by kernel_rfl) (fun _ _ _ h => h) hS (fun w' hSw => ?_) ?_
      rotate_left
      · obtain ⟨⟨s0, s1, s2⟩, ⟨s3, s4⟩, ⟨s5, s6⟩⟩ := hSw
        unfold bareOp
        go_simp
        try with_reducible rfl
      simp only [Act.put, List.setIfInBounds_toArray, List.set_cons_zero, List.set_cons_succ]
      refine wpAnyB_only (i := 6) (some 20) (Op.call { callee := Callee.value (Operand.func 28), args := #[Operand.tmp 14, Operand.tmp 15, Operand.tmp 19], argTypes := #[24, 45, 45] }) 45 ⟨_, rfl, rfl, rfl, rfl, rfl⟩ (by kernel_rfl) (fun K hK => ?_)
      unfold bareOp
      go_wp2_with (go_at_call 28; refine (rPlus_any _ PM p0 pP q0 qP hu0 hu hv0 hv rfl rfl).mono ?_; rintro e w3 ⟨rfl, hb3⟩)
      replace F_b := Lib.hid (F_b.out.keep hb3)
      replace F_r := Lib.hid (F_r.out.keep hb3)
      replace F_x := Lib.hid (F_x.out.keep hb3)
      replace HBW := Lib.hid (HBW.out.trans (hb3.mono HBW.out.size))
      have hd3 : SCells w3 s o k u v := ⟨(hb3.cell (p := ⟨s, o + k * 2, none⟩) (by simp; omega)).trans hS.2.2.1, (hb3.cell (p := ⟨s, o + k * 2 + 1, none⟩) (by simp; omega)).trans hS.2.2.2⟩
      replace hS := And.intro F_b.out.s (And.intro F_x.out.s hd3)
      clear hb3 hd3
      obtain ⟨za, zb, zc, zd, -⟩ := id F_x.out
      refine hK.out _ _ (fun _ => hS) ?_
      clear hK K
      try simp only [Act.put, List.setIfInBounds_toArray, List.set_cons_zero, List.set_cons_succ]
      refine wpAnyB_only (i := 7) none (Op.store 45 (Operand.tmp 5) (Operand.tmp 20)) 0 ⟨_, rfl, rfl, rfl, rfl, rfl⟩ (by kernel_rfl) (fun K hK => ?_)
      unfold bareOp
      go_wp2_with fail
      refine hK.out _ _ (fun h => absurd (h.symm.trans (by kernel_rfl : _ = true)) (by decide)) ?_
      clear hK K
      try simp only [Act.put, List.setIfInBounds_toArray, List.set_cons_zero, List.set_cons_succ]
      refine wpAnyB_done (by kernel_rfl) ?_ _
      go_wp2_with fail
      go_roundw
      case rel =>
        refine ⟨k + 1, by omega, by go_num, ⟨⟨_, _, ?_, Int.emod_nonneg _ (by omega), Int.emod_lt_of_pos _ (by omega), Int.emod_nonneg _ (by omega), Int.emod_lt_of_pos _ (by omega), F_x.out.stored _ _⟩, (F_b.out.far (by omega) _).far (by omega) _, (F_r.out.far (by omega) _).far (by omega) _, (HBW.out.setCell (by simp <;> omega) _).setCell (by simp <;> omega) _⟩⟩
        rw [HA.out, HPQ.out]; rfl
      case measure => simp [intOf]; omega

/-- What holds behind k rounds of the reference's Sum. -/
structure RSumIn (w wr : World) (g R : Nat) (P Q G : Int) (ps : List (Int × Int)) (k : Nat) (e : Int) : Prop where
  box : Boxed wr g P Q G
  res : Pair wr R 0 0
  bel : Below w.heap.size w wr
  st : (e = 0 ∧ okS P (ps.take k) = true) ∨ (e = 2 ∧ okS P ps = false)

end Go.Proofs.Ytembepajnigfiaa
