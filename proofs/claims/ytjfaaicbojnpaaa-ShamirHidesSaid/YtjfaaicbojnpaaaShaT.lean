/- The reference of layer 34: the value of a polynomial, the key of a number. -/
import Derived.Test.YtjfaaicbojnpaaaShaR
import Derived.Test.YtjfaaicbojnpaaaRelZ
import Derived.Test.YtjfaaicbojnpaaaRefD
namespace Go.Proofs.Ytjfaaicbojnpaaa
open Go.RowKit Num
set_option linter.unusedSimpArgs false
set_option linter.unusedVariables false

/-- The value of the first k terms of a polynomial. -/
def atS (Q i : Int) (xs : List Int) : Nat → Int
  | 0 => 0
  | k + 1 => (atS Q i xs k + xs.getD k 0 * powm i k Q % Q) % Q
theorem atS_range {Q i : Int} (hQ : 0 < Q) (xs : List Int) : ∀ k, 0 ≤ atS Q i xs k ∧ atS Q i xs k < Q
  | 0 => ⟨Int.le_refl _, hQ⟩
  | k + 1 => ⟨Int.emod_nonneg _ (by omega), Int.emod_lt_of_pos _ hQ⟩
/-- The key of the first k pledges. -/
def keyOfS (P Q i : Int) (xs : List Int) : Nat → Int
  | 0 => 1
  | k + 1 => keyOfS P Q i xs k * powm (xs.getD k 0) (powm i k Q) P % P
theorem keyOfS_range {P Q i : Int} (hP : 1 < P) (xs : List Int) : ∀ k, 0 ≤ keyOfS P Q i xs k ∧ keyOfS P Q i xs k < P
  | 0 => ⟨by simp [keyOfS], by simpa [keyOfS] using hP⟩
  | k + 1 => ⟨Int.emod_nonneg _ (by omega), Int.emod_lt_of_pos _ (by omega)⟩

set_option maxRecDepth 100000 in
set_option maxHeartbeats 4000000 in
theorem rat_any {P Q G i v : Int} {a : Option Addr} {n c : Nat} {xs : List Int} (w : World) (hH : Has P Q G) (hi0 : 0 ≤ i) (hiQ : i < Q) (h : ShI .u64 w a n xs) (hn : n ≤ 1000) (hx : ∀ x, x ∈ xs → 0 ≤ x ∧ x < Q) (hv : atS Q i xs n = v) :
    Calls Try.prog 62 #[.agg #[.int .u64 P, .int .u64 Q, .int .u64 G], .slice a n c, .int .i64 i] w fun e w' => e = .returned (.int .u64 v) ∧ Below w.heap.size w w' := by
  obtain ⟨p5, p3, hQ', pq, g2, gP⟩ := id hH
  have q3 : Q < 1073741824 := by omega
  have q1 : 0 < Q := by omega
  have hwi : IntKind.u64.wrap i = i := wrap_u hi0 (by omega)
  have HS := Lib.hid h
  have HX := Lib.hid hx
  have HV := Lib.hid hv
  have HH := Lib.hid hH
  clear h hx hv hH pq
  have F_g := Lib.hid (show Boxed (w.alloc (.cells #[.int .u64 P, .int .u64 Q, .int .u64 G] 24)) (w.heap.size) P Q G from Boxed.at _ P Q G _ (w.heap.size) (by simp))
  have HBW := Lib.hid (show Below w.heap.size w (w.alloc (.cells #[.int .u64 P, .int .u64 Q, .int .u64 G] 24)) from (Below.refl _ _).alloc (by simp <;> omega) _)
  go_enter Try.func62, Try.ntmps62
  go_wp2_with fail
  go_loopw [7, 8] (fun c7 c8 wr => ∃ k : Nat, k ≤ n ∧ c8 = .int .i64 k ∧ ∃ sm : Int, c7 = .int .u64 sm ∧ Hid (sm = atS Q i xs k) ∧ Hid (Boxed wr w.heap.size P Q G) ∧ Hid (Below w.heap.size w wr)) (fun _ c8 _ => n - (intOf c8).toNat)
  case atStart => exact ⟨0, Nat.zero_le _, rfl, _, rfl, rfl, F_g.out, HBW.out⟩
  case round =>
    clear F_g HBW
    obtain ⟨k, hk, rfl, sm, rfl, HSM, F_g, HBW⟩ := hrel
    by_cases hlt : k < n
    case neg =>
      have hkn : k = n := by omega
      have HZ := Lib.hid (show sm = v by rw [HSM.out, hkn]; exact HV.out)
      clear hkn
      go_wp2_with fail
      go_ret
      exact ⟨ret_int HZ.out, HBW.out⟩
    case pos =>
      obtain ⟨s, o, hsa, hsl, hck, hmem⟩ := HS.out.at k hlt
      have hsw : s < w.heap.size := hsl
      obtain ⟨x, hx⟩ : ∃ x, xs.getD k 0 = x := ⟨_, rfl⟩
      rw [hx] at hck hmem
      have HEC := Lib.hid hck
      have x0 := (HX.out x hmem).1
      have xL := (HX.out x hmem).2
      have HXK := Lib.hid hx
      clear hck hmem hx
      subst hsa
      have hk0 : (0 : Int) ≤ (k : Int) := by omega
      have hk1 : (k : Int) < (n : Int) := by omega
      have hwk : IntKind.u64.wrap (k : Int) = (k : Int) := wrap_u hk0 (by omega)
      have UK := Lib.hid (show U64 (k : Int) from ⟨hk0, by omega⟩)
      obtain ⟨p, hp⟩ : ∃ p, powm i k Q = p := ⟨_, rfl⟩
      have p0 : 0 ≤ p := by rw [← hp]; exact powm_nonneg (by omega)
      have pQ : p < Q := by rw [← hp]; exact powm_lt (by omega)
      have HP := Lib.hid hp
      clear hp
      have sm0 : 0 ≤ sm := by rw [HSM.out]; exact (atS_range q1 xs k).1
      have smL : sm < Q := by rw [HSM.out]; exact (atS_range q1 xs k).2
      obtain ⟨m, hm⟩ : ∃ m, x * p % Q = m := ⟨_, rfl⟩
      have m0 : 0 ≤ m := by rw [← hm]; exact Int.emod_nonneg _ (by omega)
      have mQ : m < Q := by rw [← hm]; exact Int.emod_lt_of_pos _ (by omega)
      obtain ⟨t, ht⟩ : ∃ t, (sm + m) % Q = t := ⟨_, rfl⟩
      have HM := Lib.hid hm
      have HT := Lib.hid ht
      clear hm ht
      go_wp2_with fail
      replace F_g := Lib.hid F_g.out.drew
      replace HBW := Lib.hid HBW.out.drew
      have hS := And.intro F_g.out.s ((HBW.out.cell (p := ⟨s, o + k, none⟩) hsw).trans HEC.out)
      refine wp_region_stage 16 (fun w' => SBox w' w.heap.size P Q G ∧ w'.cell? ⟨s, o + k, none⟩ = some (.int .u64 x)) (by kernel_rfl) ?_
      refine wpAnyB_take (i := 0) (some 15) (Op.load 24 (Operand.tmp 3)) 24 (v := ?_) ⟨_, rfl, rfl, rfl, rfl, rfl⟩ (by kernel_rfl) (by kernel_rfl) (by kernel_rfl) [15, 16] (by kernel_rfl) (fun _ _ _ h => h) hS (fun w' hSw => ?_) ?_
      rotate_left
      · obtain ⟨⟨s0, s1, s2⟩, s3⟩ := hSw
        unfold bareOp
        go_simp
        try with_reducible rfl
      simp only [Act.put, List.setIfInBounds_toArray, List.set_cons_zero, List.set_cons_succ]
      refine wpAnyB_takeP (i := 1) (some 16) (Op.move (Operand.tmp 7)) 22 (v := ?_) ⟨_, rfl, rfl, rfl, rfl, rfl⟩ (by kernel_rfl) (by kernel_rfl) (by kernel_rfl) (by kernel_rfl) (fun _ _ _ h => h) (fun _ => hS) (fun w' => ?_) ?_
      rotate_left
      · unfold bareOp
        go_simp
        try with_reducible rfl
      simp only [Act.put, List.setIfInBounds_toArray, List.set_cons_zero, List.set_cons_succ]
      refine wpAnyB_take (i := 2) (some 17) (Op.load 24 (Operand.tmp 3)) 24 (v := ?_) ⟨_, rfl, rfl, rfl, rfl, rfl⟩ (by kernel_rfl) (by kernel_rfl) (by kernel_rfl) [14, 15, 16] (by kernel_rfl) (fun _ _ _ h => h) hS (fun w' hSw => ?_) ?_
      rotate_left
      · obtain ⟨⟨s0, s1, s2⟩, s3⟩ := hSw
        unfold bareOp
        go_simp
        try with_reducible rfl
      simp only [Act.put, List.setIfInBounds_toArray, List.set_cons_zero, List.set_cons_succ]
      refine wpAnyB_takeP (i := 3) (some 18) (Op.move (Operand.tmp 1)) 25 (v := ?_) ⟨_, rfl, rfl, rfl, rfl, rfl⟩ (by kernel_rfl) (by kernel_rfl) (by kernel_rfl) (by kernel_rfl) (fun _ _ _ h => h) (fun _ => hS) (fun w' => ?_) ?_
      rotate_left
      · unfold bareOp
        go_simp
        try with_reducible rfl
      simp only [Act.put, List.setIfInBounds_toArray, List.set_cons_zero, List.set_cons_succ]
      refine wpAnyB_takeP (i := 4) (some 19) (Op.move (Operand.tmp 8)) 3 (v := ?_) ⟨_, rfl, rfl, rfl, rfl, rfl⟩ (by kernel_rfl) (by kernel_rfl) (by kernel_rfl) (by kernel_rfl) (fun _ _ _ h => h) (fun _ => hS) (fun w' => ?_) ?_
      rotate_left
      · unfold bareOp
        go_simp
        try with_reducible rfl
      simp only [Act.put, List.setIfInBounds_toArray, List.set_cons_zero, List.set_cons_succ]
      refine wpAnyB_takeP (i := 5) (some 20) (Op.indexAddr 25 (Operand.tmp 18) (Operand.tmp 19)) 0 (v := ?_) ⟨_, rfl, rfl, rfl, rfl, rfl⟩ (by kernel_rfl) (by kernel_rfl) (by kernel_rfl) (by kernel_rfl) (fun _ _ _ h => h) (fun _ => hS) (fun w' => ?_) ?_
      rotate_left
      · unfold bareOp
        go_simp
        try with_reducible rfl
      simp only [Act.put, List.setIfInBounds_toArray, List.set_cons_zero, List.set_cons_succ]
      refine wpAnyB_take (i := 6) (some 21) (Op.load 22 (Operand.tmp 20)) 22 (v := ?_) ⟨_, rfl, rfl, rfl, rfl, rfl⟩ (by kernel_rfl) (by kernel_rfl) (by kernel_rfl) [14, 15, 16] (by kernel_rfl) (fun _ _ _ h => h) hS (fun w' hSw => ?_) ?_
      rotate_left
      · obtain ⟨⟨s0, s1, s2⟩, s3⟩ := hSw
        unfold bareOp
        go_simp
        try with_reducible rfl
      simp only [Act.put, List.setIfInBounds_toArray, List.set_cons_zero, List.set_cons_succ]
      refine wpAnyB_takeP (i := 7) (some 22) (Op.fieldAddr 24 (Operand.tmp 3) 1) 0 (v := ?_) ⟨_, rfl, rfl, rfl, rfl, rfl⟩ (by kernel_rfl) (by kernel_rfl) (by kernel_rfl) (by kernel_rfl) (fun _ _ _ h => h) (fun _ => hS) (fun w' => ?_) ?_
      rotate_left
      · unfold bareOp
        go_simp
        try with_reducible rfl
      simp only [Act.put, List.setIfInBounds_toArray, List.set_cons_zero, List.set_cons_succ]
      refine wpAnyB_take (i := 8) (some 23) (Op.load 22 (Operand.tmp 22)) 22 (v := ?_) ⟨_, rfl, rfl, rfl, rfl, rfl⟩ (by kernel_rfl) (by kernel_rfl) (by kernel_rfl) [13, 14, 15, 16] (by kernel_rfl) (fun _ _ _ h => h) hS (fun w' hSw => ?_) ?_
      rotate_left
      · obtain ⟨⟨s0, s1, s2⟩, s3⟩ := hSw
        unfold bareOp
        go_simp
        try with_reducible rfl
      simp only [Act.put, List.setIfInBounds_toArray, List.set_cons_zero, List.set_cons_succ]
      refine wpAnyB_takeP (i := 9) (some 24) (Op.move (Operand.tmp 2)) 3 (v := ?_) ⟨_, rfl, rfl, rfl, rfl, rfl⟩ (by kernel_rfl) (by kernel_rfl) (by kernel_rfl) (by kernel_rfl) (fun _ _ _ h => h) (fun _ => hS) (fun w' => ?_) ?_
      rotate_left
      · unfold bareOp
        go_simp
        try with_reducible rfl
      simp only [Act.put, List.setIfInBounds_toArray, List.set_cons_zero, List.set_cons_succ]
      refine wpAnyB_takeP (i := 10) (some 25) (Op.convert 3 22 (Operand.tmp 24)) 22 (v := ?_) ⟨_, rfl, rfl, rfl, rfl, rfl⟩ (by kernel_rfl) (by kernel_rfl) (by kernel_rfl) (by kernel_rfl) (fun _ _ _ h => h) (fun _ => hS) (fun w' => ?_) ?_
      rotate_left
      · unfold bareOp
        go_simp
        try with_reducible rfl
      simp only [Act.put, List.setIfInBounds_toArray, List.set_cons_zero, List.set_cons_succ]
      refine wpAnyB_takeP (i := 11) (some 26) (Op.move (Operand.tmp 8)) 3 (v := ?_) ⟨_, rfl, rfl, rfl, rfl, rfl⟩ (by kernel_rfl) (by kernel_rfl) (by kernel_rfl) (by kernel_rfl) (fun _ _ _ h => h) (fun _ => hS) (fun w' => ?_) ?_
      rotate_left
      · unfold bareOp
        go_simp
        try with_reducible rfl
      simp only [Act.put, List.setIfInBounds_toArray, List.set_cons_zero, List.set_cons_succ]
      refine wpAnyB_takeP (i := 12) (some 27) (Op.convert 3 22 (Operand.tmp 26)) 22 (v := ?_) ⟨_, rfl, rfl, rfl, rfl, rfl⟩ (by kernel_rfl) (by kernel_rfl) (by kernel_rfl) (by kernel_rfl) (fun _ _ _ h => h) (fun _ => hS) (fun w' => ?_) ?_
      rotate_left
      · unfold bareOp
        go_simp
        try with_reducible rfl
      simp only [Act.put, List.setIfInBounds_toArray, List.set_cons_zero, List.set_cons_succ]
      refine wpAnyB_only (i := 13) (some 28) (Op.call { callee := Callee.value (Operand.func 88), args := #[Operand.tmp 23, Operand.tmp 25, Operand.tmp 27], argTypes := #[22, 22, 22] }) 22 ⟨_, rfl, rfl, rfl, rfl, rfl⟩ (by kernel_rfl) (fun K hK => ?_)
      unfold bareOp
      go_wp2_with (go_at_call 88; refine (rPower_any Q i k p _ (by omega) (by omega) hi0 (by omega) UK.out HP.out).mono ?_; rintro e w11 ⟨rfl, rfl⟩)
      refine hK.out _ _ (fun _ => hS) ?_
      clear hK K
      try simp only [Act.put, List.setIfInBounds_toArray, List.set_cons_zero, List.set_cons_succ]
      refine wpAnyB_only (i := 14) (some 29) (Op.call { callee := Callee.value (Operand.func 76), args := #[Operand.tmp 17, Operand.tmp 21, Operand.tmp 28], argTypes := #[24, 22, 22] }) 22 ⟨_, rfl, rfl, rfl, rfl, rfl⟩ (by kernel_rfl) (fun K hK => ?_)
      unfold bareOp
      go_wp2_with (go_at_call 76; refine (rProduct_gen _ HH.out x0 xL p0 pQ HM.out).mono ?_; rintro e w12 ⟨rfl, hb12⟩)
      replace F_g := Lib.hid (F_g.out.keep hb12)
      replace HBW := Lib.hid (HBW.out.trans (hb12.mono HBW.out.size))
      replace hS := And.intro F_g.out.s ((HBW.out.cell (p := ⟨s, o + k, none⟩) hsw).trans HEC.out)
      clear hb12
      refine hK.out _ _ (fun _ => hS) ?_
      clear hK K
      try simp only [Act.put, List.setIfInBounds_toArray, List.set_cons_zero, List.set_cons_succ]
      refine wpAnyB_only (i := 15) (some 30) (Op.call { callee := Callee.value (Operand.func 56), args := #[Operand.tmp 15, Operand.tmp 16, Operand.tmp 29], argTypes := #[24, 22, 22] }) 22 ⟨_, rfl, rfl, rfl, rfl, rfl⟩ (by kernel_rfl) (fun K hK => ?_)
      unfold bareOp
      go_wp2_with (go_at_call 56; refine (rSum_gen _ HH.out sm0 smL m0 mQ HT.out).mono ?_; rintro e w13 ⟨rfl, hb13⟩)
      replace F_g := Lib.hid (F_g.out.keep hb13)
      replace HBW := Lib.hid (HBW.out.trans (hb13.mono HBW.out.size))
      replace hS := And.intro F_g.out.s ((HBW.out.cell (p := ⟨s, o + k, none⟩) hsw).trans HEC.out)
      clear hb13
      refine hK.out _ _ (fun _ => hS) ?_
      clear hK K
      try simp only [Act.put, List.setIfInBounds_toArray, List.set_cons_zero, List.set_cons_succ]
      refine wpAnyB_only (i := 16) (some 7) (Op.assign (Operand.tmp 30)) 22 ⟨_, rfl, rfl, rfl, rfl, rfl⟩ (by kernel_rfl) (fun K hK => ?_)
      unfold bareOp
      go_wp2_with fail
      refine hK.out _ _ (fun h => absurd (h.symm.trans (by kernel_rfl : _ = true)) (by decide)) ?_
      clear hK K
      try simp only [Act.put, List.setIfInBounds_toArray, List.set_cons_zero, List.set_cons_succ]
      refine wpAnyB_done (by kernel_rfl) ?_ _
      go_wp2_with fail
      go_roundw
      case rel => exact ⟨k + 1, by omega, by go_num, _, rfl, by rw [← HT.out, ← HM.out, ← HP.out, ← HXK.out, HSM.out]; rfl, F_g.out, HBW.out⟩
      case measure => simp [intOf]; omega
end Go.Proofs.Ytjfaaicbojnpaaa
