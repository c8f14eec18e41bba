/- SchnorrNames: the statement: for every input the law returns true, and the arguments read as before. -/
import Derived.Test.YtanlnhjjdiaphaaDoorCard
import Derived.Test.YtanlnhjjdiaphaaDoorAux31
import Derived.Test.YtanlnhjjdiaphaaDoorLaw31
import Derived.Test.YtanlnhjjdiaphaaDoorPrime
import Derived.Test.YtanlnhjjdiaphaaDoorStageThree
import Derived.Lib.SlBytesConst
import Derived.Laws.MakeOwn
import Derived.Laws.OwnMore
import Derived.OwnWalk
import Derived.Deep.Cut
namespace Go.Proofs.YtanlnhjjdiaphaaDoor.lawNames
open Go Sha Go.ChangeShapes Go.WideShapes Go.ChangeAt Go.RowKit Num
set_option linter.unusedSimpArgs false
set_option linter.unusedVariables false

/-- Powers by squaring, for the kernel. -/
def pw (m a : Nat) : Nat → Nat → Nat
  | 0, _ => 1 % m
  | k + 1, x => if x % 2 = 1 then (pw m a k (x / 2) * pw m a k (x / 2) % m) * a % m else pw m a k (x / 2) * pw m a k (x / 2) % m
theorem pw_eq (m a : Nat) : ∀ (k x : Nat), x < 2 ^ k → pw m a k x = a ^ x % m
  | 0, x, h => by
      obtain rfl : x = 0 := by simp at h; omega
      simp [pw]
  | k + 1, x, h => by
      rw [Nat.pow_succ] at h
      have ih := pw_eq m a k (x / 2) (by omega)
      unfold pw
      rw [ih]
      have e2 : a ^ (x / 2) % m * (a ^ (x / 2) % m) % m = a ^ (x / 2 + x / 2) % m := by rw [← Nat.mul_mod, ← Nat.pow_add]
      rw [e2]
      split
      · have hx : a ^ x = a ^ (x / 2 + x / 2) * a := by rw [← Nat.pow_succ]; congr 1; omega
        rw [hx, Nat.mul_mod, Nat.mod_mod, ← Nat.mul_mod]
      · congr 2; omega
theorem valid_default : Valid 1000000007 500000003 4 := by
  refine ⟨by unfold Has; omega, prP, prQ, powm_nat 4 500000003 1000000007 1 ?_⟩
  rw [← pw_eq 1000000007 4 29 500000003 (by decide)]
  decide +kernel

/-- What a valid key gives. -/
theorem acc_facts {P Q G x : Int} {T : List Int} {n : Nat} (hv : Valid P Q G) (hx1 : 1 ≤ x) (xQ : x < Q) (ux : U64 x) (hn : n ≤ 8000) :
    ∃ y R S, RetS (keyS P Q G x) (powm G x P) y 0 ∧ RetSig (lgS (keyS P Q G x) n) (sgR P Q G x T) (sgS P Q G x T) R S 0 ∧ RetB (lgS (askS P Q G [S] [y, R]) n) (vfP P Q G y R S T) true 0 ∧ U64 y ∧ U64 R ∧ 0 ≤ S := by
  have hx : 0 ≤ x := by omega
  have HG := Lib.hid hv.grp
  have HH := Lib.hid hv.has
  obtain ⟨p5, p3, _, pq, g2, gP⟩ := id hv.1
  have q3 : Q < 1073741824 := by omega
  have q2 : 2 ≤ Q := by omega
  have x0 : 0 ≤ x := hx
  obtain ⟨k, hk⟩ : ∃ k, noV Q x T = k := ⟨_, rfl⟩
  obtain ⟨y, hy⟩ : ∃ y, powm G x P = y := ⟨_, rfl⟩
  obtain ⟨R, hR⟩ : ∃ R, sgR P Q G x T = R := ⟨_, rfl⟩
  obtain ⟨S, hS⟩ : ∃ S, sgS P Q G x T = S := ⟨_, rfl⟩
  have hRk : powm G k P = R := by rw [← hR, sgR, hk]
  obtain ⟨h_, hh⟩ : ∃ h_, chV Q [y, R] T = h_ := ⟨_, rfl⟩
  have hSk : (k + h_ * x % Q) % Q = S := by rw [← hS, sgS, hk, hy, hR, hh]
  obtain ⟨k0, kQ⟩ : 0 ≤ k ∧ k < Q := by rw [← hk]; exact noV_range (by omega) _ _
  obtain ⟨h0, hQQ⟩ : 0 ≤ h_ ∧ h_ < Q := by rw [← hh]; exact chV_range (by omega) _ _
  have my : Mem P Q y := by rw [← hy]; exact HG.out.mem_pow HG.out.mem_g x
  have mr : Mem P Q R := by rw [← hRk]; exact HG.out.mem_pow HG.out.mem_g k
  have S0 : 0 ≤ S := by rw [← hSk]; exact Int.emod_nonneg _ (by omega)
  have SQ : S < Q := by rw [← hSk]; exact Int.emod_lt_of_pos _ (by omega)
  have RP : R < P := mr.2.1
  have UY := Lib.hid (U64.of_lt (Int.le_of_lt my.1) (by have := my.2.1; omega))
  have UR := Lib.hid (U64.of_lt (Int.le_of_lt mr.1) (by omega))
  have UX := Lib.hid ux
  refine ⟨y, R, S, .inl ⟨keyS_ok HH.out xQ (by omega), hy.symm, rfl⟩, .inl ⟨lgS_ok (keyS_ok HH.out xQ (by omega)) hn, hR.symm, hS.symm, rfl⟩, .inl ⟨lgS_ok (askS_ok HH.out (by simpa using SQ) (by simpa using ⟨my.2.1, mr.2.1⟩)) hn, ?_, rfl⟩, UY.out, UR.out, S0⟩
  refine ⟨fun _ => ⟨my, mr, ?_⟩, fun _ => rfl⟩
  rw [hh, ← hRk, ← hy]
  exact resp_holds HG.out x0 k0 h0 hSk
theorem row_text (w : World) (b : Nat) (hb : b = w.heap.size) : ShI .u8 (w.alloc (.cells #[.int .u8 116, .int .u8 101, .int .u8 120, .int .u8 116] 5 (4, 5))) (some ⟨b, 0, none⟩) 4 [116, 101, 120, 116] := by
  subst hb
  refine .inr ⟨w.heap.size, 0, rfl, rfl, by simp, fun i hi => ?_⟩
  rw [Nat.zero_add]
  have e : (w.alloc (.cells #[.int .u8 116, .int .u8 101, .int .u8 120, .int .u8 116] 5 (4, 5))).cell? ⟨w.heap.size, i, none⟩ = (#[Value.int .u8 116, .int .u8 101, .int .u8 120, .int .u8 116] : Array Value)[i]? := by
    have hh : (w.alloc (.cells #[.int .u8 116, .int .u8 101, .int .u8 120, .int .u8 116] 5 (4, 5))).heap[w.heap.size]? = some (.cells #[.int .u8 116, .int .u8 101, .int .u8 120, .int .u8 116] 5 (4, 5)) := by
      show (w.heap.push _)[w.heap.size]? = _
      simp
    simp only [World.cell?, hh]
    rfl
  rw [e]
  have hi4 : i < 4 := hi
  obtain rfl | rfl | rfl | rfl : i = 0 ∨ i = 1 ∨ i = 2 ∨ i = 3 := by omega
  all_goals rfl
theorem byte_text : ByteL [116, 101, 120, 116] := fun x hx => by
  simp at hx
  rcases hx with rfl | rfl | rfl | rfl <;> omega
theorem made_bytes (m : Nat) (hm : m ≤ 9000) : ∃ o : Obj, (∀ w : World, (Instr.makeSlice 25 (.int .i64 m) (.int .i64 m)).run Tryd.prog w = .ok (.slice (some ⟨w.heap.size, 0, none⟩) m m) (w.alloc o)) ∧ ∀ w : World, ShI .u8 (w.alloc o) (some ⟨w.heap.size, 0, none⟩) m (List.replicate m 0) := by
  obtain ⟨i0, hi, hz0, hz1, hz2⟩ := info_parts (P := Tryd.prog) (e := 5) (z := .int .u8 0) (size := 1) (bytes := 1) (by kernel_rfl)
  refine ⟨.cells (madeCells #[.int .u8 0] m) 5, fun w => ?_, fun w => ?_⟩
  · have h := run_make (P := Tryd.prog) w 25 5 i0 (.int .u8 0) Tryd.underlying25 hi hz0 .i64 .i64 m m (by omega) (by omega) (by rw [hz2]; omega) (by omega)
    rw [h, hz1]
    simp
    rfl
  · refine .inr ⟨w.heap.size, 0, rfl, by simp, by simp, fun i hi => ?_⟩
    have hi' : i < m := by simpa using hi
    rw [Nat.zero_add, World.cell?_alloc_new]
    rw [← Array.getElem?_toList, toList_madeCells_one]
    simp [List.getD_eq_getElem?_getD, hi']
theorem conv_same (w : World) (b : Nat) (hb : b = w.heap.size) : (convert 25 25 (.slice (some ⟨b, 0, none⟩) 4 4)).run Tryd.prog (w.alloc (.cells #[.int .u8 116, .int .u8 101, .int .u8 120, .int .u8 116] 5)) = .ok (.slice (some ⟨b, 0, none⟩) 4 4) (w.alloc (.cells #[.int .u8 116, .int .u8 101, .int .u8 120, .int .u8 116] 5 (4, 5))) := by
  subst hb
  exact Lib.run_convert_bytes_const w 25 5 _ 4 4 Tryd.underlying25 Tryd.underlying5
theorem byte_zeros (m : Nat) : ByteL (List.replicate m 0) := fun x hx => by
  rw [List.eq_of_mem_replicate hx]; omega
theorem txt_nil {w : World} (h : Tabs w) : Txt w none 0 [] := ⟨h, ShI.nil _ _ _, fun x hx => by cases hx⟩
theorem pkN0 : RetS (keyS 23 11 4 0) (powm 4 0 23) 0 2 := .inr ⟨by unfold keyS; rw [askS_ok has_small (by simp) (by simp)]; decide, rfl, by unfold keyS; rw [askS_ok has_small (by simp) (by simp)]; rfl⟩
theorem pkN11 : RetS (keyS 23 11 4 11) (powm 4 11 23) 0 2 := .inr ⟨by unfold keyS; rw [askS_e has_small (by decide)]; decide, rfl, by unfold keyS; rw [askS_e has_small (by decide)]; rfl⟩
theorem key3 : keyS 23 11 4 3 = 0 := keyS_ok has_small (by omega) (by omega)
theorem sgLong {T : List Int} : RetSig (lgS (keyS 23 11 4 3) 8001) (sgR 23 11 4 3 T) (sgS 23 11 4 3 T) 0 0 4 := .inr ⟨by rw [lgS_four key3 (by omega)]; decide, rfl, rfl, (lgS_four key3 (by omega)).symm⟩
theorem sgMost (T : List Int) : ∃ R S, RetSig (lgS (keyS 23 11 4 3) 8000) (sgR 23 11 4 3 T) (sgS 23 11 4 3 T) R S 0 := ⟨_, _, .inl ⟨lgS_ok key3 (by omega), rfl, rfl, rfl⟩⟩
theorem not_has0 : ¬ Has 0 0 0 := by unfold Has; omega
theorem key0 : keyS 0 0 0 0 = 300 := by unfold keyS; rw [askS_no not_has0]; rfl
theorem sgNone {T : List Int} : RetSig (lgS (keyS 0 0 0 0) 8001) (sgR 0 0 0 0 T) (sgS 0 0 0 0 T) 0 0 300 := by
  have h : lgS (keyS 0 0 0 0) 8001 = 300 := by rw [lgS_ne (by rw [key0]; decide), key0]
  exact .inr ⟨by rw [h]; decide, rfl, rfl, h.symm⟩
theorem vfN1 : RetB (lgS (askS 23 11 4 [0] [23, 0]) 0) (vfP 23 11 4 23 0 0 []) false 2 := by
  have h : lgS (askS 23 11 4 [0] [23, 0]) 0 = 2 := by rw [askS_n has_small (by decide)]; rfl
  exact .inr ⟨by rw [h]; decide, rfl, h.symm⟩
theorem vfN2 : RetB (lgS (askS 23 11 4 [11] [1, 0]) 0) (vfP 23 11 4 1 0 11 []) false 2 := by
  have h : lgS (askS 23 11 4 [11] [1, 0]) 0 = 2 := by rw [askS_e has_small (by decide)]; rfl
  exact .inr ⟨by rw [h]; decide, rfl, h.symm⟩
theorem nmem5 : ¬ Mem 23 11 5 := fun h => by
  have h1 := h.2.2
  rw [show powm 5 11 23 = 22 from powm_nat 5 11 23 22 (by decide)] at h1
  cases h1
theorem vfN3 : RetB (lgS (askS 23 11 4 [0] [5, 1]) 0) (vfP 23 11 4 5 1 0 []) false 0 :=
  .inl ⟨lgS_ok (askS_ok has_small (by simp) (by simp)) (by omega), ⟨fun h => (by cases h), fun h => absurd h.1 nmem5⟩, rfl⟩
theorem extN : ExtS 23 11 4 2 0 2 6 0 6 := .inl ⟨askS_ok has_small (by simp) (by simp), false, 0, .inr ⟨rfl, rfl, by decide⟩, .inr ⟨rfl, rfl, rfl⟩⟩
theorem holdN : RetB (askS 23 11 4 [2, 1] [18, 12]) (powm 4 1 23 = 12 * powm 18 2 23 % 23) false 0 := by
  have h1 : powm 4 1 23 = 4 := powm_nat 4 1 23 4 (by decide)
  have h2 : powm 18 2 23 = 2 := powm_nat 18 2 23 2 (by decide)
  exact .inl ⟨askS_ok has_small (by simp) (by simp), by rw [h1, h2]; simp, rfl⟩
set_option maxRecDepth 100000 in
set_option maxHeartbeats 3000000 in
theorem walk (w : World) (hT : Tabs w) :
    Calls Tryd.prog 5 #[] w fun e w' => e = .returned (.bool true) ∧ Below w.heap.size w w' := by
  have HT := Lib.hid hT
  clear hT
  have UK := Lib.hid (show U64 12345 from ⟨by decide, by decide⟩)
  obtain ⟨y, R, S, h1, h2, h3, uy, uR, S0⟩ := acc_facts (T := [116, 101, 120, 116]) (n := 4) valid_default (x := 12345) (by decide) (by decide) UK.out (by decide)
  have H1 := Lib.hid h1
  have H2 := Lib.hid h2
  have H3 := Lib.hid h3
  have UY := Lib.hid uy
  have UR := Lib.hid uR
  clear h1 h2 h3 uy uR
  obtain ⟨BIG1, hmk1, hbig1⟩ := made_bytes 8001 (by decide)
  obtain ⟨BIG0, hmk0, hbig0⟩ := made_bytes 8000 (by decide)
  have HZ1 := Lib.hid (byte_zeros 8001)
  have HZ0 := Lib.hid (byte_zeros 8000)
  generalize List.replicate 8001 (0 : Int) = Z1 at hbig1 HZ1
  generalize List.replicate 8000 (0 : Int) = Z0 at hbig0 HZ0
  obtain ⟨R8, S8, hm8⟩ := sgMost Z0
  have HM := Lib.hid hm8
  clear hm8
  simp only [Int.cast_ofNat_Int] at hmk1 hmk0
  have HBW := Lib.hid (show Below w.heap.size w w from Below.refl _ _)
  go_enter Tryd.func5, Tryd.ntmps5
  go_wp2_with fail
  refine (default_any _).mono ?_
  rintro e w1 ⟨rfl, hb1⟩
  replace HBW := Lib.hid (HBW.out.trans (hb1.mono HBW.out.size))
  clear hb1
  go_wp2_with fail
  have F_g := Lib.hid (Boxed.new w1 1000000007 500000003 4 24)
  replace HBW := Lib.hid (HBW.out.alloc HBW.out.size (.cells #[.int .u64 1000000007, .int .u64 500000003, .int .u64 4] 24))
  refine (spk_any _ (by decide) (by decide) (by decide) UK.out H1.out).mono ?_
  rintro e w2 ⟨rfl, hb2⟩
  replace F_g := Lib.hid (F_g.out.keep hb2)
  replace HBW := Lib.hid (HBW.out.trans (hb2.mono HBW.out.size))
  clear hb2
  obtain ⟨x0a, x0b, x0c, -⟩ := id F_g.out
  have hzg := F_g.out.lt
  have hcs := conv_same w2 w2.heap.size rfl
  go_wp2_with fail
  clear x0a x0b x0c hzg hcs
  replace F_g := Lib.hid (F_g.out.alloc (.cells #[.int .u8 116, .int .u8 101, .int .u8 120, .int .u8 116] 5 (4, 5)))
  replace HBW := Lib.hid (HBW.out.alloc HBW.out.size (.cells #[.int .u8 116, .int .u8 101, .int .u8 120, .int .u8 116] 5 (4, 5)))
  refine (ssign_any _ ⟨HT.out.below HBW.out, row_text w2 w2.heap.size rfl, byte_text⟩ (by decide) (by decide) (by decide) UK.out (by decide) H2.out).mono ?_
  rintro e w3 ⟨rfl, hb3⟩
  replace F_g := Lib.hid (F_g.out.keep hb3)
  replace HBW := Lib.hid (HBW.out.trans (hb3.mono HBW.out.size))
  clear hb3
  obtain ⟨x0a, x0b, x0c, -⟩ := id F_g.out
  have hzg := F_g.out.lt
  have hcs := conv_same (w3.alloc (.cells #[.int .u64 R, .int .u64 S] 27)) (w3.heap.size + 1) (by simp)
  go_wp2_with fail
  clear x0a x0b x0c hzg F_g hcs
  replace HBW := Lib.hid ((HBW.out.alloc HBW.out.size (.cells #[.int .u64 R, .int .u64 S] 27)).alloc (Nat.le_trans HBW.out.size (by simp)) (.cells #[.int .u8 116, .int .u8 101, .int .u8 120, .int .u8 116] 5 (4, 5)))
  refine (sverify_any _ ⟨HT.out.below HBW.out, row_text (w3.alloc (.cells #[.int .u64 R, .int .u64 S] 27)) (w3.heap.size + 1) (by simp), byte_text⟩ (by decide) (by decide) (by decide) UY.out UR.out S0 (by decide) H3.out).mono ?_
  rintro e w4 ⟨rfl, hb4⟩
  replace HBW := Lib.hid (HBW.out.trans (hb4.mono HBW.out.size))
  clear hb4
  go_wp2_with fail
  refine (small_any _).mono ?_
  rintro e w5 ⟨rfl, hb5⟩
  replace HBW := Lib.hid (HBW.out.trans (hb5.mono HBW.out.size))
  clear hb5
  go_wp2_with fail
  refine (spk_any _ (by decide) (by decide) (by decide) ⟨by decide, by decide⟩ pkN0).mono ?_
  rintro e w6 ⟨rfl, hb6⟩
  replace HBW := Lib.hid (HBW.out.trans (hb6.mono HBW.out.size))
  clear hb6
  go_wp2_with fail
  refine (small_any _).mono ?_
  rintro e w7 ⟨rfl, hb7⟩
  replace HBW := Lib.hid (HBW.out.trans (hb7.mono HBW.out.size))
  clear hb7
  go_wp2_with fail
  refine (spk_any _ (by decide) (by decide) (by decide) ⟨by decide, by decide⟩ pkN11).mono ?_
  rintro e w8 ⟨rfl, hb8⟩
  replace HBW := Lib.hid (HBW.out.trans (hb8.mono HBW.out.size))
  clear hb8
  go_wp2_with fail
  go_cut [12, 13] from 60 (fun c12 c13 wx => c13 = .int .i64 4 ∧ Hid (Below w.heap.size w wx))
  case first =>
    replace HBW := Lib.hid HBW.out.drew
    refine wp_region_stage 2 (fun w' => True) (by kernel_rfl) ?_
    generalize w8.drew = wd7 at HBW ⊢
    refine wpAnyB_three (i := 0) (j := 1) (k := 6) (some 61) (Op.call { callee := Callee.value (Operand.func 18), args := #[], argTypes := #[] }) 24 (some 62) (Op.makeSlice 25 (Operand.const (Value.int IntKind.i64 8001)) (Operand.const (Value.int IntKind.i64 8001))) 25 (some 12) (Op.alloc 27) 0 ⟨_, rfl, rfl, rfl, rfl, rfl⟩ ⟨_, rfl, rfl, rfl, rfl, rfl⟩ ⟨_, rfl, rfl, rfl, rfl, rfl⟩ (by kernel_rfl) (fun K hK => ?_) (fun K hK => ?_) (fun K hK => ?_)
    · skip
      unfold bareOp
      go_wp2_with (go_at_call 18; refine (small_any _).mono ?_; rintro e w51 ⟨rfl, hb51⟩)
      replace HBW := Lib.hid (HBW.out.trans (hb51.mono HBW.out.size))
      clear hb51
      refine hK.out _ _ (fun _ => trivial) ?_
      clear hK K
      try simp only [Act.put, List.setIfInBounds_toArray, List.set_cons_zero, List.set_cons_succ]
      refine wpAnyB_two (i := 1) (j := 6) (some 62) (Op.makeSlice 25 (Operand.const (Value.int IntKind.i64 8001)) (Operand.const (Value.int IntKind.i64 8001))) 25 (some 12) (Op.alloc 27) 0 ⟨_, rfl, rfl, rfl, rfl, rfl⟩ ⟨_, rfl, rfl, rfl, rfl, rfl⟩ (by kernel_rfl) (fun K hK => ?_) (fun K hK => ?_)
      · skip
        unfold bareOp
        go_wp2_with fail
        have F_z := Lib.hid (hbig1 w51)
        replace HBW := Lib.hid (HBW.out.alloc HBW.out.size BIG1)
        generalize w51.alloc BIG1 = w52 at F_z HBW ⊢
        refine hK.out _ _ (fun _ => trivial) ?_
        clear hK K
        try simp only [Act.put, List.setIfInBounds_toArray, List.set_cons_zero, List.set_cons_succ]
        refine wpAnyB_two (i := 2) (j := 6) (some 63) (Op.call { callee := Callee.value (Operand.func 10), args := #[Operand.tmp 61, Operand.const (Value.int IntKind.u64 3), Operand.tmp 62], argTypes := #[24, 22, 25] }) 34 (some 12) (Op.alloc 27) 0 ⟨_, rfl, rfl, rfl, rfl, rfl⟩ ⟨_, rfl, rfl, rfl, rfl, rfl⟩ (by kernel_rfl) (fun K hK => ?_) (fun K hK => ?_)
        · skip
          unfold bareOp
          go_wp2_with (go_at_call 10; refine (ssign_any _ ⟨HT.out.below HBW.out, F_z.out, HZ1.out⟩ (by decide) (by decide) (by decide) ⟨by decide, by decide⟩ (by decide) sgLong).mono ?_; rintro e w53 ⟨rfl, hb53⟩)
          clear F_z
          replace HBW := Lib.hid (HBW.out.trans (hb53.mono HBW.out.size))
          clear hb53
          refine hK.out _ _ (fun h => absurd (h.symm.trans (by kernel_rfl : _ = true)) (by decide)) ?_
          clear hK K
          try simp only [Act.put, List.setIfInBounds_toArray, List.set_cons_zero, List.set_cons_succ]
          refine wpAnyB_takeP (i := 3) (some 60) (Op.move (Operand.tmp 63)) 34 (v := ?_) ⟨_, rfl, rfl, rfl, rfl, rfl⟩ (by kernel_rfl) (by kernel_rfl) (by kernel_rfl) (by kernel_rfl) (fun _ _ _ h => h) (fun h => absurd (h.symm.trans (by kernel_rfl : _ = true)) (by decide)) (fun w' => ?_) ?_
          rotate_left
          · unfold bareOp
            go_simp
            try with_reducible rfl
          simp only [Act.put, List.setIfInBounds_toArray, List.set_cons_zero, List.set_cons_succ]
          refine wpAnyB_takeP (i := 4) (some 64) (Op.extract (Operand.tmp 60) 0) 27 (v := ?_) ⟨_, rfl, rfl, rfl, rfl, rfl⟩ (by kernel_rfl) (by kernel_rfl) (by kernel_rfl) (by kernel_rfl) (fun _ _ _ h => h) (fun h => absurd (h.symm.trans (by kernel_rfl : _ = true)) (by decide)) (fun w' => ?_) ?_
          rotate_left
          · unfold bareOp
            go_simp
            try with_reducible rfl
          simp only [Act.put, List.setIfInBounds_toArray, List.set_cons_zero, List.set_cons_succ]
          refine wpAnyB_takeP (i := 5) (some 65) (Op.extract (Operand.tmp 60) 1) 29 (v := ?_) ⟨_, rfl, rfl, rfl, rfl, rfl⟩ (by kernel_rfl) (by kernel_rfl) (by kernel_rfl) (by kernel_rfl) (fun _ _ _ h => h) (fun h => absurd (h.symm.trans (by kernel_rfl : _ = true)) (by decide)) (fun w' => ?_) ?_
          rotate_left
          · unfold bareOp
            go_simp
            try with_reducible rfl
          simp only [Act.put, List.setIfInBounds_toArray, List.set_cons_zero, List.set_cons_succ]
          refine wpAnyB_only (i := 6) (some 12) (Op.alloc 27) 0 ⟨_, rfl, rfl, rfl, rfl, rfl⟩ (by kernel_rfl) (fun K hK => ?_)
          unfold bareOp
          go_wp2_with fail
          have F_r := Lib.hid (Pair.new w53 0 0 27)
          have hle := HBW.out.size
          replace HBW := Lib.hid (HBW.out.alloc HBW.out.size (.cells #[.int .u64 0, .int .u64 0] 27))
          generalize w53.alloc (.cells #[.int .u64 0, .int .u64 0] 27) = w54 at F_r HBW ⊢
          refine hK.out _ _ (fun h => absurd (h.symm.trans (by kernel_rfl : _ = true)) (by decide)) ?_
          clear hK K
          try simp only [Act.put, List.setIfInBounds_toArray, List.set_cons_zero, List.set_cons_succ]
          refine wpAnyB_only (i := 7) none (Op.store 27 (Operand.tmp 12) (Operand.tmp 64)) 0 ⟨_, rfl, rfl, rfl, rfl, rfl⟩ (by kernel_rfl) (fun K hK => ?_)
          unfold bareOp
          obtain ⟨za, zb, zc, zd, -⟩ := id F_r.out
          go_wp2_with fail
          clear za zb zc zd F_r
          replace HBW := Lib.hid ((HBW.out.setCell (p := ⟨w53.heap.size, 0, none⟩) hle (.int .u64 0)).setCell (p := ⟨w53.heap.size, 1, none⟩) hle (.int .u64 0))
          refine hK.out _ _ (fun h => absurd (h.symm.trans (by kernel_rfl : _ = true)) (by decide)) ?_
          clear hK K
          try simp only [Act.put, List.setIfInBounds_toArray, List.set_cons_zero, List.set_cons_succ]
          refine wpAnyB_takeP (i := 8) (some 13) (Op.assign (Operand.tmp 65)) 29 (v := ?_) ⟨_, rfl, rfl, rfl, rfl, rfl⟩ (by kernel_rfl) (by kernel_rfl) (by kernel_rfl) (by kernel_rfl) (fun _ _ _ h => h) (fun h => absurd (h.symm.trans (by kernel_rfl : _ = true)) (by decide)) (fun w' => ?_) ?_
          rotate_left
          · unfold bareOp
            go_simp
            try with_reducible rfl
          simp only [Act.put, List.setIfInBounds_toArray, List.set_cons_zero, List.set_cons_succ]
          refine wpAnyB_done (by kernel_rfl) ?_ _
          go_wp2_with fail
          go_meet
          case rel => exact ⟨rfl, HBW⟩
        · skip
          unfold bareOp
          go_wp2_with fail
          have F_r := Lib.hid (Pair.new w52 0 0 27)
          have hle := HBW.out.size
          replace F_z := Lib.hid (F_z.out.keep ((Below.refl _ _).alloc (Nat.le_refl _) (.cells #[.int .u64 0, .int .u64 0] 27)))
          replace HBW := Lib.hid (HBW.out.alloc HBW.out.size (.cells #[.int .u64 0, .int .u64 0] 27))
          generalize w52.alloc (.cells #[.int .u64 0, .int .u64 0] 27) = w56 at F_r HBW F_z ⊢
          refine hK.out _ _ (fun _ => trivial) ?_
          clear hK K
          try simp only [Act.put, List.setIfInBounds_toArray, List.set_cons_zero, List.set_cons_succ]
          refine wpAnyB_only (i := 2) (some 63) (Op.call { callee := Callee.value (Operand.func 10), args := #[Operand.tmp 61, Operand.const (Value.int IntKind.u64 3), Operand.tmp 62], argTypes := #[24, 22, 25] }) 34 ⟨_, rfl, rfl, rfl, rfl, rfl⟩ (by kernel_rfl) (fun K hK => ?_)
          unfold bareOp
          go_wp2_with (go_at_call 10; refine (ssign_any _ ⟨HT.out.below HBW.out, F_z.out, HZ1.out⟩ (by decide) (by decide) (by decide) ⟨by decide, by decide⟩ (by decide) sgLong).mono ?_; rintro e w57 ⟨rfl, hb57⟩)
          clear F_z
          replace F_r := Lib.hid (F_r.out.keep hb57)
          replace HBW := Lib.hid (HBW.out.trans (hb57.mono HBW.out.size))
          clear hb57
          refine hK.out _ _ (fun h => absurd (h.symm.trans (by kernel_rfl : _ = true)) (by decide)) ?_
          clear hK K
          try simp only [Act.put, List.setIfInBounds_toArray, List.set_cons_zero, List.set_cons_succ]
          refine wpAnyB_takeP (i := 3) (some 60) (Op.move (Operand.tmp 63)) 34 (v := ?_) ⟨_, rfl, rfl, rfl, rfl, rfl⟩ (by kernel_rfl) (by kernel_rfl) (by kernel_rfl) (by kernel_rfl) (fun _ _ _ h => h) (fun h => absurd (h.symm.trans (by kernel_rfl : _ = true)) (by decide)) (fun w' => ?_) ?_
          rotate_left
          · unfold bareOp
            go_simp
            try with_reducible rfl
          simp only [Act.put, List.setIfInBounds_toArray, List.set_cons_zero, List.set_cons_succ]
          refine wpAnyB_takeP (i := 4) (some 64) (Op.extract (Operand.tmp 60) 0) 27 (v := ?_) ⟨_, rfl, rfl, rfl, rfl, rfl⟩ (by kernel_rfl) (by kernel_rfl) (by kernel_rfl) (by kernel_rfl) (fun _ _ _ h => h) (fun h => absurd (h.symm.trans (by kernel_rfl : _ = true)) (by decide)) (fun w' => ?_) ?_
          rotate_left
          · unfold bareOp
            go_simp
            try with_reducible rfl
          simp only [Act.put, List.setIfInBounds_toArray, List.set_cons_zero, List.set_cons_succ]
          refine wpAnyB_takeP (i := 5) (some 65) (Op.extract (Operand.tmp 60) 1) 29 (v := ?_) ⟨_, rfl, rfl, rfl, rfl, rfl⟩ (by kernel_rfl) (by kernel_rfl) (by kernel_rfl) (by kernel_rfl) (fun _ _ _ h => h) (fun h => absurd (h.symm.trans (by kernel_rfl : _ = true)) (by decide)) (fun w' => ?_) ?_
          rotate_left
          · unfold bareOp
            go_simp
            try with_reducible rfl
          simp only [Act.put, List.setIfInBounds_toArray, List.set_cons_zero, List.set_cons_succ]
          refine wpAnyB_only (i := 7) none (Op.store 27 (Operand.tmp 12) (Operand.tmp 64)) 0 ⟨_, rfl, rfl, rfl, rfl, rfl⟩ (by kernel_rfl) (fun K hK => ?_)
          unfold bareOp
          obtain ⟨za, zb, zc, zd, -⟩ := id F_r.out
          go_wp2_with fail
          clear za zb zc zd F_r
          replace HBW := Lib.hid ((HBW.out.setCell (p := ⟨w52.heap.size, 0, none⟩) hle (.int .u64 0)).setCell (p := ⟨w52.heap.size, 1, none⟩) hle (.int .u64 0))
          refine hK.out _ _ (fun h => absurd (h.symm.trans (by kernel_rfl : _ = true)) (by decide)) ?_
          clear hK K
          try simp only [Act.put, List.setIfInBounds_toArray, List.set_cons_zero, List.set_cons_succ]
          refine wpAnyB_takeP (i := 8) (some 13) (Op.assign (Operand.tmp 65)) 29 (v := ?_) ⟨_, rfl, rfl, rfl, rfl, rfl⟩ (by kernel_rfl) (by kernel_rfl) (by kernel_rfl) (by kernel_rfl) (fun _ _ _ h => h) (fun h => absurd (h.symm.trans (by kernel_rfl : _ = true)) (by decide)) (fun w' => ?_) ?_
          rotate_left
          · unfold bareOp
            go_simp
            try with_reducible rfl
          simp only [Act.put, List.setIfInBounds_toArray, List.set_cons_zero, List.set_cons_succ]
          refine wpAnyB_done (by kernel_rfl) ?_ _
          go_wp2_with fail
          go_meet
          case rel => exact ⟨rfl, HBW⟩
      · skip
        unfold bareOp
        go_wp2_with fail
        have F_r := Lib.hid (Pair.new w51 0 0 27)
        have hle := HBW.out.size
        replace HBW := Lib.hid (HBW.out.alloc HBW.out.size (.cells #[.int .u64 0, .int .u64 0] 27))
        generalize w51.alloc (.cells #[.int .u64 0, .int .u64 0] 27) = w59 at F_r HBW ⊢
        refine hK.out _ _ (fun _ => trivial) ?_
        clear hK K
        try simp only [Act.put, List.setIfInBounds_toArray, List.set_cons_zero, List.set_cons_succ]
        refine wpAnyB_only (i := 1) (some 62) (Op.makeSlice 25 (Operand.const (Value.int IntKind.i64 8001)) (Operand.const (Value.int IntKind.i64 8001))) 25 ⟨_, rfl, rfl, rfl, rfl, rfl⟩ (by kernel_rfl) (fun K hK => ?_)
        unfold bareOp
        go_wp2_with fail
        have F_z := Lib.hid (hbig1 w59)
        replace F_r := Lib.hid (F_r.out.alloc BIG1)
        replace HBW := Lib.hid (HBW.out.alloc HBW.out.size BIG1)
        generalize w59.alloc BIG1 = w60 at F_z HBW F_r ⊢
        refine hK.out _ _ (fun _ => trivial) ?_
        clear hK K
        try simp only [Act.put, List.setIfInBounds_toArray, List.set_cons_zero, List.set_cons_succ]
        refine wpAnyB_only (i := 2) (some 63) (Op.call { callee := Callee.value (Operand.func 10), args := #[Operand.tmp 61, Operand.const (Value.int IntKind.u64 3), Operand.tmp 62], argTypes := #[24, 22, 25] }) 34 ⟨_, rfl, rfl, rfl, rfl, rfl⟩ (by kernel_rfl) (fun K hK => ?_)
        unfold bareOp
        go_wp2_with (go_at_call 10; refine (ssign_any _ ⟨HT.out.below HBW.out, F_z.out, HZ1.out⟩ (by decide) (by decide) (by decide) ⟨by decide, by decide⟩ (by decide) sgLong).mono ?_; rintro e w61 ⟨rfl, hb61⟩)
        clear F_z
        replace F_r := Lib.hid (F_r.out.keep hb61)
        replace HBW := Lib.hid (HBW.out.trans (hb61.mono HBW.out.size))
        clear hb61
        refine hK.out _ _ (fun h => absurd (h.symm.trans (by kernel_rfl : _ = true)) (by decide)) ?_
        clear hK K
        try simp only [Act.put, List.setIfInBounds_toArray, List.set_cons_zero, List.set_cons_succ]
        refine wpAnyB_takeP (i := 3) (some 60) (Op.move (Operand.tmp 63)) 34 (v := ?_) ⟨_, rfl, rfl, rfl, rfl, rfl⟩ (by kernel_rfl) (by kernel_rfl) (by kernel_rfl) (by kernel_rfl) (fun _ _ _ h => h) (fun h => absurd (h.symm.trans (by kernel_rfl : _ = true)) (by decide)) (fun w' => ?_) ?_
        rotate_left
        · unfold bareOp
          go_simp
          try with_reducible rfl
        simp only [Act.put, List.setIfInBounds_toArray, List.set_cons_zero, List.set_cons_succ]
        refine wpAnyB_takeP (i := 4) (some 64) (Op.extract (Operand.tmp 60) 0) 27 (v := ?_) ⟨_, rfl, rfl, rfl, rfl, rfl⟩ (by kernel_rfl) (by kernel_rfl) (by kernel_rfl) (by kernel_rfl) (fun _ _ _ h => h) (fun h => absurd (h.symm.trans (by kernel_rfl : _ = true)) (by decide)) (fun w' => ?_) ?_
        rotate_left
        · unfold bareOp
          go_simp
          try with_reducible rfl
        simp only [Act.put, List.setIfInBounds_toArray, List.set_cons_zero, List.set_cons_succ]
        refine wpAnyB_takeP (i := 5) (some 65) (Op.extract (Operand.tmp 60) 1) 29 (v := ?_) ⟨_, rfl, rfl, rfl, rfl, rfl⟩ (by kernel_rfl) (by kernel_rfl) (by kernel_rfl) (by kernel_rfl) (fun _ _ _ h => h) (fun h => absurd (h.symm.trans (by kernel_rfl : _ = true)) (by decide)) (fun w' => ?_) ?_
        rotate_left
        · unfold bareOp
          go_simp
          try with_reducible rfl
        simp only [Act.put, List.setIfInBounds_toArray, List.set_cons_zero, List.set_cons_succ]
        refine wpAnyB_only (i := 7) none (Op.store 27 (Operand.tmp 12) (Operand.tmp 64)) 0 ⟨_, rfl, rfl, rfl, rfl, rfl⟩ (by kernel_rfl) (fun K hK => ?_)
        unfold bareOp
        obtain ⟨za, zb, zc, zd, -⟩ := id F_r.out
        go_wp2_with fail
        clear za zb zc zd F_r
        replace HBW := Lib.hid ((HBW.out.setCell (p := ⟨w51.heap.size, 0, none⟩) hle (.int .u64 0)).setCell (p := ⟨w51.heap.size, 1, none⟩) hle (.int .u64 0))
        refine hK.out _ _ (fun h => absurd (h.symm.trans (by kernel_rfl : _ = true)) (by decide)) ?_
        clear hK K
        try simp only [Act.put, List.setIfInBounds_toArray, List.set_cons_zero, List.set_cons_succ]
        refine wpAnyB_takeP (i := 8) (some 13) (Op.assign (Operand.tmp 65)) 29 (v := ?_) ⟨_, rfl, rfl, rfl, rfl, rfl⟩ (by kernel_rfl) (by kernel_rfl) (by kernel_rfl) (by kernel_rfl) (fun _ _ _ h => h) (fun h => absurd (h.symm.trans (by kernel_rfl : _ = true)) (by decide)) (fun w' => ?_) ?_
        rotate_left
        · unfold bareOp
          go_simp
          try with_reducible rfl
        simp only [Act.put, List.setIfInBounds_toArray, List.set_cons_zero, List.set_cons_succ]
        refine wpAnyB_done (by kernel_rfl) ?_ _
        go_wp2_with fail
        go_meet
        case rel => exact ⟨rfl, HBW⟩
    · skip
      unfold bareOp
      go_wp2_with fail
      have F_z := Lib.hid (hbig1 wd7)
      replace HBW := Lib.hid (HBW.out.alloc HBW.out.size BIG1)
      generalize wd7.alloc BIG1 = w63 at F_z HBW ⊢
      refine hK.out _ _ (fun _ => trivial) ?_
      clear hK K
      try simp only [Act.put, List.setIfInBounds_toArray, List.set_cons_zero, List.set_cons_succ]
      refine wpAnyB_two (i := 0) (j := 6) (some 61) (Op.call { callee := Callee.value (Operand.func 18), args := #[], argTypes := #[] }) 24 (some 12) (Op.alloc 27) 0 ⟨_, rfl, rfl, rfl, rfl, rfl⟩ ⟨_, rfl, rfl, rfl, rfl, rfl⟩ (by kernel_rfl) (fun K hK => ?_) (fun K hK => ?_)
      · skip
        unfold bareOp
        go_wp2_with (go_at_call 18; refine (small_any _).mono ?_; rintro e w64 ⟨rfl, hb64⟩)
        replace F_z := Lib.hid (F_z.out.keep hb64)
        replace HBW := Lib.hid (HBW.out.trans (hb64.mono HBW.out.size))
        clear hb64
        refine hK.out _ _ (fun _ => trivial) ?_
        clear hK K
        try simp only [Act.put, List.setIfInBounds_toArray, List.set_cons_zero, List.set_cons_succ]
        refine wpAnyB_two (i := 2) (j := 6) (some 63) (Op.call { callee := Callee.value (Operand.func 10), args := #[Operand.tmp 61, Operand.const (Value.int IntKind.u64 3), Operand.tmp 62], argTypes := #[24, 22, 25] }) 34 (some 12) (Op.alloc 27) 0 ⟨_, rfl, rfl, rfl, rfl, rfl⟩ ⟨_, rfl, rfl, rfl, rfl, rfl⟩ (by kernel_rfl) (fun K hK => ?_) (fun K hK => ?_)
        · skip
          unfold bareOp
          go_wp2_with (go_at_call 10; refine (ssign_any _ ⟨HT.out.below HBW.out, F_z.out, HZ1.out⟩ (by decide) (by decide) (by decide) ⟨by decide, by decide⟩ (by decide) sgLong).mono ?_; rintro e w65 ⟨rfl, hb65⟩)
          clear F_z
          replace HBW := Lib.hid (HBW.out.trans (hb65.mono HBW.out.size))
          clear hb65
          refine hK.out _ _ (fun h => absurd (h.symm.trans (by kernel_rfl : _ = true)) (by decide)) ?_
          clear hK K
          try simp only [Act.put, List.setIfInBounds_toArray, List.set_cons_zero, List.set_cons_succ]
          refine wpAnyB_takeP (i := 3) (some 60) (Op.move (Operand.tmp 63)) 34 (v := ?_) ⟨_, rfl, rfl, rfl, rfl, rfl⟩ (by kernel_rfl) (by kernel_rfl) (by kernel_rfl) (by kernel_rfl) (fun _ _ _ h => h) (fun h => absurd (h.symm.trans (by kernel_rfl : _ = true)) (by decide)) (fun w' => ?_) ?_
          rotate_left
          · unfold bareOp
            go_simp
            try with_reducible rfl
          simp only [Act.put, List.setIfInBounds_toArray, List.set_cons_zero, List.set_cons_succ]
          refine wpAnyB_takeP (i := 4) (some 64) (Op.extract (Operand.tmp 60) 0) 27 (v := ?_) ⟨_, rfl, rfl, rfl, rfl, rfl⟩ (by kernel_rfl) (by kernel_rfl) (by kernel_rfl) (by kernel_rfl) (fun _ _ _ h => h) (fun h => absurd (h.symm.trans (by kernel_rfl : _ = true)) (by decide)) (fun w' => ?_) ?_
          rotate_left
          · unfold bareOp
            go_simp
            try with_reducible rfl
          simp only [Act.put, List.setIfInBounds_toArray, List.set_cons_zero, List.set_cons_succ]
          refine wpAnyB_takeP (i := 5) (some 65) (Op.extract (Operand.tmp 60) 1) 29 (v := ?_) ⟨_, rfl, rfl, rfl, rfl, rfl⟩ (by kernel_rfl) (by kernel_rfl) (by kernel_rfl) (by kernel_rfl) (fun _ _ _ h => h) (fun h => absurd (h.symm.trans (by kernel_rfl : _ = true)) (by decide)) (fun w' => ?_) ?_
          rotate_left
          · unfold bareOp
            go_simp
            try with_reducible rfl
          simp only [Act.put, List.setIfInBounds_toArray, List.set_cons_zero, List.set_cons_succ]
          refine wpAnyB_only (i := 6) (some 12) (Op.alloc 27) 0 ⟨_, rfl, rfl, rfl, rfl, rfl⟩ (by kernel_rfl) (fun K hK => ?_)
          unfold bareOp
          go_wp2_with fail
          have F_r := Lib.hid (Pair.new w65 0 0 27)
          have hle := HBW.out.size
          replace HBW := Lib.hid (HBW.out.alloc HBW.out.size (.cells #[.int .u64 0, .int .u64 0] 27))
          generalize w65.alloc (.cells #[.int .u64 0, .int .u64 0] 27) = w66 at F_r HBW ⊢
          refine hK.out _ _ (fun h => absurd (h.symm.trans (by kernel_rfl : _ = true)) (by decide)) ?_
          clear hK K
          try simp only [Act.put, List.setIfInBounds_toArray, List.set_cons_zero, List.set_cons_succ]
          refine wpAnyB_only (i := 7) none (Op.store 27 (Operand.tmp 12) (Operand.tmp 64)) 0 ⟨_, rfl, rfl, rfl, rfl, rfl⟩ (by kernel_rfl) (fun K hK => ?_)
          unfold bareOp
          obtain ⟨za, zb, zc, zd, -⟩ := id F_r.out
          go_wp2_with fail
          clear za zb zc zd F_r
          replace HBW := Lib.hid ((HBW.out.setCell (p := ⟨w65.heap.size, 0, none⟩) hle (.int .u64 0)).setCell (p := ⟨w65.heap.size, 1, none⟩) hle (.int .u64 0))
          refine hK.out _ _ (fun h => absurd (h.symm.trans (by kernel_rfl : _ = true)) (by decide)) ?_
          clear hK K
          try simp only [Act.put, List.setIfInBounds_toArray, List.set_cons_zero, List.set_cons_succ]
          refine wpAnyB_takeP (i := 8) (some 13) (Op.assign (Operand.tmp 65)) 29 (v := ?_) ⟨_, rfl, rfl, rfl, rfl, rfl⟩ (by kernel_rfl) (by kernel_rfl) (by kernel_rfl) (by kernel_rfl) (fun _ _ _ h => h) (fun h => absurd (h.symm.trans (by kernel_rfl : _ = true)) (by decide)) (fun w' => ?_) ?_
          rotate_left
          · unfold bareOp
            go_simp
            try with_reducible rfl
          simp only [Act.put, List.setIfInBounds_toArray, List.set_cons_zero, List.set_cons_succ]
          refine wpAnyB_done (by kernel_rfl) ?_ _
          go_wp2_with fail
          go_meet
          case rel => exact ⟨rfl, HBW⟩
        · skip
          unfold bareOp
          go_wp2_with fail
          have F_r := Lib.hid (Pair.new w64 0 0 27)
          have hle := HBW.out.size
          replace F_z := Lib.hid (F_z.out.keep ((Below.refl _ _).alloc (Nat.le_refl _) (.cells #[.int .u64 0, .int .u64 0] 27)))
          replace HBW := Lib.hid (HBW.out.alloc HBW.out.size (.cells #[.int .u64 0, .int .u64 0] 27))
          generalize w64.alloc (.cells #[.int .u64 0, .int .u64 0] 27) = w68 at F_r HBW F_z ⊢
          refine hK.out _ _ (fun _ => trivial) ?_
          clear hK K
          try simp only [Act.put, List.setIfInBounds_toArray, List.set_cons_zero, List.set_cons_succ]
          refine wpAnyB_only (i := 2) (some 63) (Op.call { callee := Callee.value (Operand.func 10), args := #[Operand.tmp 61, Operand.const (Value.int IntKind.u64 3), Operand.tmp 62], argTypes := #[24, 22, 25] }) 34 ⟨_, rfl, rfl, rfl, rfl, rfl⟩ (by kernel_rfl) (fun K hK => ?_)
          unfold bareOp
          go_wp2_with (go_at_call 10; refine (ssign_any _ ⟨HT.out.below HBW.out, F_z.out, HZ1.out⟩ (by decide) (by decide) (by decide) ⟨by decide, by decide⟩ (by decide) sgLong).mono ?_; rintro e w69 ⟨rfl, hb69⟩)
          clear F_z
          replace F_r := Lib.hid (F_r.out.keep hb69)
          replace HBW := Lib.hid (HBW.out.trans (hb69.mono HBW.out.size))
          clear hb69
          refine hK.out _ _ (fun h => absurd (h.symm.trans (by kernel_rfl : _ = true)) (by decide)) ?_
          clear hK K
          try simp only [Act.put, List.setIfInBounds_toArray, List.set_cons_zero, List.set_cons_succ]
          refine wpAnyB_takeP (i := 3) (some 60) (Op.move (Operand.tmp 63)) 34 (v := ?_) ⟨_, rfl, rfl, rfl, rfl, rfl⟩ (by kernel_rfl) (by kernel_rfl) (by kernel_rfl) (by kernel_rfl) (fun _ _ _ h => h) (fun h => absurd (h.symm.trans (by kernel_rfl : _ = true)) (by decide)) (fun w' => ?_) ?_
          rotate_left
          · unfold bareOp
            go_simp
            try with_reducible rfl
          simp only [Act.put, List.setIfInBounds_toArray, List.set_cons_zero, List.set_cons_succ]
          refine wpAnyB_takeP (i := 4) (some 64) (Op.extract (Operand.tmp 60) 0) 27 (v := ?_) ⟨_, rfl, rfl, rfl, rfl, rfl⟩ (by kernel_rfl) (by kernel_rfl) (by kernel_rfl) (by kernel_rfl) (fun _ _ _ h => h) (fun h => absurd (h.symm.trans (by kernel_rfl : _ = true)) (by decide)) (fun w' => ?_) ?_
          rotate_left
          · unfold bareOp
            go_simp
            try with_reducible rfl
          simp only [Act.put, List.setIfInBounds_toArray, List.set_cons_zero, List.set_cons_succ]
          refine wpAnyB_takeP (i := 5) (some 65) (Op.extract (Operand.tmp 60) 1) 29 (v := ?_) ⟨_, rfl, rfl, rfl, rfl, rfl⟩ (by kernel_rfl) (by kernel_rfl) (by kernel_rfl) (by kernel_rfl) (fun _ _ _ h => h) (fun h => absurd (h.symm.trans (by kernel_rfl : _ = true)) (by decide)) (fun w' => ?_) ?_
          rotate_left
          · unfold bareOp
            go_simp
            try with_reducible rfl
          simp only [Act.put, List.setIfInBounds_toArray, List.set_cons_zero, List.set_cons_succ]
          refine wpAnyB_only (i := 7) none (Op.store 27 (Operand.tmp 12) (Operand.tmp 64)) 0 ⟨_, rfl, rfl, rfl, rfl, rfl⟩ (by kernel_rfl) (fun K hK => ?_)
          unfold bareOp
          obtain ⟨za, zb, zc, zd, -⟩ := id F_r.out
          go_wp2_with fail
          clear za zb zc zd F_r
          replace HBW := Lib.hid ((HBW.out.setCell (p := ⟨w64.heap.size, 0, none⟩) hle (.int .u64 0)).setCell (p := ⟨w64.heap.size, 1, none⟩) hle (.int .u64 0))
          refine hK.out _ _ (fun h => absurd (h.symm.trans (by kernel_rfl : _ = true)) (by decide)) ?_
          clear hK K
          try simp only [Act.put, List.setIfInBounds_toArray, List.set_cons_zero, List.set_cons_succ]
          refine wpAnyB_takeP (i := 8) (some 13) (Op.assign (Operand.tmp 65)) 29 (v := ?_) ⟨_, rfl, rfl, rfl, rfl, rfl⟩ (by kernel_rfl) (by kernel_rfl) (by kernel_rfl) (by kernel_rfl) (fun _ _ _ h => h) (fun h => absurd (h.symm.trans (by kernel_rfl : _ = true)) (by decide)) (fun w' => ?_) ?_
          rotate_left
          · unfold bareOp
            go_simp
            try with_reducible rfl
          simp only [Act.put, List.setIfInBounds_toArray, List.set_cons_zero, List.set_cons_succ]
          refine wpAnyB_done (by kernel_rfl) ?_ _
          go_wp2_with fail
          go_meet
          case rel => exact ⟨rfl, HBW⟩
      · skip
        unfold bareOp
        go_wp2_with fail
        have F_r := Lib.hid (Pair.new w63 0 0 27)
        have hle := HBW.out.size
        replace F_z := Lib.hid (F_z.out.keep ((Below.refl _ _).alloc (Nat.le_refl _) (.cells #[.int .u64 0, .int .u64 0] 27)))
        replace HBW := Lib.hid (HBW.out.alloc HBW.out.size (.cells #[.int .u64 0, .int .u64 0] 27))
        generalize w63.alloc (.cells #[.int .u64 0, .int .u64 0] 27) = w71 at F_r HBW F_z ⊢
        refine hK.out _ _ (fun _ => trivial) ?_
        clear hK K
        try simp only [Act.put, List.setIfInBounds_toArray, List.set_cons_zero, List.set_cons_succ]
        refine wpAnyB_only (i := 0) (some 61) (Op.call { callee := Callee.value (Operand.func 18), args := #[], argTypes := #[] }) 24 ⟨_, rfl, rfl, rfl, rfl, rfl⟩ (by kernel_rfl) (fun K hK => ?_)
        unfold bareOp
        go_wp2_with (go_at_call 18; refine (small_any _).mono ?_; rintro e w72 ⟨rfl, hb72⟩)
        replace F_z := Lib.hid (F_z.out.keep hb72)
        replace F_r := Lib.hid (F_r.out.keep hb72)
        replace HBW := Lib.hid (HBW.out.trans (hb72.mono HBW.out.size))
        clear hb72
        refine hK.out _ _ (fun _ => trivial) ?_
        clear hK K
        try simp only [Act.put, List.setIfInBounds_toArray, List.set_cons_zero, List.set_cons_succ]
        refine wpAnyB_only (i := 2) (some 63) (Op.call { callee := Callee.value (Operand.func 10), args := #[Operand.tmp 61, Operand.const (Value.int IntKind.u64 3), Operand.tmp 62], argTypes := #[24, 22, 25] }) 34 ⟨_, rfl, rfl, rfl, rfl, rfl⟩ (by kernel_rfl) (fun K hK => ?_)
        unfold bareOp
        go_wp2_with (go_at_call 10; refine (ssign_any _ ⟨HT.out.below HBW.out, F_z.out, HZ1.out⟩ (by decide) (by decide) (by decide) ⟨by decide, by decide⟩ (by decide) sgLong).mono ?_; rintro e w73 ⟨rfl, hb73⟩)
        clear F_z
        replace F_r := Lib.hid (F_r.out.keep hb73)
        replace HBW := Lib.hid (HBW.out.trans (hb73.mono HBW.out.size))
        clear hb73
        refine hK.out _ _ (fun h => absurd (h.symm.trans (by kernel_rfl : _ = true)) (by decide)) ?_
        clear hK K
        try simp only [Act.put, List.setIfInBounds_toArray, List.set_cons_zero, List.set_cons_succ]
        refine wpAnyB_takeP (i := 3) (some 60) (Op.move (Operand.tmp 63)) 34 (v := ?_) ⟨_, rfl, rfl, rfl, rfl, rfl⟩ (by kernel_rfl) (by kernel_rfl) (by kernel_rfl) (by kernel_rfl) (fun _ _ _ h => h) (fun h => absurd (h.symm.trans (by kernel_rfl : _ = true)) (by decide)) (fun w' => ?_) ?_
        rotate_left
        · unfold bareOp
          go_simp
          try with_reducible rfl
        simp only [Act.put, List.setIfInBounds_toArray, List.set_cons_zero, List.set_cons_succ]
        refine wpAnyB_takeP (i := 4) (some 64) (Op.extract (Operand.tmp 60) 0) 27 (v := ?_) ⟨_, rfl, rfl, rfl, rfl, rfl⟩ (by kernel_rfl) (by kernel_rfl) (by kernel_rfl) (by kernel_rfl) (fun _ _ _ h => h) (fun h => absurd (h.symm.trans (by kernel_rfl : _ = true)) (by decide)) (fun w' => ?_) ?_
        rotate_left
        · unfold bareOp
          go_simp
          try with_reducible rfl
        simp only [Act.put, List.setIfInBounds_toArray, List.set_cons_zero, List.set_cons_succ]
        refine wpAnyB_takeP (i := 5) (some 65) (Op.extract (Operand.tmp 60) 1) 29 (v := ?_) ⟨_, rfl, rfl, rfl, rfl, rfl⟩ (by kernel_rfl) (by kernel_rfl) (by kernel_rfl) (by kernel_rfl) (fun _ _ _ h => h) (fun h => absurd (h.symm.trans (by kernel_rfl : _ = true)) (by decide)) (fun w' => ?_) ?_
        rotate_left
        · unfold bareOp
          go_simp
          try with_reducible rfl
        simp only [Act.put, List.setIfInBounds_toArray, List.set_cons_zero, List.set_cons_succ]
        refine wpAnyB_only (i := 7) none (Op.store 27 (Operand.tmp 12) (Operand.tmp 64)) 0 ⟨_, rfl, rfl, rfl, rfl, rfl⟩ (by kernel_rfl) (fun K hK => ?_)
        unfold bareOp
        obtain ⟨za, zb, zc, zd, -⟩ := id F_r.out
        go_wp2_with fail
        clear za zb zc zd F_r
        replace HBW := Lib.hid ((HBW.out.setCell (p := ⟨w63.heap.size, 0, none⟩) hle (.int .u64 0)).setCell (p := ⟨w63.heap.size, 1, none⟩) hle (.int .u64 0))
        refine hK.out _ _ (fun h => absurd (h.symm.trans (by kernel_rfl : _ = true)) (by decide)) ?_
        clear hK K
        try simp only [Act.put, List.setIfInBounds_toArray, List.set_cons_zero, List.set_cons_succ]
        refine wpAnyB_takeP (i := 8) (some 13) (Op.assign (Operand.tmp 65)) 29 (v := ?_) ⟨_, rfl, rfl, rfl, rfl, rfl⟩ (by kernel_rfl) (by kernel_rfl) (by kernel_rfl) (by kernel_rfl) (fun _ _ _ h => h) (fun h => absurd (h.symm.trans (by kernel_rfl : _ = true)) (by decide)) (fun w' => ?_) ?_
        rotate_left
        · unfold bareOp
          go_simp
          try with_reducible rfl
        simp only [Act.put, List.setIfInBounds_toArray, List.set_cons_zero, List.set_cons_succ]
        refine wpAnyB_done (by kernel_rfl) ?_ _
        go_wp2_with fail
        go_meet
        case rel => exact ⟨rfl, HBW⟩
    · skip
      unfold bareOp
      go_wp2_with fail
      have F_r := Lib.hid (Pair.new wd7 0 0 27)
      have hle := HBW.out.size
      replace HBW := Lib.hid (HBW.out.alloc HBW.out.size (.cells #[.int .u64 0, .int .u64 0] 27))
      generalize wd7.alloc (.cells #[.int .u64 0, .int .u64 0] 27) = w75 at F_r HBW ⊢
      refine hK.out _ _ (fun _ => trivial) ?_
      clear hK K
      try simp only [Act.put, List.setIfInBounds_toArray, List.set_cons_zero, List.set_cons_succ]
      refine wpAnyB_two (i := 0) (j := 1) (some 61) (Op.call { callee := Callee.value (Operand.func 18), args := #[], argTypes := #[] }) 24 (some 62) (Op.makeSlice 25 (Operand.const (Value.int IntKind.i64 8001)) (Operand.const (Value.int IntKind.i64 8001))) 25 ⟨_, rfl, rfl, rfl, rfl, rfl⟩ ⟨_, rfl, rfl, rfl, rfl, rfl⟩ (by kernel_rfl) (fun K hK => ?_) (fun K hK => ?_)
      · skip
        unfold bareOp
        go_wp2_with (go_at_call 18; refine (small_any _).mono ?_; rintro e w76 ⟨rfl, hb76⟩)
        replace F_r := Lib.hid (F_r.out.keep hb76)
        replace HBW := Lib.hid (HBW.out.trans (hb76.mono HBW.out.size))
        clear hb76
        refine hK.out _ _ (fun _ => trivial) ?_
        clear hK K
        try simp only [Act.put, List.setIfInBounds_toArray, List.set_cons_zero, List.set_cons_succ]
        refine wpAnyB_only (i := 1) (some 62) (Op.makeSlice 25 (Operand.const (Value.int IntKind.i64 8001)) (Operand.const (Value.int IntKind.i64 8001))) 25 ⟨_, rfl, rfl, rfl, rfl, rfl⟩ (by kernel_rfl) (fun K hK => ?_)
        unfold bareOp
        go_wp2_with fail
        have F_z := Lib.hid (hbig1 w76)
        replace F_r := Lib.hid (F_r.out.alloc BIG1)
        replace HBW := Lib.hid (HBW.out.alloc HBW.out.size BIG1)
        generalize w76.alloc BIG1 = w77 at F_z HBW F_r ⊢
        refine hK.out _ _ (fun _ => trivial) ?_
        clear hK K
        try simp only [Act.put, List.setIfInBounds_toArray, List.set_cons_zero, List.set_cons_succ]
        refine wpAnyB_only (i := 2) (some 63) (Op.call { callee := Callee.value (Operand.func 10), args := #[Operand.tmp 61, Operand.const (Value.int IntKind.u64 3), Operand.tmp 62], argTypes := #[24, 22, 25] }) 34 ⟨_, rfl, rfl, rfl, rfl, rfl⟩ (by kernel_rfl) (fun K hK => ?_)
        unfold bareOp
        go_wp2_with (go_at_call 10; refine (ssign_any _ ⟨HT.out.below HBW.out, F_z.out, HZ1.out⟩ (by decide) (by decide) (by decide) ⟨by decide, by decide⟩ (by decide) sgLong).mono ?_; rintro e w78 ⟨rfl, hb78⟩)
        clear F_z
        replace F_r := Lib.hid (F_r.out.keep hb78)
        replace HBW := Lib.hid (HBW.out.trans (hb78.mono HBW.out.size))
        clear hb78
        refine hK.out _ _ (fun h => absurd (h.symm.trans (by kernel_rfl : _ = true)) (by decide)) ?_
        clear hK K
        try simp only [Act.put, List.setIfInBounds_toArray, List.set_cons_zero, List.set_cons_succ]
        refine wpAnyB_takeP (i := 3) (some 60) (Op.move (Operand.tmp 63)) 34 (v := ?_) ⟨_, rfl, rfl, rfl, rfl, rfl⟩ (by kernel_rfl) (by kernel_rfl) (by kernel_rfl) (by kernel_rfl) (fun _ _ _ h => h) (fun h => absurd (h.symm.trans (by kernel_rfl : _ = true)) (by decide)) (fun w' => ?_) ?_
        rotate_left
        · unfold bareOp
          go_simp
          try with_reducible rfl
        simp only [Act.put, List.setIfInBounds_toArray, List.set_cons_zero, List.set_cons_succ]
        refine wpAnyB_takeP (i := 4) (some 64) (Op.extract (Operand.tmp 60) 0) 27 (v := ?_) ⟨_, rfl, rfl, rfl, rfl, rfl⟩ (by kernel_rfl) (by kernel_rfl) (by kernel_rfl) (by kernel_rfl) (fun _ _ _ h => h) (fun h => absurd (h.symm.trans (by kernel_rfl : _ = true)) (by decide)) (fun w' => ?_) ?_
        rotate_left
        · unfold bareOp
          go_simp
          try with_reducible rfl
        simp only [Act.put, List.setIfInBounds_toArray, List.set_cons_zero, List.set_cons_succ]
        refine wpAnyB_takeP (i := 5) (some 65) (Op.extract (Operand.tmp 60) 1) 29 (v := ?_) ⟨_, rfl, rfl, rfl, rfl, rfl⟩ (by kernel_rfl) (by kernel_rfl) (by kernel_rfl) (by kernel_rfl) (fun _ _ _ h => h) (fun h => absurd (h.symm.trans (by kernel_rfl : _ = true)) (by decide)) (fun w' => ?_) ?_
        rotate_left
        · unfold bareOp
          go_simp
          try with_reducible rfl
        simp only [Act.put, List.setIfInBounds_toArray, List.set_cons_zero, List.set_cons_succ]
        refine wpAnyB_only (i := 7) none (Op.store 27 (Operand.tmp 12) (Operand.tmp 64)) 0 ⟨_, rfl, rfl, rfl, rfl, rfl⟩ (by kernel_rfl) (fun K hK => ?_)
        unfold bareOp
        obtain ⟨za, zb, zc, zd, -⟩ := id F_r.out
        go_wp2_with fail
        clear za zb zc zd F_r
        replace HBW := Lib.hid ((HBW.out.setCell (p := ⟨wd7.heap.size, 0, none⟩) hle (.int .u64 0)).setCell (p := ⟨wd7.heap.size, 1, none⟩) hle (.int .u64 0))
        refine hK.out _ _ (fun h => absurd (h.symm.trans (by kernel_rfl : _ = true)) (by decide)) ?_
        clear hK K
        try simp only [Act.put, List.setIfInBounds_toArray, List.set_cons_zero, List.set_cons_succ]
        refine wpAnyB_takeP (i := 8) (some 13) (Op.assign (Operand.tmp 65)) 29 (v := ?_) ⟨_, rfl, rfl, rfl, rfl, rfl⟩ (by kernel_rfl) (by kernel_rfl) (by kernel_rfl) (by kernel_rfl) (fun _ _ _ h => h) (fun h => absurd (h.symm.trans (by kernel_rfl : _ = true)) (by decide)) (fun w' => ?_) ?_
        rotate_left
        · unfold bareOp
          go_simp
          try with_reducible rfl
        simp only [Act.put, List.setIfInBounds_toArray, List.set_cons_zero, List.set_cons_succ]
        refine wpAnyB_done (by kernel_rfl) ?_ _
        go_wp2_with fail
        go_meet
        case rel => exact ⟨rfl, HBW⟩
      · skip
        unfold bareOp
        go_wp2_with fail
        have F_z := Lib.hid (hbig1 w75)
        replace F_r := Lib.hid (F_r.out.alloc BIG1)
        replace HBW := Lib.hid (HBW.out.alloc HBW.out.size BIG1)
        generalize w75.alloc BIG1 = w80 at F_z HBW F_r ⊢
        refine hK.out _ _ (fun _ => trivial) ?_
        clear hK K
        try simp only [Act.put, List.setIfInBounds_toArray, List.set_cons_zero, List.set_cons_succ]
        refine wpAnyB_only (i := 0) (some 61) (Op.call { callee := Callee.value (Operand.func 18), args := #[], argTypes := #[] }) 24 ⟨_, rfl, rfl, rfl, rfl, rfl⟩ (by kernel_rfl) (fun K hK => ?_)
        unfold bareOp
        go_wp2_with (go_at_call 18; refine (small_any _).mono ?_; rintro e w81 ⟨rfl, hb81⟩)
        replace F_z := Lib.hid (F_z.out.keep hb81)
        replace F_r := Lib.hid (F_r.out.keep hb81)
        replace HBW := Lib.hid (HBW.out.trans (hb81.mono HBW.out.size))
        clear hb81
        refine hK.out _ _ (fun _ => trivial) ?_
        clear hK K
        try simp only [Act.put, List.setIfInBounds_toArray, List.set_cons_zero, List.set_cons_succ]
        refine wpAnyB_only (i := 2) (some 63) (Op.call { callee := Callee.value (Operand.func 10), args := #[Operand.tmp 61, Operand.const (Value.int IntKind.u64 3), Operand.tmp 62], argTypes := #[24, 22, 25] }) 34 ⟨_, rfl, rfl, rfl, rfl, rfl⟩ (by kernel_rfl) (fun K hK => ?_)
        unfold bareOp
        go_wp2_with (go_at_call 10; refine (ssign_any _ ⟨HT.out.below HBW.out, F_z.out, HZ1.out⟩ (by decide) (by decide) (by decide) ⟨by decide, by decide⟩ (by decide) sgLong).mono ?_; rintro e w82 ⟨rfl, hb82⟩)
        clear F_z
        replace F_r := Lib.hid (F_r.out.keep hb82)
        replace HBW := Lib.hid (HBW.out.trans (hb82.mono HBW.out.size))
        clear hb82
        refine hK.out _ _ (fun h => absurd (h.symm.trans (by kernel_rfl : _ = true)) (by decide)) ?_
        clear hK K
        try simp only [Act.put, List.setIfInBounds_toArray, List.set_cons_zero, List.set_cons_succ]
        refine wpAnyB_takeP (i := 3) (some 60) (Op.move (Operand.tmp 63)) 34 (v := ?_) ⟨_, rfl, rfl, rfl, rfl, rfl⟩ (by kernel_rfl) (by kernel_rfl) (by kernel_rfl) (by kernel_rfl) (fun _ _ _ h => h) (fun h => absurd (h.symm.trans (by kernel_rfl : _ = true)) (by decide)) (fun w' => ?_) ?_
        rotate_left
        · unfold bareOp
          go_simp
          try with_reducible rfl
        simp only [Act.put, List.setIfInBounds_toArray, List.set_cons_zero, List.set_cons_succ]
        refine wpAnyB_takeP (i := 4) (some 64) (Op.extract (Operand.tmp 60) 0) 27 (v := ?_) ⟨_, rfl, rfl, rfl, rfl, rfl⟩ (by kernel_rfl) (by kernel_rfl) (by kernel_rfl) (by kernel_rfl) (fun _ _ _ h => h) (fun h => absurd (h.symm.trans (by kernel_rfl : _ = true)) (by decide)) (fun w' => ?_) ?_
        rotate_left
        · unfold bareOp
          go_simp
          try with_reducible rfl
        simp only [Act.put, List.setIfInBounds_toArray, List.set_cons_zero, List.set_cons_succ]
        refine wpAnyB_takeP (i := 5) (some 65) (Op.extract (Operand.tmp 60) 1) 29 (v := ?_) ⟨_, rfl, rfl, rfl, rfl, rfl⟩ (by kernel_rfl) (by kernel_rfl) (by kernel_rfl) (by kernel_rfl) (fun _ _ _ h => h) (fun h => absurd (h.symm.trans (by kernel_rfl : _ = true)) (by decide)) (fun w' => ?_) ?_
        rotate_left
        · unfold bareOp
          go_simp
          try with_reducible rfl
        simp only [Act.put, List.setIfInBounds_toArray, List.set_cons_zero, List.set_cons_succ]
        refine wpAnyB_only (i := 7) none (Op.store 27 (Operand.tmp 12) (Operand.tmp 64)) 0 ⟨_, rfl, rfl, rfl, rfl, rfl⟩ (by kernel_rfl) (fun K hK => ?_)
        unfold bareOp
        obtain ⟨za, zb, zc, zd, -⟩ := id F_r.out
        go_wp2_with fail
        clear za zb zc zd F_r
        replace HBW := Lib.hid ((HBW.out.setCell (p := ⟨wd7.heap.size, 0, none⟩) hle (.int .u64 0)).setCell (p := ⟨wd7.heap.size, 1, none⟩) hle (.int .u64 0))
        refine hK.out _ _ (fun h => absurd (h.symm.trans (by kernel_rfl : _ = true)) (by decide)) ?_
        clear hK K
        try simp only [Act.put, List.setIfInBounds_toArray, List.set_cons_zero, List.set_cons_succ]
        refine wpAnyB_takeP (i := 8) (some 13) (Op.assign (Operand.tmp 65)) 29 (v := ?_) ⟨_, rfl, rfl, rfl, rfl, rfl⟩ (by kernel_rfl) (by kernel_rfl) (by kernel_rfl) (by kernel_rfl) (fun _ _ _ h => h) (fun h => absurd (h.symm.trans (by kernel_rfl : _ = true)) (by decide)) (fun w' => ?_) ?_
        rotate_left
        · unfold bareOp
          go_simp
          try with_reducible rfl
        simp only [Act.put, List.setIfInBounds_toArray, List.set_cons_zero, List.set_cons_succ]
        refine wpAnyB_done (by kernel_rfl) ?_ _
        go_wp2_with fail
        go_meet
        case rel => exact ⟨rfl, HBW⟩
  case rest =>
    obtain ⟨rfl, HBW⟩ := hcut
    go_wp2_with fail
    go_cut [14, 15] from 66 (fun c14 c15 wx => c15 = .int .i64 0 ∧ Hid (Below w.heap.size w wx))
    case first =>
      replace HBW := Lib.hid HBW.out.drew
      refine wp_region_stage 2 (fun w' => True) (by kernel_rfl) ?_
      generalize wc.drew = wd8 at HBW ⊢
      refine wpAnyB_three (i := 0) (j := 1) (k := 6) (some 67) (Op.call { callee := Callee.value (Operand.func 18), args := #[], argTypes := #[] }) 24 (some 68) (Op.makeSlice 25 (Operand.const (Value.int IntKind.i64 8000)) (Operand.const (Value.int IntKind.i64 8000))) 25 (some 14) (Op.alloc 27) 0 ⟨_, rfl, rfl, rfl, rfl, rfl⟩ ⟨_, rfl, rfl, rfl, rfl, rfl⟩ ⟨_, rfl, rfl, rfl, rfl, rfl⟩ (by kernel_rfl) (fun K hK => ?_) (fun K hK => ?_) (fun K hK => ?_)
      · skip
        unfold bareOp
        go_wp2_with (go_at_call 18; refine (small_any _).mono ?_; rintro e w51 ⟨rfl, hb51⟩)
        replace HBW := Lib.hid (HBW.out.trans (hb51.mono HBW.out.size))
        clear hb51
        refine hK.out _ _ (fun _ => trivial) ?_
        clear hK K
        try simp only [Act.put, List.setIfInBounds_toArray, List.set_cons_zero, List.set_cons_succ]
        refine wpAnyB_two (i := 1) (j := 6) (some 68) (Op.makeSlice 25 (Operand.const (Value.int IntKind.i64 8000)) (Operand.const (Value.int IntKind.i64 8000))) 25 (some 14) (Op.alloc 27) 0 ⟨_, rfl, rfl, rfl, rfl, rfl⟩ ⟨_, rfl, rfl, rfl, rfl, rfl⟩ (by kernel_rfl) (fun K hK => ?_) (fun K hK => ?_)
        · skip
          unfold bareOp
          go_wp2_with fail
          have F_z := Lib.hid (hbig0 w51)
          replace HBW := Lib.hid (HBW.out.alloc HBW.out.size BIG0)
          generalize w51.alloc BIG0 = w52 at F_z HBW ⊢
          refine hK.out _ _ (fun _ => trivial) ?_
          clear hK K
          try simp only [Act.put, List.setIfInBounds_toArray, List.set_cons_zero, List.set_cons_succ]
          refine wpAnyB_two (i := 2) (j := 6) (some 69) (Op.call { callee := Callee.value (Operand.func 10), args := #[Operand.tmp 67, Operand.const (Value.int IntKind.u64 3), Operand.tmp 68], argTypes := #[24, 22, 25] }) 34 (some 14) (Op.alloc 27) 0 ⟨_, rfl, rfl, rfl, rfl, rfl⟩ ⟨_, rfl, rfl, rfl, rfl, rfl⟩ (by kernel_rfl) (fun K hK => ?_) (fun K hK => ?_)
          · skip
            unfold bareOp
            go_wp2_with (go_at_call 10; refine (ssign_any _ ⟨HT.out.below HBW.out, F_z.out, HZ0.out⟩ (by decide) (by decide) (by decide) ⟨by decide, by decide⟩ (by decide) HM.out).mono ?_; rintro e w53 ⟨rfl, hb53⟩)
            clear F_z
            replace HBW := Lib.hid (HBW.out.trans (hb53.mono HBW.out.size))
            clear hb53
            refine hK.out _ _ (fun h => absurd (h.symm.trans (by kernel_rfl : _ = true)) (by decide)) ?_
            clear hK K
            try simp only [Act.put, List.setIfInBounds_toArray, List.set_cons_zero, List.set_cons_succ]
            refine wpAnyB_takeP (i := 3) (some 66) (Op.move (Operand.tmp 69)) 34 (v := ?_) ⟨_, rfl, rfl, rfl, rfl, rfl⟩ (by kernel_rfl) (by kernel_rfl) (by kernel_rfl) (by kernel_rfl) (fun _ _ _ h => h) (fun h => absurd (h.symm.trans (by kernel_rfl : _ = true)) (by decide)) (fun w' => ?_) ?_
            rotate_left
            · unfold bareOp
              go_simp
              try with_reducible rfl
            simp only [Act.put, List.setIfInBounds_toArray, List.set_cons_zero, List.set_cons_succ]
            refine wpAnyB_takeP (i := 4) (some 70) (Op.extract (Operand.tmp 66) 0) 27 (v := ?_) ⟨_, rfl, rfl, rfl, rfl, rfl⟩ (by kernel_rfl) (by kernel_rfl) (by kernel_rfl) (by kernel_rfl) (fun _ _ _ h => h) (fun h => absurd (h.symm.trans (by kernel_rfl : _ = true)) (by decide)) (fun w' => ?_) ?_
            rotate_left
            · unfold bareOp
              go_simp
              try with_reducible rfl
            simp only [Act.put, List.setIfInBounds_toArray, List.set_cons_zero, List.set_cons_succ]
            refine wpAnyB_takeP (i := 5) (some 71) (Op.extract (Operand.tmp 66) 1) 29 (v := ?_) ⟨_, rfl, rfl, rfl, rfl, rfl⟩ (by kernel_rfl) (by kernel_rfl) (by kernel_rfl) (by kernel_rfl) (fun _ _ _ h => h) (fun h => absurd (h.symm.trans (by kernel_rfl : _ = true)) (by decide)) (fun w' => ?_) ?_
            rotate_left
            · unfold bareOp
              go_simp
              try with_reducible rfl
            simp only [Act.put, List.setIfInBounds_toArray, List.set_cons_zero, List.set_cons_succ]
            refine wpAnyB_only (i := 6) (some 14) (Op.alloc 27) 0 ⟨_, rfl, rfl, rfl, rfl, rfl⟩ (by kernel_rfl) (fun K hK => ?_)
            unfold bareOp
            go_wp2_with fail
            have F_r := Lib.hid (Pair.new w53 0 0 27)
            have hle := HBW.out.size
            replace HBW := Lib.hid (HBW.out.alloc HBW.out.size (.cells #[.int .u64 0, .int .u64 0] 27))
            generalize w53.alloc (.cells #[.int .u64 0, .int .u64 0] 27) = w54 at F_r HBW ⊢
            refine hK.out _ _ (fun h => absurd (h.symm.trans (by kernel_rfl : _ = true)) (by decide)) ?_
            clear hK K
            try simp only [Act.put, List.setIfInBounds_toArray, List.set_cons_zero, List.set_cons_succ]
            refine wpAnyB_only (i := 7) none (Op.store 27 (Operand.tmp 14) (Operand.tmp 70)) 0 ⟨_, rfl, rfl, rfl, rfl, rfl⟩ (by kernel_rfl) (fun K hK => ?_)
            unfold bareOp
            obtain ⟨za, zb, zc, zd, -⟩ := id F_r.out
            go_wp2_with fail
            clear za zb zc zd F_r
            replace HBW := Lib.hid ((HBW.out.setCell (p := ⟨w53.heap.size, 0, none⟩) hle (.int .u64 R8)).setCell (p := ⟨w53.heap.size, 1, none⟩) hle (.int .u64 S8))
            refine hK.out _ _ (fun h => absurd (h.symm.trans (by kernel_rfl : _ = true)) (by decide)) ?_
            clear hK K
            try simp only [Act.put, List.setIfInBounds_toArray, List.set_cons_zero, List.set_cons_succ]
            refine wpAnyB_takeP (i := 8) (some 15) (Op.assign (Operand.tmp 71)) 29 (v := ?_) ⟨_, rfl, rfl, rfl, rfl, rfl⟩ (by kernel_rfl) (by kernel_rfl) (by kernel_rfl) (by kernel_rfl) (fun _ _ _ h => h) (fun h => absurd (h.symm.trans (by kernel_rfl : _ = true)) (by decide)) (fun w' => ?_) ?_
            rotate_left
            · unfold bareOp
              go_simp
              try with_reducible rfl
            simp only [Act.put, List.setIfInBounds_toArray, List.set_cons_zero, List.set_cons_succ]
            refine wpAnyB_done (by kernel_rfl) ?_ _
            go_wp2_with fail
            go_meet
            case rel => exact ⟨rfl, HBW⟩
          · skip
            unfold bareOp
            go_wp2_with fail
            have F_r := Lib.hid (Pair.new w52 0 0 27)
            have hle := HBW.out.size
            replace F_z := Lib.hid (F_z.out.keep ((Below.refl _ _).alloc (Nat.le_refl _) (.cells #[.int .u64 0, .int .u64 0] 27)))
            replace HBW := Lib.hid (HBW.out.alloc HBW.out.size (.cells #[.int .u64 0, .int .u64 0] 27))
            generalize w52.alloc (.cells #[.int .u64 0, .int .u64 0] 27) = w56 at F_r HBW F_z ⊢
            refine hK.out _ _ (fun _ => trivial) ?_
            clear hK K
            try simp only [Act.put, List.setIfInBounds_toArray, List.set_cons_zero, List.set_cons_succ]
            refine wpAnyB_only (i := 2) (some 69) (Op.call { callee := Callee.value (Operand.func 10), args := #[Operand.tmp 67, Operand.const (Value.int IntKind.u64 3), Operand.tmp 68], argTypes := #[24, 22, 25] }) 34 ⟨_, rfl, rfl, rfl, rfl, rfl⟩ (by kernel_rfl) (fun K hK => ?_)
            unfold bareOp
            go_wp2_with (go_at_call 10; refine (ssign_any _ ⟨HT.out.below HBW.out, F_z.out, HZ0.out⟩ (by decide) (by decide) (by decide) ⟨by decide, by decide⟩ (by decide) HM.out).mono ?_; rintro e w57 ⟨rfl, hb57⟩)
            clear F_z
            replace F_r := Lib.hid (F_r.out.keep hb57)
            replace HBW := Lib.hid (HBW.out.trans (hb57.mono HBW.out.size))
            clear hb57
            refine hK.out _ _ (fun h => absurd (h.symm.trans (by kernel_rfl : _ = true)) (by decide)) ?_
            clear hK K
            try simp only [Act.put, List.setIfInBounds_toArray, List.set_cons_zero, List.set_cons_succ]
            refine wpAnyB_takeP (i := 3) (some 66) (Op.move (Operand.tmp 69)) 34 (v := ?_) ⟨_, rfl, rfl, rfl, rfl, rfl⟩ (by kernel_rfl) (by kernel_rfl) (by kernel_rfl) (by kernel_rfl) (fun _ _ _ h => h) (fun h => absurd (h.symm.trans (by kernel_rfl : _ = true)) (by decide)) (fun w' => ?_) ?_
            rotate_left
            · unfold bareOp
              go_simp
              try with_reducible rfl
            simp only [Act.put, List.setIfInBounds_toArray, List.set_cons_zero, List.set_cons_succ]
            refine wpAnyB_takeP (i := 4) (some 70) (Op.extract (Operand.tmp 66) 0) 27 (v := ?_) ⟨_, rfl, rfl, rfl, rfl, rfl⟩ (by kernel_rfl) (by kernel_rfl) (by kernel_rfl) (by kernel_rfl) (fun _ _ _ h => h) (fun h => absurd (h.symm.trans (by kernel_rfl : _ = true)) (by decide)) (fun w' => ?_) ?_
            rotate_left
            · unfold bareOp
              go_simp
              try with_reducible rfl
            simp only [Act.put, List.setIfInBounds_toArray, List.set_cons_zero, List.set_cons_succ]
            refine wpAnyB_takeP (i := 5) (some 71) (Op.extract (Operand.tmp 66) 1) 29 (v := ?_) ⟨_, rfl, rfl, rfl, rfl, rfl⟩ (by kernel_rfl) (by kernel_rfl) (by kernel_rfl) (by kernel_rfl) (fun _ _ _ h => h) (fun h => absurd (h.symm.trans (by kernel_rfl : _ = true)) (by decide)) (fun w' => ?_) ?_
            rotate_left
            · unfold bareOp
              go_simp
              try with_reducible rfl
            simp only [Act.put, List.setIfInBounds_toArray, List.set_cons_zero, List.set_cons_succ]
            refine wpAnyB_only (i := 7) none (Op.store 27 (Operand.tmp 14) (Operand.tmp 70)) 0 ⟨_, rfl, rfl, rfl, rfl, rfl⟩ (by kernel_rfl) (fun K hK => ?_)
            unfold bareOp
            obtain ⟨za, zb, zc, zd, -⟩ := id F_r.out
            go_wp2_with fail
            clear za zb zc zd F_r
            replace HBW := Lib.hid ((HBW.out.setCell (p := ⟨w52.heap.size, 0, none⟩) hle (.int .u64 R8)).setCell (p := ⟨w52.heap.size, 1, none⟩) hle (.int .u64 S8))
            refine hK.out _ _ (fun h => absurd (h.symm.trans (by kernel_rfl : _ = true)) (by decide)) ?_
            clear hK K
            try simp only [Act.put, List.setIfInBounds_toArray, List.set_cons_zero, List.set_cons_succ]
            refine wpAnyB_takeP (i := 8) (some 15) (Op.assign (Operand.tmp 71)) 29 (v := ?_) ⟨_, rfl, rfl, rfl, rfl, rfl⟩ (by kernel_rfl) (by kernel_rfl) (by kernel_rfl) (by kernel_rfl) (fun _ _ _ h => h) (fun h => absurd (h.symm.trans (by kernel_rfl : _ = true)) (by decide)) (fun w' => ?_) ?_
            rotate_left
            · unfold bareOp
              go_simp
              try with_reducible rfl
            simp only [Act.put, List.setIfInBounds_toArray, List.set_cons_zero, List.set_cons_succ]
            refine wpAnyB_done (by kernel_rfl) ?_ _
            go_wp2_with fail
            go_meet
            case rel => exact ⟨rfl, HBW⟩
        · skip
          unfold bareOp
          go_wp2_with fail
          have F_r := Lib.hid (Pair.new w51 0 0 27)
          have hle := HBW.out.size
          replace HBW := Lib.hid (HBW.out.alloc HBW.out.size (.cells #[.int .u64 0, .int .u64 0] 27))
          generalize w51.alloc (.cells #[.int .u64 0, .int .u64 0] 27) = w59 at F_r HBW ⊢
          refine hK.out _ _ (fun _ => trivial) ?_
          clear hK K
          try simp only [Act.put, List.setIfInBounds_toArray, List.set_cons_zero, List.set_cons_succ]
          refine wpAnyB_only (i := 1) (some 68) (Op.makeSlice 25 (Operand.const (Value.int IntKind.i64 8000)) (Operand.const (Value.int IntKind.i64 8000))) 25 ⟨_, rfl, rfl, rfl, rfl, rfl⟩ (by kernel_rfl) (fun K hK => ?_)
          unfold bareOp
          go_wp2_with fail
          have F_z := Lib.hid (hbig0 w59)
          replace F_r := Lib.hid (F_r.out.alloc BIG0)
          replace HBW := Lib.hid (HBW.out.alloc HBW.out.size BIG0)
          generalize w59.alloc BIG0 = w60 at F_z HBW F_r ⊢
          refine hK.out _ _ (fun _ => trivial) ?_
          clear hK K
          try simp only [Act.put, List.setIfInBounds_toArray, List.set_cons_zero, List.set_cons_succ]
          refine wpAnyB_only (i := 2) (some 69) (Op.call { callee := Callee.value (Operand.func 10), args := #[Operand.tmp 67, Operand.const (Value.int IntKind.u64 3), Operand.tmp 68], argTypes := #[24, 22, 25] }) 34 ⟨_, rfl, rfl, rfl, rfl, rfl⟩ (by kernel_rfl) (fun K hK => ?_)
          unfold bareOp
          go_wp2_with (go_at_call 10; refine (ssign_any _ ⟨HT.out.below HBW.out, F_z.out, HZ0.out⟩ (by decide) (by decide) (by decide) ⟨by decide, by decide⟩ (by decide) HM.out).mono ?_; rintro e w61 ⟨rfl, hb61⟩)
          clear F_z
          replace F_r := Lib.hid (F_r.out.keep hb61)
          replace HBW := Lib.hid (HBW.out.trans (hb61.mono HBW.out.size))
          clear hb61
          refine hK.out _ _ (fun h => absurd (h.symm.trans (by kernel_rfl : _ = true)) (by decide)) ?_
          clear hK K
          try simp only [Act.put, List.setIfInBounds_toArray, List.set_cons_zero, List.set_cons_succ]
          refine wpAnyB_takeP (i := 3) (some 66) (Op.move (Operand.tmp 69)) 34 (v := ?_) ⟨_, rfl, rfl, rfl, rfl, rfl⟩ (by kernel_rfl) (by kernel_rfl) (by kernel_rfl) (by kernel_rfl) (fun _ _ _ h => h) (fun h => absurd (h.symm.trans (by kernel_rfl : _ = true)) (by decide)) (fun w' => ?_) ?_
          rotate_left
          · unfold bareOp
            go_simp
            try with_reducible rfl
          simp only [Act.put, List.setIfInBounds_toArray, List.set_cons_zero, List.set_cons_succ]
          refine wpAnyB_takeP (i := 4) (some 70) (Op.extract (Operand.tmp 66) 0) 27 (v := ?_) ⟨_, rfl, rfl, rfl, rfl, rfl⟩ (by kernel_rfl) (by kernel_rfl) (by kernel_rfl) (by kernel_rfl) (fun _ _ _ h => h) (fun h => absurd (h.symm.trans (by kernel_rfl : _ = true)) (by decide)) (fun w' => ?_) ?_
          rotate_left
          · unfold bareOp
            go_simp
            try with_reducible rfl
          simp only [Act.put, List.setIfInBounds_toArray, List.set_cons_zero, List.set_cons_succ]
          refine wpAnyB_takeP (i := 5) (some 71) (Op.extract (Operand.tmp 66) 1) 29 (v := ?_) ⟨_, rfl, rfl, rfl, rfl, rfl⟩ (by kernel_rfl) (by kernel_rfl) (by kernel_rfl) (by kernel_rfl) (fun _ _ _ h => h) (fun h => absurd (h.symm.trans (by kernel_rfl : _ = true)) (by decide)) (fun w' => ?_) ?_
          rotate_left
          · unfold bareOp
            go_simp
            try with_reducible rfl
          simp only [Act.put, List.setIfInBounds_toArray, List.set_cons_zero, List.set_cons_succ]
          refine wpAnyB_only (i := 7) none (Op.store 27 (Operand.tmp 14) (Operand.tmp 70)) 0 ⟨_, rfl, rfl, rfl, rfl, rfl⟩ (by kernel_rfl) (fun K hK => ?_)
          unfold bareOp
          obtain ⟨za, zb, zc, zd, -⟩ := id F_r.out
          go_wp2_with fail
          clear za zb zc zd F_r
          replace HBW := Lib.hid ((HBW.out.setCell (p := ⟨w51.heap.size, 0, none⟩) hle (.int .u64 R8)).setCell (p := ⟨w51.heap.size, 1, none⟩) hle (.int .u64 S8))
          refine hK.out _ _ (fun h => absurd (h.symm.trans (by kernel_rfl : _ = true)) (by decide)) ?_
          clear hK K
          try simp only [Act.put, List.setIfInBounds_toArray, List.set_cons_zero, List.set_cons_succ]
          refine wpAnyB_takeP (i := 8) (some 15) (Op.assign (Operand.tmp 71)) 29 (v := ?_) ⟨_, rfl, rfl, rfl, rfl, rfl⟩ (by kernel_rfl) (by kernel_rfl) (by kernel_rfl) (by kernel_rfl) (fun _ _ _ h => h) (fun h => absurd (h.symm.trans (by kernel_rfl : _ = true)) (by decide)) (fun w' => ?_) ?_
          rotate_left
          · unfold bareOp
            go_simp
            try with_reducible rfl
          simp only [Act.put, List.setIfInBounds_toArray, List.set_cons_zero, List.set_cons_succ]
          refine wpAnyB_done (by kernel_rfl) ?_ _
          go_wp2_with fail
          go_meet
          case rel => exact ⟨rfl, HBW⟩
      · skip
        unfold bareOp
        go_wp2_with fail
        have F_z := Lib.hid (hbig0 wd8)
        replace HBW := Lib.hid (HBW.out.alloc HBW.out.size BIG0)
        generalize wd8.alloc BIG0 = w63 at F_z HBW ⊢
        refine hK.out _ _ (fun _ => trivial) ?_
        clear hK K
        try simp only [Act.put, List.setIfInBounds_toArray, List.set_cons_zero, List.set_cons_succ]
        refine wpAnyB_two (i := 0) (j := 6) (some 67) (Op.call { callee := Callee.value (Operand.func 18), args := #[], argTypes := #[] }) 24 (some 14) (Op.alloc 27) 0 ⟨_, rfl, rfl, rfl, rfl, rfl⟩ ⟨_, rfl, rfl, rfl, rfl, rfl⟩ (by kernel_rfl) (fun K hK => ?_) (fun K hK => ?_)
        · skip
          unfold bareOp
          go_wp2_with (go_at_call 18; refine (small_any _).mono ?_; rintro e w64 ⟨rfl, hb64⟩)
          replace F_z := Lib.hid (F_z.out.keep hb64)
          replace HBW := Lib.hid (HBW.out.trans (hb64.mono HBW.out.size))
          clear hb64
          refine hK.out _ _ (fun _ => trivial) ?_
          clear hK K
          try simp only [Act.put, List.setIfInBounds_toArray, List.set_cons_zero, List.set_cons_succ]
          refine wpAnyB_two (i := 2) (j := 6) (some 69) (Op.call { callee := Callee.value (Operand.func 10), args := #[Operand.tmp 67, Operand.const (Value.int IntKind.u64 3), Operand.tmp 68], argTypes := #[24, 22, 25] }) 34 (some 14) (Op.alloc 27) 0 ⟨_, rfl, rfl, rfl, rfl, rfl⟩ ⟨_, rfl, rfl, rfl, rfl, rfl⟩ (by kernel_rfl) (fun K hK => ?_) (fun K hK => ?_)
          · skip
            unfold bareOp
            go_wp2_with (go_at_call 10; refine (ssign_any _ ⟨HT.out.below HBW.out, F_z.out, HZ0.out⟩ (by decide) (by decide) (by decide) ⟨by decide, by decide⟩ (by decide) HM.out).mono ?_; rintro e w65 ⟨rfl, hb65⟩)
            clear F_z
            replace HBW := Lib.hid (HBW.out.trans (hb65.mono HBW.out.size))
            clear hb65
            refine hK.out _ _ (fun h => absurd (h.symm.trans (by kernel_rfl : _ = true)) (by decide)) ?_
            clear hK K
            try simp only [Act.put, List.setIfInBounds_toArray, List.set_cons_zero, List.set_cons_succ]
            refine wpAnyB_takeP (i := 3) (some 66) (Op.move (Operand.tmp 69)) 34 (v := ?_) ⟨_, rfl, rfl, rfl, rfl, rfl⟩ (by kernel_rfl) (by kernel_rfl) (by kernel_rfl) (by kernel_rfl) (fun _ _ _ h => h) (fun h => absurd (h.symm.trans (by kernel_rfl : _ = true)) (by decide)) (fun w' => ?_) ?_
            rotate_left
            · unfold bareOp
              go_simp
              try with_reducible rfl
            simp only [Act.put, List.setIfInBounds_toArray, List.set_cons_zero, List.set_cons_succ]
            refine wpAnyB_takeP (i := 4) (some 70) (Op.extract (Operand.tmp 66) 0) 27 (v := ?_) ⟨_, rfl, rfl, rfl, rfl, rfl⟩ (by kernel_rfl) (by kernel_rfl) (by kernel_rfl) (by kernel_rfl) (fun _ _ _ h => h) (fun h => absurd (h.symm.trans (by kernel_rfl : _ = true)) (by decide)) (fun w' => ?_) ?_
            rotate_left
            · unfold bareOp
              go_simp
              try with_reducible rfl
            simp only [Act.put, List.setIfInBounds_toArray, List.set_cons_zero, List.set_cons_succ]
            refine wpAnyB_takeP (i := 5) (some 71) (Op.extract (Operand.tmp 66) 1) 29 (v := ?_) ⟨_, rfl, rfl, rfl, rfl, rfl⟩ (by kernel_rfl) (by kernel_rfl) (by kernel_rfl) (by kernel_rfl) (fun _ _ _ h => h) (fun h => absurd (h.symm.trans (by kernel_rfl : _ = true)) (by decide)) (fun w' => ?_) ?_
            rotate_left
            · unfold bareOp
              go_simp
              try with_reducible rfl
            simp only [Act.put, List.setIfInBounds_toArray, List.set_cons_zero, List.set_cons_succ]
            refine wpAnyB_only (i := 6) (some 14) (Op.alloc 27) 0 ⟨_, rfl, rfl, rfl, rfl, rfl⟩ (by kernel_rfl) (fun K hK => ?_)
            unfold bareOp
            go_wp2_with fail
            have F_r := Lib.hid (Pair.new w65 0 0 27)
            have hle := HBW.out.size
            replace HBW := Lib.hid (HBW.out.alloc HBW.out.size (.cells #[.int .u64 0, .int .u64 0] 27))
            generalize w65.alloc (.cells #[.int .u64 0, .int .u64 0] 27) = w66 at F_r HBW ⊢
            refine hK.out _ _ (fun h => absurd (h.symm.trans (by kernel_rfl : _ = true)) (by decide)) ?_
            clear hK K
            try simp only [Act.put, List.setIfInBounds_toArray, List.set_cons_zero, List.set_cons_succ]
            refine wpAnyB_only (i := 7) none (Op.store 27 (Operand.tmp 14) (Operand.tmp 70)) 0 ⟨_, rfl, rfl, rfl, rfl, rfl⟩ (by kernel_rfl) (fun K hK => ?_)
            unfold bareOp
            obtain ⟨za, zb, zc, zd, -⟩ := id F_r.out
            go_wp2_with fail
            clear za zb zc zd F_r
            replace HBW := Lib.hid ((HBW.out.setCell (p := ⟨w65.heap.size, 0, none⟩) hle (.int .u64 R8)).setCell (p := ⟨w65.heap.size, 1, none⟩) hle (.int .u64 S8))
            refine hK.out _ _ (fun h => absurd (h.symm.trans (by kernel_rfl : _ = true)) (by decide)) ?_
            clear hK K
            try simp only [Act.put, List.setIfInBounds_toArray, List.set_cons_zero, List.set_cons_succ]
            refine wpAnyB_takeP (i := 8) (some 15) (Op.assign (Operand.tmp 71)) 29 (v := ?_) ⟨_, rfl, rfl, rfl, rfl, rfl⟩ (by kernel_rfl) (by kernel_rfl) (by kernel_rfl) (by kernel_rfl) (fun _ _ _ h => h) (fun h => absurd (h.symm.trans (by kernel_rfl : _ = true)) (by decide)) (fun w' => ?_) ?_
            rotate_left
            · unfold bareOp
              go_simp
              try with_reducible rfl
            simp only [Act.put, List.setIfInBounds_toArray, List.set_cons_zero, List.set_cons_succ]
            refine wpAnyB_done (by kernel_rfl) ?_ _
            go_wp2_with fail
            go_meet
            case rel => exact ⟨rfl, HBW⟩
          · skip
            unfold bareOp
            go_wp2_with fail
            have F_r := Lib.hid (Pair.new w64 0 0 27)
            have hle := HBW.out.size
            replace F_z := Lib.hid (F_z.out.keep ((Below.refl _ _).alloc (Nat.le_refl _) (.cells #[.int .u64 0, .int .u64 0] 27)))
            replace HBW := Lib.hid (HBW.out.alloc HBW.out.size (.cells #[.int .u64 0, .int .u64 0] 27))
            generalize w64.alloc (.cells #[.int .u64 0, .int .u64 0] 27) = w68 at F_r HBW F_z ⊢
            refine hK.out _ _ (fun _ => trivial) ?_
            clear hK K
            try simp only [Act.put, List.setIfInBounds_toArray, List.set_cons_zero, List.set_cons_succ]
            refine wpAnyB_only (i := 2) (some 69) (Op.call { callee := Callee.value (Operand.func 10), args := #[Operand.tmp 67, Operand.const (Value.int IntKind.u64 3), Operand.tmp 68], argTypes := #[24, 22, 25] }) 34 ⟨_, rfl, rfl, rfl, rfl, rfl⟩ (by kernel_rfl) (fun K hK => ?_)
            unfold bareOp
            go_wp2_with (go_at_call 10; refine (ssign_any _ ⟨HT.out.below HBW.out, F_z.out, HZ0.out⟩ (by decide) (by decide) (by decide) ⟨by decide, by decide⟩ (by decide) HM.out).mono ?_; rintro e w69 ⟨rfl, hb69⟩)
            clear F_z
            replace F_r := Lib.hid (F_r.out.keep hb69)
            replace HBW := Lib.hid (HBW.out.trans (hb69.mono HBW.out.size))
            clear hb69
            refine hK.out _ _ (fun h => absurd (h.symm.trans (by kernel_rfl : _ = true)) (by decide)) ?_
            clear hK K
            try simp only [Act.put, List.setIfInBounds_toArray, List.set_cons_zero, List.set_cons_succ]
            refine wpAnyB_takeP (i := 3) (some 66) (Op.move (Operand.tmp 69)) 34 (v := ?_) ⟨_, rfl, rfl, rfl, rfl, rfl⟩ (by kernel_rfl) (by kernel_rfl) (by kernel_rfl) (by kernel_rfl) (fun _ _ _ h => h) (fun h => absurd (h.symm.trans (by kernel_rfl : _ = true)) (by decide)) (fun w' => ?_) ?_
            rotate_left
            · unfold bareOp
              go_simp
              try with_reducible rfl
            simp only [Act.put, List.setIfInBounds_toArray, List.set_cons_zero, List.set_cons_succ]
            refine wpAnyB_takeP (i := 4) (some 70) (Op.extract (Operand.tmp 66) 0) 27 (v := ?_) ⟨_, rfl, rfl, rfl, rfl, rfl⟩ (by kernel_rfl) (by kernel_rfl) (by kernel_rfl) (by kernel_rfl) (fun _ _ _ h => h) (fun h => absurd (h.symm.trans (by kernel_rfl : _ = true)) (by decide)) (fun w' => ?_) ?_
            rotate_left
            · unfold bareOp
              go_simp
              try with_reducible rfl
            simp only [Act.put, List.setIfInBounds_toArray, List.set_cons_zero, List.set_cons_succ]
            refine wpAnyB_takeP (i := 5) (some 71) (Op.extract (Operand.tmp 66) 1) 29 (v := ?_) ⟨_, rfl, rfl, rfl, rfl, rfl⟩ (by kernel_rfl) (by kernel_rfl) (by kernel_rfl) (by kernel_rfl) (fun _ _ _ h => h) (fun h => absurd (h.symm.trans (by kernel_rfl : _ = true)) (by decide)) (fun w' => ?_) ?_
            rotate_left
            · unfold bareOp
              go_simp
              try with_reducible rfl
            simp only [Act.put, List.setIfInBounds_toArray, List.set_cons_zero, List.set_cons_succ]
            refine wpAnyB_only (i := 7) none (Op.store 27 (Operand.tmp 14) (Operand.tmp 70)) 0 ⟨_, rfl, rfl, rfl, rfl, rfl⟩ (by kernel_rfl) (fun K hK => ?_)
            unfold bareOp
            obtain ⟨za, zb, zc, zd, -⟩ := id F_r.out
            go_wp2_with fail
            clear za zb zc zd F_r
            replace HBW := Lib.hid ((HBW.out.setCell (p := ⟨w64.heap.size, 0, none⟩) hle (.int .u64 R8)).setCell (p := ⟨w64.heap.size, 1, none⟩) hle (.int .u64 S8))
            refine hK.out _ _ (fun h => absurd (h.symm.trans (by kernel_rfl : _ = true)) (by decide)) ?_
            clear hK K
            try simp only [Act.put, List.setIfInBounds_toArray, List.set_cons_zero, List.set_cons_succ]
            refine wpAnyB_takeP (i := 8) (some 15) (Op.assign (Operand.tmp 71)) 29 (v := ?_) ⟨_, rfl, rfl, rfl, rfl, rfl⟩ (by kernel_rfl) (by kernel_rfl) (by kernel_rfl) (by kernel_rfl) (fun _ _ _ h => h) (fun h => absurd (h.symm.trans (by kernel_rfl : _ = true)) (by decide)) (fun w' => ?_) ?_
            rotate_left
            · unfold bareOp
              go_simp
              try with_reducible rfl
            simp only [Act.put, List.setIfInBounds_toArray, List.set_cons_zero, List.set_cons_succ]
            refine wpAnyB_done (by kernel_rfl) ?_ _
            go_wp2_with fail
            go_meet
            case rel => exact ⟨rfl, HBW⟩
        · skip
          unfold bareOp
          go_wp2_with fail
          have F_r := Lib.hid (Pair.new w63 0 0 27)
          have hle := HBW.out.size
          replace F_z := Lib.hid (F_z.out.keep ((Below.refl _ _).alloc (Nat.le_refl _) (.cells #[.int .u64 0, .int .u64 0] 27)))
          replace HBW := Lib.hid (HBW.out.alloc HBW.out.size (.cells #[.int .u64 0, .int .u64 0] 27))
          generalize w63.alloc (.cells #[.int .u64 0, .int .u64 0] 27) = w71 at F_r HBW F_z ⊢
          refine hK.out _ _ (fun _ => trivial) ?_
          clear hK K
          try simp only [Act.put, List.setIfInBounds_toArray, List.set_cons_zero, List.set_cons_succ]
          refine wpAnyB_only (i := 0) (some 67) (Op.call { callee := Callee.value (Operand.func 18), args := #[], argTypes := #[] }) 24 ⟨_, rfl, rfl, rfl, rfl, rfl⟩ (by kernel_rfl) (fun K hK => ?_)
          unfold bareOp
          go_wp2_with (go_at_call 18; refine (small_any _).mono ?_; rintro e w72 ⟨rfl, hb72⟩)
          replace F_z := Lib.hid (F_z.out.keep hb72)
          replace F_r := Lib.hid (F_r.out.keep hb72)
          replace HBW := Lib.hid (HBW.out.trans (hb72.mono HBW.out.size))
          clear hb72
          refine hK.out _ _ (fun _ => trivial) ?_
          clear hK K
          try simp only [Act.put, List.setIfInBounds_toArray, List.set_cons_zero, List.set_cons_succ]
          refine wpAnyB_only (i := 2) (some 69) (Op.call { callee := Callee.value (Operand.func 10), args := #[Operand.tmp 67, Operand.const (Value.int IntKind.u64 3), Operand.tmp 68], argTypes := #[24, 22, 25] }) 34 ⟨_, rfl, rfl, rfl, rfl, rfl⟩ (by kernel_rfl) (fun K hK => ?_)
          unfold bareOp
          go_wp2_with (go_at_call 10; refine (ssign_any _ ⟨HT.out.below HBW.out, F_z.out, HZ0.out⟩ (by decide) (by decide) (by decide) ⟨by decide, by decide⟩ (by decide) HM.out).mono ?_; rintro e w73 ⟨rfl, hb73⟩)
          clear F_z
          replace F_r := Lib.hid (F_r.out.keep hb73)
          replace HBW := Lib.hid (HBW.out.trans (hb73.mono HBW.out.size))
          clear hb73
          refine hK.out _ _ (fun h => absurd (h.symm.trans (by kernel_rfl : _ = true)) (by decide)) ?_
          clear hK K
          try simp only [Act.put, List.setIfInBounds_toArray, List.set_cons_zero, List.set_cons_succ]
          refine wpAnyB_takeP (i := 3) (some 66) (Op.move (Operand.tmp 69)) 34 (v := ?_) ⟨_, rfl, rfl, rfl, rfl, rfl⟩ (by kernel_rfl) (by kernel_rfl) (by kernel_rfl) (by kernel_rfl) (fun _ _ _ h => h) (fun h => absurd (h.symm.trans (by kernel_rfl : _ = true)) (by decide)) (fun w' => ?_) ?_
          rotate_left
          · unfold bareOp
            go_simp
            try with_reducible rfl
          simp only [Act.put, List.setIfInBounds_toArray, List.set_cons_zero, List.set_cons_succ]
          refine wpAnyB_takeP (i := 4) (some 70) (Op.extract (Operand.tmp 66) 0) 27 (v := ?_) ⟨_, rfl, rfl, rfl, rfl, rfl⟩ (by kernel_rfl) (by kernel_rfl) (by kernel_rfl) (by kernel_rfl) (fun _ _ _ h => h) (fun h => absurd (h.symm.trans (by kernel_rfl : _ = true)) (by decide)) (fun w' => ?_) ?_
          rotate_left
          · unfold bareOp
            go_simp
            try with_reducible rfl
          simp only [Act.put, List.setIfInBounds_toArray, List.set_cons_zero, List.set_cons_succ]
          refine wpAnyB_takeP (i := 5) (some 71) (Op.extract (Operand.tmp 66) 1) 29 (v := ?_) ⟨_, rfl, rfl, rfl, rfl, rfl⟩ (by kernel_rfl) (by kernel_rfl) (by kernel_rfl) (by kernel_rfl) (fun _ _ _ h => h) (fun h => absurd (h.symm.trans (by kernel_rfl : _ = true)) (by decide)) (fun w' => ?_) ?_
          rotate_left
          · unfold bareOp
            go_simp
            try with_reducible rfl
          simp only [Act.put, List.setIfInBounds_toArray, List.set_cons_zero, List.set_cons_succ]
          refine wpAnyB_only (i := 7) none (Op.store 27 (Operand.tmp 14) (Operand.tmp 70)) 0 ⟨_, rfl, rfl, rfl, rfl, rfl⟩ (by kernel_rfl) (fun K hK => ?_)
          unfold bareOp
          obtain ⟨za, zb, zc, zd, -⟩ := id F_r.out
          go_wp2_with fail
          clear za zb zc zd F_r
          replace HBW := Lib.hid ((HBW.out.setCell (p := ⟨w63.heap.size, 0, none⟩) hle (.int .u64 R8)).setCell (p := ⟨w63.heap.size, 1, none⟩) hle (.int .u64 S8))
          refine hK.out _ _ (fun h => absurd (h.symm.trans (by kernel_rfl : _ = true)) (by decide)) ?_
          clear hK K
          try simp only [Act.put, List.setIfInBounds_toArray, List.set_cons_zero, List.set_cons_succ]
          refine wpAnyB_takeP (i := 8) (some 15) (Op.assign (Operand.tmp 71)) 29 (v := ?_) ⟨_, rfl, rfl, rfl, rfl, rfl⟩ (by kernel_rfl) (by kernel_rfl) (by kernel_rfl) (by kernel_rfl) (fun _ _ _ h => h) (fun h => absurd (h.symm.trans (by kernel_rfl : _ = true)) (by decide)) (fun w' => ?_) ?_
          rotate_left
          · unfold bareOp
            go_simp
            try with_reducible rfl
          simp only [Act.put, List.setIfInBounds_toArray, List.set_cons_zero, List.set_cons_succ]
          refine wpAnyB_done (by kernel_rfl) ?_ _
          go_wp2_with fail
          go_meet
          case rel => exact ⟨rfl, HBW⟩
      · skip
        unfold bareOp
        go_wp2_with fail
        have F_r := Lib.hid (Pair.new wd8 0 0 27)
        have hle := HBW.out.size
        replace HBW := Lib.hid (HBW.out.alloc HBW.out.size (.cells #[.int .u64 0, .int .u64 0] 27))
        generalize wd8.alloc (.cells #[.int .u64 0, .int .u64 0] 27) = w75 at F_r HBW ⊢
        refine hK.out _ _ (fun _ => trivial) ?_
        clear hK K
        try simp only [Act.put, List.setIfInBounds_toArray, List.set_cons_zero, List.set_cons_succ]
        refine wpAnyB_two (i := 0) (j := 1) (some 67) (Op.call { callee := Callee.value (Operand.func 18), args := #[], argTypes := #[] }) 24 (some 68) (Op.makeSlice 25 (Operand.const (Value.int IntKind.i64 8000)) (Operand.const (Value.int IntKind.i64 8000))) 25 ⟨_, rfl, rfl, rfl, rfl, rfl⟩ ⟨_, rfl, rfl, rfl, rfl, rfl⟩ (by kernel_rfl) (fun K hK => ?_) (fun K hK => ?_)
        · skip
          unfold bareOp
          go_wp2_with (go_at_call 18; refine (small_any _).mono ?_; rintro e w76 ⟨rfl, hb76⟩)
          replace F_r := Lib.hid (F_r.out.keep hb76)
          replace HBW := Lib.hid (HBW.out.trans (hb76.mono HBW.out.size))
          clear hb76
          refine hK.out _ _ (fun _ => trivial) ?_
          clear hK K
          try simp only [Act.put, List.setIfInBounds_toArray, List.set_cons_zero, List.set_cons_succ]
          refine wpAnyB_only (i := 1) (some 68) (Op.makeSlice 25 (Operand.const (Value.int IntKind.i64 8000)) (Operand.const (Value.int IntKind.i64 8000))) 25 ⟨_, rfl, rfl, rfl, rfl, rfl⟩ (by kernel_rfl) (fun K hK => ?_)
          unfold bareOp
          go_wp2_with fail
          have F_z := Lib.hid (hbig0 w76)
          replace F_r := Lib.hid (F_r.out.alloc BIG0)
          replace HBW := Lib.hid (HBW.out.alloc HBW.out.size BIG0)
          generalize w76.alloc BIG0 = w77 at F_z HBW F_r ⊢
          refine hK.out _ _ (fun _ => trivial) ?_
          clear hK K
          try simp only [Act.put, List.setIfInBounds_toArray, List.set_cons_zero, List.set_cons_succ]
          refine wpAnyB_only (i := 2) (some 69) (Op.call { callee := Callee.value (Operand.func 10), args := #[Operand.tmp 67, Operand.const (Value.int IntKind.u64 3), Operand.tmp 68], argTypes := #[24, 22, 25] }) 34 ⟨_, rfl, rfl, rfl, rfl, rfl⟩ (by kernel_rfl) (fun K hK => ?_)
          unfold bareOp
          go_wp2_with (go_at_call 10; refine (ssign_any _ ⟨HT.out.below HBW.out, F_z.out, HZ0.out⟩ (by decide) (by decide) (by decide) ⟨by decide, by decide⟩ (by decide) HM.out).mono ?_; rintro e w78 ⟨rfl, hb78⟩)
          clear F_z
          replace F_r := Lib.hid (F_r.out.keep hb78)
          replace HBW := Lib.hid (HBW.out.trans (hb78.mono HBW.out.size))
          clear hb78
          refine hK.out _ _ (fun h => absurd (h.symm.trans (by kernel_rfl : _ = true)) (by decide)) ?_
          clear hK K
          try simp only [Act.put, List.setIfInBounds_toArray, List.set_cons_zero, List.set_cons_succ]
          refine wpAnyB_takeP (i := 3) (some 66) (Op.move (Operand.tmp 69)) 34 (v := ?_) ⟨_, rfl, rfl, rfl, rfl, rfl⟩ (by kernel_rfl) (by kernel_rfl) (by kernel_rfl) (by kernel_rfl) (fun _ _ _ h => h) (fun h => absurd (h.symm.trans (by kernel_rfl : _ = true)) (by decide)) (fun w' => ?_) ?_
          rotate_left
          · unfold bareOp
            go_simp
            try with_reducible rfl
          simp only [Act.put, List.setIfInBounds_toArray, List.set_cons_zero, List.set_cons_succ]
          refine wpAnyB_takeP (i := 4) (some 70) (Op.extract (Operand.tmp 66) 0) 27 (v := ?_) ⟨_, rfl, rfl, rfl, rfl, rfl⟩ (by kernel_rfl) (by kernel_rfl) (by kernel_rfl) (by kernel_rfl) (fun _ _ _ h => h) (fun h => absurd (h.symm.trans (by kernel_rfl : _ = true)) (by decide)) (fun w' => ?_) ?_
          rotate_left
          · unfold bareOp
            go_simp
            try with_reducible rfl
          simp only [Act.put, List.setIfInBounds_toArray, List.set_cons_zero, List.set_cons_succ]
          refine wpAnyB_takeP (i := 5) (some 71) (Op.extract (Operand.tmp 66) 1) 29 (v := ?_) ⟨_, rfl, rfl, rfl, rfl, rfl⟩ (by kernel_rfl) (by kernel_rfl) (by kernel_rfl) (by kernel_rfl) (fun _ _ _ h => h) (fun h => absurd (h.symm.trans (by kernel_rfl : _ = true)) (by decide)) (fun w' => ?_) ?_
          rotate_left
          · unfold bareOp
            go_simp
            try with_reducible rfl
          simp only [Act.put, List.setIfInBounds_toArray, List.set_cons_zero, List.set_cons_succ]
          refine wpAnyB_only (i := 7) none (Op.store 27 (Operand.tmp 14) (Operand.tmp 70)) 0 ⟨_, rfl, rfl, rfl, rfl, rfl⟩ (by kernel_rfl) (fun K hK => ?_)
          unfold bareOp
          obtain ⟨za, zb, zc, zd, -⟩ := id F_r.out
          go_wp2_with fail
          clear za zb zc zd F_r
          replace HBW := Lib.hid ((HBW.out.setCell (p := ⟨wd8.heap.size, 0, none⟩) hle (.int .u64 R8)).setCell (p := ⟨wd8.heap.size, 1, none⟩) hle (.int .u64 S8))
          refine hK.out _ _ (fun h => absurd (h.symm.trans (by kernel_rfl : _ = true)) (by decide)) ?_
          clear hK K
          try simp only [Act.put, List.setIfInBounds_toArray, List.set_cons_zero, List.set_cons_succ]
          refine wpAnyB_takeP (i := 8) (some 15) (Op.assign (Operand.tmp 71)) 29 (v := ?_) ⟨_, rfl, rfl, rfl, rfl, rfl⟩ (by kernel_rfl) (by kernel_rfl) (by kernel_rfl) (by kernel_rfl) (fun _ _ _ h => h) (fun h => absurd (h.symm.trans (by kernel_rfl : _ = true)) (by decide)) (fun w' => ?_) ?_
          rotate_left
          · unfold bareOp
            go_simp
            try with_reducible rfl
          simp only [Act.put, List.setIfInBounds_toArray, List.set_cons_zero, List.set_cons_succ]
          refine wpAnyB_done (by kernel_rfl) ?_ _
          go_wp2_with fail
          go_meet
          case rel => exact ⟨rfl, HBW⟩
        · skip
          unfold bareOp
          go_wp2_with fail
          have F_z := Lib.hid (hbig0 w75)
          replace F_r := Lib.hid (F_r.out.alloc BIG0)
          replace HBW := Lib.hid (HBW.out.alloc HBW.out.size BIG0)
          generalize w75.alloc BIG0 = w80 at F_z HBW F_r ⊢
          refine hK.out _ _ (fun _ => trivial) ?_
          clear hK K
          try simp only [Act.put, List.setIfInBounds_toArray, List.set_cons_zero, List.set_cons_succ]
          refine wpAnyB_only (i := 0) (some 67) (Op.call { callee := Callee.value (Operand.func 18), args := #[], argTypes := #[] }) 24 ⟨_, rfl, rfl, rfl, rfl, rfl⟩ (by kernel_rfl) (fun K hK => ?_)
          unfold bareOp
          go_wp2_with (go_at_call 18; refine (small_any _).mono ?_; rintro e w81 ⟨rfl, hb81⟩)
          replace F_z := Lib.hid (F_z.out.keep hb81)
          replace F_r := Lib.hid (F_r.out.keep hb81)
          replace HBW := Lib.hid (HBW.out.trans (hb81.mono HBW.out.size))
          clear hb81
          refine hK.out _ _ (fun _ => trivial) ?_
          clear hK K
          try simp only [Act.put, List.setIfInBounds_toArray, List.set_cons_zero, List.set_cons_succ]
          refine wpAnyB_only (i := 2) (some 69) (Op.call { callee := Callee.value (Operand.func 10), args := #[Operand.tmp 67, Operand.const (Value.int IntKind.u64 3), Operand.tmp 68], argTypes := #[24, 22, 25] }) 34 ⟨_, rfl, rfl, rfl, rfl, rfl⟩ (by kernel_rfl) (fun K hK => ?_)
          unfold bareOp
          go_wp2_with (go_at_call 10; refine (ssign_any _ ⟨HT.out.below HBW.out, F_z.out, HZ0.out⟩ (by decide) (by decide) (by decide) ⟨by decide, by decide⟩ (by decide) HM.out).mono ?_; rintro e w82 ⟨rfl, hb82⟩)
          clear F_z
          replace F_r := Lib.hid (F_r.out.keep hb82)
          replace HBW := Lib.hid (HBW.out.trans (hb82.mono HBW.out.size))
          clear hb82
          refine hK.out _ _ (fun h => absurd (h.symm.trans (by kernel_rfl : _ = true)) (by decide)) ?_
          clear hK K
          try simp only [Act.put, List.setIfInBounds_toArray, List.set_cons_zero, List.set_cons_succ]
          refine wpAnyB_takeP (i := 3) (some 66) (Op.move (Operand.tmp 69)) 34 (v := ?_) ⟨_, rfl, rfl, rfl, rfl, rfl⟩ (by kernel_rfl) (by kernel_rfl) (by kernel_rfl) (by kernel_rfl) (fun _ _ _ h => h) (fun h => absurd (h.symm.trans (by kernel_rfl : _ = true)) (by decide)) (fun w' => ?_) ?_
          rotate_left
          · unfold bareOp
            go_simp
            try with_reducible rfl
          simp only [Act.put, List.setIfInBounds_toArray, List.set_cons_zero, List.set_cons_succ]
          refine wpAnyB_takeP (i := 4) (some 70) (Op.extract (Operand.tmp 66) 0) 27 (v := ?_) ⟨_, rfl, rfl, rfl, rfl, rfl⟩ (by kernel_rfl) (by kernel_rfl) (by kernel_rfl) (by kernel_rfl) (fun _ _ _ h => h) (fun h => absurd (h.symm.trans (by kernel_rfl : _ = true)) (by decide)) (fun w' => ?_) ?_
          rotate_left
          · unfold bareOp
            go_simp
            try with_reducible rfl
          simp only [Act.put, List.setIfInBounds_toArray, List.set_cons_zero, List.set_cons_succ]
          refine wpAnyB_takeP (i := 5) (some 71) (Op.extract (Operand.tmp 66) 1) 29 (v := ?_) ⟨_, rfl, rfl, rfl, rfl, rfl⟩ (by kernel_rfl) (by kernel_rfl) (by kernel_rfl) (by kernel_rfl) (fun _ _ _ h => h) (fun h => absurd (h.symm.trans (by kernel_rfl : _ = true)) (by decide)) (fun w' => ?_) ?_
          rotate_left
          · unfold bareOp
            go_simp
            try with_reducible rfl
          simp only [Act.put, List.setIfInBounds_toArray, List.set_cons_zero, List.set_cons_succ]
          refine wpAnyB_only (i := 7) none (Op.store 27 (Operand.tmp 14) (Operand.tmp 70)) 0 ⟨_, rfl, rfl, rfl, rfl, rfl⟩ (by kernel_rfl) (fun K hK => ?_)
          unfold bareOp
          obtain ⟨za, zb, zc, zd, -⟩ := id F_r.out
          go_wp2_with fail
          clear za zb zc zd F_r
          replace HBW := Lib.hid ((HBW.out.setCell (p := ⟨wd8.heap.size, 0, none⟩) hle (.int .u64 R8)).setCell (p := ⟨wd8.heap.size, 1, none⟩) hle (.int .u64 S8))
          refine hK.out _ _ (fun h => absurd (h.symm.trans (by kernel_rfl : _ = true)) (by decide)) ?_
          clear hK K
          try simp only [Act.put, List.setIfInBounds_toArray, List.set_cons_zero, List.set_cons_succ]
          refine wpAnyB_takeP (i := 8) (some 15) (Op.assign (Operand.tmp 71)) 29 (v := ?_) ⟨_, rfl, rfl, rfl, rfl, rfl⟩ (by kernel_rfl) (by kernel_rfl) (by kernel_rfl) (by kernel_rfl) (fun _ _ _ h => h) (fun h => absurd (h.symm.trans (by kernel_rfl : _ = true)) (by decide)) (fun w' => ?_) ?_
          rotate_left
          · unfold bareOp
            go_simp
            try with_reducible rfl
          simp only [Act.put, List.setIfInBounds_toArray, List.set_cons_zero, List.set_cons_succ]
          refine wpAnyB_done (by kernel_rfl) ?_ _
          go_wp2_with fail
          go_meet
          case rel => exact ⟨rfl, HBW⟩
    case rest =>
      clear HBW
      obtain ⟨rfl, HBW⟩ := hcut
      go_wp2_with fail
      refine (small_any _).mono ?_
      rintro e w41 ⟨rfl, hb41⟩
      replace HBW := Lib.hid (HBW.out.trans (hb41.mono HBW.out.size))
      clear hb41
      go_wp2_with fail
      refine (sverify_any _ (txt_nil (HT.out.below HBW.out)) (by decide) (by decide) (by decide) ⟨by decide, by decide⟩ ⟨by decide, by decide⟩ (by decide) (by decide) vfN1).mono ?_
      rintro e w42 ⟨rfl, hb42⟩
      replace HBW := Lib.hid (HBW.out.trans (hb42.mono HBW.out.size))
      clear hb42
      go_wp2_with fail
      refine (small_any _).mono ?_
      rintro e w43 ⟨rfl, hb43⟩
      replace HBW := Lib.hid (HBW.out.trans (hb43.mono HBW.out.size))
      clear hb43
      go_wp2_with fail
      refine (sverify_any _ (txt_nil (HT.out.below HBW.out)) (by decide) (by decide) (by decide) ⟨by decide, by decide⟩ ⟨by decide, by decide⟩ (by decide) (by decide) vfN2).mono ?_
      rintro e w44 ⟨rfl, hb44⟩
      replace HBW := Lib.hid (HBW.out.trans (hb44.mono HBW.out.size))
      clear hb44
      go_wp2_with fail
      refine (small_any _).mono ?_
      rintro e w45 ⟨rfl, hb45⟩
      replace HBW := Lib.hid (HBW.out.trans (hb45.mono HBW.out.size))
      clear hb45
      go_wp2_with fail
      refine (sextract_any _ (by decide) (by decide) (by decide) (by decide) (by decide) (by decide) (by decide) extN).mono ?_
      rintro e w46 ⟨rfl, hb46⟩
      replace HBW := Lib.hid (HBW.out.trans (hb46.mono HBW.out.size))
      clear hb46
      go_wp2_with fail
      replace HBW := Lib.hid (HBW.out.alloc HBW.out.size BIG1)
      refine (ssign_any _ ⟨HT.out.below HBW.out, hbig1 w46, HZ1.out⟩ (by decide) (by decide) (by decide) ⟨by decide, by decide⟩ (by decide) sgNone).mono ?_
      rintro e w47 ⟨rfl, hb47⟩
      replace HBW := Lib.hid (HBW.out.trans (hb47.mono HBW.out.size))
      clear hb47
      go_wp2_with fail
      replace HBW := Lib.hid (HBW.out.alloc HBW.out.size (.cells #[.int .u64 0, .int .u64 0] 27))
      refine (small_any _).mono ?_
      rintro e w48 ⟨rfl, hb48⟩
      replace HBW := Lib.hid (HBW.out.trans (hb48.mono HBW.out.size))
      clear hb48
      go_wp2_with fail
      refine (sverify_any _ (txt_nil (HT.out.below HBW.out)) (by decide) (by decide) (by decide) ⟨by decide, by decide⟩ ⟨by decide, by decide⟩ (by decide) (by decide) vfN3).mono ?_
      rintro e w49 ⟨rfl, hb49⟩
      replace HBW := Lib.hid (HBW.out.trans (hb49.mono HBW.out.size))
      clear hb49
      go_wp2_with fail
      refine (small_any _).mono ?_
      rintro e w50 ⟨rfl, hb50⟩
      replace HBW := Lib.hid (HBW.out.trans (hb50.mono HBW.out.size))
      clear hb50
      go_wp2_with fail
      refine (sholds_any _ (by decide) (by decide) (by decide) (by decide) (by decide) (by decide) (by decide) holdN).mono ?_
      rintro e w51 ⟨rfl, hb51⟩
      replace HBW := Lib.hid (HBW.out.trans (hb51.mono HBW.out.size))
      clear hb51
      go_wp2_with fail
      refine (alive_yes _).mono ?_
      rintro e w52 ⟨rfl, hb52⟩
      replace HBW := Lib.hid (HBW.out.trans (hb52.mono HBW.out.size))
      clear hb52
      go_wp2_with fail
      go_ret
      exact ⟨rfl, HBW.out⟩


set_option maxRecDepth 100000 in
theorem lifted (os : Os) (started : os.Started) (H : Type) (enc : TypeId × Value → H) :
    ReturnsInHanded {} Tryd.checked os 5 .any (fun w args => (Rows.schnorrNamesSpec.pre enc Tryd.prog Tryd.f5 [] false w args ∧ laidMetH Tryd.prog laidL w) ∧ sizedMet enc Tryd.prog Tryd.f5 (OpenSpec.ofChange Rows.schnorrNamesSpec) false w args) (Rows.schnorrNamesSpec.post enc Tryd.prog Tryd.f5 false true false false) := by
  refine returnsInHanded_of_change_and (C := Tryd.checked) (X := fun w _ => laidMetH Tryd.prog laidL w) (fun _ _ _ hh h => h.of_heap hh) own started (by kernel_rfl) Tryd.func5
    (ChangeSpec.witness_shaped (enc := enc) (C := Tryd.checked) (os := os) (X := fun w _ => laidMetH Tryd.prog laidL w) false (World.doorLaid Tryd.prog 19 os) #[] 8 rfl (World.shaped_of_RefB (by kernel_rfl) (by kernel_rfl)) (by kernel_rfl) (by kernel_rfl) (by kernel_rfl) (door_met os _)) ?_
  intro W base args ds gs before hval0 hW _ _ hL _
  have hT := tabs_of_laid hL
  clear hL
  have hval : ∀ (j : Nat) t v, Tryd.f5.params[j]? = some t → args[j]? = some v → Value.okWide Tryd.prog W .any base t v := hval0
  have hW' := hW
  obtain ⟨p, q, hA0, hV, rfl, hfz, hnd⟩ := hW
  have hA : DataW.TrodAll enc Tryd.prog W 0 (fun _ => true) true Tryd.f5.params.toList args.toList ds p := hA0
  rw [Tryd.params5] at hA hval
  have hK := hA
  obtain ⟨hargs, rfl, rfl⟩ := trodAll_nil hA
  obtain rfl : args = #[] := by cases args; simp_all
  obtain ⟨rfl, rfl⟩ := trodVars_none hV
  clear hA0 hval0
  refine (walk  W  hT).mono fun e W' ⟨he, bel⟩ => ?_
  subst he
  exact ⟨_, rfl, _, _, _, [], _, [], hW', trodAll_mk1 (shut_bool Tryd.underlying4 _), trodAll_stays laidOut (by kernel_rfl) hK bel, rfl, bel.frame _, fun h => by cases h⟩

theorem over : Rows.schnorrNamesRow.holds Tryd.pinned (OpenSpec.ofChange Rows.schnorrNamesSpec) :=
  OpenClaim.holds_of_wide 5 Tryd.f5 rfl rfl rfl rfl rfl rfl rfl ⟨rfl, rfl, rfl, rfl, rfl⟩ rfl rfl rfl rfl rfl (by kernel_rfl) Tryd.func5 (by kernel_rfl)
    (of_decide_eq_true (by kernel_rfl)) (by unfold Func.isWrapper; first | (rw [if_pos (by decide +kernel)]; kernel_rfl) | (rw [if_neg (by decide +kernel)]; exact ⟨rfl, rfl⟩))
    (fun os started H enc _ => lifted os started H enc)

theorem proved : Rows.SchnorrNamesCardSaid :=
  Claim7.holds_tied_plain_at .later [] [.data, .data] true (true, "1347232924b66631dc1a67d5bf2d8748b67dbe22a221f01b9e1f88b90c98754e") false
    over (fun _ h => by cases h) (by kernel_rfl) (fun _ h => by cases h) schnorrNames_row_tie rfl ⟨rfl, rfl⟩ (by kernel_rfl) rfl
    (fun f fn hf hfn => by
      obtain rfl : f = 5 := Option.some.inj ((show Tryd.prog.funcNamed "suffrage/suffragelaw31.SchnorrNames" = some 5 by kernel_rfl).symm.trans hf) |>.symm
      obtain rfl : fn = Tryd.f5 := (Option.some.inj (Tryd.func5.symm.trans hfn)).symm
      exact ⟨by kernel_rfl, fun j t ht => by
        rw [Tryd.params5] at ht
        have hm : t ∈ ([] : List TypeId) := by simpa using Array.mem_of_getElem? ht
        have hall : (([] : List TypeId).all fun u => !Tryd.prog.wantsStandIn u) = true := by kernel_rfl
        exact (show Tryd.prog.wantsStandIn t = false by simpa using List.all_eq_true.1 hall t hm)⟩)
    (by kernel_rfl)
#print axioms proved
end Go.Proofs.YtanlnhjjdiaphaaDoor.lawNames
