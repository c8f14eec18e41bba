/- The reference's long, members. -/
import Derived.Test.YtmcpfinnhgbcpaaDoorEqB0
namespace Go.Proofs.YtmcpfinnhgbcpaaDoor
open Go Go.RowKit Num Sha
set_option linter.unusedSimpArgs false
set_option linter.unusedVariables false

theorem rlong_any {a : Option Addr} {n c : Nat} {e r : Int} (w : World) (hr : lgS e n = r) : Calls Tryd.prog 34 #[.int .i64 e, .slice a n c] w fun e w' => e = .returned (.int .i64 r) ∧ w = w' := by
  by_cases he : e = 0
  · subst he
    by_cases hn : 8000 < n
    · obtain rfl : r = 4 := by rw [← hr]; exact lgS_four rfl hn
      have hd : decide ((8000 : Int) < (n : Int)) = true := by simp; omega
      have hdn : decide (8000 < n) = true := by simp; omega
      clear hr
      go_enter Tryd.func34, Tryd.ntmps34
      go_wp2_with fail
      go_ret
      exact ⟨rfl, rfl⟩
    · obtain rfl : r = 0 := by rw [← hr]; exact lgS_ok rfl (by omega)
      have hd : decide ((8000 : Int) < (n : Int)) = false := by simp; omega
      have hdn : decide (8000 < n) = false := by simp; omega
      clear hr
      go_enter Tryd.func34, Tryd.ntmps34
      go_wp2_with fail
      go_ret
      exact ⟨rfl, rfl⟩
  · obtain rfl : r = e := by rw [← hr]; exact lgS_ne he
    have h1 : (r == 0) = false := by simpa using he
    clear hr
    go_enter Tryd.func34, Tryd.ntmps34
    go_wp2_with fail
    go_ret
    exact ⟨rfl, rfl⟩

set_option maxRecDepth 100000 in
set_option maxHeartbeats 4000000 in
theorem rmembers_any {P Q G : Int} {a : Option Addr} {m d : Nat} {ns : List Int} {v : Bool} (w : World) (hH : Has P Q G) (hs : ShL w a m d ns) (hr : ∀ x, x ∈ ns → 0 ≤ x ∧ x < P) (hm : m ≤ 20) (hv : v = true ↔ memsP P Q ns) :
    Calls Tryd.prog 70 #[.agg #[.int .u64 P, .int .u64 Q, .int .u64 G], .slice a m d] w fun e w' => e = .returned (.bool v) ∧ Below w.heap.size w w' := by
  have Q0 : 0 ≤ Q := by have := hH; unfold Has at this; omega
  have HS := Lib.hid hs
  have HL := Lib.hid hs.len
  have HR := Lib.hid hr
  have HH := Lib.hid hH
  have HV := Lib.hid hv
  clear hs hr hH hv
  have F_g := Lib.hid (show Boxed (w.alloc (.cells #[.int .u64 P, .int .u64 Q, .int .u64 G] 24)) (w.heap.size) P Q G from Boxed.at _ P Q G _ (w.heap.size) (by simp))
  have HBW := Lib.hid (show Below w.heap.size w (w.alloc (.cells #[.int .u64 P, .int .u64 Q, .int .u64 G] 24)) from (Below.refl _ _).alloc (by simp <;> omega) _)
  go_enter Tryd.func70, Tryd.ntmps70
  go_wp2_with fail
  go_loopw [5] (fun c5 wr => ∃ k : Nat, k ≤ m ∧ c5 = .int .i64 k ∧ (∀ x, x ∈ ns.take k → Mem P Q x) ∧ Hid (Boxed wr w.heap.size P Q G) ∧ Hid (Below w.heap.size w wr)) (fun c5 _ => m - (intOf c5).toNat)
  case atStart => exact ⟨0, by omega, rfl, fun x hx => by simp at hx, F_g.out, HBW.out⟩
  case round =>
    clear F_g HBW
    obtain ⟨k, hk, rfl, hM, F_g, HBW⟩ := hrel
    have hll := HL.out
    by_cases hlt : k < m
    case neg =>
      obtain rfl : k = m := by omega
      have HZ := Lib.hid (show true = v by rw [eq_comm, HV.out]; rw [hll, List.take_length] at hM; exact hM)
      clear hM hlt hll hk
      go_wp2_with fail
      go_ret
      exact ⟨ret_bool HZ.out, HBW.out⟩
    case pos =>
      have hdn : decide (k < m) = true := by simp; omega
      have hd : decide ((k : Int) < (m : Int)) = true := by simp; omega
      have k0 : (0 : Int) ≤ (k : Int) := by omega
      have hw1 : IntKind.i64.wrap ((k : Int) + 1) = (k : Int) + 1 := IntWalk.i64_in _ (by omega)
      obtain ⟨s, rfl, hc⟩ := (HS.out.keep HBW.out).at k hlt
      obtain ⟨x, hx⟩ : ∃ x, ns.getD k 0 = x := ⟨_, rfl⟩
      have hkl : k < ns.length := by omega
      have hxe : ns[k] = x := by rw [← hx, List.getD_eq_getElem?_getD, List.getElem?_eq_getElem hkl]; rfl
      have hxm : x ∈ ns := by rw [← hxe]; exact List.getElem_mem hkl
      obtain ⟨x0, xP⟩ := HR.out x hxm
      rw [hx] at hc
      by_cases hMx : Mem P Q x
      case neg =>
        have HM := Lib.hid hMx
        have HZ := Lib.hid (show false = v by rw [Bool.eq_iff_iff, HV.out]; exact ⟨fun h => (by cases h), fun h => absurd (h x hxm) hMx⟩)
        clear hMx hx hxe hxm hM hll
        go_wp2_with fail
        replace F_g := Lib.hid F_g.out.drew
        replace HBW := Lib.hid HBW.out.drew
        have hS := And.intro F_g.out.s hc
        refine wp_region_stage 5 (fun w' => SBox w' w.heap.size P Q G ∧ w'.cell? ⟨s, k, none⟩ = some (.int .u64 x)) (by kernel_rfl) ?_
        refine wpAnyB_take (i := 0) (some 12) (Op.load 24 (Operand.tmp 2)) 24 (v := ?_) ⟨_, rfl, rfl, rfl, rfl, rfl⟩ (by kernel_rfl) (by kernel_rfl) (by kernel_rfl) [5] (by kernel_rfl) (fun _ _ _ h => h) hS (fun w' hSw => ?_) ?_
        rotate_left
        · obtain ⟨⟨s0, s1, s2⟩, s3⟩ := hSw
          unfold bareOp
          go_simp
          try with_reducible rfl
        simp only [Act.put, List.setIfInBounds_toArray, List.set_cons_zero, List.set_cons_succ]
        refine wpAnyB_takeP (i := 1) (some 13) (Op.move (Operand.tmp 1)) 42 (v := ?_) ⟨_, rfl, rfl, rfl, rfl, rfl⟩ (by kernel_rfl) (by kernel_rfl) (by kernel_rfl) (by kernel_rfl) (fun _ _ _ h => h) (fun _ => hS) (fun w' => ?_) ?_
        rotate_left
        · unfold bareOp
          go_simp
          try with_reducible rfl
        simp only [Act.put, List.setIfInBounds_toArray, List.set_cons_zero, List.set_cons_succ]
        refine wpAnyB_takeP (i := 2) (some 14) (Op.move (Operand.tmp 5)) 3 (v := ?_) ⟨_, rfl, rfl, rfl, rfl, rfl⟩ (by kernel_rfl) (by kernel_rfl) (by kernel_rfl) (by kernel_rfl) (fun _ _ _ h => h) (fun _ => hS) (fun w' => ?_) ?_
        rotate_left
        · unfold bareOp
          go_simp
          try with_reducible rfl
        simp only [Act.put, List.setIfInBounds_toArray, List.set_cons_zero, List.set_cons_succ]
        refine wpAnyB_takeP (i := 3) (some 15) (Op.indexAddr 42 (Operand.tmp 13) (Operand.tmp 14)) 0 (v := ?_) ⟨_, rfl, rfl, rfl, rfl, rfl⟩ (by kernel_rfl) (by kernel_rfl) (by kernel_rfl) (by kernel_rfl) (fun _ _ _ h => h) (fun _ => hS) (fun w' => ?_) ?_
        rotate_left
        · unfold bareOp
          go_simp
          try with_reducible rfl
        simp only [Act.put, List.setIfInBounds_toArray, List.set_cons_zero, List.set_cons_succ]
        refine wpAnyB_take (i := 4) (some 16) (Op.load 22 (Operand.tmp 15)) 22 (v := ?_) ⟨_, rfl, rfl, rfl, rfl, rfl⟩ (by kernel_rfl) (by kernel_rfl) (by kernel_rfl) [5] (by kernel_rfl) (fun _ _ _ h => h) hS (fun w' hSw => ?_) ?_
        rotate_left
        · obtain ⟨⟨s0, s1, s2⟩, s3⟩ := hSw
          unfold bareOp
          go_simp
          try with_reducible rfl
        simp only [Act.put, List.setIfInBounds_toArray, List.set_cons_zero, List.set_cons_succ]
        refine wpAnyB_only (i := 5) (some 17) (Op.call { callee := Callee.value (Operand.func 84), args := #[Operand.tmp 12, Operand.tmp 16], argTypes := #[24, 22] }) 4 ⟨_, rfl, rfl, rfl, rfl, rfl⟩ (by kernel_rfl) (fun K hK => ?_)
        unfold bareOp
        go_wp2_with (go_at_call 84; refine (rIn_gen (r := false) Q0 _ HH.out x0 xP ⟨fun h => (by cases h), fun h => absurd h HM.out⟩).mono ?_; rintro e w3 ⟨rfl, hb3⟩)
        replace F_g := Lib.hid (F_g.out.keep hb3)
        replace HBW := Lib.hid (HBW.out.trans (hb3.mono HBW.out.size))
        clear hb3
        refine hK.out _ _ (fun h => absurd (h.symm.trans (by kernel_rfl : _ = true)) (by decide)) ?_
        clear hK K
        try simp only [Act.put, List.setIfInBounds_toArray, List.set_cons_zero, List.set_cons_succ]
        refine wpAnyB_takeP (i := 6) (some 18) (Op.unOp UnOp.not 4 (Operand.tmp 17)) 4 (v := ?_) ⟨_, rfl, rfl, rfl, rfl, rfl⟩ (by kernel_rfl) (by kernel_rfl) (by kernel_rfl) (by kernel_rfl) (fun _ _ _ h => h) (fun h => absurd (h.symm.trans (by kernel_rfl : _ = true)) (by decide)) (fun w' => ?_) ?_
        rotate_left
        · unfold bareOp
          go_simp
          try with_reducible rfl
        simp only [Act.put, List.setIfInBounds_toArray, List.set_cons_zero, List.set_cons_succ]
        refine wpAnyB_done (by kernel_rfl) ?_ _
        go_wp2_with fail
        go_ret
        exact ⟨ret_bool HZ.out, HBW.out⟩
      case pos =>
        have HM := Lib.hid hMx
        have HN := Lib.hid (show ∀ z, z ∈ ns.take (k + 1) → Mem P Q z from fun z hz => by
          rw [List.take_succ_eq_append_getElem hkl, List.mem_append, List.mem_singleton] at hz
          rcases hz with hz | hz
          · exact hM z hz
          · rw [hz, hxe]; exact hMx)
        clear hMx hx hxe hxm hM hll
        go_wp2_with fail
        replace F_g := Lib.hid F_g.out.drew
        replace HBW := Lib.hid HBW.out.drew
        have hS := And.intro F_g.out.s hc
        refine wp_region_stage 5 (fun w' => SBox w' w.heap.size P Q G ∧ w'.cell? ⟨s, k, none⟩ = some (.int .u64 x)) (by kernel_rfl) ?_
        refine wpAnyB_take (i := 0) (some 12) (Op.load 24 (Operand.tmp 2)) 24 (v := ?_) ⟨_, rfl, rfl, rfl, rfl, rfl⟩ (by kernel_rfl) (by kernel_rfl) (by kernel_rfl) [5] (by kernel_rfl) (fun _ _ _ h => h) hS (fun w' hSw => ?_) ?_
        rotate_left
        · obtain ⟨⟨s0, s1, s2⟩, s3⟩ := hSw
          unfold bareOp
          go_simp
          try with_reducible rfl
        simp only [Act.put, List.setIfInBounds_toArray, List.set_cons_zero, List.set_cons_succ]
        refine wpAnyB_takeP (i := 1) (some 13) (Op.move (Operand.tmp 1)) 42 (v := ?_) ⟨_, rfl, rfl, rfl, rfl, rfl⟩ (by kernel_rfl) (by kernel_rfl) (by kernel_rfl) (by kernel_rfl) (fun _ _ _ h => h) (fun _ => hS) (fun w' => ?_) ?_
        rotate_left
        · unfold bareOp
          go_simp
          try with_reducible rfl
        simp only [Act.put, List.setIfInBounds_toArray, List.set_cons_zero, List.set_cons_succ]
        refine wpAnyB_takeP (i := 2) (some 14) (Op.move (Operand.tmp 5)) 3 (v := ?_) ⟨_, rfl, rfl, rfl, rfl, rfl⟩ (by kernel_rfl) (by kernel_rfl) (by kernel_rfl) (by kernel_rfl) (fun _ _ _ h => h) (fun _ => hS) (fun w' => ?_) ?_
        rotate_left
        · unfold bareOp
          go_simp
          try with_reducible rfl
        simp only [Act.put, List.setIfInBounds_toArray, List.set_cons_zero, List.set_cons_succ]
        refine wpAnyB_takeP (i := 3) (some 15) (Op.indexAddr 42 (Operand.tmp 13) (Operand.tmp 14)) 0 (v := ?_) ⟨_, rfl, rfl, rfl, rfl, rfl⟩ (by kernel_rfl) (by kernel_rfl) (by kernel_rfl) (by kernel_rfl) (fun _ _ _ h => h) (fun _ => hS) (fun w' => ?_) ?_
        rotate_left
        · unfold bareOp
          go_simp
          try with_reducible rfl
        simp only [Act.put, List.setIfInBounds_toArray, List.set_cons_zero, List.set_cons_succ]
        refine wpAnyB_take (i := 4) (some 16) (Op.load 22 (Operand.tmp 15)) 22 (v := ?_) ⟨_, rfl, rfl, rfl, rfl, rfl⟩ (by kernel_rfl) (by kernel_rfl) (by kernel_rfl) [5] (by kernel_rfl) (fun _ _ _ h => h) hS (fun w' hSw => ?_) ?_
        rotate_left
        · obtain ⟨⟨s0, s1, s2⟩, s3⟩ := hSw
          unfold bareOp
          go_simp
          try with_reducible rfl
        simp only [Act.put, List.setIfInBounds_toArray, List.set_cons_zero, List.set_cons_succ]
        refine wpAnyB_only (i := 5) (some 17) (Op.call { callee := Callee.value (Operand.func 84), args := #[Operand.tmp 12, Operand.tmp 16], argTypes := #[24, 22] }) 4 ⟨_, rfl, rfl, rfl, rfl, rfl⟩ (by kernel_rfl) (fun K hK => ?_)
        unfold bareOp
        go_wp2_with (go_at_call 84; refine (rIn_gen (r := true) Q0 _ HH.out x0 xP ⟨fun _ => HM.out, fun _ => rfl⟩).mono ?_; rintro e w3 ⟨rfl, hb3⟩)
        replace F_g := Lib.hid (F_g.out.keep hb3)
        replace HBW := Lib.hid (HBW.out.trans (hb3.mono HBW.out.size))
        clear hb3
        refine hK.out _ _ (fun h => absurd (h.symm.trans (by kernel_rfl : _ = true)) (by decide)) ?_
        clear hK K
        try simp only [Act.put, List.setIfInBounds_toArray, List.set_cons_zero, List.set_cons_succ]
        refine wpAnyB_takeP (i := 6) (some 18) (Op.unOp UnOp.not 4 (Operand.tmp 17)) 4 (v := ?_) ⟨_, rfl, rfl, rfl, rfl, rfl⟩ (by kernel_rfl) (by kernel_rfl) (by kernel_rfl) (by kernel_rfl) (fun _ _ _ h => h) (fun h => absurd (h.symm.trans (by kernel_rfl : _ = true)) (by decide)) (fun w' => ?_) ?_
        rotate_left
        · unfold bareOp
          go_simp
          try with_reducible rfl
        simp only [Act.put, List.setIfInBounds_toArray, List.set_cons_zero, List.set_cons_succ]
        refine wpAnyB_done (by kernel_rfl) ?_ _
        go_wp2_with fail
        go_roundw
        case rel => exact ⟨k + 1, by omega, by go_num, HN.out, F_g.out, HBW.out⟩
        case measure => simp [intOf]; omega
end Go.Proofs.YtmcpfinnhgbcpaaDoor
