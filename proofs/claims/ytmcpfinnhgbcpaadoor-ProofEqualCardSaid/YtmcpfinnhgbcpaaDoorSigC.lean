/- The reference's Of, Nonce, Challenge. -/
import Derived.Test.YtmcpfinnhgbcpaaDoorSigB
namespace Go.Proofs.YtmcpfinnhgbcpaaDoor
open Go Go.RowKit Num Sha
set_option linter.unusedSimpArgs false
set_option linter.unusedVariables false

theorem OwnB.shs {w : World} {n₀ : Nat} {v : Value} {xs : List Int} (h : OwnB w n₀ v xs) (h1 : 1 ≤ xs.length) : ∃ g c, v = .slice (Option.some ⟨g, 0, none⟩) xs.length c ∧ ShI .u8 w (Option.some ⟨g, 0, none⟩) xs.length xs := by
  obtain ⟨g, cap, rfl, -, -⟩ := h.some h1
  obtain ⟨a, c, e, hs⟩ := h.shi
  injection e with e1 e2 e3
  subst e1
  exact ⟨g, cap, rfl, hs⟩
theorem lgS_ok {a : Int} {n : Nat} (h : a = 0) (hn : n ≤ 8000) : lgS a n = 0 := by unfold lgS; rw [if_pos h, if_neg (by omega)]
theorem lgS_long {a : Int} {n : Nat} (h : a = 0) (hn : lgS a n ≠ 0) : 8000 < n := by
  by_cases h8 : 8000 < n
  · exact h8
  · exact absurd (lgS_ok h (by omega)) hn
theorem lgS_four {a : Int} {n : Nat} (h : a = 0) (hn : 8000 < n) : lgS a n = 4 := by unfold lgS; rw [if_pos h, if_pos hn]
theorem lgS_ne {a : Int} {n : Nat} (h : a ≠ 0) : lgS a n = a := by unfold lgS; rw [if_neg h]
theorem flat8_one (x : Int) : flat8 [x] = be8 x := by simp [flat8]

set_option maxRecDepth 100000 in
set_option maxHeartbeats 4000000 in
theorem rOf31_any {P Q G v : Int} {a tx : Option Addr} {m d n cp : Nat} {ns T : List Int} (w : World) (hT : Txt w tx n T) (hH : Has P Q G) (hs : ShL w a m d ns) (hu : ∀ x, x ∈ ns → U64 x) (hm : m ≤ 20) (hm1 : 1 ≤ m) (hn : n ≤ 8100) (hv : chV Q ns T = v) :
    Calls Tryd.prog 67 #[.agg #[.int .u64 P, .int .u64 Q, .int .u64 G], .slice a m d, .slice tx n cp] w fun e w' => e = .returned (.int .u64 v) ∧ Below w.heap.size w w' := by
  have HT := Lib.hid hT
  have HTL := Lib.hid hT.sh.len
  have HS := Lib.hid hs
  have HL := Lib.hid hs.len
  have HU := Lib.hid hu
  clear hT hs hu
  obtain ⟨D, hD⟩ : ∃ D, shaS (flat8 ns ++ T) = D := ⟨_, rfl⟩
  have HLD := Lib.hid (show D.length = 32 by rw [← hD, shaS_len])
  have HBD := Lib.hid (show Bytes D by rw [← hD]; exact shaS_bytes _)
  have HD := Lib.hid hD
  have HV := Lib.hid (show beN (D.take 8) % Q = v by rw [← hv, chV, hD])
  clear hD hv
  obtain ⟨p5, p3, hQ', pq, g2, gP⟩ := id hH
  have hP1 : 1 ≤ P := by omega
  have hGM : G < 2147483648 := by omega
  have q3 : Q < 1073741824 := by omega
  have q2 : 2 ≤ Q := by omega
  have HH := Lib.hid hH
  clear hH pq
  have F_g := Lib.hid (show Boxed (w.alloc (.cells #[.int .u64 P, .int .u64 Q, .int .u64 G] 24)) (w.heap.size) P Q G from Boxed.at _ P Q G _ (w.heap.size) (by simp))
  have HBW := Lib.hid (show Below w.heap.size w (w.alloc (.cells #[.int .u64 P, .int .u64 Q, .int .u64 G] 24)) from (Below.refl _ _).alloc (by simp <;> omega) _)
  go_enter Tryd.func67, Tryd.ntmps67
  obtain ⟨x0a, x0b, x0c, -⟩ := id F_g.out
  go_wp2_with fail
  clear x0a x0b x0c
  go_loopw [7, 8] (fun c7 c8 wr => ∃ k : Nat, k ≤ m ∧ c8 = .int .i64 k ∧ Hid (OwnB wr (w.heap.size + 1) c7 (flat8 (ns.take k))) ∧ Hid (Boxed wr w.heap.size P Q G) ∧ Hid (Below w.heap.size w wr)) (fun _ c8 _ => m - (intOf c8).toNat)
  case atStart => exact ⟨0, by omega, rfl, Lib.hid (World.ownsRow_nil _ _ _ _), F_g.out, HBW.out⟩
  case round =>
    clear F_g HBW
    obtain ⟨k, hk, rfl, O7, F_g, HBW⟩ := hrel
    have hgl := F_g.out.lt
    have HLE := Lib.hid (show w.heap.size + 1 ≤ wr.heap.size from hgl)
    have hll := HL.out
    by_cases hlt : k < m
    case pos =>
      have hd : decide ((k : Int) < (m : Int)) = true := by simp; omega
      have hdn : decide (k < m) = true := by simp; omega
      have k0 : (0 : Int) ≤ (k : Int) := by omega
      have hw1 : IntKind.i64.wrap ((k : Int) + 1) = (k : Int) + 1 := IntWalk.i64_in _ (by omega)
      obtain ⟨s, rfl, hc⟩ := (HS.out.keep HBW.out).at k hlt
      obtain ⟨x, hx⟩ : ∃ x, ns.getD k 0 = x := ⟨_, rfl⟩
      have HUX := Lib.hid (show U64 x from HU.out x (by rw [← hx, List.getD_eq_getElem?_getD, List.getElem?_eq_getElem (by omega)]; exact List.getElem_mem _))
      have HFL := Lib.hid (show flat8 (ns.take k) ++ be8 x = flat8 (ns.take (k + 1)) from flat8_snoc ns k (by omega) hx)
      obtain ⟨F, hF⟩ : ∃ F, flat8 (ns.take k) = F := ⟨_, rfl⟩
      have HF := Lib.hid (show F.length ≤ 200 by rw [← hF, flat8_len, List.length_take]; omega)
      rw [hF] at O7 HFL
      rw [hx] at hc
      clear hF hx hll
      obtain ⟨a7, d7, rfl, S7⟩ := O7.out.shi
      have HS7 := Lib.hid S7
      clear S7
      go_wp2_with (go_at_call 80; refine (rEight_any _ HS7.out HUX.out (by have := HF.out; omega)).mono ?_; rintro e w8 ⟨v8, rfl, O8, hb8⟩; replace O8 := Lib.hid (O8.mono HLE.out); replace F_g := Lib.hid (F_g.out.keep hb8); replace HBW := Lib.hid (HBW.out.trans (hb8.mono HBW.out.size)); clear hb8)
      go_roundw
      case rel => exact ⟨k + 1, by omega, by go_num, by rw [← HFL.out]; exact O8, F_g, HBW⟩
      case measure => simp [intOf]; omega
    case neg =>
      obtain rfl : k = m := by omega
      have HKN := Lib.hid (show k = ns.length from hll)
      rw [show ns.take k = ns by rw [hll, List.take_length]] at O7
      clear hlt hk hll
      go_wp2_with fail
      replace F_g := Lib.hid F_g.out.drew
      replace HBW := Lib.hid HBW.out.drew
      replace O7 := Lib.hid (OwnB.keep O7.out (Below.refl _ _).drew)
      replace HLE := Lib.hid (show w.heap.size + 1 ≤ wr.drew.heap.size from hgl)
      have hS := F_g.out.s
      refine wp_region_stage 5 (fun w' => SBox w' w.heap.size P Q G) (by kernel_rfl) ?_
      refine wpAnyB_take (i := 0) (some 21) (Op.load 24 (Operand.tmp 3)) 24 (v := ?_) ⟨_, rfl, rfl, rfl, rfl, rfl⟩ (by kernel_rfl) (by kernel_rfl) (by kernel_rfl) [5] (by kernel_rfl) (fun _ _ _ h => h) hS (fun w' hSw => ?_) ?_
      rotate_left
      · obtain ⟨s0, s1, s2⟩ := hSw
        unfold bareOp
        go_simp
        try with_reducible rfl
      simp only [Act.put, List.setIfInBounds_toArray, List.set_cons_zero, List.set_cons_succ]
      refine wpAnyB_takeP (i := 1) (some 22) (Op.move (Operand.tmp 7)) 27 (v := ?_) ⟨_, rfl, rfl, rfl, rfl, rfl⟩ (by kernel_rfl) (by kernel_rfl) (by kernel_rfl) (by kernel_rfl) (fun _ _ _ h => h) (fun _ => hS) (fun w' => ?_) ?_
      rotate_left
      · unfold bareOp
        go_simp
        try with_reducible rfl
      simp only [Act.put, List.setIfInBounds_toArray, List.set_cons_zero, List.set_cons_succ]
      refine wpAnyB_takeP (i := 2) (some 23) (Op.move (Operand.tmp 2)) 27 (v := ?_) ⟨_, rfl, rfl, rfl, rfl, rfl⟩ (by kernel_rfl) (by kernel_rfl) (by kernel_rfl) (by kernel_rfl) (fun _ _ _ h => h) (fun _ => hS) (fun w' => ?_) ?_
      rotate_left
      · unfold bareOp
        go_simp
        try with_reducible rfl
      simp only [Act.put, List.setIfInBounds_toArray, List.set_cons_zero, List.set_cons_succ]
      refine wpAnyB_only (i := 3) (some 24) (Op.call { callee := Callee.builtin Builtin.append, args := #[Operand.tmp 22, Operand.tmp 23], argTypes := #[27, 27] }) 27 ⟨_, rfl, rfl, rfl, rfl, rfl⟩ (by kernel_rfl) (fun K hK => ?_)
      unfold bareOp
      refine wp_append_sh _ _ rfl (w.heap.size + 1) _ (flat8 ns) T tx n cp rfl rfl O7.out (HT.out.keep HBW.out).sh (by omega) (by rw [flat8_len]; have := HKN.out; omega) HLE.out ?_
      intro v3 w3 hown hgr
      have hb3 := Below.grown (Below.refl (w.heap.size + 1) _) hgr HLE.out (fun k hk => (World.ownsRow.lt O7.out k hk).1)
      obtain ⟨g3, c3, rfl, S3⟩ := hown.shs (by rw [List.length_append, flat8_len]; have := HKN.out; omega)
      obtain ⟨N3, hN3⟩ : ∃ N3, (flat8 ns ++ T).length = N3 := ⟨_, rfl⟩
      rw [hN3] at S3 ⊢
      have HN3 := Lib.hid (show N3 ≤ 100000 by have := HTL.out; have := HKN.out; rw [← hN3, List.length_append, flat8_len]; omega)
      clear hN3
      replace F_g := Lib.hid (F_g.out.under hb3 (by omega))
      replace HBW := Lib.hid (HBW.out.trans (hb3.mono (by omega)))
      replace hS := F_g.out.s
      clear hown hgr hb3
      refine hK.out _ _ (fun _ => hS) ?_
      clear hK K
      try simp only [Act.put, List.setIfInBounds_toArray, List.set_cons_zero, List.set_cons_succ]
      refine wpAnyB_only (i := 4) (some 25) (Op.call { callee := Callee.value (Operand.func 82), args := #[Operand.tmp 24], argTypes := #[27] }) 81 ⟨_, rfl, rfl, rfl, rfl, rfl⟩ (by kernel_rfl) (fun K hK => ?_)
      unfold bareOp
      go_wp2_with (go_at_call 82; refine (rOf5_any _ S3 HN3.out ((flat8_bytes _).append HT.out.by8)).mono ?_; rintro e w4 ⟨he, hb4⟩; rw [HD.out] at he; subst he)
      replace F_g := Lib.hid (F_g.out.keep hb4)
      replace HBW := Lib.hid (HBW.out.trans (hb4.mono HBW.out.size))
      replace hS := F_g.out.s
      clear hb4 S3
      refine hK.out _ _ (fun _ => hS) ?_
      clear hK K
      try simp only [Act.put, List.setIfInBounds_toArray, List.set_cons_zero, List.set_cons_succ]
      refine wpAnyB_only (i := 5) (some 26) (Op.call { callee := Callee.value (Operand.func 81), args := #[Operand.tmp 21, Operand.tmp 25], argTypes := #[24, 81] }) 22 ⟨_, rfl, rfl, rfl, rfl, rfl⟩ (by kernel_rfl) (fun K hK => ?_)
      unfold bareOp
      go_wp2_with (go_at_call 81; refine (rOf_ok P Q G v D _ HH.out HLD.out HBD.out HV.out).mono ?_; rintro e w5 ⟨rfl, hb5⟩)
      replace F_g := Lib.hid (F_g.out.keep hb5)
      replace HBW := Lib.hid (HBW.out.trans (hb5.mono HBW.out.size))
      replace hS := F_g.out.s
      clear hb5
      refine hK.out _ _ (fun h => absurd (h.symm.trans (by kernel_rfl : _ = true)) (by decide)) ?_
      clear hK K
      try simp only [Act.put, List.setIfInBounds_toArray, List.set_cons_zero, List.set_cons_succ]
      refine wpAnyB_takeP (i := 6) (some 6) (Op.assign (Operand.tmp 26)) 22 (v := ?_) ⟨_, rfl, rfl, rfl, rfl, rfl⟩ (by kernel_rfl) (by kernel_rfl) (by kernel_rfl) (by kernel_rfl) (fun _ _ _ h => h) (fun h => absurd (h.symm.trans (by kernel_rfl : _ = true)) (by decide)) (fun w' => ?_) ?_
      rotate_left
      · unfold bareOp
        go_simp
        try with_reducible rfl
      simp only [Act.put, List.setIfInBounds_toArray, List.set_cons_zero, List.set_cons_succ]
      refine wpAnyB_done (by kernel_rfl) ?_ _
      go_wp2_with fail
      go_ret
      exact ⟨rfl, HBW.out⟩


end Go.Proofs.YtmcpfinnhgbcpaaDoor
