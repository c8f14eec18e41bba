/- The reference's Of, Nonce, Challenge. -/
import Derived.Test.YtanlnhjjdiaphaaDoorSigB
namespace Go.Proofs.YtanlnhjjdiaphaaDoor
open Go Go.RowKit Num Sha
set_option linter.unusedSimpArgs false
set_option linter.unusedVariables false

theorem OwnB.shs {w : World} {n₀ : Nat} {v : Value} {xs : List Int} (h : OwnB w n₀ v xs) (h1 : 1 ≤ xs.length) : ∃ g c, v = .slice (Option.some ⟨g, 0, none⟩) xs.length c ∧ ShI .u8 w (Option.some ⟨g, 0, none⟩) xs.length xs := by
  obtain ⟨g, cap, rfl, -, -⟩ := h.some h1
  obtain ⟨a, c, e, hs⟩ := h.shi
  injection e with e1 e2 e3
  subst e1
  exact ⟨g, cap, rfl, hs⟩
theorem flat8_one (x : Int) : flat8 [x] = be8 x := by simp [flat8]

set_option maxRecDepth 100000 in
set_option maxHeartbeats 4000000 in
theorem rOf31_any {P Q G v : Int} {a tx : Option Addr} {m d n cp : Nat} {ns T : List Int} (w : World) (hT : Txt w tx n T) (hH : Has P Q G) (hs : ShL w a m d ns) (hu : ∀ x, x ∈ ns → U64 x) (hm : m ≤ 20) (hm1 : 1 ≤ m) (hn : n ≤ 8100) (hv : chV Q ns T = v) :
    Calls Tryd.prog 26 #[.agg #[.int .u64 P, .int .u64 Q, .int .u64 G], .slice a m d, .slice tx n cp] w fun e w' => e = .returned (.int .u64 v) ∧ Below w.heap.size w w' := by
  have HT := Lib.hid hT
  have HTL := Lib.hid hT.sh.len
  have HS := Lib.hid hs
  have HL := Lib.hid hs.len
  have HU := Lib.hid hu
  clear hT hs hu
  obtain ⟨D, hD⟩ : ∃ D, shaS (flat8 ns ++ T) = D := ⟨_, rfl⟩
  have HLD := Lib.hid (show D.length = 32 by rw [← hD, shaS_len])
  have HBD := Lib.hid (show Bytes D by rw [← hD]; exact shaS_bytes _)
  have HD := Lib.hid hD
  have HV := Lib.hid (show beN (D.take 8) % Q = v by rw [← hv, chV, hD])
  clear hD hv
  obtain ⟨p5, p3, hQ', pq, g2, gP⟩ := id hH
  have hP1 : 1 ≤ P := by omega
  have hGM : G < 2147483648 := by omega
  have q3 : Q < 1073741824 := by omega
  have q2 : 2 ≤ Q := by omega
  have HH := Lib.hid hH
  clear hH pq
  have F_g := Lib.hid (show Boxed (w.alloc (.cells #[.int .u64 P, .int .u64 Q, .int .u64 G] 24)) (w.heap.size) P Q G from Boxed.at _ P Q G _ (w.heap.size) (by simp))
  have HBW := Lib.hid (show Below w.heap.size w (w.alloc (.cells #[.int .u64 P, .int .u64 Q, .int .u64 G] 24)) from (Below.refl _ _).alloc (by simp <;> omega) _)
  go_enter Tryd.func26, Tryd.ntmps26
  obtain ⟨x0a, x0b, x0c, -⟩ := id F_g.out
  go_wp2_with fail
  clear x0a x0b x0c
  go_loopw [7, 8] (fun c7 c8 wr => ∃ k : Nat, k ≤ m ∧ c8 = .int .i64 k ∧ Hid (OwnB wr (w.heap.size + 1) c7 (flat8 (ns.take k))) ∧ Hid (Boxed wr w.heap.size P Q G) ∧ Hid (Below w.heap.size w wr)) (fun _ c8 _ => m - (intOf c8).toNat)
  case atStart => exact ⟨0, by omega, rfl, Lib.hid (World.ownsRow_nil _ _ _ _), F_g.out, HBW.out⟩
  case round =>
    clear F_g HBW
    obtain ⟨k, hk, rfl, O7, F_g, HBW⟩ := hrel
    have hgl := F_g.out.lt
    have HLE := Lib.hid (show w.heap.size + 1 ≤ wr.heap.size from hgl)
    have hll := HL.out
    by_cases hlt : k < m
    case pos =>
      have hd : decide ((k : Int) < (m : Int)) = true := by simp; omega
      have hdn : decide (k < m) = true := by simp; omega
      have k0 : (0 : Int) ≤ (k : Int) := by omega
      have hw1 : IntKind.i64.wrap ((k : Int) + 1) = (k : Int) + 1 := IntWalk.i64_in _ (by omega)
      obtain ⟨s, rfl, hc⟩ := (HS.out.keep HBW.out).at k hlt
      obtain ⟨x, hx⟩ : ∃ x, ns.getD k 0 = x := ⟨_, rfl⟩
      have HUX := Lib.hid (show U64 x from HU.out x (by rw [← hx, List.getD_eq_getElem?_getD, List.getElem?_eq_getElem (by omega)]; exact List.getElem_mem _))
      have HFL := Lib.hid (show flat8 (ns.take k) ++ be8 x = flat8 (ns.take (k + 1)) from flat8_snoc ns k (by omega) hx)
      obtain ⟨F, hF⟩ : ∃ F, flat8 (ns.take k) = F := ⟨_, rfl⟩
      have HF := Lib.hid (show F.length ≤ 200 by rw [← hF, flat8_len, List.length_take]; omega)
      rw [hF] at O7 HFL
      rw [hx] at hc
      clear hF hx hll
      obtain ⟨a7, d7, rfl, S7⟩ := O7.out.shi
      have HS7 := Lib.hid S7
      clear S7
      go_wp2_with (go_at_call 45; refine (rEight_any _ HS7.out HUX.out (by have := HF.out; omega)).mono ?_; rintro e w8 ⟨v8, rfl, O8, hb8⟩; replace O8 := Lib.hid (O8.mono HLE.out); replace F_g := Lib.hid (F_g.out.keep hb8); replace HBW := Lib.hid (HBW.out.trans (hb8.mono HBW.out.size)); clear hb8)
      go_roundw
      case rel => exact ⟨k + 1, by omega, by go_num, by rw [← HFL.out]; exact O8, F_g, HBW⟩
      case measure => simp [intOf]; omega
    case neg =>
      obtain rfl : k = m := by omega
      have HKN := Lib.hid (show k = ns.length from hll)
      rw [show ns.take k = ns by rw [hll, List.take_length]] at O7
      clear hlt hk hll
      go_wp2_with fail
      replace F_g := Lib.hid F_g.out.drew
      replace HBW := Lib.hid HBW.out.drew
      replace O7 := Lib.hid (OwnB.keep O7.out (Below.refl _ _).drew)
      replace HLE := Lib.hid (show w.heap.size + 1 ≤ wr.drew.heap.size from hgl)
      have hS := F_g.out.s
      refine wp_region_stage 5 (fun w' => SBox w' w.heap.size P Q G) (by kernel_rfl) ?_
      refine wpAnyB_take (i := 0) (some 21) (Op.load 24 (Operand.tmp 3)) 24 (v := ?_) ⟨_, rfl, rfl, rfl, rfl, rfl⟩ (by kernel_rfl) (by kernel_rfl) (by kernel_rfl) [5] (by kernel_rfl) (fun _ _ _ h => h) hS (fun w' hSw => ?_) ?_
      rotate_left
      · obtain ⟨s0, s1, s2⟩ := hSw
        unfold bareOp
        go_simp
        try with_reducible rfl
      simp only [Act.put, List.setIfInBounds_toArray, List.set_cons_zero, List.set_cons_succ]
      refine wpAnyB_takeP (i := 1) (some 22) (Op.move (Operand.tmp 7)) 25 (v := ?_) ⟨_, rfl, rfl, rfl, rfl, rfl⟩ (by kernel_rfl) (by kernel_rfl) (by kernel_rfl) (by kernel_rfl) (fun _ _ _ h => h) (fun _ => hS) (fun w' => ?_) ?_
      rotate_left
      · unfold bareOp
        go_simp
        try with_reducible rfl
      simp only [Act.put, List.setIfInBounds_toArray, List.set_cons_zero, List.set_cons_succ]
      refine wpAnyB_takeP (i := 2) (some 23) (Op.move (Operand.tmp 2)) 25 (v := ?_) ⟨_, rfl, rfl, rfl, rfl, rfl⟩ (by kernel_rfl) (by kernel_rfl) (by kernel_rfl) (by kernel_rfl) (fun _ _ _ h => h) (fun _ => hS) (fun w' => ?_) ?_
      rotate_left
      · unfold bareOp
        go_simp
        try with_reducible rfl
      simp only [Act.put, List.setIfInBounds_toArray, List.set_cons_zero, List.set_cons_succ]
      refine wpAnyB_only (i := 3) (some 24) (Op.call { callee := Callee.builtin Builtin.append, args := #[Operand.tmp 22, Operand.tmp 23], argTypes := #[25, 25] }) 25 ⟨_, rfl, rfl, rfl, rfl, rfl⟩ (by kernel_rfl) (fun K hK => ?_)
      unfold bareOp
      refine wp_append_sh _ _ rfl (w.heap.size + 1) _ (flat8 ns) T tx n cp rfl rfl O7.out (HT.out.keep HBW.out).sh (by omega) (by rw [flat8_len]; have := HKN.out; omega) HLE.out ?_
      intro v3 w3 hown hgr
      have hb3 := Below.grown (Below.refl (w.heap.size + 1) _) hgr HLE.out (fun k hk => (World.ownsRow.lt O7.out k hk).1)
      obtain ⟨g3, c3, rfl, S3⟩ := hown.shs (by rw [List.length_append, flat8_len]; have := HKN.out; omega)
      obtain ⟨N3, hN3⟩ : ∃ N3, (flat8 ns ++ T).length = N3 := ⟨_, rfl⟩
      rw [hN3] at S3 ⊢
      have HN3 := Lib.hid (show N3 ≤ 100000 by have := HTL.out; have := HKN.out; rw [← hN3, List.length_append, flat8_len]; omega)
      clear hN3
      replace F_g := Lib.hid (F_g.out.under hb3 (by omega))
      replace HBW := Lib.hid (HBW.out.trans (hb3.mono (by omega)))
      replace hS := F_g.out.s
      clear hown hgr hb3
      refine hK.out _ _ (fun _ => hS) ?_
      clear hK K
      try simp only [Act.put, List.setIfInBounds_toArray, List.set_cons_zero, List.set_cons_succ]
      refine wpAnyB_only (i := 4) (some 25) (Op.call { callee := Callee.value (Operand.func 47), args := #[Operand.tmp 24], argTypes := #[25] }) 53 ⟨_, rfl, rfl, rfl, rfl, rfl⟩ (by kernel_rfl) (fun K hK => ?_)
      unfold bareOp
      go_wp2_with (go_at_call 47; refine (rOf5_any _ S3 HN3.out ((flat8_bytes _).append HT.out.by8)).mono ?_; rintro e w4 ⟨he, hb4⟩; rw [HD.out] at he; subst he)
      replace F_g := Lib.hid (F_g.out.keep hb4)
      replace HBW := Lib.hid (HBW.out.trans (hb4.mono HBW.out.size))
      replace hS := F_g.out.s
      clear hb4 S3
      refine hK.out _ _ (fun _ => hS) ?_
      clear hK K
      try simp only [Act.put, List.setIfInBounds_toArray, List.set_cons_zero, List.set_cons_succ]
      refine wpAnyB_only (i := 5) (some 26) (Op.call { callee := Callee.value (Operand.func 46), args := #[Operand.tmp 21, Operand.tmp 25], argTypes := #[24, 53] }) 22 ⟨_, rfl, rfl, rfl, rfl, rfl⟩ (by kernel_rfl) (fun K hK => ?_)
      unfold bareOp
      go_wp2_with (go_at_call 46; refine (rOf_ok P Q G v D _ HH.out HLD.out HBD.out HV.out).mono ?_; rintro e w5 ⟨rfl, hb5⟩)
      replace F_g := Lib.hid (F_g.out.keep hb5)
      replace HBW := Lib.hid (HBW.out.trans (hb5.mono HBW.out.size))
      replace hS := F_g.out.s
      clear hb5
      refine hK.out _ _ (fun h => absurd (h.symm.trans (by kernel_rfl : _ = true)) (by decide)) ?_
      clear hK K
      try simp only [Act.put, List.setIfInBounds_toArray, List.set_cons_zero, List.set_cons_succ]
      refine wpAnyB_takeP (i := 6) (some 6) (Op.assign (Operand.tmp 26)) 22 (v := ?_) ⟨_, rfl, rfl, rfl, rfl, rfl⟩ (by kernel_rfl) (by kernel_rfl) (by kernel_rfl) (by kernel_rfl) (fun _ _ _ h => h) (fun h => absurd (h.symm.trans (by kernel_rfl : _ = true)) (by decide)) (fun w' => ?_) ?_
      rotate_left
      · unfold bareOp
        go_simp
        try with_reducible rfl
      simp only [Act.put, List.setIfInBounds_toArray, List.set_cons_zero, List.set_cons_succ]
      refine wpAnyB_done (by kernel_rfl) ?_ _
      go_wp2_with fail
      go_ret
      exact ⟨rfl, HBW.out⟩

set_option maxRecDepth 100000 in
set_option maxHeartbeats 4000000 in
theorem rNonce_any {P Q G x v : Int} {tx : Option Addr} {n cp : Nat} {T : List Int} (w : World) (hT : Txt w tx n T) (hH : Has P Q G) (ux : U64 x) (hn : n ≤ 8000) (hv : noV Q x T = v) :
    Calls Tryd.prog 51 #[.agg #[.int .u64 P, .int .u64 Q, .int .u64 G], .int .u64 x, .slice tx n cp] w fun e w' => e = .returned (.int .u64 v) ∧ Below w.heap.size w w' := by
  have HT := Lib.hid hT
  have HTL := Lib.hid hT.sh.len
  have HUX := Lib.hid ux
  clear hT ux
  skip
  obtain ⟨D, hD⟩ : ∃ D, shaS (be8 x ++ T) = D := ⟨_, rfl⟩
  have HLD := Lib.hid (show D.length = 32 by rw [← hD, shaS_len])
  have HBD := Lib.hid (show Bytes D by rw [← hD]; exact shaS_bytes _)
  have HD := Lib.hid hD
  have HV := Lib.hid (show beN (D.take 8) % (Q - 1) + 1 = v by rw [← hv, noV, flat8_one, hD])
  clear hD hv
  obtain ⟨p5, p3, hQ', pq, g2, gP⟩ := id hH
  have hP1 : 1 ≤ P := by omega
  have hGM : G < 2147483648 := by omega
  have q3 : Q < 1073741824 := by omega
  have q2 : 2 ≤ Q := by omega
  have HH := Lib.hid hH
  clear hH pq
  have F_g := Lib.hid (show Boxed (w.alloc (.cells #[.int .u64 P, .int .u64 Q, .int .u64 G] 24)) (w.heap.size) P Q G from Boxed.at _ P Q G _ (w.heap.size) (by simp))
  have HBW := Lib.hid (show Below w.heap.size w (w.alloc (.cells #[.int .u64 P, .int .u64 Q, .int .u64 G] 24)) from (Below.refl _ _).alloc (by simp <;> omega) _)
  go_enter Tryd.func51, Tryd.ntmps51
  obtain ⟨x0a, x0b, x0c, -⟩ := id F_g.out
  go_wp2_with fail
  clear x0a x0b x0c
  have HLG := Lib.hid (show w.heap.size < (w.alloc (.cells #[.int .u64 P, .int .u64 Q, .int .u64 G] 24)).heap.size from F_g.out.lt)
  have HLW := Lib.hid (show w.heap.size ≤ (w.alloc (.cells #[.int .u64 P, .int .u64 Q, .int .u64 G] 24)).heap.size from HBW.out.size)
  refine (rEight_any (bs := []) _ (ShI.nil _ _ _) HUX.out (by omega)).mono ?_
  rintro e w2 ⟨v2, rfl, O2, hb2⟩
  have HLE := Lib.hid hb2.size
  replace F_g := Lib.hid (F_g.out.keep hb2)
  replace HBW := Lib.hid (HBW.out.trans (hb2.mono HBW.out.size))
  clear hb2
  replace O2 : OwnB _ _ _ (be8 x) := O2
  go_wp2_with (at_builtin; refine wpL_append_sh rfl _ _ rfl (w.alloc (.cells #[.int .u64 P, .int .u64 Q, .int .u64 G] 24)).heap.size _ (be8 x) T tx n cp rfl rfl O2 (HT.out.keep HBW.out).sh (by omega) (by rw [be8_len]; decide) HLE.out ?_; intro v3 w3 hown hgr; have hb3 := Below.grown (Below.refl (w.alloc (.cells #[.int .u64 P, .int .u64 Q, .int .u64 G] 24)).heap.size _) hgr HLE.out (fun k hk => (World.ownsRow.lt O2 k hk).1); have O3 := hown; replace F_g := Lib.hid (F_g.out.under hb3 HLG.out); replace HBW := Lib.hid (HBW.out.trans (hb3.mono HLW.out)); clear hown hgr; simp only [Act.put, List.setIfInBounds_toArray, List.set_cons_zero, List.set_cons_succ])
  obtain ⟨a3, c3, rfl, S3⟩ := O3.shs (by rw [List.length_append, be8_len]; omega)
  clear HLG HLW HLE O2 O3
  refine (rOf5_any _ S3 (by have := HTL.out; rw [List.length_append, be8_len]; omega) ((be8_bytes _).append HT.out.by8)).mono ?_
  rintro e w4 ⟨he, hb4⟩
  replace F_g := Lib.hid (F_g.out.keep hb4)
  replace HBW := Lib.hid (HBW.out.trans (hb4.mono HBW.out.size))
  clear hb4
  rw [HD.out] at he
  subst he
  clear S3
  go_wp2_with (first
    | (refine wpL_allocArr rfl 53 .u8 32 rfl (by kernel_rfl) ?_; intro wd hd'; have ne_g_d := Nat.ne_of_lt F_g.out.lt; have le_d := HBW.out.size; replace F_g := Lib.hid (F_g.out.keep (hd'.below _ (Nat.le_refl _))); have F_d := Lib.hid hd'.arr; replace HBW := Lib.hid (HBW.out.trans (hd'.below _ HBW.out.size)); clear hd'; simp only [Act.put, List.setIfInBounds_toArray, List.set_cons_zero, List.set_cons_succ])
    | (refine wpL_storeArr rfl 53 .u8 _ _ _ D _ rfl rfl rfl rfl (by rw [HLD.out]; kernel_rfl) F_d.out (by rw [HLD.out]; rfl) ?_; intro ws hs'; replace F_g := Lib.hid (F_g.out.laid hs' ne_g_d); replace F_d := Lib.hid (F_d.out.whole hs'); replace HBW := Lib.hid (HBW.out.trans (hs'.below _ le_d)); clear hs'; obtain ⟨x0a, x0b, x0c, -⟩ := id F_g.out))
  generalize w4.heap.size = Bd at F_d ne_g_d le_d ⊢
  have HC := Lib.hid (show ∀ i, i < 32 → ws.cell? ⟨Bd, i, none⟩ = some (.int .u8 (D.getD i 0)) from fun i hi => F_d.out.c i (by rw [HLD.out]; exact hi))
  go_loop [8, 9] (fun c8 c9 => ∃ k : Nat, k ≤ 8 ∧ c9 = .int .i64 k ∧ c8 = .int .u64 (beN (D.take k))) (fun _ c9 => 8 - (intOf c9).toNat)
  case atStart => exact ⟨0, by omega, rfl, rfl⟩
  case round =>
    obtain ⟨k, hk, rfl, rfl⟩ := hrel
    by_cases hlt : k < 8
    · have hck := HC.out k (by omega)
      have HN := Lib.hid (beN_snoc D k (by rw [HLD.out]; omega))
      obtain ⟨n0, n1⟩ := beN_bound HBD.out k (by rw [HLD.out]; omega)
      have n2 := pow256_le k hlt
      obtain ⟨c0, c1⟩ := HBD.out.get k
      generalize D.getD k 0 = c at hck HN c0 c1
      generalize beN (D.take k) = nn at HN n0 n1 ⊢
      have n3 : nn < 72057594037927936 := by omega
      clear n1 n2
      have k0 : (0 : Int) ≤ (k : Int) := by omega
      have hk32 : (k : Int) < 32 := by omega
      go_wp2_with fail
      go_round
      case rel => exact ⟨k + 1, by omega, by go_num, by rw [HN.out, Int.mul_comm]⟩
      case measure => simp [intOf]; omega
    · obtain rfl : k = 8 := by omega
      obtain ⟨n0, n1⟩ := beN_bound HBD.out 8 (by rw [HLD.out]; decide)
      have HVV := Lib.hid HV.out
      generalize beN (D.take 8) = nn at HVV n0 n1 ⊢
      have q1 : IntKind.u64.wrap (Q - 1) = Q - 1 := IntWalk.u64_in _ (by omega)
      have q0 : Q - 1 ≠ 0 := by omega
      have m0 := Int.emod_nonneg nn (b := Q - 1) q0
      have m1 := Int.emod_lt_of_pos nn (b := Q - 1) (by omega)
      have hw1 : IntKind.u64.wrap (nn % (Q - 1) + 1) = nn % (Q - 1) + 1 := IntWalk.u64_in _ (by omega)
      have hw2 : IntKind.u64.wrap (nn % (Q - 1)) = nn % (Q - 1) := IntWalk.u64_in _ (by omega)
      have htm : nn.tmod (Q - 1) = nn % (Q - 1) := Int.tmod_eq_emod_of_nonneg n0
      clear hlt hk
      go_wp2_with fail
      go_ret
      exact ⟨ret_int HVV.out, HBW.out⟩

set_option maxRecDepth 100000 in
set_option maxHeartbeats 4000000 in
theorem rchallenge_any {P Q G y r v c : Int} {tx : Option Addr} {n cp : Nat} {T : List Int} (w : World) (hT : Txt w tx n T) (hP : 0 ≤ P) (hQ : 0 ≤ Q) (hG : 0 ≤ G) (uy : U64 y) (ur : U64 r) (hn : n ≤ 8100) (h : RetS (lgS (askS P Q G [] [y, r]) n) (chV Q [y, r] T) v c) :
    Calls Tryd.prog 9 #[.agg #[.int .u64 P, .int .u64 Q, .int .u64 G], .int .u64 y, .int .u64 r, .slice tx n cp] w fun e w' => e = .returned (.tuple #[.int .u64 v, .int .i64 c]) ∧ Below w.heap.size w w' := by
  have HT := Lib.hid hT
  have HTL := Lib.hid hT.sh.len
  have HUS := Lib.hid (show ∀ x, x ∈ [y, r] → U64 x from fun x hx => by simp at hx; rcases hx with rfl | rfl <;> assumption)
  clear hT uy ur
  rcases h with ⟨h, hv, rfl⟩ | ⟨h, rfl, hc⟩
  · obtain ⟨h, hn8⟩ := lgS_zero h
    obtain ⟨hH, -, -⟩ := askS_zero h
    have HR := Lib.hid h
    have hd : decide ((8000 : Int) < (n : Int)) = false := by simp; omega
    have hdn : decide (8000 < n) = false := by simp; omega
    have HV := Lib.hid hv.symm
    clear h hv
    obtain ⟨p5, p3, hQ', pq, g2, gP⟩ := id hH
    have hP1 : 1 ≤ P := by omega
    have hGM : G < 2147483648 := by omega
    have q3 : Q < 1073741824 := by omega
    have q2 : 2 ≤ Q := by omega
    have HH := Lib.hid hH
    clear hH pq
    have F_g := Lib.hid (show Boxed ((w.alloc (.cells #[.int .u64 P, .int .u64 Q, .int .u64 G] 24)).alloc (.cells #[.int .u64 y, .int .u64 r] 22)) (w.heap.size) P Q G from (Boxed.at _ P Q G _ (w.heap.size) (by simp)).alloc _)
    have F_ns := Lib.hid (show ShL ((w.alloc (.cells #[.int .u64 P, .int .u64 Q, .int .u64 G] 24)).alloc (.cells #[.int .u64 y, .int .u64 r] 22)) (some ⟨w.heap.size + 1, 0, none⟩) 2 2 [y, r] from ShL.laid _ [y, r] _ _ (w.heap.size + 1) _ _ (by simp) rfl rfl)
    have HBW := Lib.hid (show Below w.heap.size w ((w.alloc (.cells #[.int .u64 P, .int .u64 Q, .int .u64 G] 24)).alloc (.cells #[.int .u64 y, .int .u64 r] 22)) from ((Below.refl _ _).alloc (by simp <;> omega) _).alloc (by simp <;> omega) _)
    go_enter Tryd.func9, Tryd.ntmps9
    obtain ⟨x0a, x0b, x0c, -⟩ := id F_g.out
    go_wp2_with fail
    clear x0a x0b x0c
    refine (rAsked_any _ hP hQ hG (ShL.nil _) F_ns.out (by simp) (by simp) HR.out).mono ?_
    rintro e w1 ⟨rfl, hb1⟩
    replace F_g := Lib.hid (F_g.out.keep hb1)
    replace HBW := Lib.hid (HBW.out.trans (hb1.mono HBW.out.size))
    clear hb1
    clear F_ns
    obtain ⟨x0a, x0b, x0c, -⟩ := id F_g.out
    go_wp2_with fail
    clear x0a x0b x0c
    have F_ms := Lib.hid (ShL.laid w1 [y, r] _ 22 _ 2 2 rfl rfl rfl)
    replace F_g := Lib.hid (F_g.out.alloc (.cells #[.int .u64 y, .int .u64 r] 22))
    replace HBW := Lib.hid (HBW.out.alloc HBW.out.size (.cells #[.int .u64 y, .int .u64 r] 22))
    refine (rOf31_any _ (HT.out.keep HBW.out) HH.out F_ms.out HUS.out (by simp) (by simp) hn HV.out).mono ?_
    rintro e w2 ⟨rfl, hb2⟩
    replace F_g := Lib.hid (F_g.out.keep hb2)
    replace HBW := Lib.hid (HBW.out.trans (hb2.mono HBW.out.size))
    clear hb2
    go_wp2_with fail
    go_ret2
    exact ⟨rfl, HBW.out⟩
  · by_cases ha : askS P Q G [] [y, r] = 0
    · have hn8 : 8000 < n := by
        by_cases h8 : 8000 < n
        · exact h8
        · exact absurd (by unfold lgS; rw [if_pos ha, if_neg h8]) h
      obtain rfl : c = 4 := by rw [hc]; unfold lgS; rw [if_pos ha, if_pos hn8]
      have HR := Lib.hid ha
      have hd : decide ((8000 : Int) < (n : Int)) = true := by simp; omega
      have hdn : decide (8000 < n) = true := by simp; omega
      clear h hc ha
      have F_g := Lib.hid (show Boxed ((w.alloc (.cells #[.int .u64 P, .int .u64 Q, .int .u64 G] 24)).alloc (.cells #[.int .u64 y, .int .u64 r] 22)) (w.heap.size) P Q G from (Boxed.at _ P Q G _ (w.heap.size) (by simp)).alloc _)
      have F_ns := Lib.hid (show ShL ((w.alloc (.cells #[.int .u64 P, .int .u64 Q, .int .u64 G] 24)).alloc (.cells #[.int .u64 y, .int .u64 r] 22)) (some ⟨w.heap.size + 1, 0, none⟩) 2 2 [y, r] from ShL.laid _ [y, r] _ _ (w.heap.size + 1) _ _ (by simp) rfl rfl)
      have HBW := Lib.hid (show Below w.heap.size w ((w.alloc (.cells #[.int .u64 P, .int .u64 Q, .int .u64 G] 24)).alloc (.cells #[.int .u64 y, .int .u64 r] 22)) from ((Below.refl _ _).alloc (by simp <;> omega) _).alloc (by simp <;> omega) _)
      go_enter Tryd.func9, Tryd.ntmps9
      obtain ⟨x0a, x0b, x0c, -⟩ := id F_g.out
      go_wp2_with fail
      clear x0a x0b x0c
      refine (rAsked_any _ hP hQ hG (ShL.nil _) F_ns.out (by simp) (by simp) HR.out).mono ?_
      rintro e w1 ⟨rfl, hb1⟩
      replace F_g := Lib.hid (F_g.out.keep hb1)
      replace HBW := Lib.hid (HBW.out.trans (hb1.mono HBW.out.size))
      clear hb1
      obtain ⟨x0a, x0b, x0c, -⟩ := id F_g.out
      go_wp2_with fail
      go_ret2
      exact ⟨rfl, HBW.out⟩
    · have hc' : c = askS P Q G [] [y, r] := by rw [hc]; unfold lgS; rw [if_neg ha]
      have hnc : c ≠ 0 := by rw [hc']; exact ha
      have hn1 : (c != 0) = true := by simpa using hnc
      have hn2 : (c == 0) = false := by simpa using hnc
      have HR := Lib.hid hc'.symm
      clear h hc ha hc' hnc
      have F_g := Lib.hid (show Boxed ((w.alloc (.cells #[.int .u64 P, .int .u64 Q, .int .u64 G] 24)).alloc (.cells #[.int .u64 y, .int .u64 r] 22)) (w.heap.size) P Q G from (Boxed.at _ P Q G _ (w.heap.size) (by simp)).alloc _)
      have F_ns := Lib.hid (show ShL ((w.alloc (.cells #[.int .u64 P, .int .u64 Q, .int .u64 G] 24)).alloc (.cells #[.int .u64 y, .int .u64 r] 22)) (some ⟨w.heap.size + 1, 0, none⟩) 2 2 [y, r] from ShL.laid _ [y, r] _ _ (w.heap.size + 1) _ _ (by simp) rfl rfl)
      have HBW := Lib.hid (show Below w.heap.size w ((w.alloc (.cells #[.int .u64 P, .int .u64 Q, .int .u64 G] 24)).alloc (.cells #[.int .u64 y, .int .u64 r] 22)) from ((Below.refl _ _).alloc (by simp <;> omega) _).alloc (by simp <;> omega) _)
      go_enter Tryd.func9, Tryd.ntmps9
      obtain ⟨x0a, x0b, x0c, -⟩ := id F_g.out
      go_wp2_with fail
      clear x0a x0b x0c
      refine (rAsked_any _ hP hQ hG (ShL.nil _) F_ns.out (by simp) (by simp) HR.out).mono ?_
      rintro e w1 ⟨rfl, hb1⟩
      replace F_g := Lib.hid (F_g.out.keep hb1)
      replace HBW := Lib.hid (HBW.out.trans (hb1.mono HBW.out.size))
      clear hb1
      obtain ⟨x0a, x0b, x0c, -⟩ := id F_g.out
      go_wp2_with fail
      go_ret2
      exact ⟨rfl, HBW.out⟩
end Go.Proofs.YtanlnhjjdiaphaaDoor
