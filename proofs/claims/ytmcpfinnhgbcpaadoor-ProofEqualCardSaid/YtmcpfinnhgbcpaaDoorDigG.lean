/- digest.Sum; the reference's First, k, Padded. -/
import Derived.Test.YtmcpfinnhgbcpaaDoorDigF
namespace Go.Proofs.YtmcpfinnhgbcpaaDoor
open Go Go.RowKit Sha
set_option linter.unusedSimpArgs false
set_option linter.unusedVariables false

set_option maxRecDepth 100000 in
set_option maxHeartbeats 4000000 in
theorem dSum_any {a : Option Addr} {n c : Nat} {xs : List Int} (w : World) (hT : Tabs w) (h : ShI .u8 w a n xs) (hn : n ≤ 8192) (hB : ByteL xs) :
    Calls Tryd.prog 42 #[.slice a n c] w fun e w' => e = .returned (.tuple #[.agg (valV .u8 (shaS xs)), .int .i64 0]) ∧ Below w.heap.size w w' := by
  have HT := Lib.hid hT
  have HS := Lib.hid h
  have HBY := Lib.hid hB
  have hd : decide ((8192 : Int) < (n : Int)) = false := by simp; omega
  clear h hT hB
  go_enter Tryd.func42, Tryd.ntmps42
  go_wp2_with (first
    | (refine wpL_allocArr rfl 81 .u8 32 rfl (by kernel_rfl) ?_; intro w1 h1; have F_o := Lib.hid h1.arr; have HB1 := Lib.hid (h1.below _ (Nat.le_refl _)); clear h1; simp only [Act.put, List.setIfInBounds_toArray, List.set_cons_zero, List.set_cons_succ])
    | (go_at_call 71; refine (dsum_any _ (HT.out.below HB1.out) (HS.out.keep HB1.out) (by omega) HBY.out).mono ?_; rintro e w2 ⟨rfl, hb2⟩; have F_2 := Lib.hid (F_o.out.keep hb2); have HB2 := Lib.hid (HB1.out.trans (hb2.mono HB1.out.size)); clear hb2)
    | (refine wpL_storeArr rfl 81 .u8 _ _ w.heap.size (shaS xs) _ rfl rfl rfl rfl (by kernel_rfl) F_2.out rfl ?_; intro w9 h9; have H9 := Lib.hid h9; clear h9))
  refine bodyPost_ret (res_arr2 .u8 w.heap.size 0 (shaS xs) 32 5 rfl Tryd.underlying81 (by kernel_rfl) _ rfl rfl H9.out.row) rfl ?_
  exact ⟨rfl, HB2.out.trans (H9.out.below _ (Nat.le_refl _))⟩

set_option maxRecDepth 100000 in
set_option maxHeartbeats 4000000 in
theorem rFirst_any (w : World) :
    Calls Tryd.prog 88 #[] w fun e w' => e = .returned (.agg (valV .u32 firstS.l)) ∧ Below w.heap.size w w' := by
  have hbu : ∀ w : World, (Instr.build 111 #[(0, .int .u32 1779033703), (1, .int .u32 3144134277), (2, .int .u32 1013904242), (3, .int .u32 2773480762), (4, .int .u32 1359893119), (5, .int .u32 2600822924), (6, .int .u32 528734635), (7, .int .u32 1541459225)]).run Tryd.prog w = .ok (.agg (valV .u32 firstS.l)) w := fun w => by kernel_rfl
  go_enter Tryd.func88, Tryd.ntmps88
  go_wp2_with (first
    | (refine wpL_allocArr rfl 111 .u32 8 rfl (by kernel_rfl) ?_; intro w1 h1; have F_o := Lib.hid h1.arr; have HB1 := Lib.hid (h1.below _ (Nat.le_refl _)); clear h1; simp only [Act.put, List.setIfInBounds_toArray, List.set_cons_zero, List.set_cons_succ])
    | (refine wpL_storeArr rfl 111 .u32 _ _ w.heap.size firstS.l _ rfl rfl rfl rfl (by kernel_rfl) F_o.out rfl ?_; intro w9 h9; have H9 := Lib.hid h9; clear h9))
  refine bodyPost_ret (res_arr .u32 w.heap.size 0 firstS.l 8 110 rfl Tryd.underlying111 (by kernel_rfl) _ rfl H9.out.row) rfl ?_
  exact ⟨rfl, HB1.out.trans (H9.out.below _ (Nat.le_refl _))⟩

set_option maxRecDepth 100000 in
set_option maxHeartbeats 4000000 in
theorem rK_any (w : World) :
    Calls Tryd.prog 97 #[] w fun e w' => e = .returned (.agg (valV .u32 kTab)) ∧ Below w.heap.size w w' := by
  have hbu : ∀ w : World, (Instr.build 118 #[(0, .int .u32 1116352408), (1, .int .u32 1899447441), (2, .int .u32 3049323471), (3, .int .u32 3921009573), (4, .int .u32 961987163), (5, .int .u32 1508970993), (6, .int .u32 2453635748), (7, .int .u32 2870763221), (8, .int .u32 3624381080), (9, .int .u32 310598401), (10, .int .u32 607225278), (11, .int .u32 1426881987), (12, .int .u32 1925078388), (13, .int .u32 2162078206), (14, .int .u32 2614888103), (15, .int .u32 3248222580), (16, .int .u32 3835390401), (17, .int .u32 4022224774), (18, .int .u32 264347078), (19, .int .u32 604807628), (20, .int .u32 770255983), (21, .int .u32 1249150122), (22, .int .u32 1555081692), (23, .int .u32 1996064986), (24, .int .u32 2554220882), (25, .int .u32 2821834349), (26, .int .u32 2952996808), (27, .int .u32 3210313671), (28, .int .u32 3336571891), (29, .int .u32 3584528711), (30, .int .u32 113926993), (31, .int .u32 338241895), (32, .int .u32 666307205), (33, .int .u32 773529912), (34, .int .u32 1294757372), (35, .int .u32 1396182291), (36, .int .u32 1695183700), (37, .int .u32 1986661051), (38, .int .u32 2177026350), (39, .int .u32 2456956037), (40, .int .u32 2730485921), (41, .int .u32 2820302411), (42, .int .u32 3259730800), (43, .int .u32 3345764771), (44, .int .u32 3516065817), (45, .int .u32 3600352804), (46, .int .u32 4094571909), (47, .int .u32 275423344), (48, .int .u32 430227734), (49, .int .u32 506948616), (50, .int .u32 659060556), (51, .int .u32 883997877), (52, .int .u32 958139571), (53, .int .u32 1322822218), (54, .int .u32 1537002063), (55, .int .u32 1747873779), (56, .int .u32 1955562222), (57, .int .u32 2024104815), (58, .int .u32 2227730452), (59, .int .u32 2361852424), (60, .int .u32 2428436474), (61, .int .u32 2756734187), (62, .int .u32 3204031479), (63, .int .u32 3329325298)]).run Tryd.prog w = .ok (.agg (valV .u32 kTab)) w := fun w => by kernel_rfl
  go_enter Tryd.func97, Tryd.ntmps97
  go_wp2_with (first
    | (refine wpL_allocArr rfl 118 .u32 64 rfl (by kernel_rfl) ?_; intro w1 h1; have F_o := Lib.hid h1.arr; have HB1 := Lib.hid (h1.below _ (Nat.le_refl _)); clear h1; simp only [Act.put, List.setIfInBounds_toArray, List.set_cons_zero, List.set_cons_succ])
    | (refine wpL_storeArr rfl 118 .u32 _ _ w.heap.size kTab _ rfl rfl rfl rfl (by kernel_rfl) F_o.out rfl ?_; intro w9 h9; have H9 := Lib.hid h9; clear h9))
  refine bodyPost_ret (res_arr .u32 w.heap.size 0 kTab 64 110 rfl Tryd.underlying118 (by kernel_rfl) _ rfl H9.out.row) rfl ?_
  exact ⟨rfl, HB1.out.trans (H9.out.below _ (Nat.le_refl _))⟩

def lenV : Value → Nat
  | .slice _ n _ => n
  | _ => 0
/-- The padded bytes of the reference, so far as zeros are laid. -/
theorem zeros_test (n j : Nat) (hj : j ≤ zerosN n) : ((n + 1 + j + 8) % 64 = 0) ↔ j = zerosN n := by unfold zerosN at *; omega
theorem rep_snoc (xs : List Int) (j : Nat) : xs ++ [128] ++ List.replicate j (0 : Int) ++ [0] = xs ++ [128] ++ List.replicate (j + 1) 0 := by
  rw [List.replicate_succ', List.append_assoc _ _ [(0 : Int)]]

set_option maxRecDepth 100000 in
set_option maxHeartbeats 8000000 in
theorem rPadded_any {ad : Addr} {n c : Nat} {xs : List Int} (w : World) (h : ShI .u8 w (some ad) n xs) (hn : n ≤ 100000) :
    Calls Tryd.prog 89 #[.slice (some ad) n c] w fun e w' => ∃ v, e = .returned v ∧ OwnB w' w.heap.size v (padS xs) ∧ Below w.heap.size w w' := by
  obtain ⟨i0, hi, hz0, hz1, hz2⟩ := info_parts (P := Tryd.prog) (e := 5) (z := .int .u8 0) (size := 1) (bytes := 1) (by kernel_rfl)
  have HS := Lib.hid h
  have HL := Lib.hid h.len
  have HLM := Lib.hid (show (xs.map (Value.int IntKind.u8)).length = n * 1 by rw [List.length_map, ← h.len, Nat.mul_one])
  have HNM := Lib.hid (show 0 + n ≤ maxLen by unfold maxLen; omega)
  have HNB := Lib.hid (show (0 + n) * 1 ≤ 140737488355328 by omega)
  have HXM := Lib.hid (show xs.length + 1 ≤ maxLen by have := h.len; unfold maxLen; omega)
  have HXB := Lib.hid (show (xs.length + 1) * 1 ≤ 140737488355328 by have := h.len; omega)
  clear h
  go_enter Tryd.func89, Tryd.ntmps89
  go_wp2_with (first
    | (at_builtin; refine wpList_append_own _ rfl _ _ 27 rfl w.heap.size 5 i0 (.int .u8 0) 1 1 Tryd.underlying27 hi hz0 hz1 hz2 rfl (by decide) _ 0 [] rfl (World.ownsRow_lit w #[] 0 (Nat.le_refl _) (by decide) rfl) _ n c (xs.map (Value.int IntKind.u8)) rfl HLM.out (HS.out.keep ((Below.refl _ _).alloc (Nat.le_refl _) _)).cells (fun u hu => by obtain ⟨x, -, rfl⟩ := List.mem_map.1 hu; rfl) HNM.out HNB.out (by simp) ?_; intro v1 w1 hown hgr hnil; have HG := Lib.hid (Grew.first HL.out hown hgr); clear hown hgr hnil)
    | (at_builtin; refine wpList_append_own _ rfl _ _ 27 rfl w.heap.size 5 i0 (.int .u8 0) 1 1 Tryd.underlying27 hi hz0 hz1 hz2 rfl (by decide) _ (xs).length ((xs).map (Value.int .u8)) rfl (HG.out.own.keep ((Below.refl _ _).alloc (Nat.le_refl _) _)) _ 1 1 [.int .u8 (128)] rfl rfl (fun j u hj => by cases j with | zero => simp at hj; subst hj; simp [go_sem] | succ j => simp at hj) (fun u hu => by simp at hu; subst hu; rfl) HXM.out HXB.out (HG.out.leA _) ?_; intro v2 w2 hown hgr hnil; have HG2 := Lib.hid (HG.out.snoc hown hgr); clear hown hgr hnil))
  go_loopw [3] (fun c3 wr => ∃ j : Nat, j ≤ zerosN n ∧ Hid (Grew w wr w.heap.size c3 (xs ++ [128] ++ List.replicate j 0))) (fun c3 _ => n + 1 + zerosN n - lenV c3)
  case atStart => exact ⟨0, by omega, Lib.hid (by simpa using HG2.out)⟩
  case round =>
    clear HG HG2 HXM HXB HLM HNM HNB
    obtain ⟨j, hj, HG⟩ := hrel
    have hz64 : zerosN n < 64 := by unfold zerosN; omega
    have hll := HL.out
    have hLn : (xs ++ [128] ++ List.replicate j (0 : Int)).length = n + 1 + j := by simp; omega
    obtain ⟨L, hL⟩ : ∃ L, xs ++ [128] ++ List.replicate j (0 : Int) = L := ⟨_, rfl⟩
    rw [hL] at HG hLn
    obtain ⟨g, cap, rfl, hg1, hg2⟩ := HG.out.own.some (by omega)
    obtain ⟨N1, hN1⟩ : ∃ N1, L.length = N1 := ⟨_, rfl⟩
    rw [hN1] at HG hLn ⊢
    have hml := (zeros_test n j hj)
    have HXM := Lib.hid (show L.length + 1 ≤ maxLen by unfold maxLen; omega)
    have HXB := Lib.hid (show (L.length + 1) * 1 ≤ 140737488355328 by omega)
    have HLN := Lib.hid hLn
    have HLL := Lib.hid hL
    have HN1 := Lib.hid hN1
    have n0 : (0 : Int) ≤ (N1 : Int) := by omega
    have nm : (N1 : Int) ≤ 200000 := by omega
    have hw8 : IntKind.i64.wrap ((N1 : Int) + 8) = (N1 : Int) + 8 := IntWalk.i64_in _ (by omega)
    by_cases he : j = zerosN n
    case neg =>
      have ht : ((((N1 : Int) + 8) % 64) != 0) = true := by
        have : ¬ ((n + 1 + j + 8) % 64 = 0) := fun h => he (hml.1 h)
        simp; omega
      clear hL hLn hll hN1 hml hz64
      go_wp2_with (at_builtin; refine wpList_append_own _ rfl _ _ 27 rfl w.heap.size 5 i0 (.int .u8 0) 1 1 Tryd.underlying27 hi hz0 hz1 hz2 rfl (by decide) _ (L).length ((L).map (Value.int .u8)) rfl (HG.out.own.keep ((Below.refl _ _).alloc (Nat.le_refl _) _)) _ 1 1 [.int .u8 (0)] rfl rfl (fun j u hj => by cases j with | zero => simp at hj; subst hj; simp [go_sem] | succ j => simp at hj) (fun u hu => by simp at hu; subst hu; rfl) HXM.out HXB.out (HG.out.leA _) ?_; intro v3 w3 hown hgr hnil; have HG3 := Lib.hid (HG.out.snoc hown hgr); clear hown hgr hnil)
      go_roundw
      case rel => exact ⟨j + 1, by omega, by rw [← rep_snoc, HLL.out]; exact HG3.out⟩
      case measure =>
        obtain ⟨g', cap', rfl, -, -⟩ := HG3.out.own.some (by simp)
        have := HN1.out
        have := HLN.out
        simp [lenV]
        omega
    case pos =>
      have ht : ((((N1 : Int) + 8) % 64) != 0) = false := by
        have : (n + 1 + j + 8) % 64 = 0 := hml.2 he
        simp; omega
      clear hL hLn hll hN1 hml
      have hwn : IntKind.u64.wrap (n : Int) = n := IntWalk.u64_in _ (by omega)
      have hwm : IntKind.u64.wrap ((n : Int) * 8) = n * 8 := IntWalk.u64_in _ (by omega)
      subst he
      have HG4 := Lib.hid (show Grew w wr w.heap.size (.slice (some ⟨g, 0, none⟩) N1 cap) (padN xs n 0) by rw [padN_zero, HLL.out]; exact HG.out)
      clear HG HXM HXB HLL
      go_wp2_with fail
      go_loopw [3, 5] (fun c3 c5 wr => ∃ k : Nat, k ≤ 8 ∧ c5 = .int .i64 k ∧ Hid (Grew w wr w.heap.size c3 (padN xs n k))) (fun _ c5 _ => 8 - (intOf c5).toNat)
      case atStart => exact ⟨0, by omega, rfl, HG4.out⟩
      case round =>
        clear HG4
        obtain ⟨k, hk, rfl, HG⟩ := hrel
        by_cases hlt : k < 8
        case neg =>
          obtain rfl : k = 8 := by omega
          rw [HL.out, padN_all] at HG
          go_wp2_with fail
          go_ret
          exact ⟨_, rfl, HG.out.own, HG.out.bel⟩
        case pos =>
          have hd : decide ((k : Int) < 8) = true := by simp; omega
          have k0 : (0 : Int) ≤ (k : Int) := by omega
          have p0 : (0 : Int) ≤ 56 - 8 * (k : Int) := by omega
          have e0 : (56 - 8 * (k : Int)).toNat = 56 - 8 * k := by omega
          have hm0 : min (56 - 8 * k) 64 = 56 - 8 * k := by omega
          have hw1 : IntKind.i64.wrap ((k : Int) + 1) = (k : Int) + 1 := IntWalk.i64_in _ (by omega)
          have hw2 : IntKind.i64.wrap (8 * (k : Int)) = 8 * (k : Int) := IntWalk.i64_in _ (by omega)
          have hw3 : IntKind.i64.wrap (56 - 8 * (k : Int)) = 56 - 8 * (k : Int) := IntWalk.i64_in _ (by omega)
          have hpl : (padN xs n k).length ≤ 200000 := by rw [padN_len]; have := HL.out; omega
          have HXM := Lib.hid (show (padN xs n k).length + 1 ≤ maxLen by unfold maxLen; omega)
          have HXB := Lib.hid (show ((padN xs n k).length + 1) * 1 ≤ 140737488355328 by omega)
          clear hpl
          go_wp2_with (at_builtin; refine wpList_append_own _ rfl _ _ 27 rfl w.heap.size 5 i0 (.int .u8 0) 1 1 Tryd.underlying27 hi hz0 hz1 hz2 rfl (by decide) _ (padN xs n k).length ((padN xs n k).map (Value.int .u8)) rfl (HG.out.own.keep ((Below.refl _ _).alloc (Nat.le_refl _) _)) _ 1 1 [.int .u8 ((n : Int) * 8 / 2 ^ (56 - 8 * k) % 256)] rfl rfl (fun j u hj => by cases j with | zero => simp at hj; subst hj; simp [go_sem] | succ j => simp at hj) (fun u hu => by simp at hu; subst hu; rfl) HXM.out HXB.out (HG.out.leA _) ?_; intro v4 w4 hown hgr hnil; have HG4 := Lib.hid (HG.out.snoc hown hgr); clear hown hgr hnil)
          go_roundw
          case rel => exact ⟨k + 1, by omega, by go_num, by rw [← padN_succ xs n k hlt rfl]; exact HG4.out⟩
          case measure => simp [intOf]; omega
end Go.Proofs.YtmcpfinnhgbcpaaDoor
