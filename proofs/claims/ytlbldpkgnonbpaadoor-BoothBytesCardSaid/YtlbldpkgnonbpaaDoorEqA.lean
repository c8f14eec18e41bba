/- proof.long, challenge, members. -/
import Derived.Test.YtlbldpkgnonbpaaDoorSg1
import Derived.Test.YtlbldpkgnonbpaaDoorPrf
namespace Go.Proofs.YtlbldpkgnonbpaaDoor
open Go Go.RowKit Num Sha
set_option linter.unusedSimpArgs false
set_option linter.unusedVariables false

theorem plong_any {a : Option Addr} {n c : Nat} {r : Int} (w : World) (hr : lgS 0 n = r) : Calls Tryd.prog 75 #[.slice a n c] w fun e w' => e = .returned (.int .i64 r) ∧ w = w' := by
  by_cases hn : 8000 < n
  · obtain rfl : r = 4 := by rw [← hr]; exact lgS_four rfl hn
    have hd : decide ((8000 : Int) < (n : Int)) = true := by simp; omega
    have hdn : decide (8000 < n) = true := by simp; omega
    clear hr
    go_enter Tryd.func75, Tryd.ntmps75
    go_wp2_with fail
    go_ret
    exact ⟨rfl, rfl⟩
  · obtain rfl : r = 0 := by rw [← hr]; exact lgS_ok rfl (by omega)
    have hd : decide ((8000 : Int) < (n : Int)) = false := by simp; omega
    have hdn : decide (8000 < n) = false := by simp; omega
    clear hr
    go_enter Tryd.func75, Tryd.ntmps75
    go_wp2_with fail
    go_ret
    exact ⟨rfl, rfl⟩

set_option maxRecDepth 100000 in
set_option maxHeartbeats 4000000 in
theorem pchallenge_any {P Q G v : Int} {a tx : Option Addr} {m d n cp : Nat} {ns T : List Int} (w : World) (hT : Txt w tx n T) (hH : Has P Q G) (hs : ShL w a m d ns) (hu : ∀ x, x ∈ ns → U64 x) (hm : m ≤ 20) (hn : n ≤ 8000) (hv : chV Q ns T = v) :
    Calls Tryd.prog 100 #[.agg #[.int .u64 P, .int .u64 Q, .int .u64 G], .slice tx n cp, .slice a m d] w fun e w' => e = .returned (.int .u64 v) ∧ Below w.heap.size w w' := by
  obtain ⟨i0, hi, hz0, hz1, hz2⟩ := info_parts (P := Tryd.prog) (e := 5) (z := .int .u8 0) (size := 1) (bytes := 1) (by kernel_rfl)
  have HTL := Lib.hid hT.sh.len
  have HL := Lib.hid hs.len
  have HU := Lib.hid hu
  have HT := Lib.hid hT
  have HS0 := Lib.hid hs
  clear hs hu hT
  obtain ⟨D, hD⟩ : ∃ D, shaS (flat8 ns ++ T) = D := ⟨_, rfl⟩
  have HLD := Lib.hid (show D.length = 32 by rw [← hD, shaS_len])
  have HBD := Lib.hid (show Bytes D by rw [← hD]; exact shaS_bytes _)
  have HD := Lib.hid hD
  have HV := Lib.hid (show beN (D.take 8) % Q = v by rw [← hv, chV, hD])
  clear hD hv
  obtain ⟨p5, p3, hQ', pq, g2, gP⟩ := id hH
  have hP1 : 1 ≤ P := by omega
  have hGM : G < 2147483648 := by omega
  have q3 : Q < 1073741824 := by omega
  have q2 : 2 ≤ Q := by omega
  have HH := Lib.hid hH
  clear hH pq
  have F_g0 := Lib.hid (show Boxed (w.alloc (.cells #[.int .u64 P, .int .u64 Q, .int .u64 G] 49)) (w.heap.size) P Q G from Boxed.at _ P Q G _ (w.heap.size) (by simp))
  have HB0 := Lib.hid (show Below w.heap.size w (w.alloc (.cells #[.int .u64 P, .int .u64 Q, .int .u64 G] 49)) from (Below.refl _ _).alloc (by simp <;> omega) _)
  go_enter Tryd.func100, Tryd.ntmps100
  go_wp2_with fail
  generalize w.alloc (.cells #[.int .u64 P, .int .u64 Q, .int .u64 G] 49) = W0 at F_g0 HB0 ⊢
  have HS := Lib.hid (HS0.out.keep HB0.out)
  go_loopw [7, 17] (fun c3 c9 wr => ∃ k : Nat, k ≤ m ∧ c9 = .int .i64 k ∧ Hid (Grew W0 wr W0.heap.size c3 (flat8 (ns.take k)))) (fun _ c9 _ => m - (intOf c9).toNat)
  case atStart => exact ⟨0, by omega, rfl, Grew.nil W0⟩
  case round =>
    obtain ⟨k, hk, rfl, HG⟩ := hrel
    by_cases hlt : k < m
    case neg =>
      obtain rfl : k = m := by omega
      have hll := HL.out
      rw [hll, List.take_length] at HG
      clear hlt hll
      clear hk
      have HLE := Lib.hid HG.out.le
      have HLW := Lib.hid (show w.heap.size ≤ W0.heap.size from HB0.out.size)
      have HLG := Lib.hid (show w.heap.size < W0.heap.size from F_g0.out.lt)
      have F_g := Lib.hid (F_g0.out.keep HG.out.bel)
      have HBW := Lib.hid (HB0.out.trans (HG.out.bel.mono HLW.out))
      have O2 := Lib.hid HG.out.own
      have hnsl := HL.out
      go_wp2_with (at_builtin; refine wpL_append_sh rfl _ _ rfl W0.heap.size _ (flat8 ns) T tx n cp rfl rfl O2.out (HT.out.keep HBW.out).sh (by omega) (by rw [flat8_len]; omega) HLE.out ?_; intro v3 w3 hown hgr; have hb3 := Below.grown (Below.refl W0.heap.size _) hgr HLE.out (fun k hk => (World.ownsRow.lt O2.out k hk).1); have O3 := hown; replace F_g := Lib.hid (F_g.out.under hb3 HLG.out); replace HBW := Lib.hid (HBW.out.trans (hb3.mono HLW.out)); clear hown hgr hb3; simp only [Act.put, List.setIfInBounds_toArray, List.set_cons_zero, List.set_cons_succ])
      obtain ⟨a3, c3, rfl, S3⟩ := O3.shi
      clear HLG HLW HLE O2 O3 HG
      refine (dSum_any _ (HT.out.keep HBW.out).tabs S3 (by have := HTL.out; rw [List.length_append, flat8_len]; omega) ((flat8_bytes _).append HT.out.by8)).mono ?_
      rintro e w4 ⟨he, hb4⟩
      replace F_g := Lib.hid (F_g.out.keep hb4)
      replace HBW := Lib.hid (HBW.out.trans (hb4.mono HBW.out.size))
      clear hb4
      rw [HD.out] at he
      subst he
      clear S3
      go_wp2_with (first
        | (refine wpL_allocArr rfl 37 .u8 32 rfl (by kernel_rfl) ?_; intro wd hd'; have ne_g_d := Nat.ne_of_lt F_g.out.lt; have le_d := HBW.out.size; replace F_g := Lib.hid (F_g.out.keep (hd'.below _ (Nat.le_refl _))); have F_d := Lib.hid hd'.arr; replace HBW := Lib.hid (HBW.out.trans (hd'.below _ HBW.out.size)); clear hd'; simp only [Act.put, List.setIfInBounds_toArray, List.set_cons_zero, List.set_cons_succ])
        | (refine wpL_storeArr rfl 37 .u8 _ _ _ D _ rfl rfl rfl rfl (by rw [HLD.out]; kernel_rfl) F_d.out (by rw [HLD.out]; rfl) ?_; intro ws hs'; replace F_g := Lib.hid (F_g.out.laid hs' ne_g_d); replace F_d := Lib.hid (F_d.out.whole hs'); replace HBW := Lib.hid (HBW.out.trans (hs'.below _ le_d)); clear hs'; obtain ⟨x0a, x0b, x0c, -⟩ := id F_g.out)
        | (refine wpL_loadArr rfl 37 .u8 _ _ _ 32 5 rfl rfl Tryd.underlying37 (by rw [HLD.out]; kernel_rfl) F_d.out ?_; simp only [Act.put, List.setIfInBounds_toArray, List.set_cons_zero, List.set_cons_succ]))
      clear x0a x0b x0c
      refine (fromDigest_ok P Q G v D _ HH.out (by rw [HLD.out]; decide) HBD.out HV.out).mono ?_
      rintro e w7 ⟨rfl, hb7⟩
      replace F_g := Lib.hid (F_g.out.keep hb7)
      replace HBW := Lib.hid (HBW.out.trans (hb7.mono HBW.out.size))
      clear hb7
      go_wp2_with fail
      go_ret
      exact ⟨rfl, HBW.out⟩
    case pos =>
      have hdn : decide (k < m) = true := by simp; omega
      have hd : decide ((k : Int) < (m : Int)) = true := by simp; omega
      have k0 : (0 : Int) ≤ (k : Int) := by omega
      have hw1 : IntKind.i64.wrap ((k : Int) + 1) = (k : Int) + 1 := IntWalk.i64_in _ (by omega)
      obtain ⟨s, rfl, hc⟩ := (HS.out.keep HG.out.bel).at k hlt
      obtain ⟨x, hx⟩ : ∃ x, ns.getD k 0 = x := ⟨_, rfl⟩
      have HUX := Lib.hid (show U64 x from HU.out x (by rw [← hx, List.getD_eq_getElem?_getD, List.getElem?_eq_getElem (by have := HL.out; omega)]; exact List.getElem_mem _))
      have HFL := Lib.hid (show flat8 (ns.take k) ++ be8 x = flat8 (ns.take (k + 1)) from flat8_snoc ns k (by have := HL.out; omega) hx)
      obtain ⟨F, hF⟩ : ∃ F, flat8 (ns.take k) = F := ⟨_, rfl⟩
      have HF := Lib.hid (show F.length ≤ 200 by rw [← hF, flat8_len, List.length_take]; omega)
      rw [hF] at HG HFL
      rw [hx] at hc
      clear hF hx
      go_wp2_with fail
      go_loopw [7, 10] (fun c3 c6 wq => ∃ j : Nat, j ≤ 8 ∧ c6 = .int .i64 (56 - 8 * (j : Int)) ∧ Hid (Grew W0 wq W0.heap.size c3 (F ++ (be8 x).take j))) (fun _ c6 _ => ((intOf c6) + 8).toNat)
      case atStart => exact ⟨0, by omega, rfl, Lib.hid (by simpa using HG.out)⟩
      case round =>
        clear HG
        obtain ⟨j, hj, rfl, HG⟩ := hrel
        by_cases hlj : j < 8
        case neg =>
          obtain rfl : j = 8 := by omega
          rw [take_all8, HFL.out] at HG
          go_wp2_with fail
          go_roundw
          case rel => exact ⟨k + 1, by omega, by go_num, HG⟩
          case measure => simp [intOf]; omega
        case pos =>
          have hd3 : decide ((0 : Int) ≤ 56 - 8 * (j : Int)) = true := by simp; omega
          have hd2 : decide (8 * (j : Int) ≤ 56) = true := by simp; omega
          have hws : IntKind.i64.wrap (56 - 8 * (j : Int) - 8) = 56 - 8 * (j : Int) - 8 := IntWalk.i64_in _ (by omega)
          have p0 : (0 : Int) ≤ 56 - 8 * (j : Int) := by omega
          have e0 : (56 - 8 * (j : Int)).toNat = 56 - 8 * j := by omega
          have hm0 : min (56 - 8 * j) 64 = 56 - 8 * j := by omega
          have x0 := HUX.out.1
          have hpl : (F ++ (be8 x).take j).length ≤ 300 := by have := HF.out; simp [be8_len]; omega
          have HXM := Lib.hid (show (F ++ (be8 x).take j).length + 1 ≤ maxLen by unfold maxLen; omega)
          have HXB := Lib.hid (show ((F ++ (be8 x).take j).length + 1) * 1 ≤ 140737488355328 by omega)
          clear hpl
          go_wp2_with (at_builtin; (refine wpList_append_own _ rfl _ _ 30 rfl W0.heap.size 5 i0 (.int .u8 0) 1 1 Tryd.underlying30 hi hz0 hz1 hz2 rfl (by decide) _ (F ++ (be8 x).take j).length ((F ++ (be8 x).take j).map (Value.int .u8)) rfl (HG.out.own.keep ((Below.refl _ _).alloc (Nat.le_refl _) _)) _ 1 1 [.int .u8 (x / 2 ^ (56 - 8 * j) % 256)] rfl rfl (fun j u hj => by cases j with | zero => simp at hj; subst hj; simp [go_sem] | succ j => simp at hj) (fun u hu => by simp at hu; subst hu; rfl) HXM.out HXB.out (HG.out.leA _) ?_); intro v4 w4 hown hgr hnil; have HG4 := Lib.hid (HG.out.snoc hown hgr); clear hown hgr hnil)
          go_roundw
          case rel => exact ⟨j + 1, by omega, by go_num, by rw [← be8_snoc x j hlj rfl, ← List.append_assoc]; exact HG4.out⟩
          case measure => simp [intOf]; omega

/-- All are members. -/
def memsP (P Q : Int) (ns : List Int) : Prop := ∀ x, x ∈ ns → Mem P Q x
set_option maxRecDepth 100000 in
set_option maxHeartbeats 4000000 in
theorem pmembers_any {P Q G : Int} {a : Option Addr} {m d : Nat} {ns : List Int} {v : Bool} (w : World) (hH : Has P Q G) (hs : ShL w a m d ns) (hr : ∀ x, x ∈ ns → 0 ≤ x ∧ x < P) (hm : m ≤ 20) (hv : v = true ↔ memsP P Q ns) :
    Calls Tryd.prog 114 #[.agg #[.int .u64 P, .int .u64 Q, .int .u64 G], .slice a m d] w fun e w' => e = .returned (.bool v) ∧ Below w.heap.size w w' := by
  have HS := Lib.hid hs
  have HL := Lib.hid hs.len
  have HR := Lib.hid hr
  have HH := Lib.hid hH
  have HV := Lib.hid hv
  clear hs hr hH hv
  have F_g := Lib.hid (show Boxed (w.alloc (.cells #[.int .u64 P, .int .u64 Q, .int .u64 G] 49)) (w.heap.size) P Q G from Boxed.at _ P Q G _ (w.heap.size) (by simp))
  have HBW := Lib.hid (show Below w.heap.size w (w.alloc (.cells #[.int .u64 P, .int .u64 Q, .int .u64 G] 49)) from (Below.refl _ _).alloc (by simp <;> omega) _)
  go_enter Tryd.func114, Tryd.ntmps114
  go_wp2_with fail
  go_loopw [11] (fun c11 wr => ∃ k : Nat, k ≤ m ∧ c11 = .int .i64 k ∧ (∀ x, x ∈ ns.take k → Mem P Q x) ∧ Hid (Boxed wr w.heap.size P Q G) ∧ Hid (Below w.heap.size w wr)) (fun c11 _ => m - (intOf c11).toNat)
  case atStart => exact ⟨0, by omega, rfl, fun x hx => by simp at hx, F_g.out, HBW.out⟩
  case round =>
    clear F_g HBW
    obtain ⟨k, hk, rfl, hM, F_g, HBW⟩ := hrel
    have hll := HL.out
    by_cases hlt : k < m
    case neg =>
      obtain rfl : k = m := by omega
      have HZ := Lib.hid (show true = v by rw [eq_comm, HV.out]; rw [hll, List.take_length] at hM; exact hM)
      clear hM hlt hll hk
      go_wp2_with fail
      go_ret
      exact ⟨ret_bool HZ.out, HBW.out⟩
    case pos =>
      have hdn : decide (k < m) = true := by simp; omega
      have hd : decide ((k : Int) < (m : Int)) = true := by simp; omega
      have k0 : (0 : Int) ≤ (k : Int) := by omega
      have hw1 : IntKind.i64.wrap ((k : Int) + 1) = (k : Int) + 1 := IntWalk.i64_in _ (by omega)
      obtain ⟨s, rfl, hc⟩ := (HS.out.keep HBW.out).at k hlt
      obtain ⟨x, hx⟩ : ∃ x, ns.getD k 0 = x := ⟨_, rfl⟩
      have hkl : k < ns.length := by omega
      have hxe : ns[k] = x := by rw [← hx, List.getD_eq_getElem?_getD, List.getElem?_eq_getElem hkl]; rfl
      have hxm : x ∈ ns := by rw [← hxe]; exact List.getElem_mem hkl
      obtain ⟨x0, xP⟩ := HR.out x hxm
      rw [hx] at hc
      by_cases hMx : Mem P Q x
      case neg =>
        have HM := Lib.hid hMx
        have HZ := Lib.hid (show false = v by rw [Bool.eq_iff_iff, HV.out]; exact ⟨fun h => (by cases h), fun h => absurd (h x hxm) hMx⟩)
        clear hMx hx hxe hxm hM hll
        obtain ⟨z0, z1, z2, -⟩ := id F_g.out
        go_wp2_with fail
        clear z0 z1 z2
        refine (member_ok P Q G x false _ HH.out x0 xP ⟨fun h => (by cases h), fun h => absurd h HM.out⟩).mono ?_
        rintro e w3 ⟨rfl, hb3⟩
        replace HBW := Lib.hid (HBW.out.trans (hb3.mono HBW.out.size))
        clear hb3
        go_wp2_with fail
        go_ret
        exact ⟨ret_bool HZ.out, HBW.out⟩
      case pos =>
        have HM := Lib.hid hMx
        have HN := Lib.hid (show ∀ z, z ∈ ns.take (k + 1) → Mem P Q z from fun z hz => by
          rw [List.take_succ_eq_append_getElem hkl, List.mem_append, List.mem_singleton] at hz
          rcases hz with hz | hz
          · exact hM z hz
          · rw [hz, hxe]; exact hMx)
        clear hMx hx hxe hxm hM hll
        obtain ⟨z0, z1, z2, -⟩ := id F_g.out
        go_wp2_with fail
        clear z0 z1 z2
        refine (member_ok P Q G x true _ HH.out x0 xP ⟨fun _ => HM.out, fun _ => rfl⟩).mono ?_
        rintro e w3 ⟨rfl, hb3⟩
        replace F_g := Lib.hid (F_g.out.keep hb3)
        replace HBW := Lib.hid (HBW.out.trans (hb3.mono HBW.out.size))
        clear hb3
        go_wp2_with fail
        go_roundw
        case rel => exact ⟨k + 1, by omega, by go_num, HN.out, F_g.out, HBW.out⟩
        case measure => simp [intOf]; omega
end Go.Proofs.YtlbldpkgnonbpaaDoor
