/- ElgamalOrder: the sum has an error. -/
import Derived.Test.YtffefhldfnfohaaAux32
import Derived.Test.YtffefhldfnfohaaSumRE
import Derived.Test.YtffefhldfnfohaaLawL
import Derived.Test.YtffefhldfnfohaaOrderH
namespace Go.Proofs.Ytffefhldfnfohaa.lawOrder
open Go.RowKit Num
set_option linter.unusedSimpArgs false
set_option linter.unusedVariables false
set_option maxRecDepth 100000 in
set_option maxHeartbeats 8000000 in
theorem walkE (P Q G : Int) (la : Option Addr) (n lc : Nat) (ps : List (Int × Int)) (m : Nat) (w : World) (uP : U64 P) (uQ : U64 Q) (uG : U64 G) (hS : ShS w la n ps) (hN : ∀ q, q ∈ ps → U64 q.1 ∧ U64 q.2) (hc : la = none → lc = 0) (hlc : n ≤ lc) (hn : n ≤ 100) (hmn : m ≤ n) {x y e : Int} (hM : SumS P Q G ps x y e) (he : e ≠ 0) :
    Calls Try.prog 4 #[.agg #[.int .u64 P, .int .u64 Q, .int .u64 G], .slice la n lc, .int .i64 (m : Int)] w fun e w' => e = .returned (.bool true) ∧ Below w.heap.size w w' := by
  have hP := uP.1
  have hQ := uQ.1
  have hG := uG.1
  have HS := Lib.hid hS
  have HN := Lib.hid (show ∀ p, p ∈ ps → 0 ≤ p.1 ∧ 0 ≤ p.2 from fun p hp => ⟨(hN p hp).1.1, (hN p hp).2.1⟩)
  have HLN := Lib.hid hS.len
  have HM := Lib.hid hM
  have hn_ : decide ((100 : Int) < (n : Int)) = false := by first | (simp; omega) | simp
  have h0 : (0 : Int) ≤ (m : Int) := by omega
  have h1 : (m : Int) ≤ (n : Int) := by omega
  clear hS hN hM
  have F_g := Lib.hid (show Boxed (w.alloc (.cells #[.int .u64 P, .int .u64 Q, .int .u64 G] 24)) (w.heap.size) P Q G from Boxed.at _ P Q G _ (w.heap.size) (by simp))
  have HBW := Lib.hid (show Below w.heap.size w (w.alloc (.cells #[.int .u64 P, .int .u64 Q, .int .u64 G] 24)) from (Below.refl _ _).alloc (by simp <;> omega) _)
  go_enter Try.func4, Try.ntmps4
  obtain ⟨x0a, x0b, x0c, -⟩ := id F_g.out
  go_wp2_with fail
  clear x0a x0b x0c
  refine (alive_yes _).mono ?_
  rintro e w1 ⟨rfl, hb1⟩
  replace F_g := Lib.hid (F_g.out.keep hb1)
  replace HBW := Lib.hid (HBW.out.trans (hb1.mono HBW.out.size))
  clear hb1
  obtain ⟨x0a, x0b, x0c, -⟩ := id F_g.out
  go_wp2_with fail
  clear x0a x0b x0c
  obtain ⟨i0, hi, hz0, hz1', hz2⟩ := info_parts (P := Try.prog) (e := 26) (z := .agg #[.int .u64 0, .int .u64 0]) (size := 2) (bytes := 16) (by kernel_rfl)
  have HBW0 := Lib.hid HBW.out
  have hz1 := F_g.out.lt
  go_loopw [8, 9] (fun c8 c9 wr => ∃ j : Nat, j ≤ n ∧ c9 = .int .i64 ((j : Int) - 1) ∧ Hid (TurnIn w w1 wr ps n j c8)) (fun _ c9 _ => (intOf c9 + 1).toNat)
  case atStart => exact ⟨n, Nat.le_refl _, by go_num, ⟨by rw [Nat.sub_self, List.drop_of_length_le (by rw [← HLN.out]; exact Nat.le_refl _)]; exact World.ownsRow_nil _ _ _ _, Below.refl _ _⟩⟩
  case round =>
    obtain ⟨j, hj, rfl, HK⟩ := hrel
    cases j with
    | zero =>
      have e9 : ((0 : Nat) : Int) - 1 = -1 := rfl
      rw [e9]
      have HBW := Lib.hid (HBW0.out.trans (HK.out.bel.mono (Nat.le_succ _)))
      have F_g := Lib.hid (boxed_under F_g.out HK.out.bel (Nat.lt_succ_self _) hz1)
      have hback := ShS.of_owned (ps := ps.reverse) HK.out.own
      obtain ⟨ba, bc, hv8, hbk⟩ := hback
      have F_bk := Lib.hid hbk
      subst hv8
      have hzr := HBW.out.size
      have HNR := Lib.hid (show ∀ p, p ∈ ps.reverse → 0 ≤ p.1 ∧ 0 ≤ p.2 from fun p hp => HN.out p (List.mem_reverse.1 hp))
      have HMR := Lib.hid (HM.out.perm (List.reverse_perm ps).symm)
      clear HK hbk e9 HBW0
      have hne : (e != 0) = true := by simpa using he
      clear he
      obtain ⟨x0a, x0b, x0c, -⟩ := id F_g.out
      go_wp2_with fail
      clear x0a x0b x0c
      refine (esum_any _ hP hQ hG (HS.out.keep HBW.out) HN.out HM.out).mono ?_
      rintro e w11 ⟨rfl, hb11⟩
      replace F_g := Lib.hid (F_g.out.keep hb11)
      replace F_bk := Lib.hid (F_bk.out.keep hb11)
      replace HBW := Lib.hid (HBW.out.trans (hb11.mono HBW.out.size))
      clear hb11
      replace F_g := Lib.hid (F_g.out.alloc (.cells #[.int .u64 x, .int .u64 y] 26))
      replace F_bk := Lib.hid (F_bk.out.alloc (.cells #[.int .u64 x, .int .u64 y] 26))
      have F_a := Lib.hid (Pair.new w11 x y 26)
      replace HBW := Lib.hid (HBW.out.alloc HBW.out.size (.cells #[.int .u64 x, .int .u64 y] 26))
      obtain ⟨x0a, x0b, x0c, -⟩ := id F_g.out
      obtain ⟨x2a, x2b, x2c, x2d, -⟩ := id F_a.out
      go_wp2_with fail
      clear x0a x0b x0c x2a x2b x2c x2d
      refine (esum_any _ hP hQ hG F_bk.out HNR.out HMR.out).mono ?_
      rintro e w12 ⟨rfl, hb12⟩
      replace F_g := Lib.hid (F_g.out.keep hb12)
      replace F_bk := Lib.hid (F_bk.out.keep hb12)
      replace F_a := Lib.hid (F_a.out.keep hb12)
      replace HBW := Lib.hid (HBW.out.trans (hb12.mono HBW.out.size))
      clear hb12
      replace F_g := Lib.hid (F_g.out.alloc (.cells #[.int .u64 x, .int .u64 y] 26))
      replace F_bk := Lib.hid (F_bk.out.alloc (.cells #[.int .u64 x, .int .u64 y] 26))
      replace F_a := Lib.hid (F_a.out.alloc (.cells #[.int .u64 x, .int .u64 y] 26))
      have F_b := Lib.hid (Pair.new w12 x y 26)
      replace HBW := Lib.hid (HBW.out.alloc HBW.out.size (.cells #[.int .u64 x, .int .u64 y] 26))
      clear F_bk
      obtain ⟨x0a, x0b, x0c, -⟩ := id F_g.out
      obtain ⟨x1a, x1b, x1c, x1d, -⟩ := id F_a.out
      obtain ⟨x2a, x2b, x2c, x2d, -⟩ := id F_b.out
      go_wp2_with fail
      go_ret
      exact ⟨rfl, HBW.out⟩
    | succ j =>
      have hjn : j < n := by omega
      have hjl : j < ps.length := by have := HLN.out; omega
      have e9 : ((j + 1 : Nat) : Int) - 1 = (j : Int) := by omega
      rw [e9]
      have HBW := Lib.hid (HBW0.out.trans (HK.out.bel.mono (Nat.le_succ _)))
      have F_g := Lib.hid (boxed_under F_g.out HK.out.bel (Nat.lt_succ_self _) hz1)
      obtain ⟨s, o, hsa, hsl, d0, d1⟩ := (HS.out.keep HBW.out).at j hjn
      obtain ⟨u, v, huv⟩ : ∃ u v, ps.getD j (0, 0) = (u, v) := ⟨_, _, rfl⟩
      rw [huv] at d0 d1
      have HT := Lib.hid (drop_turn hjl huv)
      have HO := Lib.hid HK.out.own
      have HBL := Lib.hid HK.out.bel
      have hk0 : (0 : Int) ≤ (j : Int) := by omega
      have hk1 : (j : Int) < (n : Int) := by omega
      have hzr := HBW.out.size
      have hzb := HBL.out.size
      have c26 : Try.prog.cellsOf 26 = 2 := by kernel_rfl
      have hn48 : n - (j + 1) + 1 ≤ 101 := by omega
      clear huv HK e9
      subst hsa
      go_wp2_with (at_builtin; refine wpList_append_own _ rfl _ _ 27 rfl (w.heap.size + 1) 26 i0 (.agg #[.int .u64 0, .int .u64 0]) 2 16 Try.underlying27 hi hz0 hz1' hz2 rfl (by decide) _ _ _ rfl (HO.out.alloc _) ⟨wr.heap.size, 0, none⟩ 1 1 [.int .u64 u, .int .u64 v] rfl rfl (cell_pair_new _ _ _ _) (fun z hz => by simp at hz; rcases hz with rfl | rfl <;> rfl) (by unfold maxLen; omega) (by omega) (by simp; omega) ?_; intro v' w3 hown hgr hnil
                   have HO3 := Lib.hid hown
                   have HB3 := Lib.hid (Below.grown (HBL.out.alloc (by omega) _) hgr (by simp; omega) (fun k hk => (HO.out.lt k hk).1))
                   clear hown hgr hnil)
      go_roundw
      case rel => exact ⟨j, by omega, by go_num, ⟨by rw [HT.out, show n - j = n - (j + 1) + 1 by omega]; exact HO3.out, HB3.out⟩⟩
      case measure => first | (simp [intOf]; omega) | simp [intOf]
end Go.Proofs.Ytffefhldfnfohaa.lawOrder
