/- The helpers of the statements of chapter 31: small, is, alive, member. -/
import Derived.Test.YtanlnhjjdiaphaaDoorSchB
import Derived.Test.YtanlnhjjdiaphaaDoorLawZ
namespace Go.Proofs.YtanlnhjjdiaphaaDoor
open Go.RowKit Num
set_option linter.unusedSimpArgs false
set_option linter.unusedVariables false

set_option maxHeartbeats 400000 in
theorem small_any (w : World) :
    Calls Tryd.prog 18 #[] w fun e w' => e = .returned (.agg #[.int .u64 23, .int .u64 11, .int .u64 4]) ∧ Below w.heap.size w w' := by
  go_enter Tryd.func18, Tryd.ntmps18
  go_wp2
  exact bodyPost_ret (v := .agg #[.int .u64 23, .int .u64 11, .int .u64 4]) (by simp [results, Tryd.results18, go_sem]) rfl ⟨rfl, (Below.refl _ _).alloc (Nat.le_refl _) _⟩
set_option maxHeartbeats 400000 in
theorem is_yes (a : Int) (w : World) :
    Calls Tryd.prog 35 #[.int .u64 a, .int .i64 0, .int .u64 a] w fun e w' => e = .returned (.bool true) ∧ w = w' := by
  go_enter Tryd.func35, Tryd.ntmps35
  go_wp2
  go_ret
  exact ⟨rfl, rfl⟩
theorem pkS1 : RetS (keyS 23 11 4 3) (powm 4 3 23) 18 0 := .inl ⟨keyS_ok has_small (by omega) (by omega), (powm_nat 4 3 23 18 (by decide)).symm, rfl⟩
theorem respS1 : RetS (askS 23 11 4 [3, 5, 2] []) ((5 + 2 * 3 % 11) % 11) 0 0 := .inl ⟨askS_ok has_small (by simp) (by simp), by decide, rfl⟩
theorem holdS1 : RetB (askS 23 11 4 [2, 0] [18, 12]) (powm 4 0 23 = 12 * powm 18 2 23 % 23) true 0 := by
  have h1 : powm 4 0 23 = 1 := powm_nat 4 0 23 1 (by decide)
  have h2 : powm 18 2 23 = 2 := powm_nat 18 2 23 2 (by decide)
  exact .inl ⟨askS_ok has_small (by simp) (by simp), by rw [h1, h2]; simp, rfl⟩
theorem extS1 : ExtS 23 11 4 2 0 4 6 3 0 := .inl ⟨askS_ok has_small (by simp) (by simp), true, 5, invS_of (by omega) (by omega) (by decide), .inl ⟨rfl, by decide, rfl⟩⟩

set_option maxRecDepth 100000 in
set_option maxHeartbeats 6400000 in
theorem alive_yes (w : World) :
    Calls Tryd.prog 14 #[] w fun e w' => e = .returned (.bool true) ∧ Below w.heap.size w w' := by
  have HBW := Lib.hid (show Below w.heap.size w w from Below.refl _ _)
  go_enter Tryd.func14, Tryd.ntmps14
  go_wp2_with fail
  refine (small_any _).mono ?_
  rintro e w1 ⟨rfl, hb1⟩
  replace HBW := Lib.hid (HBW.out.trans (hb1.mono HBW.out.size))
  clear hb1
  go_wp2_with fail
  refine (spk_any _ (by decide) (by decide) (by decide) ⟨by decide, by decide⟩ pkS1).mono ?_
  rintro e w2 ⟨rfl, hb2⟩
  replace HBW := Lib.hid (HBW.out.trans (hb2.mono HBW.out.size))
  clear hb2
  go_wp2_with fail
  refine (small_any _).mono ?_
  rintro e w3 ⟨rfl, hb3⟩
  replace HBW := Lib.hid (HBW.out.trans (hb3.mono HBW.out.size))
  clear hb3
  go_wp2_with fail
  refine (srespond_any _ (by decide) (by decide) (by decide) (by decide) (by decide) (by decide) respS1).mono ?_
  rintro e w4 ⟨rfl, hb4⟩
  replace HBW := Lib.hid (HBW.out.trans (hb4.mono HBW.out.size))
  clear hb4
  go_wp2_with fail
  refine (small_any _).mono ?_
  rintro e w5 ⟨rfl, hb5⟩
  replace HBW := Lib.hid (HBW.out.trans (hb5.mono HBW.out.size))
  clear hb5
  go_wp2_with fail
  refine (sholds_any _ (by decide) (by decide) (by decide) (by decide) (by decide) (by decide) (by decide) holdS1).mono ?_
  rintro e w6 ⟨rfl, hb6⟩
  replace HBW := Lib.hid (HBW.out.trans (hb6.mono HBW.out.size))
  clear hb6
  go_wp2_with fail
  refine (small_any _).mono ?_
  rintro e w7 ⟨rfl, hb7⟩
  replace HBW := Lib.hid (HBW.out.trans (hb7.mono HBW.out.size))
  clear hb7
  go_wp2_with fail
  refine (sextract_any _ (by decide) (by decide) (by decide) (by decide) (by decide) (by decide) (by decide) extS1).mono ?_
  rintro e w8 ⟨rfl, hb8⟩
  replace HBW := Lib.hid (HBW.out.trans (hb8.mono HBW.out.size))
  clear hb8
  go_wp2_with fail
  refine (is_yes 18 _).mono ?_
  rintro e w9 ⟨rfl, rfl⟩
  go_wp2_with fail
  refine (is_yes 0 _).mono ?_
  rintro e w10 ⟨rfl, rfl⟩
  go_wp2_with fail
  refine (is_yes 3 _).mono ?_
  rintro e w11 ⟨rfl, rfl⟩
  go_wp2_with fail
  go_ret
  exact ⟨rfl, HBW.out⟩

end Go.Proofs.YtanlnhjjdiaphaaDoor
