/- The helpers of the statements of chapter 34: small, is, are, alive, deal. -/
import Derived.Test.YtjfaaicbojnpaaaShG
import Derived.Test.YtjfaaicbojnpaaaShLaw
import Derived.Test.YtjfaaicbojnpaaaLawZ
import Derived.Test.YtjfaaicbojnpaaaValid
namespace Go.Proofs.Ytjfaaicbojnpaaa
open Go.RowKit Num
set_option linter.unusedSimpArgs false
set_option linter.unusedVariables false

theorem ShI.laid (q : IntKind) (w : World) (xs : List Int) (vs : Array Value) (T : TypeId) (s n : Nat) (hs : s = w.heap.size) (hn : n = xs.length) (hv : vs = (xs.map (Value.int q)).toArray) : ShI q (w.alloc (.cells vs T)) (some ⟨s, 0, none⟩) n xs := by
  subst hs hn hv
  refine .inr ⟨_, 0, rfl, rfl, by simp, fun i hi => ?_⟩
  rw [World.cell?_alloc_new]
  simp [hi, List.getD_eq_getElem?_getD]
set_option maxHeartbeats 1000000 in
theorem small_any (w : World) :
    Calls Try.prog 46 #[] w fun e w' => e = .returned (.agg #[.int .u64 23, .int .u64 11, .int .u64 4]) ∧ Below w.heap.size w w' := by
  go_enter Try.func46, Try.ntmps46
  go_wp2_with fail
  exact bodyPost_ret (v := .agg #[.int .u64 23, .int .u64 11, .int .u64 4]) (by simp [results, Try.results46, go_sem]) rfl ⟨rfl, by first | exact (Below.refl _ _).alloc (Nat.le_refl _) _ | exact ((Below.refl _ _).alloc (Nat.le_refl _) _).setCell (by simp) _⟩
set_option maxHeartbeats 1000000 in
theorem is_yes (n : Int) (w : World) :
    Calls Try.prog 40 #[.int .u64 n, .int .i64 0, .int .u64 n] w fun e w' => e = .returned (.bool true) ∧ w = w' := by
  go_enter Try.func40, Try.ntmps40
  go_wp2_with fail
  go_ret
  exact ⟨rfl, rfl⟩
set_option maxHeartbeats 1000000 in
theorem are_yes {a b : Option Addr} {n c d : Nat} {xs : List Int} (w : World) (ha : ShI .u64 w a n xs) (hb : ShI .u64 w b n xs) (hn : n ≤ 10000) :
    Calls Try.prog 44 #[.slice a n c, .int .i64 0, .slice b n d] w fun e w' => e = .returned (.bool true) ∧ Below w.heap.size w w' := by
  go_enter Try.func44, Try.ntmps44
  go_wp2_with fail
  refine (rsame64_any _ ha hb hn).mono ?_
  rintro e w1 ⟨rfl, hb1⟩
  go_wp2_with fail
  go_ret
  exact ⟨rfl, hb1⟩
theorem ex_value : valueS 23 11 4 2 [3, 2] = (7, 0) := by decide +kernel
theorem ex_split : splitS 23 11 4 3 [3, 2] = (0, [18, 16], [5, 7, 9]) := by decide +kernel
theorem ex_key : keyS 23 11 4 2 [18, 16] = (8, 0) := by decide +kernel
theorem ex_weights : weightsS 23 11 4 [1, 3] = (0, [7, 5]) := by decide +kernel
theorem ex_join : joinS 23 11 4 [1, 3] [5, 9] = (3, 0) := by decide +kernel
theorem u_a : ∀ x, x ∈ ([3, 2] : List Int) → U64 x := by simp [U64]
theorem u_b : ∀ x, x ∈ ([18, 16] : List Int) → U64 x := by simp [U64]
theorem u_c : ∀ x, x ∈ ([5, 9] : List Int) → U64 x := by simp [U64]
theorem i_a : ∀ x, x ∈ ([1, 3] : List Int) → I64 x := by simp [I64]

set_option maxRecDepth 100000 in
set_option maxHeartbeats 8000000 in
theorem alive_yes (w : World) :
    Calls Try.prog 37 #[] w fun e w' => e = .returned (.bool true) ∧ Below w.heap.size w w' := by
  have HBW := Lib.hid (show Below w.heap.size w w from Below.refl _ _)
  go_enter Try.func37, Try.ntmps37
  go_wp2_with fail
  refine (small_any _).mono ?_
  rintro e w1 ⟨rfl, hb1⟩
  replace HBW := Lib.hid (HBW.out.trans (hb1.mono HBW.out.size))
  clear hb1
  go_wp2_with fail
  have F_a := Lib.hid (ShI.laid .u64 w1 [3, 2] _ 22 (w1.heap.size) 2 (by simp) rfl rfl)
  replace HBW := Lib.hid (HBW.out.alloc HBW.out.size (.cells #[.int .u64 3, .int .u64 2] 22))
  refine (sValue_any _ (by decide) (by decide) (by decide) (by decide) (by decide) F_a.out (by decide) u_a ex_value).mono ?_
  rintro e w2 ⟨rfl, hb2⟩
  replace F_a := Lib.hid (F_a.out.keep hb2)
  replace HBW := Lib.hid (HBW.out.trans (hb2.mono HBW.out.size))
  clear hb2
  clear F_a
  go_wp2_with fail
  refine (small_any _).mono ?_
  rintro e w3 ⟨rfl, hb3⟩
  replace HBW := Lib.hid (HBW.out.trans (hb3.mono HBW.out.size))
  clear hb3
  go_wp2_with fail
  have F_b := Lib.hid (ShI.laid .u64 w3 [3, 2] _ 22 (w3.heap.size) 2 (by simp) rfl rfl)
  replace HBW := Lib.hid (HBW.out.alloc HBW.out.size (.cells #[.int .u64 3, .int .u64 2] 22))
  refine (sSplit_any _ (by decide) (by decide) (by decide) (by decide) (by decide) F_b.out (by decide) u_a ex_split).mono ?_
  rintro e w4 ⟨v1, v2, rfl, ho1, ho2, hb4⟩
  replace F_b := Lib.hid (F_b.out.keep hb4)
  replace HBW := Lib.hid (HBW.out.trans (hb4.mono HBW.out.size))
  clear hb4
  obtain ⟨b1, e1, rfl, hs1⟩ := ho1.shI
  obtain ⟨b2, e2, rfl, hs2⟩ := ho2.shI
  have F_p := Lib.hid hs1
  have F_q := Lib.hid hs2
  clear ho1 ho2 hs1 hs2
  clear F_b
  replace F_p := Lib.hid (F_p.out.alloc (.cells #[.slice b1 2 e1, .slice b2 3 e2] 27))
  replace F_q := Lib.hid (F_q.out.alloc (.cells #[.slice b1 2 e1, .slice b2 3 e2] 27))
  have F_d := Lib.hid (DealBox.at w4 (.slice b1 2 e1) (.slice b2 3 e2) 27 (w4.heap.size) (by simp))
  replace HBW := Lib.hid (HBW.out.alloc HBW.out.size (.cells #[.slice b1 2 e1, .slice b2 3 e2] 27))
  obtain ⟨x2a, x2b, x2c, x2d, -⟩ := id F_d.out
  go_wp2_with fail
  clear x2a x2b x2c x2d
  refine (small_any _).mono ?_
  rintro e w5 ⟨rfl, hb5⟩
  replace F_p := Lib.hid (F_p.out.keep hb5)
  replace F_q := Lib.hid (F_q.out.keep hb5)
  replace F_d := Lib.hid (F_d.out.keep hb5)
  replace HBW := Lib.hid (HBW.out.trans (hb5.mono HBW.out.size))
  clear hb5
  obtain ⟨x2a, x2b, x2c, x2d, -⟩ := id F_d.out
  go_wp2_with fail
  clear x2a x2b x2c x2d
  replace F_p := Lib.hid (F_p.out.alloc (.cells #[.int .u64 18, .int .u64 16] 22))
  replace F_q := Lib.hid (F_q.out.alloc (.cells #[.int .u64 18, .int .u64 16] 22))
  replace F_d := Lib.hid (F_d.out.alloc (.cells #[.int .u64 18, .int .u64 16] 22))
  have F_c := Lib.hid (ShI.laid .u64 w5 [18, 16] _ 22 (w5.heap.size) 2 (by simp) rfl rfl)
  replace HBW := Lib.hid (HBW.out.alloc HBW.out.size (.cells #[.int .u64 18, .int .u64 16] 22))
  refine (sKey_any _ (by decide) (by decide) (by decide) (by decide) (by decide) F_c.out (by decide) u_b ex_key).mono ?_
  rintro e w6 ⟨rfl, hb6⟩
  replace F_p := Lib.hid (F_p.out.keep hb6)
  replace F_q := Lib.hid (F_q.out.keep hb6)
  replace F_d := Lib.hid (F_d.out.keep hb6)
  replace F_c := Lib.hid (F_c.out.keep hb6)
  replace HBW := Lib.hid (HBW.out.trans (hb6.mono HBW.out.size))
  clear hb6
  clear F_c
  obtain ⟨x2a, x2b, x2c, x2d, -⟩ := id F_d.out
  go_wp2_with fail
  clear x2a x2b x2c x2d
  refine (small_any _).mono ?_
  rintro e w7 ⟨rfl, hb7⟩
  replace F_p := Lib.hid (F_p.out.keep hb7)
  replace F_q := Lib.hid (F_q.out.keep hb7)
  replace F_d := Lib.hid (F_d.out.keep hb7)
  replace HBW := Lib.hid (HBW.out.trans (hb7.mono HBW.out.size))
  clear hb7
  obtain ⟨x2a, x2b, x2c, x2d, -⟩ := id F_d.out
  go_wp2_with fail
  clear x2a x2b x2c x2d
  replace F_p := Lib.hid (F_p.out.alloc (.cells #[.int .i64 1, .int .i64 3] 3))
  replace F_q := Lib.hid (F_q.out.alloc (.cells #[.int .i64 1, .int .i64 3] 3))
  replace F_d := Lib.hid (F_d.out.alloc (.cells #[.int .i64 1, .int .i64 3] 3))
  have F_e := Lib.hid (ShI.laid .i64 w7 [1, 3] _ 3 (w7.heap.size) 2 (by simp) rfl rfl)
  replace HBW := Lib.hid (HBW.out.alloc HBW.out.size (.cells #[.int .i64 1, .int .i64 3] 3))
  refine (sweights_any _ (by decide) (by decide) (by decide) F_e.out (by decide) i_a ex_weights).mono ?_
  rintro e w8 ⟨v0, rfl, ho, hb8⟩
  replace F_p := Lib.hid (F_p.out.keep hb8)
  replace F_q := Lib.hid (F_q.out.keep hb8)
  replace F_d := Lib.hid (F_d.out.keep hb8)
  replace F_e := Lib.hid (F_e.out.keep hb8)
  replace HBW := Lib.hid (HBW.out.trans (hb8.mono HBW.out.size))
  clear hb8
  obtain ⟨b3, e3, rfl, hs3⟩ := ho.shI
  have F_w := Lib.hid hs3
  clear ho hs3
  clear F_e
  obtain ⟨x2a, x2b, x2c, x2d, -⟩ := id F_d.out
  go_wp2_with fail
  clear x2a x2b x2c x2d
  refine (small_any _).mono ?_
  rintro e w9 ⟨rfl, hb9⟩
  replace F_p := Lib.hid (F_p.out.keep hb9)
  replace F_q := Lib.hid (F_q.out.keep hb9)
  replace F_d := Lib.hid (F_d.out.keep hb9)
  replace F_w := Lib.hid (F_w.out.keep hb9)
  replace HBW := Lib.hid (HBW.out.trans (hb9.mono HBW.out.size))
  clear hb9
  obtain ⟨x2a, x2b, x2c, x2d, -⟩ := id F_d.out
  go_wp2_with fail
  clear x2a x2b x2c x2d
  replace F_p := Lib.hid (F_p.out.alloc (.cells #[.int .i64 1, .int .i64 3] 3))
  replace F_q := Lib.hid (F_q.out.alloc (.cells #[.int .i64 1, .int .i64 3] 3))
  replace F_d := Lib.hid (F_d.out.alloc (.cells #[.int .i64 1, .int .i64 3] 3))
  replace F_w := Lib.hid (F_w.out.alloc (.cells #[.int .i64 1, .int .i64 3] 3))
  have F_f := Lib.hid (ShI.laid .i64 w9 [1, 3] _ 3 (w9.heap.size) 2 (by simp) rfl rfl)
  replace HBW := Lib.hid (HBW.out.alloc HBW.out.size (.cells #[.int .i64 1, .int .i64 3] 3))
  replace F_p := Lib.hid (F_p.out.alloc (.cells #[.int .u64 5, .int .u64 9] 22))
  replace F_q := Lib.hid (F_q.out.alloc (.cells #[.int .u64 5, .int .u64 9] 22))
  replace F_d := Lib.hid (F_d.out.alloc (.cells #[.int .u64 5, .int .u64 9] 22))
  replace F_w := Lib.hid (F_w.out.alloc (.cells #[.int .u64 5, .int .u64 9] 22))
  replace F_f := Lib.hid (F_f.out.alloc (.cells #[.int .u64 5, .int .u64 9] 22))
  have F_g := Lib.hid (ShI.laid .u64 (w9.alloc (.cells #[.int .i64 1, .int .i64 3] 3)) [5, 9] _ 22 (w9.heap.size + 1) 2 (by simp) rfl rfl)
  replace HBW := Lib.hid (HBW.out.alloc HBW.out.size (.cells #[.int .u64 5, .int .u64 9] 22))
  refine (sJoin_any _ (by decide) (by decide) (by decide) F_f.out (by decide) i_a F_g.out (by decide) u_c ex_join).mono ?_
  rintro e w10 ⟨rfl, hb10⟩
  replace F_p := Lib.hid (F_p.out.keep hb10)
  replace F_q := Lib.hid (F_q.out.keep hb10)
  replace F_d := Lib.hid (F_d.out.keep hb10)
  replace F_w := Lib.hid (F_w.out.keep hb10)
  replace F_f := Lib.hid (F_f.out.keep hb10)
  replace F_g := Lib.hid (F_g.out.keep hb10)
  replace HBW := Lib.hid (HBW.out.trans (hb10.mono HBW.out.size))
  clear hb10
  clear F_f
  clear F_g
  obtain ⟨x2a, x2b, x2c, x2d, -⟩ := id F_d.out
  go_wp2_with fail
  clear x2a x2b x2c x2d
  refine (is_yes 7 _).mono ?_
  rintro e w11 ⟨rfl, rfl⟩
  obtain ⟨x2a, x2b, x2c, x2d, -⟩ := id F_d.out
  go_wp2_with fail
  clear x2a x2b x2c x2d
  replace F_p := Lib.hid (F_p.out.alloc (.cells #[.int .u64 18, .int .u64 16] 22))
  replace F_q := Lib.hid (F_q.out.alloc (.cells #[.int .u64 18, .int .u64 16] 22))
  replace F_d := Lib.hid (F_d.out.alloc (.cells #[.int .u64 18, .int .u64 16] 22))
  replace F_w := Lib.hid (F_w.out.alloc (.cells #[.int .u64 18, .int .u64 16] 22))
  have F_h := Lib.hid (ShI.laid .u64 w10 [18, 16] _ 22 (w10.heap.size) 2 (by simp) rfl rfl)
  replace HBW := Lib.hid (HBW.out.alloc HBW.out.size (.cells #[.int .u64 18, .int .u64 16] 22))
  refine (are_yes _ F_p.out F_h.out (by decide)).mono ?_
  rintro e w12 ⟨rfl, hb12⟩
  replace F_p := Lib.hid (F_p.out.keep hb12)
  replace F_q := Lib.hid (F_q.out.keep hb12)
  replace F_d := Lib.hid (F_d.out.keep hb12)
  replace F_w := Lib.hid (F_w.out.keep hb12)
  replace F_h := Lib.hid (F_h.out.keep hb12)
  replace HBW := Lib.hid (HBW.out.trans (hb12.mono HBW.out.size))
  clear hb12
  clear F_h
  obtain ⟨x2a, x2b, x2c, x2d, -⟩ := id F_d.out
  go_wp2_with fail
  clear x2a x2b x2c x2d
  replace F_p := Lib.hid (F_p.out.alloc (.cells #[.int .u64 5, .int .u64 7, .int .u64 9] 22))
  replace F_q := Lib.hid (F_q.out.alloc (.cells #[.int .u64 5, .int .u64 7, .int .u64 9] 22))
  replace F_d := Lib.hid (F_d.out.alloc (.cells #[.int .u64 5, .int .u64 7, .int .u64 9] 22))
  replace F_w := Lib.hid (F_w.out.alloc (.cells #[.int .u64 5, .int .u64 7, .int .u64 9] 22))
  have F_k := Lib.hid (ShI.laid .u64 w12 [5, 7, 9] _ 22 (w12.heap.size) 3 (by simp) rfl rfl)
  replace HBW := Lib.hid (HBW.out.alloc HBW.out.size (.cells #[.int .u64 5, .int .u64 7, .int .u64 9] 22))
  refine (are_yes _ F_q.out F_k.out (by decide)).mono ?_
  rintro e w13 ⟨rfl, hb13⟩
  replace F_p := Lib.hid (F_p.out.keep hb13)
  replace F_q := Lib.hid (F_q.out.keep hb13)
  replace F_d := Lib.hid (F_d.out.keep hb13)
  replace F_w := Lib.hid (F_w.out.keep hb13)
  replace F_k := Lib.hid (F_k.out.keep hb13)
  replace HBW := Lib.hid (HBW.out.trans (hb13.mono HBW.out.size))
  clear hb13
  clear F_k
  obtain ⟨x2a, x2b, x2c, x2d, -⟩ := id F_d.out
  go_wp2_with fail
  clear x2a x2b x2c x2d
  refine (is_yes 8 _).mono ?_
  rintro e w14 ⟨rfl, rfl⟩
  obtain ⟨x2a, x2b, x2c, x2d, -⟩ := id F_d.out
  go_wp2_with fail
  clear x2a x2b x2c x2d
  replace F_p := Lib.hid (F_p.out.alloc (.cells #[.int .u64 7, .int .u64 5] 22))
  replace F_q := Lib.hid (F_q.out.alloc (.cells #[.int .u64 7, .int .u64 5] 22))
  replace F_d := Lib.hid (F_d.out.alloc (.cells #[.int .u64 7, .int .u64 5] 22))
  replace F_w := Lib.hid (F_w.out.alloc (.cells #[.int .u64 7, .int .u64 5] 22))
  have F_l := Lib.hid (ShI.laid .u64 w13 [7, 5] _ 22 (w13.heap.size) 2 (by simp) rfl rfl)
  replace HBW := Lib.hid (HBW.out.alloc HBW.out.size (.cells #[.int .u64 7, .int .u64 5] 22))
  refine (are_yes _ F_w.out F_l.out (by decide)).mono ?_
  rintro e w15 ⟨rfl, hb15⟩
  replace F_p := Lib.hid (F_p.out.keep hb15)
  replace F_q := Lib.hid (F_q.out.keep hb15)
  replace F_d := Lib.hid (F_d.out.keep hb15)
  replace F_w := Lib.hid (F_w.out.keep hb15)
  replace F_l := Lib.hid (F_l.out.keep hb15)
  replace HBW := Lib.hid (HBW.out.trans (hb15.mono HBW.out.size))
  clear hb15
  clear F_l
  obtain ⟨x2a, x2b, x2c, x2d, -⟩ := id F_d.out
  go_wp2_with fail
  clear x2a x2b x2c x2d
  refine (is_yes 3 _).mono ?_
  rintro e w16 ⟨rfl, rfl⟩
  obtain ⟨x2a, x2b, x2c, x2d, -⟩ := id F_d.out
  go_wp2_with fail
  go_ret
  exact ⟨rfl, HBW.out⟩
end Go.Proofs.Ytjfaaicbojnpaaa
