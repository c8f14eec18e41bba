/- ShamirMerges: the statement: for every input the law returns true, and the arguments read as before. -/
import Derived.Test.YtjfaaicbojnpaaaMg2
import Derived.Test.YtjfaaicbojnpaaaOpen
import Derived.Test.YtjfaaicbojnpaaaRows
namespace Go.Proofs.Ytjfaaicbojnpaaa.lawMerges
open Go.ChangeShapes Go.WideShapes Go.ChangeAt Go.RowKit Num
set_option linter.unusedSimpArgs false
set_option linter.unusedVariables false

set_option maxRecDepth 100000 in
set_option maxHeartbeats 12800000 in
theorem walk (P Q G : Int) (a : Option Addr) (n c : Nat) (xs : List Int) (b : Option Addr) (m d : Nat) (ys : List Int) (i : Int) (w : World) (uP : U64 P) (uQ : U64 Q) (uG : U64 G) (hS1 : ShI .u64 w a n xs) (hx1 : ∀ x, x ∈ xs → U64 x) (hc1 : a = none → c = 0) (hd1' : n ≤ c) (hS2 : ShI .u64 w b m ys) (hx2 : ∀ x, x ∈ ys → U64 x) (hc2 : b = none → d = 0) (hd2' : m ≤ d) (il : -9223372036854775808 ≤ i) (iu : i ≤ 9223372036854775807) :
    Calls Try.prog 11 #[.agg #[.int .u64 P, .int .u64 Q, .int .u64 G], .slice a n c, .slice b m d, .int .i64 i] w fun e w' => e = .returned (.bool true) ∧ Below w.heap.size w w' := by
  have hP := uP.1
  have hQ := uQ.1
  have hG := uG.1
  obtain ⟨ui, hui, huz0, huz1, huz2⟩ := info_parts (P := Try.prog) (e := 22) (z := .int .u64 0) (size := 1) (bytes := 8) (by kernel_rfl)
  have HS1 := Lib.hid hS1
  have HX1 := Lib.hid hx1
  have HS2 := Lib.hid hS2
  have HX2 := Lib.hid hx2
  have HL1 := Lib.hid hS1.len
  have HL2 := Lib.hid hS2.len
  obtain ⟨co, hv⟩ := ValidS.exists P Q G
  obtain ⟨b1, ps1, ss1, hd1⟩ : ∃ b ps ss, dealS co P Q G i xs = (b, ps, ss) := ⟨_, _, _, rfl⟩
  obtain ⟨b2, ps2, ss2, hd2⟩ : ∃ b ps ss, dealS co P Q G i ys = (b, ps, ss) := ⟨_, _, _, rfl⟩
  have HV := Lib.hid hv
  have HD1 := Lib.hid hd1
  have HD2 := Lib.hid hd2
  cases b1 with
  | false =>
    clear hS1 hx1 hS2 hx2 hv hd1 hd2
    have F_g := Lib.hid (show Boxed (w.alloc (.cells #[.int .u64 P, .int .u64 Q, .int .u64 G] 24)) (w.heap.size) P Q G from Boxed.at _ P Q G _ (w.heap.size) (by simp))
    have HBW := Lib.hid (show Below w.heap.size w (w.alloc (.cells #[.int .u64 P, .int .u64 Q, .int .u64 G] 24)) from (Below.refl _ _).alloc (by simp <;> omega) _)
    go_enter Try.func11, Try.ntmps11
    obtain ⟨x0a, x0b, x0c, -⟩ := id F_g.out
    go_wp2_with fail
    clear x0a x0b x0c
    refine (alive_yes _).mono ?_
    rintro e w1 ⟨rfl, hb1⟩
    replace F_g := Lib.hid (F_g.out.keep hb1)
    replace HBW := Lib.hid (HBW.out.trans (hb1.mono HBW.out.size))
    clear hb1
    obtain ⟨x0a, x0b, x0c, -⟩ := id F_g.out
    go_wp2_with fail
    clear x0a x0b x0c
    refine (deal_any _ hP hQ hG il iu (HS1.out.keep HBW.out) HX1.out HV.out HD1.out).mono ?_
    rintro e w2 ⟨v1, v2, rfl, ho1, ho2, hb2⟩
    replace F_g := Lib.hid (F_g.out.keep hb2)
    replace HBW := Lib.hid (HBW.out.trans (hb2.mono HBW.out.size))
    clear hb2
    obtain ⟨k1, ke1, rfl, hs1⟩ := ho1.shI
    obtain ⟨k2, ke2, rfl, hs2⟩ := ho2.shI
    have F_kp := Lib.hid hs1
    have F_kq := Lib.hid hs2
    clear ho1 ho2 hs1 hs2
    replace F_g := Lib.hid (F_g.out.alloc (.cells #[.slice k1 ps1.length ke1, .slice k2 ss1.length ke2] 27))
    replace F_kp := Lib.hid (F_kp.out.alloc (.cells #[.slice k1 ps1.length ke1, .slice k2 ss1.length ke2] 27))
    replace F_kq := Lib.hid (F_kq.out.alloc (.cells #[.slice k1 ps1.length ke1, .slice k2 ss1.length ke2] 27))
    have F_k := Lib.hid (DealBox.at w2 (.slice k1 ps1.length ke1) (.slice k2 ss1.length ke2) 27 (w2.heap.size) (by simp))
    replace HBW := Lib.hid (HBW.out.alloc HBW.out.size (.cells #[.slice k1 ps1.length ke1, .slice k2 ss1.length ke2] 27))
    obtain ⟨x0a, x0b, x0c, -⟩ := id F_g.out
    obtain ⟨x3a, x3b, x3c, x3d, -⟩ := id F_k.out
    go_wp2_with fail
    clear x0a x0b x0c x3a x3b x3c x3d
    refine (deal_any _ hP hQ hG il iu (HS2.out.keep HBW.out) HX2.out HV.out HD2.out).mono ?_
    rintro e w3 ⟨v1, v2, rfl, ho1, ho2, hb3⟩
    replace F_g := Lib.hid (F_g.out.keep hb3)
    replace F_kp := Lib.hid (F_kp.out.keep hb3)
    replace F_kq := Lib.hid (F_kq.out.keep hb3)
    replace F_k := Lib.hid (F_k.out.keep hb3)
    replace HBW := Lib.hid (HBW.out.trans (hb3.mono HBW.out.size))
    clear hb3
    obtain ⟨l1, le1, rfl, hs1⟩ := ho1.shI
    obtain ⟨l2, le2, rfl, hs2⟩ := ho2.shI
    have F_lp := Lib.hid hs1
    have F_lq := Lib.hid hs2
    clear ho1 ho2 hs1 hs2
    replace F_g := Lib.hid (F_g.out.alloc (.cells #[.slice l1 ps2.length le1, .slice l2 ss2.length le2] 27))
    replace F_kp := Lib.hid (F_kp.out.alloc (.cells #[.slice l1 ps2.length le1, .slice l2 ss2.length le2] 27))
    replace F_kq := Lib.hid (F_kq.out.alloc (.cells #[.slice l1 ps2.length le1, .slice l2 ss2.length le2] 27))
    replace F_k := Lib.hid (F_k.out.alloc (.cells #[.slice l1 ps2.length le1, .slice l2 ss2.length le2] 27))
    replace F_lp := Lib.hid (F_lp.out.alloc (.cells #[.slice l1 ps2.length le1, .slice l2 ss2.length le2] 27))
    replace F_lq := Lib.hid (F_lq.out.alloc (.cells #[.slice l1 ps2.length le1, .slice l2 ss2.length le2] 27))
    have F_l := Lib.hid (DealBox.at w3 (.slice l1 ps2.length le1) (.slice l2 ss2.length le2) 27 (w3.heap.size) (by simp))
    replace HBW := Lib.hid (HBW.out.alloc HBW.out.size (.cells #[.slice l1 ps2.length le1, .slice l2 ss2.length le2] 27))
    obtain ⟨x0a, x0b, x0c, -⟩ := id F_g.out
    obtain ⟨x3a, x3b, x3c, x3d, -⟩ := id F_k.out
    obtain ⟨x6a, x6b, x6c, x6d, -⟩ := id F_l.out
    go_wp2_with fail
    go_ret
    exact ⟨rfl, HBW.out⟩
  | true =>
    cases b2 with
    | false =>
      clear hS1 hx1 hS2 hx2 hv hd1 hd2
      have F_g := Lib.hid (show Boxed (w.alloc (.cells #[.int .u64 P, .int .u64 Q, .int .u64 G] 24)) (w.heap.size) P Q G from Boxed.at _ P Q G _ (w.heap.size) (by simp))
      have HBW := Lib.hid (show Below w.heap.size w (w.alloc (.cells #[.int .u64 P, .int .u64 Q, .int .u64 G] 24)) from (Below.refl _ _).alloc (by simp <;> omega) _)
      go_enter Try.func11, Try.ntmps11
      obtain ⟨x0a, x0b, x0c, -⟩ := id F_g.out
      go_wp2_with fail
      clear x0a x0b x0c
      refine (alive_yes _).mono ?_
      rintro e w1 ⟨rfl, hb1⟩
      replace F_g := Lib.hid (F_g.out.keep hb1)
      replace HBW := Lib.hid (HBW.out.trans (hb1.mono HBW.out.size))
      clear hb1
      obtain ⟨x0a, x0b, x0c, -⟩ := id F_g.out
      go_wp2_with fail
      clear x0a x0b x0c
      refine (deal_any _ hP hQ hG il iu (HS1.out.keep HBW.out) HX1.out HV.out HD1.out).mono ?_
      rintro e w2 ⟨v1, v2, rfl, ho1, ho2, hb2⟩
      replace F_g := Lib.hid (F_g.out.keep hb2)
      replace HBW := Lib.hid (HBW.out.trans (hb2.mono HBW.out.size))
      clear hb2
      obtain ⟨k1, ke1, rfl, hs1⟩ := ho1.shI
      obtain ⟨k2, ke2, rfl, hs2⟩ := ho2.shI
      have F_kp := Lib.hid hs1
      have F_kq := Lib.hid hs2
      clear ho1 ho2 hs1 hs2
      replace F_g := Lib.hid (F_g.out.alloc (.cells #[.slice k1 ps1.length ke1, .slice k2 ss1.length ke2] 27))
      replace F_kp := Lib.hid (F_kp.out.alloc (.cells #[.slice k1 ps1.length ke1, .slice k2 ss1.length ke2] 27))
      replace F_kq := Lib.hid (F_kq.out.alloc (.cells #[.slice k1 ps1.length ke1, .slice k2 ss1.length ke2] 27))
      have F_k := Lib.hid (DealBox.at w2 (.slice k1 ps1.length ke1) (.slice k2 ss1.length ke2) 27 (w2.heap.size) (by simp))
      replace HBW := Lib.hid (HBW.out.alloc HBW.out.size (.cells #[.slice k1 ps1.length ke1, .slice k2 ss1.length ke2] 27))
      obtain ⟨x0a, x0b, x0c, -⟩ := id F_g.out
      obtain ⟨x3a, x3b, x3c, x3d, -⟩ := id F_k.out
      go_wp2_with fail
      clear x0a x0b x0c x3a x3b x3c x3d
      refine (deal_any _ hP hQ hG il iu (HS2.out.keep HBW.out) HX2.out HV.out HD2.out).mono ?_
      rintro e w3 ⟨v1, v2, rfl, ho1, ho2, hb3⟩
      replace F_g := Lib.hid (F_g.out.keep hb3)
      replace F_kp := Lib.hid (F_kp.out.keep hb3)
      replace F_kq := Lib.hid (F_kq.out.keep hb3)
      replace F_k := Lib.hid (F_k.out.keep hb3)
      replace HBW := Lib.hid (HBW.out.trans (hb3.mono HBW.out.size))
      clear hb3
      obtain ⟨l1, le1, rfl, hs1⟩ := ho1.shI
      obtain ⟨l2, le2, rfl, hs2⟩ := ho2.shI
      have F_lp := Lib.hid hs1
      have F_lq := Lib.hid hs2
      clear ho1 ho2 hs1 hs2
      replace F_g := Lib.hid (F_g.out.alloc (.cells #[.slice l1 ps2.length le1, .slice l2 ss2.length le2] 27))
      replace F_kp := Lib.hid (F_kp.out.alloc (.cells #[.slice l1 ps2.length le1, .slice l2 ss2.length le2] 27))
      replace F_kq := Lib.hid (F_kq.out.alloc (.cells #[.slice l1 ps2.length le1, .slice l2 ss2.length le2] 27))
      replace F_k := Lib.hid (F_k.out.alloc (.cells #[.slice l1 ps2.length le1, .slice l2 ss2.length le2] 27))
      replace F_lp := Lib.hid (F_lp.out.alloc (.cells #[.slice l1 ps2.length le1, .slice l2 ss2.length le2] 27))
      replace F_lq := Lib.hid (F_lq.out.alloc (.cells #[.slice l1 ps2.length le1, .slice l2 ss2.length le2] 27))
      have F_l := Lib.hid (DealBox.at w3 (.slice l1 ps2.length le1) (.slice l2 ss2.length le2) 27 (w3.heap.size) (by simp))
      replace HBW := Lib.hid (HBW.out.alloc HBW.out.size (.cells #[.slice l1 ps2.length le1, .slice l2 ss2.length le2] 27))
      obtain ⟨x0a, x0b, x0c, -⟩ := id F_g.out
      obtain ⟨x3a, x3b, x3c, x3d, -⟩ := id F_k.out
      obtain ⟨x6a, x6b, x6c, x6d, -⟩ := id F_l.out
      go_wp2_with fail
      go_ret
      exact ⟨rfl, HBW.out⟩
    | true =>
      by_cases hnm : n = m
      case neg =>
        have hq1 : ((n : Int) != (m : Int)) = true := by simp; omega
        have hq2 : (n != m) = true := by simpa using hnm
        clear hS1 hx1 hS2 hx2 hv hd1 hd2 hnm
        have F_g := Lib.hid (show Boxed (w.alloc (.cells #[.int .u64 P, .int .u64 Q, .int .u64 G] 24)) (w.heap.size) P Q G from Boxed.at _ P Q G _ (w.heap.size) (by simp))
        have HBW := Lib.hid (show Below w.heap.size w (w.alloc (.cells #[.int .u64 P, .int .u64 Q, .int .u64 G] 24)) from (Below.refl _ _).alloc (by simp <;> omega) _)
        go_enter Try.func11, Try.ntmps11
        obtain ⟨x0a, x0b, x0c, -⟩ := id F_g.out
        go_wp2_with fail
        clear x0a x0b x0c
        refine (alive_yes _).mono ?_
        rintro e w1 ⟨rfl, hb1⟩
        replace F_g := Lib.hid (F_g.out.keep hb1)
        replace HBW := Lib.hid (HBW.out.trans (hb1.mono HBW.out.size))
        clear hb1
        obtain ⟨x0a, x0b, x0c, -⟩ := id F_g.out
        go_wp2_with fail
        clear x0a x0b x0c
        refine (deal_any _ hP hQ hG il iu (HS1.out.keep HBW.out) HX1.out HV.out HD1.out).mono ?_
        rintro e w2 ⟨v1, v2, rfl, ho1, ho2, hb2⟩
        replace F_g := Lib.hid (F_g.out.keep hb2)
        replace HBW := Lib.hid (HBW.out.trans (hb2.mono HBW.out.size))
        clear hb2
        obtain ⟨k1, ke1, rfl, hs1⟩ := ho1.shI
        obtain ⟨k2, ke2, rfl, hs2⟩ := ho2.shI
        have F_kp := Lib.hid hs1
        have F_kq := Lib.hid hs2
        clear ho1 ho2 hs1 hs2
        replace F_g := Lib.hid (F_g.out.alloc (.cells #[.slice k1 ps1.length ke1, .slice k2 ss1.length ke2] 27))
        replace F_kp := Lib.hid (F_kp.out.alloc (.cells #[.slice k1 ps1.length ke1, .slice k2 ss1.length ke2] 27))
        replace F_kq := Lib.hid (F_kq.out.alloc (.cells #[.slice k1 ps1.length ke1, .slice k2 ss1.length ke2] 27))
        have F_k := Lib.hid (DealBox.at w2 (.slice k1 ps1.length ke1) (.slice k2 ss1.length ke2) 27 (w2.heap.size) (by simp))
        replace HBW := Lib.hid (HBW.out.alloc HBW.out.size (.cells #[.slice k1 ps1.length ke1, .slice k2 ss1.length ke2] 27))
        obtain ⟨x0a, x0b, x0c, -⟩ := id F_g.out
        obtain ⟨x3a, x3b, x3c, x3d, -⟩ := id F_k.out
        go_wp2_with fail
        clear x0a x0b x0c x3a x3b x3c x3d
        refine (deal_any _ hP hQ hG il iu (HS2.out.keep HBW.out) HX2.out HV.out HD2.out).mono ?_
        rintro e w3 ⟨v1, v2, rfl, ho1, ho2, hb3⟩
        replace F_g := Lib.hid (F_g.out.keep hb3)
        replace F_kp := Lib.hid (F_kp.out.keep hb3)
        replace F_kq := Lib.hid (F_kq.out.keep hb3)
        replace F_k := Lib.hid (F_k.out.keep hb3)
        replace HBW := Lib.hid (HBW.out.trans (hb3.mono HBW.out.size))
        clear hb3
        obtain ⟨l1, le1, rfl, hs1⟩ := ho1.shI
        obtain ⟨l2, le2, rfl, hs2⟩ := ho2.shI
        have F_lp := Lib.hid hs1
        have F_lq := Lib.hid hs2
        clear ho1 ho2 hs1 hs2
        replace F_g := Lib.hid (F_g.out.alloc (.cells #[.slice l1 ps2.length le1, .slice l2 ss2.length le2] 27))
        replace F_kp := Lib.hid (F_kp.out.alloc (.cells #[.slice l1 ps2.length le1, .slice l2 ss2.length le2] 27))
        replace F_kq := Lib.hid (F_kq.out.alloc (.cells #[.slice l1 ps2.length le1, .slice l2 ss2.length le2] 27))
        replace F_k := Lib.hid (F_k.out.alloc (.cells #[.slice l1 ps2.length le1, .slice l2 ss2.length le2] 27))
        replace F_lp := Lib.hid (F_lp.out.alloc (.cells #[.slice l1 ps2.length le1, .slice l2 ss2.length le2] 27))
        replace F_lq := Lib.hid (F_lq.out.alloc (.cells #[.slice l1 ps2.length le1, .slice l2 ss2.length le2] 27))
        have F_l := Lib.hid (DealBox.at w3 (.slice l1 ps2.length le1) (.slice l2 ss2.length le2) 27 (w3.heap.size) (by simp))
        replace HBW := Lib.hid (HBW.out.alloc HBW.out.size (.cells #[.slice l1 ps2.length le1, .slice l2 ss2.length le2] 27))
        obtain ⟨x0a, x0b, x0c, -⟩ := id F_g.out
        obtain ⟨x3a, x3b, x3c, x3d, -⟩ := id F_k.out
        obtain ⟨x6a, x6b, x6c, x6d, -⟩ := id F_l.out
        go_wp2_with fail
        go_ret
        exact ⟨rfl, HBW.out⟩
      case pos =>
        obtain ⟨hV, hb1, hlt, hnt, hps1, hss1⟩ := dealS_yes hv hd1
        obtain ⟨-, hb2, -, -, hps2, hss2⟩ := dealS_yes hv hd2
        have hll : xs.length = ys.length := by rw [← HL1.out, ← HL2.out]; exact hnm
        obtain ⟨l1n, l8, -⟩ := belowS_true hb1
        rw [← HL1.out] at l1n l8
        obtain ⟨p5, p3, _, pq, g2, gP⟩ := id hV.1
        have q3 : Q < 1073741824 := by omega
        have HH := Lib.hid hV.has
        have HR1 := Lib.hid (belowS_bd hb1 hx1)
        have HR2 := Lib.hid (belowS_bd hb2 hx2)
        have HZL := Lib.hid (show (List.zipWith (addF Q) xs ys).length = n by rw [List.length_zipWith, ← hll, HL1.out]; exact Nat.min_self _)
        obtain ⟨t0, t8, tQ⟩ := numS_true hnt
        have hq2' := hV.grp.pQ.1
        have HZU := Lib.hid (show ∀ z, z ∈ List.zipWith (addF Q) xs ys → U64 z from fun z hz => by
          have h := zip_rng (addF_rng (P := Q) (by omega)) xs ys z hz
          exact U64.of_lt h.1 (by omega))
        obtain ⟨pm, hpm⟩ : ∃ z, pledgesS P G (List.zipWith (addF Q) xs ys) = z := ⟨_, rfl⟩
        obtain ⟨sm, hsm⟩ : ∃ z, sharesS Q (List.zipWith (addF Q) xs ys) i.toNat = z := ⟨_, rfl⟩
        have hpml : pm.length ≤ 8 := by rw [← hpm, pledges_len, HZL.out]; exact l8
        have hsml : sm.length ≤ 8 := by rw [← hsm, shares_len]; omega
        have HMS := Lib.hid (show ∀ C E : Dl, C.xs = ps1 → C.ys = ss1 → E.xs = ps2 → E.ys = ss2 → mergeS P Q G [C, E] = (0, pm, sm) from fun C E e1 e2 e3 e4 => by
          rw [← hpm, ← hsm]; exact (merges hV hb1 hb2 hx1 hx2 hll hlt hnt (e1.trans hps1) (e2.trans hss1) (e3.trans hps2) (e4.trans hss2)).1)
        have HSP := Lib.hid (show splitS P Q G i (List.zipWith (addF Q) xs ys) = (0, pm, sm) by
          rw [← hpm, ← hsm]; exact (merges (C := ⟨none, 0, 0, _, none, 0, 0, _⟩) (E := ⟨none, 0, 0, _, none, 0, 0, _⟩) hV hb1 hb2 hx1 hx2 hll hlt hnt rfl rfl rfl rfl).2)
        have HU1 := Lib.hid (show ∀ z, z ∈ ps1 → U64 z from fun z hz => by rw [hps1] at hz; have h := pledges_rng (P := P) (by omega) xs z hz; exact U64.of_lt h.1 (by omega))
        have HU2 := Lib.hid (show ∀ z, z ∈ ss1 → U64 z from fun z hz => by rw [hss1] at hz; have h := shares_rng (Q := Q) (by omega) xs _ z hz; exact U64.of_lt h.1 (by omega))
        have HU3 := Lib.hid (show ∀ z, z ∈ ps2 → U64 z from fun z hz => by rw [hps2] at hz; have h := pledges_rng (P := P) (by omega) ys z hz; exact U64.of_lt h.1 (by omega))
        have HU4 := Lib.hid (show ∀ z, z ∈ ss2 → U64 z from fun z hz => by rw [hss2] at hz; have h := shares_rng (Q := Q) (by omega) ys _ z hz; exact U64.of_lt h.1 (by omega))
        have hp1l : ps1.length ≤ 8 := by rw [hps1, pledges_len, ← HL1.out]; exact l8
        have hs1l : ss1.length ≤ 8 := by rw [hss1, shares_len]; omega
        have hp2l : ps2.length ≤ 8 := by rw [hps2, pledges_len, ← hll, ← HL1.out]; exact l8
        have hs2l : ss2.length ≤ 8 := by rw [hss2, shares_len]; omega
        subst hnm
        clear hS1 hx1 hS2 hx2 hv hd1 hd2 hV hb1 hb2 hlt hnt hps1 hss1 hps2 hss2 hll pq hpm hsm
        have F_g := Lib.hid (show Boxed (w.alloc (.cells #[.int .u64 P, .int .u64 Q, .int .u64 G] 24)) (w.heap.size) P Q G from Boxed.at _ P Q G _ (w.heap.size) (by simp))
        have HBW := Lib.hid (show Below w.heap.size w (w.alloc (.cells #[.int .u64 P, .int .u64 Q, .int .u64 G] 24)) from (Below.refl _ _).alloc (by simp <;> omega) _)
        go_enter Try.func11, Try.ntmps11
        obtain ⟨x0a, x0b, x0c, -⟩ := id F_g.out
        go_wp2_with fail
        clear x0a x0b x0c
        refine (alive_yes _).mono ?_
        rintro e w1 ⟨rfl, hb1⟩
        replace F_g := Lib.hid (F_g.out.keep hb1)
        replace HBW := Lib.hid (HBW.out.trans (hb1.mono HBW.out.size))
        clear hb1
        obtain ⟨x0a, x0b, x0c, -⟩ := id F_g.out
        go_wp2_with fail
        clear x0a x0b x0c
        refine (deal_any _ hP hQ hG il iu (HS1.out.keep HBW.out) HX1.out HV.out HD1.out).mono ?_
        rintro e w2 ⟨v1, v2, rfl, ho1, ho2, hb2⟩
        replace F_g := Lib.hid (F_g.out.keep hb2)
        replace HBW := Lib.hid (HBW.out.trans (hb2.mono HBW.out.size))
        clear hb2
        obtain ⟨k1, ke1, rfl, hs1⟩ := ho1.shI
        obtain ⟨k2, ke2, rfl, hs2⟩ := ho2.shI
        have F_kp := Lib.hid hs1
        have F_kq := Lib.hid hs2
        clear ho1 ho2 hs1 hs2
        replace F_g := Lib.hid (F_g.out.alloc (.cells #[.slice k1 ps1.length ke1, .slice k2 ss1.length ke2] 27))
        replace F_kp := Lib.hid (F_kp.out.alloc (.cells #[.slice k1 ps1.length ke1, .slice k2 ss1.length ke2] 27))
        replace F_kq := Lib.hid (F_kq.out.alloc (.cells #[.slice k1 ps1.length ke1, .slice k2 ss1.length ke2] 27))
        have F_k := Lib.hid (DealBox.at w2 (.slice k1 ps1.length ke1) (.slice k2 ss1.length ke2) 27 (w2.heap.size) (by simp))
        replace HBW := Lib.hid (HBW.out.alloc HBW.out.size (.cells #[.slice k1 ps1.length ke1, .slice k2 ss1.length ke2] 27))
        obtain ⟨x0a, x0b, x0c, -⟩ := id F_g.out
        obtain ⟨x3a, x3b, x3c, x3d, -⟩ := id F_k.out
        go_wp2_with fail
        clear x0a x0b x0c x3a x3b x3c x3d
        refine (deal_any _ hP hQ hG il iu (HS2.out.keep HBW.out) HX2.out HV.out HD2.out).mono ?_
        rintro e w3 ⟨v1, v2, rfl, ho1, ho2, hb3⟩
        replace F_g := Lib.hid (F_g.out.keep hb3)
        replace F_kp := Lib.hid (F_kp.out.keep hb3)
        replace F_kq := Lib.hid (F_kq.out.keep hb3)
        replace F_k := Lib.hid (F_k.out.keep hb3)
        replace HBW := Lib.hid (HBW.out.trans (hb3.mono HBW.out.size))
        clear hb3
        obtain ⟨l1, le1, rfl, hs1⟩ := ho1.shI
        obtain ⟨l2, le2, rfl, hs2⟩ := ho2.shI
        have F_lp := Lib.hid hs1
        have F_lq := Lib.hid hs2
        clear ho1 ho2 hs1 hs2
        replace F_g := Lib.hid (F_g.out.alloc (.cells #[.slice l1 ps2.length le1, .slice l2 ss2.length le2] 27))
        replace F_kp := Lib.hid (F_kp.out.alloc (.cells #[.slice l1 ps2.length le1, .slice l2 ss2.length le2] 27))
        replace F_kq := Lib.hid (F_kq.out.alloc (.cells #[.slice l1 ps2.length le1, .slice l2 ss2.length le2] 27))
        replace F_k := Lib.hid (F_k.out.alloc (.cells #[.slice l1 ps2.length le1, .slice l2 ss2.length le2] 27))
        replace F_lp := Lib.hid (F_lp.out.alloc (.cells #[.slice l1 ps2.length le1, .slice l2 ss2.length le2] 27))
        replace F_lq := Lib.hid (F_lq.out.alloc (.cells #[.slice l1 ps2.length le1, .slice l2 ss2.length le2] 27))
        have F_l := Lib.hid (DealBox.at w3 (.slice l1 ps2.length le1) (.slice l2 ss2.length le2) 27 (w3.heap.size) (by simp))
        replace HBW := Lib.hid (HBW.out.alloc HBW.out.size (.cells #[.slice l1 ps2.length le1, .slice l2 ss2.length le2] 27))
        obtain ⟨x0a, x0b, x0c, -⟩ := id F_g.out
        obtain ⟨x3a, x3b, x3c, x3d, -⟩ := id F_k.out
        obtain ⟨x6a, x6b, x6c, x6d, -⟩ := id F_l.out
        go_wp2_with fail
        clear x0a x0b x0c x3a x3b x3c x3d x6a x6b x6c x6d
        generalize (w3.alloc (.cells #[.slice l1 ps2.length le1, .slice l2 ss2.length le2] 27)) = W0 at F_g F_kp F_kq F_k F_lp F_lq F_l HBW ⊢
        have HLW := Lib.hid (show w.heap.size ≤ W0.heap.size from HBW.out.size)
        have HBZ0 := HBW
        clear HBW
        have hSx := HS1.out.keep HBZ0.out
        obtain ⟨sx, fx, ha, -, hsx0, hcx⟩ := shI_some hSx l1n
        obtain ⟨sy, fy, hb, -, hsy0, hcy⟩ := shI_some (HS2.out.keep HBZ0.out) (by omega)
        have HCXS := Lib.hid hcx
        have HCYS := Lib.hid hcy
        clear hSx hcx hcy
        subst ha hb
        go_loopw [14, 15] (fun c14 c15 wr => ∃ k : Nat, k ≤ n ∧ c15 = .int .i64 k ∧ Hid (OwnU wr W0.heap.size c14 ((List.zipWith (addF Q) xs ys).take k)) ∧ Hid (Below W0.heap.size W0 wr)) (fun _ c15 _ => n - (intOf c15).toNat)
        case atStart => exact ⟨0, Nat.zero_le _, rfl, OwnU.nil _ _, Below.refl _ _⟩
        case round =>
          obtain ⟨k, hk, rfl, F_o, HBW⟩ := hrel
          by_cases hlt : k < n
          case neg =>
            obtain rfl : k = n := by omega
            have hd : decide ((k : Int) < (k : Int)) = false := by simp
            rw [List.take_of_length_le (by rw [HZL.out]; exact Nat.le_refl _)] at F_o
            clear hlt hk
            obtain ⟨za, zc, rfl, hzs⟩ := F_o.out.shI
            have F_z := Lib.hid hzs
            clear hzs F_o
            rw [HZL.out] at F_z ⊢
            replace F_g := Lib.hid (F_g.out.keep HBW.out)
            replace F_kp := Lib.hid (F_kp.out.keep HBW.out)
            replace F_kq := Lib.hid (F_kq.out.keep HBW.out)
            replace F_k := Lib.hid (F_k.out.keep HBW.out)
            replace F_lp := Lib.hid (F_lp.out.keep HBW.out)
            replace F_lq := Lib.hid (F_lq.out.keep HBW.out)
            replace F_l := Lib.hid (F_l.out.keep HBW.out)
            replace HBW := Lib.hid (HBZ0.out.trans (HBW.out.mono HLW.out))
            clear HBZ0 HLW HCXS HCYS hsx0 hsy0
            obtain ⟨x0a, x0b, x0c, -⟩ := id F_g.out
            obtain ⟨x3a, x3b, x3c, x3d, -⟩ := id F_k.out
            obtain ⟨x6a, x6b, x6c, x6d, -⟩ := id F_l.out
            go_wp2_with fail
            clear x0a x0b x0c x3a x3b x3c x3d x6a x6b x6c x6d
            have F_l_ := Lib.hid (show DRow (wr.alloc (.cells #[.slice k1 ps1.length ke1, .slice k2 ss1.length ke2, .slice l1 ps2.length le1, .slice l2 ss2.length le2] 27)) wr.heap.size 0 [(Dl.mk (k1) ps1.length ke1 ps1 (k2) ss1.length ke2 ss1), (Dl.mk (l1) ps2.length le1 ps2 (l2) ss2.length le2 ss2)] from DRow.two (W := wr) (A := (Dl.mk (k1) ps1.length ke1 ps1 (k2) ss1.length ke2 ss1)) (B := (Dl.mk (l1) ps2.length le1 ps2 (l2) ss2.length le2 ss2)) 27 ⟨F_kp.out, F_kq.out, (by show ps1.length ≤ 1000000; omega), (by show ss1.length ≤ 1000000; omega), HU1.out, HU2.out⟩ ⟨F_lp.out, F_lq.out, (by show ps2.length ≤ 1000000; omega), (by show ss2.length ≤ 1000000; omega), HU3.out, HU4.out⟩)
            replace F_g := Lib.hid (F_g.out.alloc (.cells #[.slice k1 ps1.length ke1, .slice k2 ss1.length ke2, .slice l1 ps2.length le1, .slice l2 ss2.length le2] 27))
            replace F_kp := Lib.hid (F_kp.out.alloc (.cells #[.slice k1 ps1.length ke1, .slice k2 ss1.length ke2, .slice l1 ps2.length le1, .slice l2 ss2.length le2] 27))
            replace F_kq := Lib.hid (F_kq.out.alloc (.cells #[.slice k1 ps1.length ke1, .slice k2 ss1.length ke2, .slice l1 ps2.length le1, .slice l2 ss2.length le2] 27))
            replace F_k := Lib.hid (F_k.out.alloc (.cells #[.slice k1 ps1.length ke1, .slice k2 ss1.length ke2, .slice l1 ps2.length le1, .slice l2 ss2.length le2] 27))
            replace F_lp := Lib.hid (F_lp.out.alloc (.cells #[.slice k1 ps1.length ke1, .slice k2 ss1.length ke2, .slice l1 ps2.length le1, .slice l2 ss2.length le2] 27))
            replace F_lq := Lib.hid (F_lq.out.alloc (.cells #[.slice k1 ps1.length ke1, .slice k2 ss1.length ke2, .slice l1 ps2.length le1, .slice l2 ss2.length le2] 27))
            replace F_l := Lib.hid (F_l.out.alloc (.cells #[.slice k1 ps1.length ke1, .slice k2 ss1.length ke2, .slice l1 ps2.length le1, .slice l2 ss2.length le2] 27))
            replace F_z := Lib.hid (F_z.out.alloc (.cells #[.slice k1 ps1.length ke1, .slice k2 ss1.length ke2, .slice l1 ps2.length le1, .slice l2 ss2.length le2] 27))
            replace HBW := Lib.hid (HBW.out.alloc HBW.out.size (.cells #[.slice k1 ps1.length ke1, .slice k2 ss1.length ke2, .slice l1 ps2.length le1, .slice l2 ss2.length le2] 27))
            refine (smerge_any (k := 2) (cap := 2) (E := (Dl.mk (k1) ps1.length ke1 ps1 (k2) ss1.length ke2 ss1)) (l := [(Dl.mk (k1) ps1.length ke1 ps1 (k2) ss1.length ke2 ss1), (Dl.mk (l1) ps2.length le1 ps2 (l2) ss2.length le2 ss2)]) _ hP hQ hG F_l_.out rfl rfl (by omega) (by omega) (by omega) (HMS.out (Dl.mk (k1) ps1.length ke1 ps1 (k2) ss1.length ke2 ss1) (Dl.mk (l1) ps2.length le1 ps2 (l2) ss2.length le2 ss2) rfl rfl rfl rfl)).mono ?_
            rintro e w21 ⟨v1, v2, rfl, ho1, ho2, hb21⟩
            replace F_g := Lib.hid (F_g.out.keep hb21)
            replace F_kp := Lib.hid (F_kp.out.keep hb21)
            replace F_kq := Lib.hid (F_kq.out.keep hb21)
            replace F_k := Lib.hid (F_k.out.keep hb21)
            replace F_lp := Lib.hid (F_lp.out.keep hb21)
            replace F_lq := Lib.hid (F_lq.out.keep hb21)
            replace F_l := Lib.hid (F_l.out.keep hb21)
            replace F_z := Lib.hid (F_z.out.keep hb21)
            replace HBW := Lib.hid (HBW.out.trans (hb21.mono HBW.out.size))
            clear hb21
            obtain ⟨xa, xc, rfl, hs1⟩ := ho1.shI
            obtain ⟨xb, xd, rfl, hs2⟩ := ho2.shI
            have F_x1 := Lib.hid hs1
            have F_x2 := Lib.hid hs2
            clear ho1 ho2 hs1 hs2
            clear F_l_
            replace F_g := Lib.hid (F_g.out.alloc (.cells #[.slice xa pm.length xc, .slice xb sm.length xd] 27))
            replace F_kp := Lib.hid (F_kp.out.alloc (.cells #[.slice xa pm.length xc, .slice xb sm.length xd] 27))
            replace F_kq := Lib.hid (F_kq.out.alloc (.cells #[.slice xa pm.length xc, .slice xb sm.length xd] 27))
            replace F_k := Lib.hid (F_k.out.alloc (.cells #[.slice xa pm.length xc, .slice xb sm.length xd] 27))
            replace F_lp := Lib.hid (F_lp.out.alloc (.cells #[.slice xa pm.length xc, .slice xb sm.length xd] 27))
            replace F_lq := Lib.hid (F_lq.out.alloc (.cells #[.slice xa pm.length xc, .slice xb sm.length xd] 27))
            replace F_l := Lib.hid (F_l.out.alloc (.cells #[.slice xa pm.length xc, .slice xb sm.length xd] 27))
            replace F_z := Lib.hid (F_z.out.alloc (.cells #[.slice xa pm.length xc, .slice xb sm.length xd] 27))
            replace F_x1 := Lib.hid (F_x1.out.alloc (.cells #[.slice xa pm.length xc, .slice xb sm.length xd] 27))
            replace F_x2 := Lib.hid (F_x2.out.alloc (.cells #[.slice xa pm.length xc, .slice xb sm.length xd] 27))
            have F_x := Lib.hid (DealBox.at w21 (.slice xa pm.length xc) (.slice xb sm.length xd) 27 (w21.heap.size) (by simp))
            replace HBW := Lib.hid (HBW.out.alloc HBW.out.size (.cells #[.slice xa pm.length xc, .slice xb sm.length xd] 27))
            obtain ⟨x0a, x0b, x0c, -⟩ := id F_g.out
            obtain ⟨x3a, x3b, x3c, x3d, -⟩ := id F_k.out
            obtain ⟨x6a, x6b, x6c, x6d, -⟩ := id F_l.out
            obtain ⟨x10a, x10b, x10c, x10d, -⟩ := id F_x.out
            go_wp2_with fail
            clear x0a x0b x0c x3a x3b x3c x3d x6a x6b x6c x6d x10a x10b x10c x10d
            refine (sSplit_any _ hP hQ hG il iu F_z.out (by omega) HZU.out HSP.out).mono ?_
            rintro e w22 ⟨v1, v2, rfl, ho1, ho2, hb22⟩
            replace F_g := Lib.hid (F_g.out.keep hb22)
            replace F_kp := Lib.hid (F_kp.out.keep hb22)
            replace F_kq := Lib.hid (F_kq.out.keep hb22)
            replace F_k := Lib.hid (F_k.out.keep hb22)
            replace F_lp := Lib.hid (F_lp.out.keep hb22)
            replace F_lq := Lib.hid (F_lq.out.keep hb22)
            replace F_l := Lib.hid (F_l.out.keep hb22)
            replace F_z := Lib.hid (F_z.out.keep hb22)
            replace F_x1 := Lib.hid (F_x1.out.keep hb22)
            replace F_x2 := Lib.hid (F_x2.out.keep hb22)
            replace F_x := Lib.hid (F_x.out.keep hb22)
            replace HBW := Lib.hid (HBW.out.trans (hb22.mono HBW.out.size))
            clear hb22
            obtain ⟨ya, yc, rfl, hs1⟩ := ho1.shI
            obtain ⟨yb, yd, rfl, hs2⟩ := ho2.shI
            have F_y1 := Lib.hid hs1
            have F_y2 := Lib.hid hs2
            clear ho1 ho2 hs1 hs2
            replace F_g := Lib.hid (F_g.out.alloc (.cells #[.slice ya pm.length yc, .slice yb sm.length yd] 27))
            replace F_kp := Lib.hid (F_kp.out.alloc (.cells #[.slice ya pm.length yc, .slice yb sm.length yd] 27))
            replace F_kq := Lib.hid (F_kq.out.alloc (.cells #[.slice ya pm.length yc, .slice yb sm.length yd] 27))
            replace F_k := Lib.hid (F_k.out.alloc (.cells #[.slice ya pm.length yc, .slice yb sm.length yd] 27))
            replace F_lp := Lib.hid (F_lp.out.alloc (.cells #[.slice ya pm.length yc, .slice yb sm.length yd] 27))
            replace F_lq := Lib.hid (F_lq.out.alloc (.cells #[.slice ya pm.length yc, .slice yb sm.length yd] 27))
            replace F_l := Lib.hid (F_l.out.alloc (.cells #[.slice ya pm.length yc, .slice yb sm.length yd] 27))
            replace F_z := Lib.hid (F_z.out.alloc (.cells #[.slice ya pm.length yc, .slice yb sm.length yd] 27))
            replace F_x1 := Lib.hid (F_x1.out.alloc (.cells #[.slice ya pm.length yc, .slice yb sm.length yd] 27))
            replace F_x2 := Lib.hid (F_x2.out.alloc (.cells #[.slice ya pm.length yc, .slice yb sm.length yd] 27))
            replace F_x := Lib.hid (F_x.out.alloc (.cells #[.slice ya pm.length yc, .slice yb sm.length yd] 27))
            replace F_y1 := Lib.hid (F_y1.out.alloc (.cells #[.slice ya pm.length yc, .slice yb sm.length yd] 27))
            replace F_y2 := Lib.hid (F_y2.out.alloc (.cells #[.slice ya pm.length yc, .slice yb sm.length yd] 27))
            have F_y := Lib.hid (DealBox.at w22 (.slice ya pm.length yc) (.slice yb sm.length yd) 27 (w22.heap.size) (by simp))
            replace HBW := Lib.hid (HBW.out.alloc HBW.out.size (.cells #[.slice ya pm.length yc, .slice yb sm.length yd] 27))
            obtain ⟨x0a, x0b, x0c, -⟩ := id F_g.out
            obtain ⟨x3a, x3b, x3c, x3d, -⟩ := id F_k.out
            obtain ⟨x6a, x6b, x6c, x6d, -⟩ := id F_l.out
            obtain ⟨x10a, x10b, x10c, x10d, -⟩ := id F_x.out
            obtain ⟨x13a, x13b, x13c, x13d, -⟩ := id F_y.out
            go_wp2_with fail
            clear x0a x0b x0c x3a x3b x3c x3d x6a x6b x6c x6d x10a x10b x10c x10d x13a x13b x13c x13d
            refine (rsame34_any _ F_x1.out F_y1.out F_x2.out F_y2.out (by omega) (by omega)).mono ?_
            rintro e w23 ⟨rfl, hb23⟩
            replace F_g := Lib.hid (F_g.out.keep hb23)
            replace F_kp := Lib.hid (F_kp.out.keep hb23)
            replace F_kq := Lib.hid (F_kq.out.keep hb23)
            replace F_k := Lib.hid (F_k.out.keep hb23)
            replace F_lp := Lib.hid (F_lp.out.keep hb23)
            replace F_lq := Lib.hid (F_lq.out.keep hb23)
            replace F_l := Lib.hid (F_l.out.keep hb23)
            replace F_z := Lib.hid (F_z.out.keep hb23)
            replace F_x1 := Lib.hid (F_x1.out.keep hb23)
            replace F_x2 := Lib.hid (F_x2.out.keep hb23)
            replace F_x := Lib.hid (F_x.out.keep hb23)
            replace F_y1 := Lib.hid (F_y1.out.keep hb23)
            replace F_y2 := Lib.hid (F_y2.out.keep hb23)
            replace F_y := Lib.hid (F_y.out.keep hb23)
            replace HBW := Lib.hid (HBW.out.trans (hb23.mono HBW.out.size))
            clear hb23
            obtain ⟨x0a, x0b, x0c, -⟩ := id F_g.out
            obtain ⟨x3a, x3b, x3c, x3d, -⟩ := id F_k.out
            obtain ⟨x6a, x6b, x6c, x6d, -⟩ := id F_l.out
            obtain ⟨x10a, x10b, x10c, x10d, -⟩ := id F_x.out
            obtain ⟨x13a, x13b, x13c, x13d, -⟩ := id F_y.out
            go_wp2_with fail
            go_ret
            exact ⟨rfl, HBW.out⟩
          case pos =>
            have hd : decide ((k : Int) < (n : Int)) = true := by simp; omega
            have hdn : decide (k < n) = true := by simpa using hlt
            have k0 : (0 : Int) ≤ (k : Int) := by omega
            have k1 : (k : Int) < (n : Int) := by omega
            have hwk : IntKind.i64.wrap ((k : Int) + 1) = (k : Int) + 1 := IntWalk.i64_in _ (by omega)
            obtain ⟨x, hx⟩ : ∃ z, xs.getD k 0 = z := ⟨_, rfl⟩
            obtain ⟨y, hy⟩ : ∃ z, ys.getD k 0 = z := ⟨_, rfl⟩
            have hkx : k < xs.length := by have := HL1.out; omega
            have hky : k < ys.length := by have := HL2.out; omega
            obtain ⟨x0, xQ⟩ := HR1.out x (by rw [← hx, getD_at hkx]; exact List.getElem_mem _)
            obtain ⟨y0, yQ⟩ := HR2.out y (by rw [← hy, getD_at hky]; exact List.getElem_mem _)
            have HCX := Lib.hid (show W0.cell? ⟨sx, fx + k, none⟩ = some (.int .u64 x) by rw [← hx]; exact HCXS.out k hlt)
            have HCY := Lib.hid (show W0.cell? ⟨sy, fy + k, none⟩ = some (.int .u64 y) by rw [← hy]; exact HCYS.out k hlt)
            obtain ⟨v, hv⟩ : ∃ v, (x + y) % Q = v := ⟨_, rfl⟩
            have HT := Lib.hid hv
            have HTK := Lib.hid (show (List.zipWith (addF Q) xs ys).take (k + 1) = (List.zipWith (addF Q) xs ys).take k ++ [v] by
              have hkz : k < (List.zipWith (addF Q) xs ys).length := by rw [HZL.out]; exact hlt
              rw [List.take_succ_eq_append_getElem hkz, List.getElem_zipWith, ← getD_at hkx, ← getD_at hky, hx, hy, ← hv]
              rfl)
            obtain ⟨S, hS_⟩ : ∃ S, (List.zipWith (addF Q) xs ys).take k = S := ⟨_, rfl⟩
            have HSL := Lib.hid (show S.length ≤ 8 by rw [← hS_, List.length_take]; omega)
            rw [hS_] at F_o HTK
            have F_h := Lib.hid (F_g.out.keep HBW.out)
            clear hx hy hv hS_
            go_wp2_with fail
            replace F_h := Lib.hid F_h.out.drew
            replace F_o := Lib.hid F_o.out.drew
            replace HBW := Lib.hid HBW.out.drew
            have hS := And.intro F_h.out.s (And.intro ((HBW.out.cell (p := ⟨sx, fx + k, none⟩) hsx0).trans HCX.out) ((HBW.out.cell (p := ⟨sy, fy + k, none⟩) hsy0).trans HCY.out))
            refine wp_region_stage 14 (fun w' => SBox w' w.heap.size P Q G ∧ w'.cell? ⟨sx, fx + k, none⟩ = some (.int .u64 x) ∧ w'.cell? ⟨sy, fy + k, none⟩ = some (.int .u64 y)) (by kernel_rfl) ?_
            refine wpAnyB_take (i := 0) (some 62) (Op.load 24 (Operand.tmp 4)) 24 (v := ?_) ⟨_, rfl, rfl, rfl, rfl, rfl⟩ (by kernel_rfl) (by kernel_rfl) (by kernel_rfl) [9, 10, 11, 12, 13, 14] (by kernel_rfl) (fun _ _ _ h => h) hS (fun w' hSw => ?_) ?_
            rotate_left
            · obtain ⟨⟨b0, b1, b2⟩, b3, b4⟩ := hSw
              unfold bareOp
              go_simp
              try with_reducible rfl
            simp only [Act.put, List.setIfInBounds_toArray, List.set_cons_zero, List.set_cons_succ]
            refine wpAnyB_takeP (i := 1) (some 63) (Op.move (Operand.tmp 1)) 25 (v := ?_) ⟨_, rfl, rfl, rfl, rfl, rfl⟩ (by kernel_rfl) (by kernel_rfl) (by kernel_rfl) (by kernel_rfl) (fun _ _ _ h => h) (fun _ => hS) (fun w' => ?_) ?_
            rotate_left
            · unfold bareOp
              go_simp
              try with_reducible rfl
            simp only [Act.put, List.setIfInBounds_toArray, List.set_cons_zero, List.set_cons_succ]
            refine wpAnyB_takeP (i := 2) (some 64) (Op.move (Operand.tmp 15)) 3 (v := ?_) ⟨_, rfl, rfl, rfl, rfl, rfl⟩ (by kernel_rfl) (by kernel_rfl) (by kernel_rfl) (by kernel_rfl) (fun _ _ _ h => h) (fun _ => hS) (fun w' => ?_) ?_
            rotate_left
            · unfold bareOp
              go_simp
              try with_reducible rfl
            simp only [Act.put, List.setIfInBounds_toArray, List.set_cons_zero, List.set_cons_succ]
            refine wpAnyB_takeP (i := 3) (some 65) (Op.indexAddr 25 (Operand.tmp 63) (Operand.tmp 64)) 0 (v := ?_) ⟨_, rfl, rfl, rfl, rfl, rfl⟩ (by kernel_rfl) (by kernel_rfl) (by kernel_rfl) (by kernel_rfl) (fun _ _ _ h => h) (fun _ => hS) (fun w' => ?_) ?_
            rotate_left
            · unfold bareOp
              go_simp
              try with_reducible rfl
            simp only [Act.put, List.setIfInBounds_toArray, List.set_cons_zero, List.set_cons_succ]
            refine wpAnyB_take (i := 4) (some 66) (Op.load 22 (Operand.tmp 65)) 22 (v := ?_) ⟨_, rfl, rfl, rfl, rfl, rfl⟩ (by kernel_rfl) (by kernel_rfl) (by kernel_rfl) [9, 10, 11, 12, 13, 14] (by kernel_rfl) (fun _ _ _ h => h) hS (fun w' hSw => ?_) ?_
            rotate_left
            · obtain ⟨⟨b0, b1, b2⟩, b3, b4⟩ := hSw
              unfold bareOp
              go_simp
              try with_reducible rfl
            simp only [Act.put, List.setIfInBounds_toArray, List.set_cons_zero, List.set_cons_succ]
            refine wpAnyB_takeP (i := 5) (some 67) (Op.move (Operand.tmp 2)) 25 (v := ?_) ⟨_, rfl, rfl, rfl, rfl, rfl⟩ (by kernel_rfl) (by kernel_rfl) (by kernel_rfl) (by kernel_rfl) (fun _ _ _ h => h) (fun _ => hS) (fun w' => ?_) ?_
            rotate_left
            · unfold bareOp
              go_simp
              try with_reducible rfl
            simp only [Act.put, List.setIfInBounds_toArray, List.set_cons_zero, List.set_cons_succ]
            refine wpAnyB_takeP (i := 6) (some 68) (Op.move (Operand.tmp 15)) 3 (v := ?_) ⟨_, rfl, rfl, rfl, rfl, rfl⟩ (by kernel_rfl) (by kernel_rfl) (by kernel_rfl) (by kernel_rfl) (fun _ _ _ h => h) (fun _ => hS) (fun w' => ?_) ?_
            rotate_left
            · unfold bareOp
              go_simp
              try with_reducible rfl
            simp only [Act.put, List.setIfInBounds_toArray, List.set_cons_zero, List.set_cons_succ]
            refine wpAnyB_takeP (i := 7) (some 69) (Op.indexAddr 25 (Operand.tmp 67) (Operand.tmp 68)) 0 (v := ?_) ⟨_, rfl, rfl, rfl, rfl, rfl⟩ (by kernel_rfl) (by kernel_rfl) (by kernel_rfl) (by kernel_rfl) (fun _ _ _ h => h) (fun _ => hS) (fun w' => ?_) ?_
            rotate_left
            · unfold bareOp
              go_simp
              try with_reducible rfl
            simp only [Act.put, List.setIfInBounds_toArray, List.set_cons_zero, List.set_cons_succ]
            refine wpAnyB_take (i := 8) (some 70) (Op.load 22 (Operand.tmp 69)) 22 (v := ?_) ⟨_, rfl, rfl, rfl, rfl, rfl⟩ (by kernel_rfl) (by kernel_rfl) (by kernel_rfl) [9, 10, 11, 12, 13, 14] (by kernel_rfl) (fun _ _ _ h => h) hS (fun w' hSw => ?_) ?_
            rotate_left
            · obtain ⟨⟨b0, b1, b2⟩, b3, b4⟩ := hSw
              unfold bareOp
              go_simp
              try with_reducible rfl
            simp only [Act.put, List.setIfInBounds_toArray, List.set_cons_zero, List.set_cons_succ]
            refine wpAnyB_only (i := 9) (some 71) (Op.call { callee := Callee.value (Operand.func 45), args := #[Operand.tmp 62, Operand.tmp 66, Operand.tmp 70], argTypes := #[24, 22, 22] }) 39 ⟨_, rfl, rfl, rfl, rfl, rfl⟩ (by kernel_rfl) (fun K hK => ?_)
            unfold bareOp
            go_wp2_with (go_at_call 45; refine (addExp_ok P Q G x y v _ HH.out x0 xQ y0 yQ HT.out).mono ?_; rintro e w8 ⟨rfl, hb8⟩)
            replace F_h := Lib.hid (F_h.out.keep hb8)
            replace F_o := Lib.hid (F_o.out.keep hb8)
            replace HBW := Lib.hid (HBW.out.trans (hb8.mono HBW.out.size))
            replace hS := And.intro F_h.out.s (And.intro ((HBW.out.cell (p := ⟨sx, fx + k, none⟩) hsx0).trans HCX.out) ((HBW.out.cell (p := ⟨sy, fy + k, none⟩) hsy0).trans HCY.out))
            clear hb8
            refine hK.out _ _ (fun _ => hS) ?_
            clear hK K
            try simp only [Act.put, List.setIfInBounds_toArray, List.set_cons_zero, List.set_cons_succ]
            refine wpAnyB_takeP (i := 10) (some 61) (Op.move (Operand.tmp 71)) 39 (v := ?_) ⟨_, rfl, rfl, rfl, rfl, rfl⟩ (by kernel_rfl) (by kernel_rfl) (by kernel_rfl) (by kernel_rfl) (fun _ _ _ h => h) (fun _ => hS) (fun w' => ?_) ?_
            rotate_left
            · unfold bareOp
              go_simp
              try with_reducible rfl
            simp only [Act.put, List.setIfInBounds_toArray, List.set_cons_zero, List.set_cons_succ]
            refine wpAnyB_takeP (i := 11) (some 72) (Op.extract (Operand.tmp 61) 0) 22 (v := ?_) ⟨_, rfl, rfl, rfl, rfl, rfl⟩ (by kernel_rfl) (by kernel_rfl) (by kernel_rfl) (by kernel_rfl) (fun _ _ _ h => h) (fun _ => hS) (fun w' => ?_) ?_
            rotate_left
            · unfold bareOp
              go_simp
              try with_reducible rfl
            simp only [Act.put, List.setIfInBounds_toArray, List.set_cons_zero, List.set_cons_succ]
            refine wpAnyB_takeP (i := 12) (some 73) (Op.extract (Operand.tmp 61) 1) 30 (v := ?_) ⟨_, rfl, rfl, rfl, rfl, rfl⟩ (by kernel_rfl) (by kernel_rfl) (by kernel_rfl) (by kernel_rfl) (fun _ _ _ h => h) (fun _ => hS) (fun w' => ?_) ?_
            rotate_left
            · unfold bareOp
              go_simp
              try with_reducible rfl
            simp only [Act.put, List.setIfInBounds_toArray, List.set_cons_zero, List.set_cons_succ]
            refine wpAnyB_takeP (i := 13) (some 16) (Op.assign (Operand.tmp 72)) 22 (v := ?_) ⟨_, rfl, rfl, rfl, rfl, rfl⟩ (by kernel_rfl) (by kernel_rfl) (by kernel_rfl) (by kernel_rfl) (fun _ _ _ h => h) (fun _ => hS) (fun w' => ?_) ?_
            rotate_left
            · unfold bareOp
              go_simp
              try with_reducible rfl
            simp only [Act.put, List.setIfInBounds_toArray, List.set_cons_zero, List.set_cons_succ]
            refine wpAnyB_only (i := 14) (some 17) (Op.assign (Operand.tmp 73)) 30 ⟨_, rfl, rfl, rfl, rfl, rfl⟩ (by kernel_rfl) (fun K hK => ?_)
            unfold bareOp
            go_wp2_with fail
            refine hK.out _ _ (fun h => absurd (h.symm.trans (by kernel_rfl : _ = true)) (by decide)) ?_
            clear hK K
            try simp only [Act.put, List.setIfInBounds_toArray, List.set_cons_zero, List.set_cons_succ]
            refine wpAnyB_done (by kernel_rfl) ?_ _
            clear hS
            have HLS := Lib.hid HBW.out.size
            go_wp2_with (at_builtin; refine wpList_append_own _ rfl _ _ 25 rfl W0.heap.size 22 ui (.int .u64 0) 1 8 Try.underlying25 hui huz0 huz1 huz2 rfl (by decide) _ S.length (S.map (Value.int IntKind.u64)) rfl (F_o.out.keep ((Below.refl _ _).alloc (Nat.le_refl _) _)) _ 1 1 [.int .u64 v] rfl rfl (cell_one_new _ _ _) (by simp [Value.oneCell']) (by have := HSL.out; unfold maxLen; omega) (by have := HSL.out; omega) (by have := HLS.out; simp; omega) ?_; intro v' w9 hown hgr hnil; have H8 := Lib.hid (push_z F_o.out HBW.out hown hgr); clear hown hgr hnil)
            go_roundw
            case rel => first | exact ⟨k + 1, by omega, by go_num, by rw [HTK.out]; exact H8.out.1, H8.out.2⟩ | ((repeat apply Exists.intro); exact ⟨⟨k + 1, by omega, by go_num, by rw [HTK.out]; exact H8.out.1, H8.out.2⟩, rfl⟩)
            case measure => simp [intOf] <;> omega


set_option maxRecDepth 100000 in
theorem lifted (os : Os) (started : os.Started) (H : Type) (enc : TypeId × Value → H) :
    ReturnsInHanded {} Try.checked os 11 .any (Rows.shamirMergesSpec.pre6 enc Try.prog Try.f11 Rows.shamirMergesRow.domain false) (Rows.shamirMergesSpec.post enc Try.prog Try.f11 false true false false) := by
  refine returnsInHanded_of_change (C := Try.checked) own started (by kernel_rfl) Try.func11
    (ChangeSpec.witness6 (enc := enc) (C := Try.checked) false ⟨#[], #[.agg #[.int .u64 0, .int .u64 0, .int .u64 0], .slice none 0 0, .slice none 0 0, .int .i64 0], []⟩ 8 (by kernel_rfl) (by kernel_rfl) (by kernel_rfl) (by kernel_rfl)) ?_
  intro W base args ds gs before hval0 hW _ _
  have hval : ∀ (j : Nat) t v, Try.f11.params[j]? = some t → args[j]? = some v → Value.okWide Try.prog W .any base t v := hval0
  have hW' := hW
  obtain ⟨p, q, hA0, hV, rfl, hfz, hnd⟩ := hW
  have hA : DataW.TrodAll enc Try.prog W 0 (fun _ => true) true Try.f11.params.toList args.toList ds p := hA0
  rw [Try.params11] at hA hval
  have hK := hA
  obtain ⟨v0, vs0, d0, ds0, p0, q0, hargs, rfl, rfl, h0, r0⟩ := trodAll_cons hA
  obtain ⟨v1, vs1, d1, ds1, p1, q1, rfl, rfl, rfl, h1, r1⟩ := trodAll_cons r0
  obtain ⟨v2, vs2, d2, ds2, p2, q2, rfl, rfl, rfl, h2, r2⟩ := trodAll_cons r1
  obtain ⟨v3, vs3, d3, ds3, p3, q3, rfl, rfl, rfl, h3, r3⟩ := trodAll_cons r2
  obtain ⟨rfl, rfl, rfl⟩ := trodAll_nil r3
  obtain rfl : args = #[v0, v1, v2, v3] := by cases args; simp_all
  obtain ⟨rfl, rfl⟩ := trodVars_none hV
  obtain ⟨P, Q, G, rfl, uP, uQ, uG⟩ := open_group (hval 0 24 v0 rfl rfl) h0
  obtain ⟨a, n, c, xs, rfl, hS1, hx1, hc1, hd1'⟩ := open_u64s (hval 1 25 v1 rfl rfl) h1
  obtain ⟨b, m, d, ys, rfl, hS2, hx2, hc2, hd2'⟩ := open_u64s (hval 2 25 v2 rfl rfl) h2
  obtain ⟨i, rfl, il, iu⟩ := open_i64 (hval 3 3 v3 rfl rfl) h3
  clear hA0 hval0
  refine (walk P Q G a n c xs b m d ys i W uP uQ uG hS1 hx1 hc1 hd1' hS2 hx2 hc2 hd2' il iu).mono fun e W' ⟨he, bel⟩ => ?_
  subst he
  exact ⟨_, rfl, _, _, _, [], _, [], hW', trodAll_mk1 (shut_bool Try.underlying4 _), trodAll_stays laidOut (by kernel_rfl) hK bel, rfl, bel.frame _, fun h => by cases h⟩

theorem over : Rows.shamirMergesRow.holds Try.pinned (OpenSpec.ofChange Rows.shamirMergesSpec) :=
  OpenClaim.holds_of_wide 11 Try.f11 rfl rfl rfl rfl rfl rfl rfl ⟨rfl, rfl, rfl, rfl, rfl⟩ rfl rfl rfl rfl rfl (by kernel_rfl) Try.func11 (by kernel_rfl)
    (of_decide_eq_true (by kernel_rfl)) (by unfold Func.isWrapper; first | (rw [if_pos (by decide +kernel)]; kernel_rfl) | (rw [if_neg (by decide +kernel)]; exact ⟨rfl, rfl⟩))
    (fun os started H enc _ => lifted os started H enc)

theorem proved : Rows.ShamirMergesSaid := over
#print axioms proved
end Go.Proofs.Ytjfaaicbojnpaaa.lawMerges
