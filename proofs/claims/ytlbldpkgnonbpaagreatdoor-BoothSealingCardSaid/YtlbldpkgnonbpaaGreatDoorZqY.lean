/- The reference's Seal. -/
import Derived.Test.YtlbldpkgnonbpaaGreatDoorZqX
import Derived.Test.YtlbldpkgnonbpaaGreatDoorZqU
set_option linter.unusedSimpArgs false
set_option linter.unusedVariables false
set_option maxRecDepth 100000
namespace Go.Proofs.YtlbldpkgnonbpaaGreatDoor
open Go Go.RowKit Num Sha
theorem sampS_take {seed : List Int} {q : Int} : ∀ {k : Nat} {xs : List Int}, sampS seed q k = some xs → ∀ j, j ≤ k → sampS seed q j = some (xs.take j)
  | 0, xs, h, j, hj => by
   obtain rfl : j = 0 := by omega
   simp only [List.take_zero]; rfl
  | k + 1, xs, h, j, hj => by
   have hl := sampS_len h
   by_cases e : j = k + 1
   · subst e; rw [List.take_of_length_le (by omega)]; exact h
   · have h2 := h
     simp only [sampS] at h2
     cases hk : sampS seed q k with
     | none => rw [hk] at h2; cases h2
     | some ys =>
      rw [hk] at h2
      cases hd : drawS seed (k : Int) q with
      | none => simp only [hd] at h2; cases h2
      | some x =>
       simp only [hd] at h2
       injection h2 with h2
       have hly := sampS_len hk
       rw [sampS_take hk j (by omega), ← h2, List.take_append_of_le_length (by omega)]
theorem take_getD {d : List Int} {j t : Nat} (h : t < j) : (d.take j).getD t 0 = d.getD t 0 := by
 rw [List.getD_eq_getElem?_getD, List.getD_eq_getElem?_getD, List.getElem?_take_of_lt h]
theorem sumE_agree {Q : Int} {d d' : List Int} : ∀ n, (∀ t, t < 4 * n → d.getD t 0 = d'.getD t 0) → sumE Q d n = sumE Q d' n
  | 0, _ => rfl
  | n + 1, h => by rw [sumE, sumE, sumE_agree n (fun t ht => h t (by omega)), h (4 * n) (by omega)]
theorem SealV.agree {P Q G y : Int} {n : Nat} {ms : List Int} {one : Bool} {d d' : List Int} {V : Vt} {R : Rv} (h : SealV P Q G y n ms one d V R) (ha : ∀ t, t < manyS (n : Int) one → d.getD t 0 = d'.getD t 0) : SealV P Q G y n ms one d' V R := by
 have h4 : ∀ t, t < 4 * n → d.getD t 0 = d'.getD t 0 := fun t ht => ha t (by unfold manyS; rw [Int.toNat_natCast]; omega)
 refine ⟨h.en, h.em, h.eo, h.bl, fun i hi => by rw [h.eb i hi, h4 _ (by omega)], fun i hi => by have := h.ep i hi; rw [h4 _ (by omega), h4 _ (by omega), h4 _ (by omega), h4 _ (by omega)] at this; exact this, ?_, h.ern, h.erms, h.erm, ?_⟩
 · rcases h.ez with ⟨h1, h2⟩ | h2
   · have h3 : ∀ t, t < 4 * n + 3 → d.getD t 0 = d'.getD t 0 := fun t ht => ha t (by unfold manyS; rw [Int.toNat_natCast, if_pos h1]; omega)
     rw [sumE_agree n h4, h3 _ (by omega), h3 _ (by omega), h3 _ (by omega)] at h2
     exact .inl ⟨h1, h2⟩
   · exact .inr h2
 · rw [h.erns]
   exact List.map_congr_left fun i hi => h4 _ (by have := List.mem_range.1 hi; omega)
set_option maxHeartbeats 16000000 in
theorem rSeal36_any {P Q G y n : Int} {a : Option Addr} {m c : Nat} {ms seed : List Int} {one : Bool} (w : World) (hT : Tabs w) (hP : 0 ≤ P) (hQ : 0 ≤ Q) (hG : 0 ≤ G) (hy : 0 ≤ y) (hS : ShI .i64 w a m ms) (hu : ∀ x, x ∈ ms → -9223372036854775808 ≤ x ∧ x ≤ 9223372036854775807) (hm : m ≤ 100000) (hsl : seed.length = 32) (hby : ByteL seed) :
    Calls Tryz.prog 7 #[.agg #[.int .u64 P, .int .u64 Q, .int .u64 G], .int .u64 y, .int .i64 n, .slice a m c, .bool one, .agg (valV .u8 seed)] w (SealR w P Q G y n ms one seed) := by
  have HT := Lh hT
  have HS := Lh hS
  have HU := Lh hu
  have HLM := Lh hS.len
  have HSL := Lh hsl
  have HBY := Lh hby
  have HM := Lh hm
  have F_g := Lh (Cl.at w [.int .u64 P, .int .u64 Q, .int .u64 G] 24 w.heap.size rfl)
  have HBW := Lh (show Below w.heap.size w (w.alloc (.cells #[.int .u64 P, .int .u64 Q, .int .u64 G] 24)) from (Below.refl _ _).alloc (Nat.le_refl _) _)
  clear hT hS hu hsl hby hm
  go_enter Tryz.func7, Tryz.ntmps7
  go_wp2_with (refine wpL_boxArr rfl 26 .u8 _ seed rfl rfl ?_; intro w1 h1; have F_s := Lh (show Arr .u8 w1 (w.heap.size + 1) seed by have h2 := h1.arr; rw [World.size_alloc] at h2; exact h2); have hb1 := h1.below _ (Nat.le_refl _); replace F_g := Lh (F_g.o.keep hb1); replace HBW := Lh (HBW.o.trans (hb1.mono HBW.o.size)); clear h1 hb1; have HZ1 := Lh (show w.heap.size + 1 < w1.heap.size from F_s.o.lt); replace F_g := Lh ((F_g.o.alloc (.cells #[.slice none 0 0, .slice none 0 0, .bool false, .int .u64 0, .int .u64 0, .int .u64 0, .int .u64 0, .int .u64 0, .int .u64 0, .int .u64 0, .int .u64 0] 33)).alloc (.cells #[.slice none 0 0, .slice none 0 0] 36)); replace F_s := Lh ((F_s.o.alloc (.cells #[.slice none 0 0, .slice none 0 0, .bool false, .int .u64 0, .int .u64 0, .int .u64 0, .int .u64 0, .int .u64 0, .int .u64 0, .int .u64 0, .int .u64 0] 33)).alloc (.cells #[.slice none 0 0, .slice none 0 0] 36)); have F_o := Lh (show Cl ((w1.alloc (.cells #[.slice none 0 0, .slice none 0 0, .bool false, .int .u64 0, .int .u64 0, .int .u64 0, .int .u64 0, .int .u64 0, .int .u64 0, .int .u64 0, .int .u64 0] 33)).alloc (.cells #[.slice none 0 0, .slice none 0 0] 36)) w1.heap.size [.slice none 0 0, .slice none 0 0, .bool false, .int .u64 0, .int .u64 0, .int .u64 0, .int .u64 0, .int .u64 0, .int .u64 0, .int .u64 0, .int .u64 0] from (Cl.at w1 _ 33 w1.heap.size rfl).alloc _); have F_q := Lh (show Cl ((w1.alloc (.cells #[.slice none 0 0, .slice none 0 0, .bool false, .int .u64 0, .int .u64 0, .int .u64 0, .int .u64 0, .int .u64 0, .int .u64 0, .int .u64 0, .int .u64 0] 33)).alloc (.cells #[.slice none 0 0, .slice none 0 0] 36)) (w1.heap.size + 1) [.slice none 0 0, .slice none 0 0] from Cl.at (w1.alloc (.cells #[.slice none 0 0, .slice none 0 0, .bool false, .int .u64 0, .int .u64 0, .int .u64 0, .int .u64 0, .int .u64 0, .int .u64 0, .int .u64 0, .int .u64 0] 33)) [.slice none 0 0, .slice none 0 0] 36 (w1.heap.size + 1) (by simp)); replace HBW := Lh (show Below w.heap.size w ((w1.alloc (.cells #[.slice none 0 0, .slice none 0 0, .bool false, .int .u64 0, .int .u64 0, .int .u64 0, .int .u64 0, .int .u64 0, .int .u64 0, .int .u64 0, .int .u64 0] 33)).alloc (.cells #[.slice none 0 0, .slice none 0 0] 36)) from (HBW.o.alloc HBW.o.size _).alloc (by have := HZ1.o; simp; omega) _); have c0 := F_g.o.c 0 _ rfl; have c1 := F_g.o.c 1 _ rfl; have c2 := F_g.o.c 2 _ rfl; simp only [sY]; simp only [World.size_alloc])
  clear c0 c1 c2
  refine (rAsked36_any _ hP hQ hG hy).mono ?_
  rintro e w2 ⟨rfl, hb2⟩
  replace F_g := Lh (F_g.o.keep hb2)
  replace F_s := Lh (F_s.o.keep hb2)
  replace F_o := Lh (F_o.o.keep hb2)
  replace F_q := Lh (F_q.o.keep hb2)
  replace HBW := Lh (HBW.o.trans (hb2.mono HBW.o.size))
  clear hb2
  obtain ⟨e0, he0⟩ : ∃ e0, chkB P Q G y n = e0 := ⟨_, rfl⟩
  rw [he0]
  by_cases hk : e0 = 0
  case neg =>
   have d0 : decide (e0 = 0) = false := decide_eq_false hk
   have HK := Lh (show sealE P Q G y n ms one = e0 by rw [sealE, he0, if_pos hk])
   have HNE := Lh hk
   clear he0
   go_wp2_with (first
     | (refine wpL_storeCl rfl 33 (.tmp 12) (.tmp 42) w1.heap.size 0 _ [.slice none 0 0, .slice none 0 0, .bool false, .int .u64 0, .int .u64 0, .int .u64 0, .int .u64 0, .int .u64 0, .int .u64 0, .int .u64 0, .int .u64 0] [.slice none 0 0, .slice none 0 0, .bool false, .int .u64 0, .int .u64 0, .int .u64 0, .int .u64 0, .int .u64 0, .int .u64 0, .int .u64 0, .int .u64 0] rfl rfl rfl rfl (by kernel_rfl) (by intro u hu; simp at hu; rcases hu with rfl | rfl | rfl | rfl | rfl | rfl | rfl | rfl | rfl | rfl | rfl <;> rfl) F_o.o (by simp) rfl ?_
        intro wx hc8 hg8 hz8
        have F_x := Lh hc8
        have HGx := Lh hg8
        have hz_wx := hz8
        clear hc8 hg8 hz8)
     | (refine wpL_storeCl rfl 36 (.tmp 13) (.tmp 43) (w1.heap.size + 1) 0 _ [.slice none 0 0, .slice none 0 0] [.slice none 0 0, .slice none 0 0] rfl rfl rfl rfl (by kernel_rfl) (by intro u hu; simp at hu; rcases hu with rfl | rfl <;> rfl) (F_q.o.gro HGx.o (by omega)) (by simp) rfl ?_
        intro wz hc8 hg8 hz8
        have F_z := Lh hc8
        have HGz := Lh hg8
        have hz_wz := hz8
        clear hc8 hg8 hz8))
   refine bodyPost_ret (res_seal rfl (F_x.o.gro HGz.o (by omega)) F_z.o _ rfl rfl rfl) rfl ?_
   exact ⟨(HBW.o.trans (HGx.o.blw (n := w.heap.size) (by have := HZ1.o; omega) HBW.o.size)).trans (HGz.o.blw (n := w.heap.size) (by have := HZ1.o; omega) (by have := HBW.o.size; omega)), .inl ⟨by rw [HK.o]; exact HNE.o, by rw [HK.o]; rfl⟩⟩
  case pos =>
   subst hk
   have HK0 := Lh he0
   clear he0
   go_wp2_with fail
   refine (rMarks_any _ (HS.o.keep HBW.o) (by have := HM.o; omega)).mono ?_
   rintro e w3 ⟨rfl, hb3⟩
   replace F_g := Lh (F_g.o.keep hb3)
   replace F_s := Lh (F_s.o.keep hb3)
   replace F_o := Lh (F_o.o.keep hb3)
   replace F_q := Lh (F_q.o.keep hb3)
   replace HBW := Lh (HBW.o.trans (hb3.mono HBW.o.size))
   clear hb3
   obtain ⟨mk, hmk⟩ : ∃ mk, markedS n ms = mk := ⟨_, rfl⟩
   rw [hmk]
   have HMK := Lh hmk
   clear hmk
   cases mk with
   | false =>
    have HK := Lh (show sealE P Q G y n ms one = 2 by rw [sealE, HK0.o, if_neg (by decide), if_neg (by rw [HMK.o]; simp)])
    go_wp2_with (first
      | (refine wpL_storeCl rfl 33 (.tmp 12) (.tmp 42) w1.heap.size 0 _ [.slice none 0 0, .slice none 0 0, .bool false, .int .u64 0, .int .u64 0, .int .u64 0, .int .u64 0, .int .u64 0, .int .u64 0, .int .u64 0, .int .u64 0] [.slice none 0 0, .slice none 0 0, .bool false, .int .u64 0, .int .u64 0, .int .u64 0, .int .u64 0, .int .u64 0, .int .u64 0, .int .u64 0, .int .u64 0] rfl rfl rfl rfl (by kernel_rfl) (by intro u hu; simp at hu; rcases hu with rfl | rfl | rfl | rfl | rfl | rfl | rfl | rfl | rfl | rfl | rfl <;> rfl) F_o.o (by simp) rfl ?_
         intro wx hc8 hg8 hz8
         have F_x := Lh hc8
         have HGx := Lh hg8
         have hz_wx := hz8
         clear hc8 hg8 hz8)
      | (refine wpL_storeCl rfl 36 (.tmp 13) (.tmp 43) (w1.heap.size + 1) 0 _ [.slice none 0 0, .slice none 0 0] [.slice none 0 0, .slice none 0 0] rfl rfl rfl rfl (by kernel_rfl) (by intro u hu; simp at hu; rcases hu with rfl | rfl <;> rfl) (F_q.o.gro HGx.o (by omega)) (by simp) rfl ?_
         intro wz hc8 hg8 hz8
         have F_z := Lh hc8
         have HGz := Lh hg8
         have hz_wz := hz8
         clear hc8 hg8 hz8))
    refine bodyPost_ret (res_seal rfl (F_x.o.gro HGz.o (by omega)) F_z.o _ rfl rfl rfl) rfl ?_
    exact ⟨(HBW.o.trans (HGx.o.blw (n := w.heap.size) (by have := HZ1.o; omega) HBW.o.size)).trans (HGz.o.blw (n := w.heap.size) (by have := HZ1.o; omega) (by have := HBW.o.size; omega)), .inl ⟨by rw [HK.o]; decide, by rw [HK.o]; rfl⟩⟩
   | true =>
    cases one with
    | false =>
     have HSE := Lh (show sealE P Q G y n ms false = 0 by rw [sealE, HK0.o, if_neg (by decide), if_pos ⟨HMK.o, fun h => by cases h⟩])
     have hck := chkB_ok HK0.o
     obtain ⟨k, rfl⟩ : ∃ k : Nat, n = k := ⟨n.toNat, by omega⟩
     have HCK := Lh hck
     have hk1 : 1 ≤ k := by have := hck.2.2.1; omega
     have hk2 : k ≤ 10 := by have := hck.2.2.2; omega
     have HPQ := Lh (show 0 < Q ∧ Q ≤ 4294967296 by obtain ⟨p5, p3, hQ2, pq, g2, gP⟩ := hck.1; omega)
     clear hck HK0
     have c0 := F_g.o.c 0 _ rfl
     have c1 := F_g.o.c 1 _ rfl
     have c2 := F_g.o.c 2 _ rfl
     go_wp2_with (refine wpL_loadArr rfl 26 .u8 (.tmp 11) (w.heap.size + 1) seed 32 5 rfl rfl Tryz.underlying26 (by rw [HSL.o]; kernel_rfl) F_s.o ?_; simp only [sY])
     clear c0 c1 c2
     refine (rnonces_any _ (HT.o.below HBW.o) HSL.o HBY.o HPQ.o.1 HPQ.o.2 hk2).mono ?_
     rintro e wc ⟨hbc, hr⟩
     replace F_g := Lh (F_g.o.keep hbc)
     replace F_s := Lh (F_s.o.keep hbc)
     replace F_o := Lh (F_o.o.keep hbc)
     replace F_q := Lh (F_q.o.keep hbc)
     replace HBW := Lh (HBW.o.trans (hbc.mono HBW.o.size))
     clear hbc
     cases ho : sampS seed Q (4 * k + 3) with
     | some d =>
      rw [ho] at hr
      obtain ⟨v, rfl, hv⟩ := hr
      obtain ⟨ad, cd, rfl, hsd⟩ := ShI.of_owned hv
      have HSD := Lh hsd
      have HDL := Lh (sampS_len ho)
      have HDB := Lh (sampS_d (by have := HPQ.o; omega) ho)
      have HAG := Lh (show ∃ d0, sampS seed Q (manyS (k : Int) false) = some d0 ∧ ∀ t, t < manyS (k : Int) false → d.getD t 0 = d0.getD t 0 from ⟨d.take (4 * k), by unfold manyS; rw [Int.toNat_natCast, if_neg (by decide)]; exact sampS_take ho _ (by omega), fun t ht => (take_getD (by unfold manyS at ht; rw [Int.toNat_natCast, if_neg (by decide)] at ht; omega)).symm⟩)
      clear hsd hv ho
      have c0 := F_g.o.c 0 _ rfl
      have c1 := F_g.o.c 1 _ rfl
      have c2 := F_g.o.c 2 _ rfl
      go_wp2_with fail
      clear c0 c1 c2
      have HZC := Lh (show w1.heap.size + 1 < wc.heap.size from F_q.o.lt)
      refine (rsealed_any (n := k) _ (HT.o.below HBW.o) HCK.o.1 hy HCK.o.2.1 (by omega) (HS.o.keep HBW.o) (by have := markedS_len (by omega) HMK.o; have := HLM.o; omega) HU.o HSD.o HDB.o (by have := HDL.o; omega) (by intro h; cases h)).mono ?_
      rintro e w7 ⟨⟨V, R, rfl, hsv, hvi, hri, hhi⟩, hb7⟩
      have HSV := Lh hsv
      have HVI := Lh hvi
      have HRI := Lh hri
      have HHI := Lh hhi
      clear hsv hvi hri hhi
      replace F_o := Lh (F_o.o.keep hb7)
      replace F_q := Lh (F_q.o.keep hb7)
      replace HBW := Lh (HBW.o.trans (hb7.mono HBW.o.size))
      have HZ7 := Lh hb7.size
      clear hb7 F_g F_s
      unfold Vt.v Rv.v
      have F_v0 := Lh (show Cl ((w7.alloc (.cells #[.slice none 0 0, .slice none 0 0, .bool false, .int .u64 0, .int .u64 0, .int .u64 0, .int .u64 0, .int .u64 0, .int .u64 0, .int .u64 0, .int .u64 0] 33)).alloc (.cells #[.slice none 0 0, .slice none 0 0] 36)) w7.heap.size [.slice none 0 0, .slice none 0 0, .bool false, .int .u64 0, .int .u64 0, .int .u64 0, .int .u64 0, .int .u64 0, .int .u64 0, .int .u64 0, .int .u64 0] from (Cl.at w7 _ 33 w7.heap.size rfl).alloc _)
      have F_r0 := Lh (show Cl ((w7.alloc (.cells #[.slice none 0 0, .slice none 0 0, .bool false, .int .u64 0, .int .u64 0, .int .u64 0, .int .u64 0, .int .u64 0, .int .u64 0, .int .u64 0, .int .u64 0] 33)).alloc (.cells #[.slice none 0 0, .slice none 0 0] 36)) (w7.heap.size + 1) [.slice none 0 0, .slice none 0 0] from Cl.at (w7.alloc (.cells #[.slice none 0 0, .slice none 0 0, .bool false, .int .u64 0, .int .u64 0, .int .u64 0, .int .u64 0, .int .u64 0, .int .u64 0, .int .u64 0, .int .u64 0] 33)) [.slice none 0 0, .slice none 0 0] 36 (w7.heap.size + 1) (by simp))
      have HAA := Lh (show Below w7.heap.size w7 ((w7.alloc (.cells #[.slice none 0 0, .slice none 0 0, .bool false, .int .u64 0, .int .u64 0, .int .u64 0, .int .u64 0, .int .u64 0, .int .u64 0, .int .u64 0, .int .u64 0] 33)).alloc (.cells #[.slice none 0 0, .slice none 0 0] 36)) from ((Below.refl _ _).alloc (Nat.le_refl _) _).alloc (by simp) _)
      replace F_o := Lh (F_o.o.keep HAA.o)
      replace F_q := Lh (F_q.o.keep HAA.o)
      replace HBW := Lh (HBW.o.trans (HAA.o.mono HBW.o.size))
      have HZAA := Lh (show ((w7.alloc (.cells #[.slice none 0 0, .slice none 0 0, .bool false, .int .u64 0, .int .u64 0, .int .u64 0, .int .u64 0, .int .u64 0, .int .u64 0, .int .u64 0, .int .u64 0] 33)).alloc (.cells #[.slice none 0 0, .slice none 0 0] 36)).heap.size = w7.heap.size + 1 + 1 by simp)
      go_wp2_with (first
        | (refine wpL_storeCl rfl 33 (.tmp 18) (.tmp 77) w7.heap.size 0 _ V.cl V.cl rfl rfl rfl rfl (by kernel_rfl) (by intro u hu; simp at hu; rcases hu with rfl | rfl | rfl | rfl | rfl | rfl | rfl | rfl | rfl | rfl | rfl <;> rfl) F_v0.o (by simp) rfl ?_
           intro wx hc8 hg8 hz8
           have F_v := Lh hc8
           have HGx := Lh hg8
           have hz_wx := hz8
           clear hc8 hg8 hz8)
        | (refine wpL_storeCl rfl 36 (.tmp 19) (.tmp 78) (w7.heap.size + 1) 0 _ [.slice R.a R.n R.c, .slice R.b R.m R.d] [.slice R.a R.n R.c, .slice R.b R.m R.d] rfl rfl rfl rfl (by kernel_rfl) (by intro u hu; simp at hu; rcases hu with rfl | rfl <;> rfl) (F_r0.o.gro HGx.o (by omega)) (by simp) rfl ?_
           intro wz hc8 hg8 hz8
           have F_r := Lh hc8
           have HGz := Lh hg8
           have hz_wz := hz8
           clear hc8 hg8 hz8))
      replace F_v := Lh (F_v.o.gro HGz.o (by omega))
      replace F_o := Lh ((F_o.o.gro HGx.o (by have := HZC.o; have := HZ7.o; omega)).gro HGz.o (by have := HZC.o; have := HZ7.o; omega))
      replace F_q := Lh ((F_q.o.gro HGx.o (by have := HZC.o; have := HZ7.o; omega)).gro HGz.o (by have := HZC.o; have := HZ7.o; omega))
      have HSZ := Lh (show w7.heap.size + 1 < wz.heap.size by have := HZAA.o; omega)
      have HMID := Lh (show ∀ j, wc.heap.size ≤ j → j < w7.heap.size → wz.heap[j]? = w7.heap[j]? from fun j h1 h2 => ((HGz.o.block j (by have := HZAA.o; omega) (by intro e; injection e with e; omega)).trans (HGx.o.block j (by have := HZAA.o; omega) (by intro e; injection e with e; omega))).trans (HAA.o.block j h2))
      replace HBW := Lh ((HBW.o.trans (HGx.o.blw (n := w.heap.size) (by have := HZ1.o; have := HZC.o; have := HZ7.o; omega) HBW.o.size)).trans (HGz.o.blw (n := w.heap.size) (by have := HZ1.o; have := HZC.o; have := HZ7.o; omega) (by have := HBW.o.size; omega)))
      clear HGx HGz hz_wx hz_wz F_v0 F_r0 HAA HZAA
      go_wp2_with fail
      replace F_v := Lh F_v.o.drew
      replace F_r := Lh F_r.o.drew
      replace F_o := Lh F_o.o.drew
      replace F_q := Lh F_q.o.drew
      replace HBW := Lh HBW.o.drew
      have hS0 := And.intro F_v.o F_r.o
      refine wp_region_stage 3 (fun w' => Cl w' w7.heap.size V.cl ∧ Cl w' (w7.heap.size + 1) [.slice R.a R.n R.c, .slice R.b R.m R.d]) (by kernel_rfl) ?_
      refine tkL (i := 0) (some 79) (.load 33 (.tmp 18)) 33 [2, 3] (v := ?_) hS0 (fun w' hSw => ?_) ?_
      rotate_left
      · obtain ⟨t1, t2⟩ := hSw; obtain ⟨⟨q0, q1, q2, q3, q4, q5, q6, q7, q8, q9, q10⟩, -⟩ := t1.k11
        unfold bareOp; go_simp; try with_reducible rfl
      simp only [sY]
      refine tkL (i := 1) (some 80) (.load 36 (.tmp 19)) 36 [3] (v := ?_) hS0 (fun w' hSw => ?_) ?_
      rotate_left
      · obtain ⟨t1, t2⟩ := hSw; have q0 := t2.c 0 _ rfl; have q1 := t2.c 1 _ rfl
        unfold bareOp; go_simp; try with_reducible rfl
      simp only [sY]
      refine onl (i := 2) none (.store 33 (.tmp 12) (.tmp 79)) 0 (fun K hK => ?_)
      unfold bareOp
      refine wp_storeCl 33 (.tmp 12) (.tmp 79) w1.heap.size 0 [.slice none 0 0, .slice none 0 0, .bool false, .int .u64 0, .int .u64 0, .int .u64 0, .int .u64 0, .int .u64 0, .int .u64 0, .int .u64 0, .int .u64 0] V.cl V.cl rfl rfl rfl (by kernel_rfl) (by intro u hu; simp at hu; rcases hu with rfl | rfl | rfl | rfl | rfl | rfl | rfl | rfl | rfl | rfl | rfl <;> rfl) F_o.o (by simp) rfl ?_
      intro wa2 hca hga hza
      replace F_o := Lh hca
      replace F_q := Lh (F_q.o.gro hga (by omega))
      replace F_v := Lh (F_v.o.gro hga (by have := HZC.o; have := HZ7.o; omega))
      replace F_r := Lh (F_r.o.gro hga (by have := HZC.o; have := HZ7.o; omega))
      replace HBW := Lh (HBW.o.trans (hga.blw (n := w.heap.size) (by have := HZ1.o; omega) HBW.o.size))
      replace HMID := Lh (show ∀ j, wc.heap.size ≤ j → j < w7.heap.size → wa2.heap[j]? = w7.heap[j]? from fun j h1 h2 => (hga.block j (by have := HSZ.o; simp; omega) (by intro e; injection e with e; have := HZC.o; omega)).trans (HMID.o j h1 h2))
      replace HSZ := Lh (show w7.heap.size + 1 < wa2.heap.size by rw [hza]; exact HSZ.o)
      clear hca hga hza hS0
      have hS0 := And.intro F_v.o F_r.o
      refine hK.o _ _ (fun _ => hS0) ?_
      clear hK K
      try simp only [sY]
      refine onl (i := 3) none (.store 36 (.tmp 13) (.tmp 80)) 0 (fun K hK => ?_)
      unfold bareOp
      refine wp_storeCl 36 (.tmp 13) (.tmp 80) (w1.heap.size + 1) 0 [.slice none 0 0, .slice none 0 0] [.slice R.a R.n R.c, .slice R.b R.m R.d] [.slice R.a R.n R.c, .slice R.b R.m R.d] rfl rfl rfl (by kernel_rfl) (by intro u hu; simp at hu; rcases hu with rfl | rfl <;> rfl) F_q.o (by simp) rfl ?_
      intro wa3 hca hga hza
      replace F_q := Lh hca
      replace F_o := Lh (F_o.o.gro hga (by omega))
      replace F_v := Lh (F_v.o.gro hga (by have := HZC.o; have := HZ7.o; omega))
      replace F_r := Lh (F_r.o.gro hga (by have := HZC.o; have := HZ7.o; omega))
      replace HBW := Lh (HBW.o.trans (hga.blw (n := w.heap.size) (by have := HZ1.o; omega) HBW.o.size))
      replace HMID := Lh (show ∀ j, wc.heap.size ≤ j → j < w7.heap.size → wa3.heap[j]? = w7.heap[j]? from fun j h1 h2 => (hga.block j (by have := HSZ.o; simp; omega) (by intro e; injection e with e; have := HZC.o; omega)).trans (HMID.o j h1 h2))
      replace HSZ := Lh (show w7.heap.size + 1 < wa3.heap.size by rw [hza]; exact HSZ.o)
      clear hca hga hza hS0
      have hS0 := And.intro F_v.o F_r.o
      refine hK.o _ _ lt8 ?_
      clear hK K
      try simp only [sY]
      refine tkP (i := 4) (some 14) (.assign (.const (.int .i64 0))) 3 lt8 ?_
      simp only [sY]
      refine wpAnyB_done (by kernel_rfl) ?_ _
      go_wp2_with fail
      obtain ⟨d0, hd0, hag⟩ := HAG.o
      obtain ⟨g1, g2⟩ := HHI.o.keep HVI.o HRI.o HMID.o (by have := HSZ.o; omega)
      refine bodyPost_ret (res_seal rfl F_o.o F_q.o _ rfl rfl rfl) rfl ?_
      exact ⟨HBW.o, .inr ⟨HSE.o, .inr ⟨d0, V, R, hd0, rfl, HSV.o.agree hag, g1, g2⟩⟩⟩
     | none =>
      rw [ho] at hr
      obtain rfl : e = .returned (.tuple #[.slice none 0 0, .bool false]) := hr
      clear ho
      have c0 := F_g.o.c 0 _ rfl
      have c1 := F_g.o.c 1 _ rfl
      have c2 := F_g.o.c 2 _ rfl
      go_wp2_with (refine wpL_loadArr rfl 26 .u8 (.tmp 11) (w.heap.size + 1) seed 32 5 rfl rfl Tryz.underlying26 (by rw [HSL.o]; kernel_rfl) F_s.o ?_; simp only [sY])
      clear c0 c1 c2
      refine (rsome_any _ (HT.o.below HBW.o) HSL.o HBY.o HPQ.o.1 HPQ.o.2 hk2).mono ?_
      rintro e wc2 ⟨hbc2, hr⟩
      replace F_g := Lh (F_g.o.keep hbc2)
      replace F_s := Lh (F_s.o.keep hbc2)
      replace F_o := Lh (F_o.o.keep hbc2)
      replace F_q := Lh (F_q.o.keep hbc2)
      replace HBW := Lh (HBW.o.trans (hbc2.mono HBW.o.size))
      clear hbc2
      cases ho : sampS seed Q (4 * k) with
      | some d =>
       rw [ho] at hr
       obtain ⟨v, rfl, hv⟩ := hr
       obtain ⟨ad, cd, rfl, hsd⟩ := ShI.of_owned hv
       have HSD := Lh hsd
       have HDL := Lh (sampS_len ho)
       have HDB := Lh (sampS_d (by have := HPQ.o; omega) ho)
       have HAG := Lh (show ∃ d0, sampS seed Q (manyS (k : Int) false) = some d0 ∧ ∀ t, t < manyS (k : Int) false → d.getD t 0 = d0.getD t 0 from ⟨d, by unfold manyS; rw [Int.toNat_natCast, if_neg (by decide)]; exact ho, fun _ _ => rfl⟩)
       clear hsd hv ho
       have c0 := F_g.o.c 0 _ rfl
       have c1 := F_g.o.c 1 _ rfl
       have c2 := F_g.o.c 2 _ rfl
       go_wp2_with fail
       clear c0 c1 c2
       have HZC := Lh (show w1.heap.size + 1 < wc2.heap.size from F_q.o.lt)
       refine (rsealed_any (n := k) _ (HT.o.below HBW.o) HCK.o.1 hy HCK.o.2.1 (by omega) (HS.o.keep HBW.o) (by have := markedS_len (by omega) HMK.o; have := HLM.o; omega) HU.o HSD.o HDB.o (by have := HDL.o; omega) (by intro h; cases h)).mono ?_
       rintro e w7 ⟨⟨V, R, rfl, hsv, hvi, hri, hhi⟩, hb7⟩
       have HSV := Lh hsv
       have HVI := Lh hvi
       have HRI := Lh hri
       have HHI := Lh hhi
       clear hsv hvi hri hhi
       replace F_o := Lh (F_o.o.keep hb7)
       replace F_q := Lh (F_q.o.keep hb7)
       replace HBW := Lh (HBW.o.trans (hb7.mono HBW.o.size))
       have HZ7 := Lh hb7.size
       clear hb7 F_g F_s
       unfold Vt.v Rv.v
       have F_v0 := Lh (show Cl ((w7.alloc (.cells #[.slice none 0 0, .slice none 0 0, .bool false, .int .u64 0, .int .u64 0, .int .u64 0, .int .u64 0, .int .u64 0, .int .u64 0, .int .u64 0, .int .u64 0] 33)).alloc (.cells #[.slice none 0 0, .slice none 0 0] 36)) w7.heap.size [.slice none 0 0, .slice none 0 0, .bool false, .int .u64 0, .int .u64 0, .int .u64 0, .int .u64 0, .int .u64 0, .int .u64 0, .int .u64 0, .int .u64 0] from (Cl.at w7 _ 33 w7.heap.size rfl).alloc _)
       have F_r0 := Lh (show Cl ((w7.alloc (.cells #[.slice none 0 0, .slice none 0 0, .bool false, .int .u64 0, .int .u64 0, .int .u64 0, .int .u64 0, .int .u64 0, .int .u64 0, .int .u64 0, .int .u64 0] 33)).alloc (.cells #[.slice none 0 0, .slice none 0 0] 36)) (w7.heap.size + 1) [.slice none 0 0, .slice none 0 0] from Cl.at (w7.alloc (.cells #[.slice none 0 0, .slice none 0 0, .bool false, .int .u64 0, .int .u64 0, .int .u64 0, .int .u64 0, .int .u64 0, .int .u64 0, .int .u64 0, .int .u64 0] 33)) [.slice none 0 0, .slice none 0 0] 36 (w7.heap.size + 1) (by simp))
       have HAA := Lh (show Below w7.heap.size w7 ((w7.alloc (.cells #[.slice none 0 0, .slice none 0 0, .bool false, .int .u64 0, .int .u64 0, .int .u64 0, .int .u64 0, .int .u64 0, .int .u64 0, .int .u64 0, .int .u64 0] 33)).alloc (.cells #[.slice none 0 0, .slice none 0 0] 36)) from ((Below.refl _ _).alloc (Nat.le_refl _) _).alloc (by simp) _)
       replace F_o := Lh (F_o.o.keep HAA.o)
       replace F_q := Lh (F_q.o.keep HAA.o)
       replace HBW := Lh (HBW.o.trans (HAA.o.mono HBW.o.size))
       have HZAA := Lh (show ((w7.alloc (.cells #[.slice none 0 0, .slice none 0 0, .bool false, .int .u64 0, .int .u64 0, .int .u64 0, .int .u64 0, .int .u64 0, .int .u64 0, .int .u64 0, .int .u64 0] 33)).alloc (.cells #[.slice none 0 0, .slice none 0 0] 36)).heap.size = w7.heap.size + 1 + 1 by simp)
       go_wp2_with (first
         | (refine wpL_storeCl rfl 33 (.tmp 18) (.tmp 77) w7.heap.size 0 _ V.cl V.cl rfl rfl rfl rfl (by kernel_rfl) (by intro u hu; simp at hu; rcases hu with rfl | rfl | rfl | rfl | rfl | rfl | rfl | rfl | rfl | rfl | rfl <;> rfl) F_v0.o (by simp) rfl ?_
            intro wx hc8 hg8 hz8
            have F_v := Lh hc8
            have HGx := Lh hg8
            have hz_wx := hz8
            clear hc8 hg8 hz8)
         | (refine wpL_storeCl rfl 36 (.tmp 19) (.tmp 78) (w7.heap.size + 1) 0 _ [.slice R.a R.n R.c, .slice R.b R.m R.d] [.slice R.a R.n R.c, .slice R.b R.m R.d] rfl rfl rfl rfl (by kernel_rfl) (by intro u hu; simp at hu; rcases hu with rfl | rfl <;> rfl) (F_r0.o.gro HGx.o (by omega)) (by simp) rfl ?_
            intro wz hc8 hg8 hz8
            have F_r := Lh hc8
            have HGz := Lh hg8
            have hz_wz := hz8
            clear hc8 hg8 hz8))
       replace F_v := Lh (F_v.o.gro HGz.o (by omega))
       replace F_o := Lh ((F_o.o.gro HGx.o (by have := HZC.o; have := HZ7.o; omega)).gro HGz.o (by have := HZC.o; have := HZ7.o; omega))
       replace F_q := Lh ((F_q.o.gro HGx.o (by have := HZC.o; have := HZ7.o; omega)).gro HGz.o (by have := HZC.o; have := HZ7.o; omega))
       have HSZ := Lh (show w7.heap.size + 1 < wz.heap.size by have := HZAA.o; omega)
       have HMID := Lh (show ∀ j, wc2.heap.size ≤ j → j < w7.heap.size → wz.heap[j]? = w7.heap[j]? from fun j h1 h2 => ((HGz.o.block j (by have := HZAA.o; omega) (by intro e; injection e with e; omega)).trans (HGx.o.block j (by have := HZAA.o; omega) (by intro e; injection e with e; omega))).trans (HAA.o.block j h2))
       replace HBW := Lh ((HBW.o.trans (HGx.o.blw (n := w.heap.size) (by have := HZ1.o; have := HZC.o; have := HZ7.o; omega) HBW.o.size)).trans (HGz.o.blw (n := w.heap.size) (by have := HZ1.o; have := HZC.o; have := HZ7.o; omega) (by have := HBW.o.size; omega)))
       clear HGx HGz hz_wx hz_wz F_v0 F_r0 HAA HZAA
       go_wp2_with fail
       replace F_v := Lh F_v.o.drew
       replace F_r := Lh F_r.o.drew
       replace F_o := Lh F_o.o.drew
       replace F_q := Lh F_q.o.drew
       replace HBW := Lh HBW.o.drew
       have hS0 := And.intro F_v.o F_r.o
       refine wp_region_stage 3 (fun w' => Cl w' w7.heap.size V.cl ∧ Cl w' (w7.heap.size + 1) [.slice R.a R.n R.c, .slice R.b R.m R.d]) (by kernel_rfl) ?_
       refine tkL (i := 0) (some 79) (.load 33 (.tmp 18)) 33 [2, 3] (v := ?_) hS0 (fun w' hSw => ?_) ?_
       rotate_left
       · obtain ⟨t1, t2⟩ := hSw; obtain ⟨⟨q0, q1, q2, q3, q4, q5, q6, q7, q8, q9, q10⟩, -⟩ := t1.k11
         unfold bareOp; go_simp; try with_reducible rfl
       simp only [sY]
       refine tkL (i := 1) (some 80) (.load 36 (.tmp 19)) 36 [3] (v := ?_) hS0 (fun w' hSw => ?_) ?_
       rotate_left
       · obtain ⟨t1, t2⟩ := hSw; have q0 := t2.c 0 _ rfl; have q1 := t2.c 1 _ rfl
         unfold bareOp; go_simp; try with_reducible rfl
       simp only [sY]
       refine onl (i := 2) none (.store 33 (.tmp 12) (.tmp 79)) 0 (fun K hK => ?_)
       unfold bareOp
       refine wp_storeCl 33 (.tmp 12) (.tmp 79) w1.heap.size 0 [.slice none 0 0, .slice none 0 0, .bool false, .int .u64 0, .int .u64 0, .int .u64 0, .int .u64 0, .int .u64 0, .int .u64 0, .int .u64 0, .int .u64 0] V.cl V.cl rfl rfl rfl (by kernel_rfl) (by intro u hu; simp at hu; rcases hu with rfl | rfl | rfl | rfl | rfl | rfl | rfl | rfl | rfl | rfl | rfl <;> rfl) F_o.o (by simp) rfl ?_
       intro wa2 hca hga hza
       replace F_o := Lh hca
       replace F_q := Lh (F_q.o.gro hga (by omega))
       replace F_v := Lh (F_v.o.gro hga (by have := HZC.o; have := HZ7.o; omega))
       replace F_r := Lh (F_r.o.gro hga (by have := HZC.o; have := HZ7.o; omega))
       replace HBW := Lh (HBW.o.trans (hga.blw (n := w.heap.size) (by have := HZ1.o; omega) HBW.o.size))
       replace HMID := Lh (show ∀ j, wc2.heap.size ≤ j → j < w7.heap.size → wa2.heap[j]? = w7.heap[j]? from fun j h1 h2 => (hga.block j (by have := HSZ.o; simp; omega) (by intro e; injection e with e; have := HZC.o; omega)).trans (HMID.o j h1 h2))
       replace HSZ := Lh (show w7.heap.size + 1 < wa2.heap.size by rw [hza]; exact HSZ.o)
       clear hca hga hza hS0
       have hS0 := And.intro F_v.o F_r.o
       refine hK.o _ _ (fun _ => hS0) ?_
       clear hK K
       try simp only [sY]
       refine onl (i := 3) none (.store 36 (.tmp 13) (.tmp 80)) 0 (fun K hK => ?_)
       unfold bareOp
       refine wp_storeCl 36 (.tmp 13) (.tmp 80) (w1.heap.size + 1) 0 [.slice none 0 0, .slice none 0 0] [.slice R.a R.n R.c, .slice R.b R.m R.d] [.slice R.a R.n R.c, .slice R.b R.m R.d] rfl rfl rfl (by kernel_rfl) (by intro u hu; simp at hu; rcases hu with rfl | rfl <;> rfl) F_q.o (by simp) rfl ?_
       intro wa3 hca hga hza
       replace F_q := Lh hca
       replace F_o := Lh (F_o.o.gro hga (by omega))
       replace F_v := Lh (F_v.o.gro hga (by have := HZC.o; have := HZ7.o; omega))
       replace F_r := Lh (F_r.o.gro hga (by have := HZC.o; have := HZ7.o; omega))
       replace HBW := Lh (HBW.o.trans (hga.blw (n := w.heap.size) (by have := HZ1.o; omega) HBW.o.size))
       replace HMID := Lh (show ∀ j, wc2.heap.size ≤ j → j < w7.heap.size → wa3.heap[j]? = w7.heap[j]? from fun j h1 h2 => (hga.block j (by have := HSZ.o; simp; omega) (by intro e; injection e with e; have := HZC.o; omega)).trans (HMID.o j h1 h2))
       replace HSZ := Lh (show w7.heap.size + 1 < wa3.heap.size by rw [hza]; exact HSZ.o)
       clear hca hga hza hS0
       have hS0 := And.intro F_v.o F_r.o
       refine hK.o _ _ lt8 ?_
       clear hK K
       try simp only [sY]
       refine tkP (i := 4) (some 14) (.assign (.const (.int .i64 0))) 3 lt8 ?_
       simp only [sY]
       refine wpAnyB_done (by kernel_rfl) ?_ _
       go_wp2_with fail
       obtain ⟨d0, hd0, hag⟩ := HAG.o
       obtain ⟨g1, g2⟩ := HHI.o.keep HVI.o HRI.o HMID.o (by have := HSZ.o; omega)
       refine bodyPost_ret (res_seal rfl F_o.o F_q.o _ rfl rfl rfl) rfl ?_
       exact ⟨HBW.o, .inr ⟨HSE.o, .inr ⟨d0, V, R, hd0, rfl, HSV.o.agree hag, g1, g2⟩⟩⟩
      | none =>
       rw [ho] at hr
       obtain rfl : e = .returned (.tuple #[.slice none 0 0, .bool false]) := hr
       have HNO := Lh (show sampS seed Q (manyS (k : Int) false) = none by unfold manyS; rw [Int.toNat_natCast, if_neg (by decide)]; exact ho)
       go_wp2_with (first
         | (refine wpL_storeCl rfl 33 (.tmp 12) (.tmp 67) w1.heap.size 0 _ [.slice none 0 0, .slice none 0 0, .bool false, .int .u64 0, .int .u64 0, .int .u64 0, .int .u64 0, .int .u64 0, .int .u64 0, .int .u64 0, .int .u64 0] [.slice none 0 0, .slice none 0 0, .bool false, .int .u64 0, .int .u64 0, .int .u64 0, .int .u64 0, .int .u64 0, .int .u64 0, .int .u64 0, .int .u64 0] rfl rfl rfl rfl (by kernel_rfl) (by intro u hu; simp at hu; rcases hu with rfl | rfl | rfl | rfl | rfl | rfl | rfl | rfl | rfl | rfl | rfl <;> rfl) F_o.o (by simp) rfl ?_
            intro wx hc8 hg8 hz8
            have F_x := Lh hc8
            have HGx := Lh hg8
            have hz_wx := hz8
            clear hc8 hg8 hz8)
         | (refine wpL_storeCl rfl 36 (.tmp 13) (.tmp 68) (w1.heap.size + 1) 0 _ [.slice none 0 0, .slice none 0 0] [.slice none 0 0, .slice none 0 0] rfl rfl rfl rfl (by kernel_rfl) (by intro u hu; simp at hu; rcases hu with rfl | rfl <;> rfl) (F_q.o.gro HGx.o (by omega)) (by simp) rfl ?_
            intro wz hc8 hg8 hz8
            have F_z := Lh hc8
            have HGz := Lh hg8
            have hz_wz := hz8
            clear hc8 hg8 hz8))
       refine bodyPost_ret (res_seal rfl (F_x.o.gro HGz.o (by omega)) F_z.o _ rfl rfl rfl) rfl ?_
       exact ⟨(HBW.o.trans (HGx.o.blw (n := w.heap.size) (by have := HZ1.o; omega) HBW.o.size)).trans (HGz.o.blw (n := w.heap.size) (by have := HZ1.o; omega) (by have := HBW.o.size; omega)), .inr ⟨HSE.o, .inl ⟨HNO.o, rfl⟩⟩⟩
    | true =>
     by_cases h1 : 1 < m
     case pos =>
      have d1 : decide ((1 : Int) < (m : Int)) = true := by simp; omega
      have HK := Lh (show sealE P Q G y n ms true = 2 by rw [sealE, HK0.o, if_neg (by decide), if_neg (fun h => by have := h.2 rfl; have := HLM.o; omega)])
      go_wp2_with (first
        | (refine wpL_storeCl rfl 33 (.tmp 12) (.tmp 42) w1.heap.size 0 _ [.slice none 0 0, .slice none 0 0, .bool false, .int .u64 0, .int .u64 0, .int .u64 0, .int .u64 0, .int .u64 0, .int .u64 0, .int .u64 0, .int .u64 0] [.slice none 0 0, .slice none 0 0, .bool false, .int .u64 0, .int .u64 0, .int .u64 0, .int .u64 0, .int .u64 0, .int .u64 0, .int .u64 0, .int .u64 0] rfl rfl rfl rfl (by kernel_rfl) (by intro u hu; simp at hu; rcases hu with rfl | rfl | rfl | rfl | rfl | rfl | rfl | rfl | rfl | rfl | rfl <;> rfl) F_o.o (by simp) rfl ?_
           intro wx hc8 hg8 hz8
           have F_x := Lh hc8
           have HGx := Lh hg8
           have hz_wx := hz8
           clear hc8 hg8 hz8)
        | (refine wpL_storeCl rfl 36 (.tmp 13) (.tmp 43) (w1.heap.size + 1) 0 _ [.slice none 0 0, .slice none 0 0] [.slice none 0 0, .slice none 0 0] rfl rfl rfl rfl (by kernel_rfl) (by intro u hu; simp at hu; rcases hu with rfl | rfl <;> rfl) (F_q.o.gro HGx.o (by omega)) (by simp) rfl ?_
           intro wz hc8 hg8 hz8
           have F_z := Lh hc8
           have HGz := Lh hg8
           have hz_wz := hz8
           clear hc8 hg8 hz8))
      refine bodyPost_ret (res_seal rfl (F_x.o.gro HGz.o (by omega)) F_z.o _ rfl rfl rfl) rfl ?_
      exact ⟨(HBW.o.trans (HGx.o.blw (n := w.heap.size) (by have := HZ1.o; omega) HBW.o.size)).trans (HGz.o.blw (n := w.heap.size) (by have := HZ1.o; omega) (by have := HBW.o.size; omega)), .inl ⟨by rw [HK.o]; decide, by rw [HK.o]; rfl⟩⟩
     case neg =>
      have d1 : decide ((1 : Int) < (m : Int)) = false := by simp; omega
      have H1L := Lh (show m ≤ 1 by omega)
      clear h1
      have HSE := Lh (show sealE P Q G y n ms true = 0 by rw [sealE, HK0.o, if_neg (by decide), if_pos ⟨HMK.o, fun _ => by have := H1L.o; have := HLM.o; omega⟩])
      have hck := chkB_ok HK0.o
      obtain ⟨k, rfl⟩ : ∃ k : Nat, n = k := ⟨n.toNat, by omega⟩
      have HCK := Lh hck
      have hk1 : 1 ≤ k := by have := hck.2.2.1; omega
      have hk2 : k ≤ 10 := by have := hck.2.2.2; omega
      have HPQ := Lh (show 0 < Q ∧ Q ≤ 4294967296 by obtain ⟨p5, p3, hQ2, pq, g2, gP⟩ := hck.1; omega)
      clear hck HK0
      have c0 := F_g.o.c 0 _ rfl
      have c1 := F_g.o.c 1 _ rfl
      have c2 := F_g.o.c 2 _ rfl
      go_wp2_with (refine wpL_loadArr rfl 26 .u8 (.tmp 11) (w.heap.size + 1) seed 32 5 rfl rfl Tryz.underlying26 (by rw [HSL.o]; kernel_rfl) F_s.o ?_; simp only [sY])
      clear c0 c1 c2
      refine (rnonces_any _ (HT.o.below HBW.o) HSL.o HBY.o HPQ.o.1 HPQ.o.2 hk2).mono ?_
      rintro e wc ⟨hbc, hr⟩
      replace F_g := Lh (F_g.o.keep hbc)
      replace F_s := Lh (F_s.o.keep hbc)
      replace F_o := Lh (F_o.o.keep hbc)
      replace F_q := Lh (F_q.o.keep hbc)
      replace HBW := Lh (HBW.o.trans (hbc.mono HBW.o.size))
      clear hbc
      cases ho : sampS seed Q (4 * k + 3) with
      | some d =>
       rw [ho] at hr
       obtain ⟨v, rfl, hv⟩ := hr
       obtain ⟨ad, cd, rfl, hsd⟩ := ShI.of_owned hv
       have HSD := Lh hsd
       have HDL := Lh (sampS_len ho)
       have HDB := Lh (sampS_d (by have := HPQ.o; omega) ho)
       have HAG := Lh (show ∃ d0, sampS seed Q (manyS (k : Int) true) = some d0 ∧ ∀ t, t < manyS (k : Int) true → d.getD t 0 = d0.getD t 0 from ⟨d, by unfold manyS; rw [Int.toNat_natCast, if_pos rfl]; exact ho, fun _ _ => rfl⟩)
       clear hsd hv ho
       have c0 := F_g.o.c 0 _ rfl
       have c1 := F_g.o.c 1 _ rfl
       have c2 := F_g.o.c 2 _ rfl
       go_wp2_with fail
       clear c0 c1 c2
       have HZC := Lh (show w1.heap.size + 1 < wc.heap.size from F_q.o.lt)
       refine (rsealed_any (n := k) _ (HT.o.below HBW.o) HCK.o.1 hy HCK.o.2.1 (by omega) (HS.o.keep HBW.o) (by have := markedS_len (by omega) HMK.o; have := HLM.o; omega) HU.o HSD.o HDB.o (by have := HDL.o; omega) (by intro _; have := H1L.o; have := HDL.o; omega)).mono ?_
       rintro e w7 ⟨⟨V, R, rfl, hsv, hvi, hri, hhi⟩, hb7⟩
       have HSV := Lh hsv
       have HVI := Lh hvi
       have HRI := Lh hri
       have HHI := Lh hhi
       clear hsv hvi hri hhi
       replace F_o := Lh (F_o.o.keep hb7)
       replace F_q := Lh (F_q.o.keep hb7)
       replace HBW := Lh (HBW.o.trans (hb7.mono HBW.o.size))
       have HZ7 := Lh hb7.size
       clear hb7 F_g F_s
       unfold Vt.v Rv.v
       have F_v0 := Lh (show Cl ((w7.alloc (.cells #[.slice none 0 0, .slice none 0 0, .bool false, .int .u64 0, .int .u64 0, .int .u64 0, .int .u64 0, .int .u64 0, .int .u64 0, .int .u64 0, .int .u64 0] 33)).alloc (.cells #[.slice none 0 0, .slice none 0 0] 36)) w7.heap.size [.slice none 0 0, .slice none 0 0, .bool false, .int .u64 0, .int .u64 0, .int .u64 0, .int .u64 0, .int .u64 0, .int .u64 0, .int .u64 0, .int .u64 0] from (Cl.at w7 _ 33 w7.heap.size rfl).alloc _)
       have F_r0 := Lh (show Cl ((w7.alloc (.cells #[.slice none 0 0, .slice none 0 0, .bool false, .int .u64 0, .int .u64 0, .int .u64 0, .int .u64 0, .int .u64 0, .int .u64 0, .int .u64 0, .int .u64 0] 33)).alloc (.cells #[.slice none 0 0, .slice none 0 0] 36)) (w7.heap.size + 1) [.slice none 0 0, .slice none 0 0] from Cl.at (w7.alloc (.cells #[.slice none 0 0, .slice none 0 0, .bool false, .int .u64 0, .int .u64 0, .int .u64 0, .int .u64 0, .int .u64 0, .int .u64 0, .int .u64 0, .int .u64 0] 33)) [.slice none 0 0, .slice none 0 0] 36 (w7.heap.size + 1) (by simp))
       have HAA := Lh (show Below w7.heap.size w7 ((w7.alloc (.cells #[.slice none 0 0, .slice none 0 0, .bool false, .int .u64 0, .int .u64 0, .int .u64 0, .int .u64 0, .int .u64 0, .int .u64 0, .int .u64 0, .int .u64 0] 33)).alloc (.cells #[.slice none 0 0, .slice none 0 0] 36)) from ((Below.refl _ _).alloc (Nat.le_refl _) _).alloc (by simp) _)
       replace F_o := Lh (F_o.o.keep HAA.o)
       replace F_q := Lh (F_q.o.keep HAA.o)
       replace HBW := Lh (HBW.o.trans (HAA.o.mono HBW.o.size))
       have HZAA := Lh (show ((w7.alloc (.cells #[.slice none 0 0, .slice none 0 0, .bool false, .int .u64 0, .int .u64 0, .int .u64 0, .int .u64 0, .int .u64 0, .int .u64 0, .int .u64 0, .int .u64 0] 33)).alloc (.cells #[.slice none 0 0, .slice none 0 0] 36)).heap.size = w7.heap.size + 1 + 1 by simp)
       go_wp2_with (first
         | (refine wpL_storeCl rfl 33 (.tmp 18) (.tmp 77) w7.heap.size 0 _ V.cl V.cl rfl rfl rfl rfl (by kernel_rfl) (by intro u hu; simp at hu; rcases hu with rfl | rfl | rfl | rfl | rfl | rfl | rfl | rfl | rfl | rfl | rfl <;> rfl) F_v0.o (by simp) rfl ?_
            intro wx hc8 hg8 hz8
            have F_v := Lh hc8
            have HGx := Lh hg8
            have hz_wx := hz8
            clear hc8 hg8 hz8)
         | (refine wpL_storeCl rfl 36 (.tmp 19) (.tmp 78) (w7.heap.size + 1) 0 _ [.slice R.a R.n R.c, .slice R.b R.m R.d] [.slice R.a R.n R.c, .slice R.b R.m R.d] rfl rfl rfl rfl (by kernel_rfl) (by intro u hu; simp at hu; rcases hu with rfl | rfl <;> rfl) (F_r0.o.gro HGx.o (by omega)) (by simp) rfl ?_
            intro wz hc8 hg8 hz8
            have F_r := Lh hc8
            have HGz := Lh hg8
            have hz_wz := hz8
            clear hc8 hg8 hz8))
       replace F_v := Lh (F_v.o.gro HGz.o (by omega))
       replace F_o := Lh ((F_o.o.gro HGx.o (by have := HZC.o; have := HZ7.o; omega)).gro HGz.o (by have := HZC.o; have := HZ7.o; omega))
       replace F_q := Lh ((F_q.o.gro HGx.o (by have := HZC.o; have := HZ7.o; omega)).gro HGz.o (by have := HZC.o; have := HZ7.o; omega))
       have HSZ := Lh (show w7.heap.size + 1 < wz.heap.size by have := HZAA.o; omega)
       have HMID := Lh (show ∀ j, wc.heap.size ≤ j → j < w7.heap.size → wz.heap[j]? = w7.heap[j]? from fun j h1 h2 => ((HGz.o.block j (by have := HZAA.o; omega) (by intro e; injection e with e; omega)).trans (HGx.o.block j (by have := HZAA.o; omega) (by intro e; injection e with e; omega))).trans (HAA.o.block j h2))
       replace HBW := Lh ((HBW.o.trans (HGx.o.blw (n := w.heap.size) (by have := HZ1.o; have := HZC.o; have := HZ7.o; omega) HBW.o.size)).trans (HGz.o.blw (n := w.heap.size) (by have := HZ1.o; have := HZC.o; have := HZ7.o; omega) (by have := HBW.o.size; omega)))
       clear HGx HGz hz_wx hz_wz F_v0 F_r0 HAA HZAA
       go_wp2_with fail
       replace F_v := Lh F_v.o.drew
       replace F_r := Lh F_r.o.drew
       replace F_o := Lh F_o.o.drew
       replace F_q := Lh F_q.o.drew
       replace HBW := Lh HBW.o.drew
       have hS0 := And.intro F_v.o F_r.o
       refine wp_region_stage 3 (fun w' => Cl w' w7.heap.size V.cl ∧ Cl w' (w7.heap.size + 1) [.slice R.a R.n R.c, .slice R.b R.m R.d]) (by kernel_rfl) ?_
       refine tkL (i := 0) (some 79) (.load 33 (.tmp 18)) 33 [2, 3] (v := ?_) hS0 (fun w' hSw => ?_) ?_
       rotate_left
       · obtain ⟨t1, t2⟩ := hSw; obtain ⟨⟨q0, q1, q2, q3, q4, q5, q6, q7, q8, q9, q10⟩, -⟩ := t1.k11
         unfold bareOp; go_simp; try with_reducible rfl
       simp only [sY]
       refine tkL (i := 1) (some 80) (.load 36 (.tmp 19)) 36 [3] (v := ?_) hS0 (fun w' hSw => ?_) ?_
       rotate_left
       · obtain ⟨t1, t2⟩ := hSw; have q0 := t2.c 0 _ rfl; have q1 := t2.c 1 _ rfl
         unfold bareOp; go_simp; try with_reducible rfl
       simp only [sY]
       refine onl (i := 2) none (.store 33 (.tmp 12) (.tmp 79)) 0 (fun K hK => ?_)
       unfold bareOp
       refine wp_storeCl 33 (.tmp 12) (.tmp 79) w1.heap.size 0 [.slice none 0 0, .slice none 0 0, .bool false, .int .u64 0, .int .u64 0, .int .u64 0, .int .u64 0, .int .u64 0, .int .u64 0, .int .u64 0, .int .u64 0] V.cl V.cl rfl rfl rfl (by kernel_rfl) (by intro u hu; simp at hu; rcases hu with rfl | rfl | rfl | rfl | rfl | rfl | rfl | rfl | rfl | rfl | rfl <;> rfl) F_o.o (by simp) rfl ?_
       intro wa2 hca hga hza
       replace F_o := Lh hca
       replace F_q := Lh (F_q.o.gro hga (by omega))
       replace F_v := Lh (F_v.o.gro hga (by have := HZC.o; have := HZ7.o; omega))
       replace F_r := Lh (F_r.o.gro hga (by have := HZC.o; have := HZ7.o; omega))
       replace HBW := Lh (HBW.o.trans (hga.blw (n := w.heap.size) (by have := HZ1.o; omega) HBW.o.size))
       replace HMID := Lh (show ∀ j, wc.heap.size ≤ j → j < w7.heap.size → wa2.heap[j]? = w7.heap[j]? from fun j h1 h2 => (hga.block j (by have := HSZ.o; simp; omega) (by intro e; injection e with e; have := HZC.o; omega)).trans (HMID.o j h1 h2))
       replace HSZ := Lh (show w7.heap.size + 1 < wa2.heap.size by rw [hza]; exact HSZ.o)
       clear hca hga hza hS0
       have hS0 := And.intro F_v.o F_r.o
       refine hK.o _ _ (fun _ => hS0) ?_
       clear hK K
       try simp only [sY]
       refine onl (i := 3) none (.store 36 (.tmp 13) (.tmp 80)) 0 (fun K hK => ?_)
       unfold bareOp
       refine wp_storeCl 36 (.tmp 13) (.tmp 80) (w1.heap.size + 1) 0 [.slice none 0 0, .slice none 0 0] [.slice R.a R.n R.c, .slice R.b R.m R.d] [.slice R.a R.n R.c, .slice R.b R.m R.d] rfl rfl rfl (by kernel_rfl) (by intro u hu; simp at hu; rcases hu with rfl | rfl <;> rfl) F_q.o (by simp) rfl ?_
       intro wa3 hca hga hza
       replace F_q := Lh hca
       replace F_o := Lh (F_o.o.gro hga (by omega))
       replace F_v := Lh (F_v.o.gro hga (by have := HZC.o; have := HZ7.o; omega))
       replace F_r := Lh (F_r.o.gro hga (by have := HZC.o; have := HZ7.o; omega))
       replace HBW := Lh (HBW.o.trans (hga.blw (n := w.heap.size) (by have := HZ1.o; omega) HBW.o.size))
       replace HMID := Lh (show ∀ j, wc.heap.size ≤ j → j < w7.heap.size → wa3.heap[j]? = w7.heap[j]? from fun j h1 h2 => (hga.block j (by have := HSZ.o; simp; omega) (by intro e; injection e with e; have := HZC.o; omega)).trans (HMID.o j h1 h2))
       replace HSZ := Lh (show w7.heap.size + 1 < wa3.heap.size by rw [hza]; exact HSZ.o)
       clear hca hga hza hS0
       have hS0 := And.intro F_v.o F_r.o
       refine hK.o _ _ lt8 ?_
       clear hK K
       try simp only [sY]
       refine tkP (i := 4) (some 14) (.assign (.const (.int .i64 0))) 3 lt8 ?_
       simp only [sY]
       refine wpAnyB_done (by kernel_rfl) ?_ _
       go_wp2_with fail
       obtain ⟨d0, hd0, hag⟩ := HAG.o
       obtain ⟨g1, g2⟩ := HHI.o.keep HVI.o HRI.o HMID.o (by have := HSZ.o; omega)
       refine bodyPost_ret (res_seal rfl F_o.o F_q.o _ rfl rfl rfl) rfl ?_
       exact ⟨HBW.o, .inr ⟨HSE.o, .inr ⟨d0, V, R, hd0, rfl, HSV.o.agree hag, g1, g2⟩⟩⟩
      | none =>
       rw [ho] at hr
       obtain rfl : e = .returned (.tuple #[.slice none 0 0, .bool false]) := hr
       have HNO := Lh (show sampS seed Q (manyS (k : Int) true) = none by unfold manyS; rw [Int.toNat_natCast, if_pos rfl]; exact ho)
       go_wp2_with (first
         | (refine wpL_storeCl rfl 33 (.tmp 12) (.tmp 67) w1.heap.size 0 _ [.slice none 0 0, .slice none 0 0, .bool false, .int .u64 0, .int .u64 0, .int .u64 0, .int .u64 0, .int .u64 0, .int .u64 0, .int .u64 0, .int .u64 0] [.slice none 0 0, .slice none 0 0, .bool false, .int .u64 0, .int .u64 0, .int .u64 0, .int .u64 0, .int .u64 0, .int .u64 0, .int .u64 0, .int .u64 0] rfl rfl rfl rfl (by kernel_rfl) (by intro u hu; simp at hu; rcases hu with rfl | rfl | rfl | rfl | rfl | rfl | rfl | rfl | rfl | rfl | rfl <;> rfl) F_o.o (by simp) rfl ?_
            intro wx hc8 hg8 hz8
            have F_x := Lh hc8
            have HGx := Lh hg8
            have hz_wx := hz8
            clear hc8 hg8 hz8)
         | (refine wpL_storeCl rfl 36 (.tmp 13) (.tmp 68) (w1.heap.size + 1) 0 _ [.slice none 0 0, .slice none 0 0] [.slice none 0 0, .slice none 0 0] rfl rfl rfl rfl (by kernel_rfl) (by intro u hu; simp at hu; rcases hu with rfl | rfl <;> rfl) (F_q.o.gro HGx.o (by omega)) (by simp) rfl ?_
            intro wz hc8 hg8 hz8
            have F_z := Lh hc8
            have HGz := Lh hg8
            have hz_wz := hz8
            clear hc8 hg8 hz8))
       refine bodyPost_ret (res_seal rfl (F_x.o.gro HGz.o (by omega)) F_z.o _ rfl rfl rfl) rfl ?_
       exact ⟨(HBW.o.trans (HGx.o.blw (n := w.heap.size) (by have := HZ1.o; omega) HBW.o.size)).trans (HGz.o.blw (n := w.heap.size) (by have := HZ1.o; omega) (by have := HBW.o.size; omega)), .inr ⟨HSE.o, .inl ⟨HNO.o, rfl⟩⟩⟩
end Go.Proofs.YtlbldpkgnonbpaaGreatDoor
