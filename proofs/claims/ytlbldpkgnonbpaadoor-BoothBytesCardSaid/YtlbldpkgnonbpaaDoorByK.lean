/- The reference's Read. -/
import Derived.Test.YtlbldpkgnonbpaaDoorByJ
namespace Go.Proofs.YtlbldpkgnonbpaaDoor
open Go Go.RowKit Num Sha
set_option linter.unusedSimpArgs false
set_option linter.unusedVariables false

set_option maxRecDepth 100000 in
set_option maxHeartbeats 8000000 in
theorem rRead_any {w : World} {a : Option Addr} {n0 c0 : Nat} {xs : List Int} (hS : ShI .u8 w a n0 xs) (hu : Bytes xs) (hc : n0 ≤ c0) (hl : n0 ≤ 2000) :
    Calls Tryd.prog 15 #[.slice a n0 c0] w (RetRd w xs) := by
  have HL := Lib.hid hS.len
  have HU := Lib.hid hu
  have F_o := Lib.hid (show Cl (w.alloc (.cells #[.slice none 0 0, .slice none 0 0, .bool false, .int .u64 0, .int .u64 0, .int .u64 0, .int .u64 0, .int .u64 0, .int .u64 0, .int .u64 0, .int .u64 0] 29)) w.heap.size [.slice none 0 0, .slice none 0 0, .bool false, .int .u64 0, .int .u64 0, .int .u64 0, .int .u64 0, .int .u64 0, .int .u64 0, .int .u64 0, .int .u64 0] from Cl.at w [.slice none 0 0, .slice none 0 0, .bool false, .int .u64 0, .int .u64 0, .int .u64 0, .int .u64 0, .int .u64 0, .int .u64 0, .int .u64 0, .int .u64 0] _ _ rfl)
  have HBW := Lib.hid (show Below w.heap.size w (w.alloc (.cells #[.slice none 0 0, .slice none 0 0, .bool false, .int .u64 0, .int .u64 0, .int .u64 0, .int .u64 0, .int .u64 0, .int .u64 0, .int .u64 0, .int .u64 0] 29)) from (Below.refl _ _).alloc (Nat.le_refl _) _)
  go_enter Tryd.func15, Tryd.ntmps15
  by_cases h1 : n0 < 3
  case pos =>
    have HERR := Lib.hid (readF_1 (xs := xs) (by rw [← hS.len]; exact h1))
    have d1 : decide ((n0 : Int) < 3) = true := decide_eq_true (by omega)
    clear hS hu hc hl
    go_wp2_with fail
    refine bodyPost_ret (res_vote rfl F_o.out _ rfl rfl) rfl ?_
    exact RetRd.err HERR.out HBW.out
  case neg =>
  have d1 : decide ((n0 : Int) < 3) = false := decide_eq_false (by omega)
  obtain ⟨s, o, rfl, hs, HC⟩ : ∃ s o, a = some ⟨s, o, none⟩ ∧ s < w.heap.size ∧ Hid (∀ i, i < n0 → w.cell? ⟨s, o + i, none⟩ = some (.int .u8 (xs.getD i 0))) := by
    rcases hS with ⟨h1, _⟩ | ⟨s, o, h0, h1, h2, h3⟩
    · omega
    · exact ⟨s, o, h0, h2, fun i hi => h3 i (by omega)⟩
  have HS := Lib.hid hS
  obtain ⟨n, hn⟩ : ∃ n : Nat, xs.getD 0 0 = n := ⟨(xs.getD 0 0).toNat, by have := (hu.get 0).1; omega⟩
  obtain ⟨m, hm⟩ : ∃ m : Nat, xs.getD 1 0 = m := ⟨(xs.getD 1 0).toNat, by have := (hu.get 1).1; omega⟩
  obtain ⟨b2, hb2⟩ : ∃ b2 : Int, xs.getD 2 0 = b2 := ⟨_, rfl⟩
  have hn1 : (n : Int) < 256 := by have := (hu.get 0).2; omega
  have hm1 : (m : Int) < 256 := by have := (hu.get 1).2; omega
  have hb0 : (0 : Int) ≤ b2 := by have := (hu.get 2).1; omega
  have hb1 : b2 < 256 := by have := (hu.get 2).2; omega
  have k0 : (w.alloc (.cells #[.slice none 0 0, .slice none 0 0, .bool false, .int .u64 0, .int .u64 0, .int .u64 0, .int .u64 0, .int .u64 0, .int .u64 0, .int .u64 0, .int .u64 0] 29)).cell? ⟨s, o, none⟩ = some (.int .u8 (n : Int)) := by rw [← hn]; exact (HBW.out.cell (p := ⟨s, o, none⟩) hs).trans (HC.out 0 (by omega))
  have k1 : (w.alloc (.cells #[.slice none 0 0, .slice none 0 0, .bool false, .int .u64 0, .int .u64 0, .int .u64 0, .int .u64 0, .int .u64 0, .int .u64 0, .int .u64 0, .int .u64 0] 29)).cell? ⟨s, o + 1, none⟩ = some (.int .u8 (m : Int)) := by rw [← hm]; exact (HBW.out.cell (p := ⟨s, o + 1, none⟩) hs).trans (HC.out 1 (by omega))
  have k2 : (w.alloc (.cells #[.slice none 0 0, .slice none 0 0, .bool false, .int .u64 0, .int .u64 0, .int .u64 0, .int .u64 0, .int .u64 0, .int .u64 0, .int .u64 0, .int .u64 0] 29)).cell? ⟨s, o + 2, none⟩ = some (.int .u8 b2) := by rw [← hb2]; exact (HBW.out.cell (p := ⟨s, o + 2, none⟩) hs).trans (HC.out 2 (by omega))
  have HN := Lib.hid hn
  have HM := Lib.hid hm
  have HB2 := Lib.hid hb2
  have wn : IntKind.i64.wrap (n : Int) = n := IntWalk.i64_in _ (by omega)
  have wm : IntKind.i64.wrap (m : Int) = m := IntWalk.i64_in _ (by omega)
  have i0 : (0 : Int) < (n0 : Int) := by omega
  have i1 : (1 : Int) < (n0 : Int) := by omega
  have i2 : (2 : Int) < (n0 : Int) := by omega
  clear hS hu hn hm hb2
  by_cases h2 : 10 < n
  case pos =>
    have HERR := Lib.hid (readF_2 (xs := xs) (by rw [← HL.out]; exact h1) (.inl (by rw [HN.out]; omega)))
    have d2 : decide ((10 : Int) < (n : Int)) = true := decide_eq_true (by omega)
    go_wp2_with fail
    refine bodyPost_ret (res_vote rfl F_o.out _ rfl rfl) rfl ?_
    exact RetRd.err HERR.out HBW.out
  case neg =>
  have d2 : decide ((10 : Int) < (n : Int)) = false := decide_eq_false (by omega)
  by_cases h3 : 10 < m
  case pos =>
    have HERR := Lib.hid (readF_2 (xs := xs) (by rw [← HL.out]; exact h1) (.inr (.inl (by rw [HM.out]; omega))))
    have d3 : decide ((10 : Int) < (m : Int)) = true := decide_eq_true (by omega)
    go_wp2_with fail
    refine bodyPost_ret (res_vote rfl F_o.out _ rfl rfl) rfl ?_
    exact RetRd.err HERR.out HBW.out
  case neg =>
  have d3 : decide ((10 : Int) < (m : Int)) = false := decide_eq_false (by omega)
  by_cases h4 : 1 < b2
  case pos =>
    have HERR := Lib.hid (readF_2 (xs := xs) (by rw [← HL.out]; exact h1) (.inr (.inr (by rw [HB2.out]; exact h4))))
    have d4 : decide ((1 : Int) < b2) = true := decide_eq_true h4
    go_wp2_with fail
    refine bodyPost_ret (res_vote rfl F_o.out _ rfl rfl) rfl ?_
    exact RetRd.err HERR.out HBW.out
  case neg =>
  have d4 : decide ((1 : Int) < b2) = false := decide_eq_false h4
  have w1 : IntKind.i64.wrap (2 * (n : Int)) = 2 * (n : Int) := IntWalk.i64_in _ (by omega)
  have w2 : IntKind.i64.wrap (8 * (m : Int)) = 8 * (m : Int) := IntWalk.i64_in _ (by omega)
  have w3 : IntKind.i64.wrap (2 * (n : Int) + 8 * (m : Int)) = 2 * (n : Int) + 8 * (m : Int) := IntWalk.i64_in _ (by omega)
  have w4 : IntKind.i64.wrap (2 * (n : Int) + 8 * (m : Int) + 8) = 2 * (n : Int) + 8 * (m : Int) + 8 := IntWalk.i64_in _ (by omega)
  have w5 : IntKind.i64.wrap (8 * (2 * (n : Int) + 8 * (m : Int) + 8)) = 8 * (2 * (n : Int) + 8 * (m : Int) + 8) := IntWalk.i64_in _ (by omega)
  have w6 : IntKind.i64.wrap (3 + 8 * (2 * (n : Int) + 8 * (m : Int) + 8)) = 3 + 8 * (2 * (n : Int) + 8 * (m : Int) + 8) := IntWalk.i64_in _ (by omega)
  have HD := Lib.hid (show ¬ (10 < (xs.getD 0 0).toNat ∨ 10 < (xs.getD 1 0).toNat ∨ 1 < xs.getD 2 0) by rw [HN.out, HM.out, HB2.out]; simp only [Int.toNat_natCast]; omega)
  by_cases h5 : n0 < 3 + 16 * n + 64 * (m + 1)
  case pos =>
    have HERR := Lib.hid (readF_3 (xs := xs) (by rw [← HL.out]; exact h1) HD.out (by rw [← HL.out, HN.out, HM.out]; exact h5))
    have d5 : decide ((n0 : Int) < 3 + 8 * (2 * (n : Int) + 8 * (m : Int) + 8)) = true := decide_eq_true (by omega)
    go_wp2_with fail
    go_region
    go_wp2_with fail
    refine bodyPost_ret (res_vote rfl F_o.out.drew _ rfl rfl) rfl ?_
    exact RetRd.err HERR.out HBW.out.drew
  case neg =>
  have d5 : decide ((n0 : Int) < 3 + 8 * (2 * (n : Int) + 8 * (m : Int) + 8)) = false := decide_eq_false (by omega)
  by_cases h6 : 3 + 16 * n + 64 * (m + 1) < n0
  case pos =>
    have HERR := Lib.hid (readF_4 (xs := xs) (by rw [← HL.out]; exact h1) HD.out (by rw [← HL.out, HN.out, HM.out]; exact h6))
    have d6 : decide (3 + 8 * (2 * (n : Int) + 8 * (m : Int) + 8) < (n0 : Int)) = true := decide_eq_true (by omega)
    go_wp2_with fail
    go_region
    go_wp2_with fail
    refine bodyPost_ret (res_vote rfl F_o.out.drew _ rfl rfl) rfl ?_
    exact RetRd.err HERR.out HBW.out.drew
  case neg =>
  have d6 : decide (3 + 8 * (2 * (n : Int) + 8 * (m : Int) + 8) < (n0 : Int)) = false := decide_eq_false (by omega)
  have HE := Lib.hid (show n0 = 3 + 16 * n + 64 * (m + 1) by omega)
  have HNM := Lib.hid (show n ≤ 10 ∧ m ≤ 10 ∧ b2 ≤ 1 by omega)
  go_wp2_with fail
  go_region
  go_wp2_with fail
  have F_v := Lib.hid (Cl.at (w.alloc (.cells #[.slice none 0 0, .slice none 0 0, .bool false, .int .u64 0, .int .u64 0, .int .u64 0, .int .u64 0, .int .u64 0, .int .u64 0, .int .u64 0, .int .u64 0] 29)) [.slice none 0 0, .slice none 0 0, .bool (b2 == 1), .int .u64 0, .int .u64 0, .int .u64 0, .int .u64 0, .int .u64 0, .int .u64 0, .int .u64 0, .int .u64 0] 29 (w.heap.size + 1) (by simp))
  clear d1 d2 d3 d4 d5 d6 w1 w2 w3 w4 w5 w6 wn wm k0 k1 k2 i0 i1 i2 hn1 hm1 hb0 hb1 h1 h2 h3 h4 h5 h6 HC hs
  have hn10 : n ≤ 10 := HNM.out.1
  have hm10 : m ≤ 10 := HNM.out.2.1
  have HY := Lib.hid (show Bytes (xs.drop 3) from HU.out.drop 3)
  go_loopw [8] (fun c8 wr => ∃ (i : Nat) (v1 : Value), i ≤ n ∧ c8 = .int .i64 i ∧ w.heap.size + 2 ≤ wr.heap.size ∧ Hid (wr.ownsRow (w.heap.size + 2) 78 2 v1 i (flatS (boxesN (xs.drop 3) i))) ∧ Hid (Cl wr (w.heap.size + 1) [v1, .slice none 0 0, .bool (b2 == 1), .int .u64 0, .int .u64 0, .int .u64 0, .int .u64 0, .int .u64 0, .int .u64 0, .int .u64 0, .int .u64 0]) ∧ Hid (Cl wr w.heap.size [.slice none 0 0, .slice none 0 0, .bool false, .int .u64 0, .int .u64 0, .int .u64 0, .int .u64 0, .int .u64 0, .int .u64 0, .int .u64 0, .int .u64 0]) ∧ Hid (Below w.heap.size w wr)) (fun c8 _ => n - (intOf c8).toNat)
  case atStart =>
    exact ⟨0, _, by omega, rfl, by simp, World.ownsRow_nil _ _ _ _, F_v.out.drew, (F_o.out.alloc _).drew, (HBW.out.alloc HBW.out.size _).drew⟩
  case round =>
    clear F_o F_v HBW
    obtain ⟨i, v1, hi, rfl, hz, HO, F_v, F_o, HBW⟩ := hrel
    by_cases hlt : i < n
    case pos =>
      have hd : decide ((i : Int) < (n : Int)) = true := decide_eq_true (by omega)
      have w1 : IntKind.i64.wrap (2 * (i : Int)) = 2 * (i : Int) := IntWalk.i64_in _ (by omega)
      have w2 : IntKind.i64.wrap (2 * (i : Int) + 1) = 2 * (i : Int) + 1 := IntWalk.i64_in _ (by omega)
      have HK := Lib.hid (show 3 + 8 * (2 * i + 1) + 8 ≤ n0 by rw [HE.out]; omega)
      have HRN := Lib.hid (fun (W : World) (hW : Below w.heap.size w W) => rnumber_at (c0 := c0) (2 * i) (2 * (i : Int)) (by push_cast; rfl) W hW HS.out HU.out (by have := HK.out; omega) hl)
      have HRM := Lib.hid (fun (W : World) (hW : Below w.heap.size w W) => rnumber_at (c0 := c0) (2 * i + 1) (2 * (i : Int) + 1) (by push_cast; rfl) W hW HS.out HU.out (by have := HK.out; omega) hl)
      obtain ⟨ys, hys⟩ : ∃ ys, xs.drop 3 = ys := ⟨_, rfl⟩
      rw [hys] at HO HRN HRM ⊢
      clear HY hys
      obtain ⟨⟨q0, q1, q2, q3, q4, q5, q6, q7, q8, q9, q10⟩, g0, g1, g2, g3, g4, g5, g6, g7, g8, g9, g10⟩ := F_v.out.k11
      obtain ⟨⟨p0, -⟩, -⟩ := (F_v.out.alloc (.cells #[.int .u64 (num8 ys (2 * i)), .int .u64 (num8 ys (2 * i + 1))] 78)).k11
      go_wp2_with fail
      go_region_law (first
        | (go_simp
           go_at_call 36
           with_reducible refine (HRN.out _ HBW.out.drew).mono ?_
           rintro e w6 ⟨rfl, rfl⟩)
        | (go_simp
           go_at_call 36
           with_reducible refine (HRM.out _ HBW.out.drew).mono ?_
           rintro e w6 ⟨rfl, rfl⟩)
        | (refine wanted_wp rfl (wp_push_s (.tmp 68) (.tmp 79) rfl (w.heap.size + 2) i wr.heap.size v1 (flatS (boxesN ys i)) (num8 ys (2 * i)) (num8 ys (2 * i + 1)) ?jjv ?jjx ?jjo ?jjc ?jjm ?jjb ?_)
           case jjv => kernel_rfl
           case jjx => kernel_rfl
           case jjo => first | exact owns_alloc2 HO.out.drew _ | exact (owns_alloc2 HO.out _).drew
           case jjc => first | exact cell_list_at _ _ _ _ rfl | exact fun j u hj => (World.cell?_drew _ _).trans (cell_list_at _ _ _ _ rfl j u hj)
           case jjm => omega
           case jjb => simp; omega
           intro v9 w9 hown hgr
           obtain ⟨a9, c9, rfl, -⟩ := ShS.of_owned (ps := boxesN ys i ++ [(num8 ys (2 * i), num8 ys (2 * i + 1))]) (by rw [flatS_append]; exact hown)
           have HBW9 := Lib.hid (Below.rowT (n := w.heap.size + 2) hgr (fun k hk => by have := (World.ownsRow.lt HO.out k hk).1; omega) (by simp; omega))
           have HO9 := Lib.hid hown
           have F_v9 := Lib.hid (show Cl w9 (w.heap.size + 1) [v1, .slice none 0 0, .bool (b2 == 1), .int .u64 0, .int .u64 0, .int .u64 0, .int .u64 0, .int .u64 0, .int .u64 0, .int .u64 0, .int .u64 0] from by first | exact ((F_v.out.alloc (.cells #[.int .u64 (num8 ys (2 * i)), .int .u64 (num8 ys (2 * i + 1))] 78)).drew).keepN HBW9.out (by omega) | exact ((F_v.out.drew).alloc (.cells #[.int .u64 (num8 ys (2 * i)), .int .u64 (num8 ys (2 * i + 1))] 78)).keepN HBW9.out (by omega))
           have F_o9 := Lib.hid (show Cl w9 w.heap.size [.slice none 0 0, .slice none 0 0, .bool false, .int .u64 0, .int .u64 0, .int .u64 0, .int .u64 0, .int .u64 0, .int .u64 0, .int .u64 0, .int .u64 0] from by first | exact ((F_o.out.alloc (.cells #[.int .u64 (num8 ys (2 * i)), .int .u64 (num8 ys (2 * i + 1))] 78)).drew).keepN HBW9.out (by omega) | exact ((F_o.out.drew).alloc (.cells #[.int .u64 (num8 ys (2 * i)), .int .u64 (num8 ys (2 * i + 1))] 78)).keepN HBW9.out (by omega))
           have HB9 := Lib.hid (show Below w.heap.size w w9 by first | exact (HBW.out.alloc HBW.out.size (.cells #[.int .u64 (num8 ys (2 * i)), .int .u64 (num8 ys (2 * i + 1))] 78)).drew.trans (HBW9.out.mono (by omega)) | exact (HBW.out.drew.alloc HBW.out.drew.size (.cells #[.int .u64 (num8 ys (2 * i)), .int .u64 (num8 ys (2 * i + 1))] 78)).trans (HBW9.out.mono (by omega)))
           have hz9 : w.heap.size + 2 ≤ w9.heap.size := by have := HBW9.out.size; simp at this; omega
           obtain ⟨⟨y0, y1, y2, y3, y4, y5, y6, y7, y8, y9, y10⟩, t0, t1, t2, t3, t4, t5, t6, t7, t8, t9, t10⟩ := F_v9.out.k11
           clear hown hgr HBW9))
      all_goals
        go_wp2_with fail
        go_roundw
        case rel =>
          refine ⟨i + 1, .slice a9 (i + 1) c9, by omega, by go_num, by simp; omega, ?_, F_v9.out.set (m := [.slice a9 (i + 1) c9, .slice none 0 0, .bool (b2 == 1), .int .u64 0, .int .u64 0, .int .u64 0, .int .u64 0, .int .u64 0, .int .u64 0, .int .u64 0, .int .u64 0]) 0 _ (by simp) rfl, F_o9.out.far _ _ (by simp <;> omega), HB9.out.setCell (by simp <;> omega) _⟩
          rw [boxesN_succ, flatS_append]; exact own_far HO9.out _ _ (by simp <;> omega)
        case measure => simp [intOf] <;> omega
    case neg =>
      obtain rfl : i = n := by omega
      have hd : decide ((i : Int) < (i : Int)) = false := decide_eq_false (by omega)
      have HFIN := Lib.hid (readF_5 (xs := xs) (n := i) (m := m) (by rw [HB2.out]; exact HNM.out) HN.out HM.out (by rw [← HL.out, HE.out]))
      obtain ⟨wb, rfl⟩ : ∃ wb, wb = wr := ⟨_, rfl⟩
      go_wp2_with fail
      clear hd
      go_loopw [9] (fun c9 wr => ∃ (j : Nat) (v2 : Value), j ≤ m ∧ c9 = .int .i64 j ∧ w.heap.size + 2 ≤ wr.heap.size ∧ Hid (wr.ownsRow (w.heap.size + 2) 78 2 v1 i (flatS (boxesN (xs.drop 3) i))) ∧ Hid (wr.ownsRow (w.heap.size + 2) 27 8 v2 j (flatB (bitsN (xs.drop 3) i j))) ∧ Hid (Cl wr (w.heap.size + 1) [v1, v2, .bool (b2 == 1), .int .u64 0, .int .u64 0, .int .u64 0, .int .u64 0, .int .u64 0, .int .u64 0, .int .u64 0, .int .u64 0]) ∧ Hid (Cl wr w.heap.size [.slice none 0 0, .slice none 0 0, .bool false, .int .u64 0, .int .u64 0, .int .u64 0, .int .u64 0, .int .u64 0, .int .u64 0, .int .u64 0, .int .u64 0]) ∧ Hid (Below w.heap.size w wr)) (fun c9 _ => m - (intOf c9).toNat)
      case atStart =>
        exact ⟨0, _, by omega, rfl, by simpa using hz, HO.out, World.ownsRow_nil _ _ _ _, F_v.out, F_o.out, HBW.out⟩
      case round =>
        clear F_o F_v HBW HO hz
        obtain ⟨j, v2, hj, rfl, hz, HO, HP, F_v, F_o, HBW⟩ := hrel
        have w1 : IntKind.i64.wrap (2 * (i : Int)) = 2 * (i : Int) := IntWalk.i64_in _ (by omega)
        have w2 : IntKind.i64.wrap (8 * (j : Int)) = 8 * (j : Int) := IntWalk.i64_in _ (by omega)
        have w3 : IntKind.i64.wrap (2 * (i : Int) + 8 * (j : Int)) = 2 * (i : Int) + 8 * (j : Int) := IntWalk.i64_in _ (by omega)
        have HK := Lib.hid (show 3 + 8 * (2 * i + 8 * j) + 64 ≤ n0 by rw [HE.out]; omega)
        have HRN := Lib.hid (fun (W : World) (hW : Below w.heap.size w W) => rbitAt_at (c0 := c0) (2 * i + 8 * j) (2 * (i : Int) + 8 * (j : Int)) (by push_cast; rfl) W hW HS.out HU.out HK.out hl)
        have HBN := Lib.hid (show bitsN (xs.drop 3) i (j + 1) = bitsN (xs.drop 3) i j ++ [bitN ((xs.drop 3).drop (8 * (2 * i + 8 * j)))] by rw [bitsN_succ]; congr 4; omega)
        have HZU := Lib.hid (show (bitN ((xs.drop 3).drop (8 * (2 * i + 8 * j)))).u from bitN_u (HY.out.drop _))
        rw [show 16 * i + 64 * m = 8 * (2 * i + 8 * m) by omega] at HFIN
        by_cases hlt : j < m
        case pos =>
          have hd : decide ((j : Int) < (m : Int)) = true := decide_eq_true (by omega)
          obtain ⟨zq, hzq⟩ : ∃ zq, bitN ((xs.drop 3).drop (8 * (2 * i + 8 * j))) = zq := ⟨_, rfl⟩
          rw [hzq] at HRN HBN
          clear hzq HFIN HZU
          obtain ⟨⟨q0, q1, q2, q3, q4, q5, q6, q7, q8, q9, q10⟩, g0, g1, g2, g3, g4, g5, g6, g7, g8, g9, g10⟩ := F_v.out.k11
          go_wp2_with fail
          go_region_law (first
            | (go_simp
               go_at_call 37
               refine (HRN.out _ HBW.out.drew).mono ?_
               rintro e w6 ⟨rfl, hb6⟩
               have HBW6 := Lib.hid (HBW.out.drew.trans (hb6.mono (by have := HBW.out.drew.size; omega)))
               have HO6 := Lib.hid (owns_below2 HO.out.drew hb6)
               have HP6 := Lib.hid (owns_below2 HP.out.drew hb6)
               have F_v6 := Lib.hid (F_v.out.drew.keep hb6)
               have F_o6 := Lib.hid (F_o.out.drew.keep hb6)
               have hz6' : w.heap.size + 2 ≤ w6.heap.size := by have := hb6.size; simp only [World.size_drew] at this; omega
               obtain ⟨⟨-, p1, -⟩, -⟩ := (F_v6.out.alloc (.cells #[.int .u64 zq.r0, .int .u64 zq.r1, .int .u64 zq.s0, .int .u64 zq.s1, .int .u64 zq.c0, .int .u64 zq.c1, .int .u64 zq.z0, .int .u64 zq.z1] 27)).k11
               obtain ⟨⟨-, r1, -⟩, -⟩ := F_v6.out.k11
               clear hb6)
            | (refine wanted_wp rfl (wp_push_bit (.tmp 88) (.tmp 96) rfl (w.heap.size + 2) j w6.heap.size v2 (flatB (bitsN (xs.drop 3) i j)) zq ?jjv ?jjx ?jjo ?jjc ?jjm ?jjb ?_)
               case jjv => kernel_rfl
               case jjx => kernel_rfl
               case jjo => exact owns_alloc2 HP6.out _
               case jjc => exact cell_list_at _ _ _ _ rfl
               case jjm => omega
               case jjb => simp; omega
               intro v9 w9 hown hgr
               obtain ⟨a9, c9, rfl, -⟩ := ShB.of_owned (ps := bitsN (xs.drop 3) i j ++ [zq]) (by rw [flatB_append]; simpa [flatB] using hown)
               have HBW9 := Lib.hid (Below.rowT (n := w.heap.size + 2) hgr (fun k hk => by have := (World.ownsRow.lt HP6.out k hk).1; omega) (by simp; omega))
               have HO9 := Lib.hid (World.ownsRow.kept (owns_alloc2 HO6.out _) hgr (own_diffN HP6.out HO6.out (by decide)))
               have HP9 := Lib.hid (show w9.ownsRow (w.heap.size + 2) 27 8 (.slice a9 (j + 1) c9) (j + 1) (flatB (bitsN (xs.drop 3) i j ++ [zq])) by rw [flatB_append]; simpa [flatB] using hown)
               have F_v9 := Lib.hid ((F_v6.out.alloc (.cells #[.int .u64 zq.r0, .int .u64 zq.r1, .int .u64 zq.s0, .int .u64 zq.s1, .int .u64 zq.c0, .int .u64 zq.c1, .int .u64 zq.z0, .int .u64 zq.z1] 27)).keepN HBW9.out (by omega))
               obtain ⟨⟨y0, y1, y2, y3, y4, y5, y6, y7, y8, y9, y10⟩, t0, t1, t2, t3, t4, t5, t6, t7, t8, t9, t10⟩ := F_v9.out.k11
               clear hown hgr))
          all_goals
            go_wp2_with fail
            go_roundw
            case rel =>
              refine ⟨j + 1, .slice a9 (j + 1) c9, by omega, by go_num, ?_, own_far HO9.out _ _ (by simp <;> omega), ?_, F_v9.out.set (m := [v1, .slice a9 (j + 1) c9, .bool (b2 == 1), .int .u64 0, .int .u64 0, .int .u64 0, .int .u64 0, .int .u64 0, .int .u64 0, .int .u64 0, .int .u64 0]) 1 _ (by simp) rfl, ((F_o6.out.alloc _).keepN HBW9.out (by omega)).far _ _ (by simp <;> omega), ?_⟩
              · have := HBW9.out.size; simp at this ⊢; omega
              · rw [HBN.out]; exact own_far HP9.out _ _ (by simp <;> omega)
              · exact ((HBW6.out.alloc HBW6.out.size _).trans (HBW9.out.mono (by omega))).setCell (by simp <;> omega) _
            case measure => simp [intOf] <;> omega
        case neg =>
          obtain rfl : j = m := by omega
          have hd : decide ((j : Int) < (j : Int)) = false := decide_eq_false (by omega)
          obtain ⟨a1, c1, rfl, hS1, hk1⟩ := ShS.of_owned2 HO.out
          obtain ⟨a2, c2, rfl, hS2, hk2⟩ := ShB.of_owned2 HP.out
          obtain ⟨z, hzz⟩ : ∃ z, bitN ((xs.drop 3).drop (8 * (2 * i + 8 * j))) = z := ⟨_, rfl⟩
          rw [hzz] at HRN HFIN HZU
          clear hS1 hS2 hzz HBN
          go_wp2_with fail
          refine (HRN.out _ HBW.out).mono ?_
          rintro e w6 ⟨rfl, hb6⟩
          have HBW6 := Lib.hid (HBW.out.trans (hb6.mono HBW.out.size))
          have HO6 := Lib.hid (owns_below2 HO.out hb6)
          have HP6 := Lib.hid (owns_below2 HP.out hb6)
          have F_v6 := Lib.hid (F_v.out.keep hb6)
          have F_o6 := Lib.hid (F_o.out.keep hb6)
          have hz6' : w.heap.size + 2 ≤ w6.heap.size := by have := hb6.size; omega
          clear hb6 hd
          go_wp2_with (first
            | (refine wpL_storeCl rfl 27 (.tmp 106) (.tmp 105) (w.heap.size + 1) 3 _ [.int .u64 z.r0, .int .u64 z.r1, .int .u64 z.s0, .int .u64 z.s1, .int .u64 z.c0, .int .u64 z.c1, .int .u64 z.z0, .int .u64 z.z1] [.slice a1 i c1, .slice a2 j c2, .bool (b2 == 1), .int .u64 z.r0, .int .u64 z.r1, .int .u64 z.s0, .int .u64 z.s1, .int .u64 z.c0, .int .u64 z.c1, .int .u64 z.z0, .int .u64 z.z1] rfl rfl rfl rfl (by kernel_rfl) (by intro u hu; simp at hu; rcases hu with rfl | rfl | rfl | rfl | rfl | rfl | rfl | rfl <;> rfl) F_v6.out (by simp) rfl ?_
               intro w7 hc7 hg7 hz7
               have F_w := Lib.hid hc7
               have HG7 := Lib.hid hg7
               have hz7' : w7.heap.size = w6.heap.size := hz7
               clear hc7 hg7 hz7)
            | (refine wpL_loadCl rfl 29 (.tmp 7) (w.heap.size + 1) _ rfl rfl _ Tryd.underlying29 rfl (by kernel_rfl) F_w.out ?_)
            | (refine wpL_storeCl rfl 29 (.tmp 2) (.tmp 107) w.heap.size 0 _ [.slice a1 i c1, .slice a2 j c2, .bool (b2 == 1), .int .u64 z.r0, .int .u64 z.r1, .int .u64 z.s0, .int .u64 z.s1, .int .u64 z.c0, .int .u64 z.c1, .int .u64 z.z0, .int .u64 z.z1] [.slice a1 i c1, .slice a2 j c2, .bool (b2 == 1), .int .u64 z.r0, .int .u64 z.r1, .int .u64 z.s0, .int .u64 z.s1, .int .u64 z.c0, .int .u64 z.c1, .int .u64 z.z0, .int .u64 z.z1] rfl rfl rfl rfl (by kernel_rfl) (by intro u hu; simp at hu; rcases hu with rfl | rfl | rfl | rfl | rfl | rfl | rfl | rfl | rfl | rfl | rfl <;> rfl) (F_o6.out.gro HG7.out (by omega)) (by simp) rfl ?_
               intro w8 hc8 hg8 hz8
               have F_x := Lib.hid hc8
               have HG8 := Lib.hid hg8
               have hz8' : w8.heap.size = w7.heap.size := hz8
               clear hc8 hg8 hz8))
          obtain ⟨x1, y1, ex1, hS1, -⟩ := ShS.of_owned2 (own_gro (own_gro HO6.out HG7.out (by omega)) HG8.out (by omega))
          obtain ⟨x2, y2, ex2, hS2, -⟩ := ShB.of_owned2 (own_gro (own_gro HP6.out HG7.out (by omega)) HG8.out (by omega))
          injection ex1 with f1 f2 f3
          injection ex2 with f4 f5 f6
          subst f1 f4
          refine bodyPost_ret (res_vote rfl F_x.out _ rfl rfl) rfl ?_
          refine ⟨⟨a1, i, c1, boxesN (xs.drop 3) i, a2, j, c2, bitsN (xs.drop 3) i j, (b2 == 1), z⟩, by rw [HFIN.out]; rfl, ⟨hS1, boxesN_u HY.out _, hk1, hS2, bitsN_u HY.out _ _, hk2, HZU.out⟩, by rw [HFIN.out], by rw [HFIN.out], by rw [HFIN.out]; simp only [HB2.out]; rfl, by rw [HFIN.out], ?_⟩
          exact (HBW6.out.trans (HG7.out.blw (n := w.heap.size) (by omega) (by omega))).trans (HG8.out.blw (n := w.heap.size) (by omega) (by omega))

end Go.Proofs.YtlbldpkgnonbpaaDoor
