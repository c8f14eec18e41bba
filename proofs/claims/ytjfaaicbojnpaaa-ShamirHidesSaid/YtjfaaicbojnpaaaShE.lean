/- The reference's weights; the first errors of numbers and lists. -/
import Derived.Test.YtjfaaicbojnpaaaWgtS
import Derived.Test.YtjfaaicbojnpaaaRefC
namespace Go.Proofs.Ytjfaaicbojnpaaa
open Go.RowKit Num
set_option linter.unusedSimpArgs false
set_option linter.unusedVariables false

set_option maxHeartbeats 2000000 in
theorem rhalf_any {P Q G x v : Int} {ok : Bool} (w : World) (hH : Has P Q G) (x0 : 0 ≤ x) (xQ : x < Q) (hv : InvS Q x ok v) :
    Calls Try.prog 95 #[.agg #[.int .u64 P, .int .u64 Q, .int .u64 G], .int .u64 x] w fun e w' => e = .returned (.tuple #[.int .u64 v, .bool ok]) ∧ Below w.heap.size w w' := by
  obtain ⟨p5, p3, hQ', pq, g2, gP⟩ := id hH
  have q2 : 2 ≤ Q := by omega
  have q3 : Q < 2147483648 := by omega
  have HV := Lib.hid hv
  clear hv hH pq
  have F_g := Lib.hid (show Boxed (w.alloc (.cells #[.int .u64 P, .int .u64 Q, .int .u64 G] 24)) (w.heap.size) P Q G from Boxed.at _ P Q G _ (w.heap.size) (by simp))
  have HBW := Lib.hid (show Below w.heap.size w (w.alloc (.cells #[.int .u64 P, .int .u64 Q, .int .u64 G] 24)) from (Below.refl _ _).alloc (by simp <;> omega) _)
  go_enter Try.func95, Try.ntmps95
  obtain ⟨x0a, x0b, x0c, -⟩ := id F_g.out
  go_wp2_with fail
  clear x0a x0b x0c
  refine (under_any Q x v ok _ x0 xQ q2 q3 HV.out).mono ?_
  rintro e w1 ⟨rfl, hb1⟩
  replace F_g := Lib.hid (F_g.out.keep hb1)
  replace HBW := Lib.hid (HBW.out.trans (hb1.mono HBW.out.size))
  clear hb1
  obtain ⟨x0a, x0b, x0c, -⟩ := id F_g.out
  go_wp2_with fail
  go_ret2
  exact ⟨rfl, HBW.out⟩

theorem filter_take_in {ids : List Int} {j : Nat} {x : Int} (h : j < ids.length) (hx : ids[j] ≠ x) : (ids.take (j + 1)).filter (fun y => decide (y ≠ x)) = (ids.take j).filter (fun y => decide (y ≠ x)) ++ [ids[j]] := by
  rw [List.take_succ_eq_append_getElem h, List.filter_append]
  simp [hx]
theorem filter_take_out {ids : List Int} {j : Nat} {x : Int} (h : j < ids.length) (hx : ids[j] = x) : (ids.take (j + 1)).filter (fun y => decide (y ≠ x)) = (ids.take j).filter (fun y => decide (y ≠ x)) := by
  rw [List.take_succ_eq_append_getElem h, List.filter_append]
  simp [hx]
theorem wOne_none_of {Q x w : Int} {ids : List Int} {j : Nat} (h : wOneL Q x 1 ((ids.take j).filter fun y => decide (y ≠ x)) = some w) (hj : j < ids.length) (hne : ids[j] ≠ x) (hi : invF Q ((ids[j] - x) % Q) = none) : wOne Q ids x = none := by
  have e : ids.filter (fun y => decide (y ≠ x)) = (ids.take (j + 1)).filter (fun y => decide (y ≠ x)) ++ (ids.drop (j + 1)).filter (fun y => decide (y ≠ x)) := by
    rw [← List.filter_append, List.take_append_drop]
  rw [wOne, e, wOneL_append, filter_take_in hj hne, wOneL_append, h]
  simp [wOneL, hi]
theorem nodup_inj {l : List Int} (h : l.Nodup) {i j : Nat} (hi : i < l.length) (hj : j < l.length) (e : l[i] = l[j]) : i = j := by
  have hp := List.pairwise_iff_getElem.1 h
  rcases Nat.lt_trichotomy i j with h1 | h1 | h1
  · exact absurd e (hp i j hi hj h1)
  · exact h1
  · exact absurd e.symm (hp j i hj hi h1)
theorem getD_at {ids : List Int} {j : Nat} (h : j < ids.length) : ids.getD j 0 = ids[j] := by
  rw [List.getD_eq_getElem?_getD, List.getElem?_eq_getElem h]; rfl

set_option maxHeartbeats 2000000 in
theorem rover_any {P Q G a b u v : Int} {ok : Bool} (w : World) (hH : Has P Q G) (a0 : 0 ≤ a) (aQ : a < Q) (b0 : 0 ≤ b) (bQ : b < Q) (hi : InvS Q b ok u) (hv : a * u % Q = v) :
    Calls Try.prog 93 #[.agg #[.int .u64 P, .int .u64 Q, .int .u64 G], .int .u64 a, .int .u64 b] w fun e w' => e = .returned (.tuple #[.int .u64 v, .bool ok]) ∧ Below w.heap.size w w' := by
  obtain ⟨u0, uQ⟩ : 0 ≤ u ∧ u < Q := by
    rcases hi with ⟨_, h⟩ | ⟨_, h, _⟩
    · exact ⟨h.1, h.2.1⟩
    · rw [h]; exact ⟨Int.le_refl _, by omega⟩
  have HH := Lib.hid hH
  have HI := Lib.hid hi
  have HM := Lib.hid hv
  clear hH hi hv
  have F_g := Lib.hid (show Boxed (w.alloc (.cells #[.int .u64 P, .int .u64 Q, .int .u64 G] 24)) (w.heap.size) P Q G from Boxed.at _ P Q G _ (w.heap.size) (by simp))
  have HBW := Lib.hid (show Below w.heap.size w (w.alloc (.cells #[.int .u64 P, .int .u64 Q, .int .u64 G] 24)) from (Below.refl _ _).alloc (by simp <;> omega) _)
  go_enter Try.func93, Try.ntmps93
  obtain ⟨x0a, x0b, x0c, -⟩ := id F_g.out
  go_wp2_with fail
  clear x0a x0b x0c
  refine (rhalf_any _ HH.out b0 bQ HI.out).mono ?_
  rintro e w1 ⟨rfl, hb1⟩
  replace F_g := Lib.hid (F_g.out.keep hb1)
  replace HBW := Lib.hid (HBW.out.trans (hb1.mono HBW.out.size))
  clear hb1
  obtain ⟨x0a, x0b, x0c, -⟩ := id F_g.out
  go_wp2_with fail
  clear x0a x0b x0c
  refine (rProduct_gen _ HH.out a0 aQ u0 uQ HM.out).mono ?_
  rintro e w2 ⟨rfl, hb2⟩
  replace F_g := Lib.hid (F_g.out.keep hb2)
  replace HBW := Lib.hid (HBW.out.trans (hb2.mono HBW.out.size))
  clear hb2
  obtain ⟨x0a, x0b, x0c, -⟩ := id F_g.out
  go_wp2_with fail
  go_ret2
  exact ⟨rfl, HBW.out⟩

/-- A slice of the call's own and whether there is one. -/
def RetRowB (w : World) (o : Option (List Int)) (e : Ending) (w' : World) : Prop :=
  ∃ v, e = .returned (.tuple #[v, .bool o.isSome]) ∧ OwnU w' w.heap.size v (o.getD []) ∧ Below w.heap.size w w'

set_option maxRecDepth 100000 in
set_option maxHeartbeats 8000000 in
theorem rweights_low {P Q G : Int} {s o n c : Nat} {ids : List Int} (w : World) (hH : Has P Q G) (hn : n = ids.length) (l8 : n ≤ 8) (hs : s < w.heap.size) (hcell : ∀ i, i < n → w.cell? ⟨s, o + i, none⟩ = some (.int .i64 (ids.getD i 0))) (hr0 : ∀ k, k < n → 0 ≤ ids.getD k 0 ∧ ids.getD k 0 < Q ∧ ids.getD k 0 ≤ 8) (hnd : ids.Nodup) :
    Calls Try.prog 73 #[.agg #[.int .u64 P, .int .u64 Q, .int .u64 G], .slice (some ⟨s, o, none⟩) n c] w (RetRowB w (wAll Q ids ids)) := by
  obtain ⟨p5, p3, hQ', pq, g2, gP⟩ := id hH
  have q3 : Q < 1073741824 := by omega
  have q1 : 1 < Q := by omega
  have q0 : Q ≠ 0 := by omega
  have hone : (1 : Int).tmod Q = 1 := by rw [Int.tmod_eq_emod_of_nonneg (by omega)]; exact Int.emod_eq_of_lt (by omega) q1
  have HH := Lib.hid hH
  have HLN := Lib.hid hn
  have HC := Lib.hid hcell
  have HR := Lib.hid hr0
  have HND := Lib.hid hnd
  clear hH hn hcell hr0 hnd pq
  obtain ⟨i0, hi, hz0, hz1, hz2⟩ := info_parts (P := Try.prog) (e := 22) (z := .int .u64 0) (size := 1) (bytes := 8) (by kernel_rfl)
  have F_g := Lib.hid (show Boxed (w.alloc (.cells #[.int .u64 P, .int .u64 Q, .int .u64 G] 24)) (w.heap.size) P Q G from Boxed.at _ P Q G _ (w.heap.size) (by simp))
  have HBW := Lib.hid (show Below w.heap.size w (w.alloc (.cells #[.int .u64 P, .int .u64 Q, .int .u64 G] 24)) from (Below.refl _ _).alloc (by simp <;> omega) _)
  go_enter Try.func73, Try.ntmps73
  go_wp2_with fail
  have hgl := F_g.out.lt
  go_loopw [6, 7, 8, 9, 10, 11] (fun c6 c7 c8 c9 c10 c11 wr => ∃ k : Nat, k ≤ n ∧ c7 = .int .i64 k ∧ ∃ (wk : List Int) (oa : Option Addr) (oc : Nat), c6 = .slice oa wk.length oc ∧ Hid (wAll Q ids (ids.take k) = some wk) ∧ Hid (OwnU wr (w.heap.size + 1) (.slice oa wk.length oc) wk) ∧ Hid (Boxed wr w.heap.size P Q G) ∧ Hid (Below w.heap.size w wr)) (fun _ c7 _ _ _ _ _ => n - (intOf c7).toNat)
  case atStart => exact ⟨0, Nat.zero_le _, rfl, [], none, 0, rfl, rfl, OwnU.nil _ _, F_g.out, HBW.out⟩
  case round =>
    clear F_g HBW hgl
    obtain ⟨k, hk, rfl, wk, oa, oc, rfl, HWK, F_o, F_g, HBW⟩ := hrel
    have hgl := F_g.out.lt
    by_cases hlt : k < n
    case neg =>
      have hkn : k = ids.length := by rw [← HLN.out]; omega
      have HZ := Lib.hid (show wAll Q ids ids = some wk by have := HWK.out; rw [hkn, List.take_length] at this; exact this)
      clear hkn
      go_wp2_with fail
      go_ret2
      refine ⟨_, by rw [HZ.out]; rfl, ?_, HBW.out⟩
      rw [HZ.out]; exact F_o.out.mono (by omega)
    case pos =>
      obtain ⟨x, hx⟩ : ∃ x, ids.getD k 0 = x := ⟨_, rfl⟩
      have hxk : ids[k]'(by rw [← HLN.out]; exact hlt) = x := by rw [← hx, getD_at]
      have HCK := Lib.hid (show w.cell? ⟨s, o + k, none⟩ = some (.int .i64 x) by rw [← hx]; exact HC.out k hlt)
      obtain ⟨x0, xQ, x8⟩ : 0 ≤ x ∧ x < Q ∧ x ≤ 8 := by rw [← hx]; exact HR.out k hlt
      have HXK := Lib.hid hxk
      have hwx : IntKind.u64.wrap x = x := wrap_u x0 (by omega)
      have hk0 : (0 : Int) ≤ (k : Int) := by omega
      have hk1 : (k : Int) < (n : Int) := by omega
      clear hx hxk
      have hb := F_g.out.c1
      go_wp2_with fail
      clear hb
      go_loopw [8, 9, 10, 11] (fun c8 c9 c10 c11 wr => ∃ j : Nat, j ≤ n ∧ c9 = .int .i64 j ∧ ∃ t : Int, c8 = .int .u64 t ∧ Hid (wOneL Q x 1 ((ids.take j).filter fun y => decide (y ≠ x)) = some t) ∧ Hid (OwnU wr (w.heap.size + 1) (.slice oa wk.length oc) wk) ∧ Hid (Boxed wr w.heap.size P Q G) ∧ Hid (Below w.heap.size w wr)) (fun _ c9 _ _ _ => n - (intOf c9).toNat)
      case atStart => exact ⟨0, Nat.zero_le _, rfl, 1, rfl, rfl, F_o.out, F_g.out, HBW.out⟩
      case round =>
        clear F_o F_g HBW hgl
        obtain ⟨j, hj, rfl, t, rfl, HT, F_o, F_g, HBW⟩ := hrel
        have hgl := F_g.out.lt
        have hj0 : (0 : Int) ≤ (j : Int) := by omega
        obtain ⟨t0, tQ⟩ := wOneL_range (by omega) _ 1 t (by omega) q1 HT.out
        by_cases hjl : j < n
        case neg =>
          have hjn : j = ids.length := by rw [← HLN.out]; omega
          have HSN := Lib.hid (show wAll Q ids (ids.take (k + 1)) = some (wk ++ [t]) by
            rw [List.take_succ_eq_append_getElem (by rw [← HLN.out]; exact hlt), HXK.out]
            refine wAll_snoc HWK.out ?_
            have := HT.out
            rw [hjn, List.take_length] at this
            exact this)
          have HWL := Lib.hid (show wk.length ≤ 8 by rw [wAll_len HWK.out, List.length_take]; omega)
          clear hjn
          have hrow := F_o.out
          go_wp2_with (at_builtin; refine wpList_append_own _ rfl _ _ 25 rfl (w.heap.size + 1) 22 i0 (.int .u64 0) 1 8 Try.underlying25 hi hz0 hz1 hz2 rfl (by decide) _ wk.length (wk.map (Value.int IntKind.u64)) rfl (F_o.out.keep ((Below.refl _ _).alloc (Nat.le_refl _) _)) _ 1 1 [.int .u64 t] rfl rfl (cell_one_new _ _ _) (by simp [Value.oneCell']) (by have := HWL.out; unfold maxLen; omega) (by have := HWL.out; omega) (by simp; omega) ?_; intro v' w9 hown hgr hnil; have HOWN := Lib.hid hown; have HGR := Lib.hid hgr; clear hown hgr hnil)
          have hbr := Below.row HGR.out (fun j hj => (F_o.out.lt j hj).1) (by simp; omega)
          have hw9 := hbr.size
          have hown9 : OwnU w9 (w.heap.size + 1) v' (wk ++ [t]) := by unfold OwnU; rw [List.length_append, List.map_append]; exact HOWN.out
          obtain ⟨oa', oc', rfl⟩ := hown9.sl
          go_roundw
          case rel => exact ⟨k + 1, by omega, by go_num, wk ++ [t], oa', oc', rfl, HSN.out, hown9, (F_g.out.alloc _).keepN hbr (by omega), (HBW.out.alloc HBW.out.size _).trans (hbr.mono (by omega))⟩
          case measure => simp [intOf]; omega
        case pos =>
          have hjl' : j < ids.length := by rw [← HLN.out]; exact hjl
          have hj1 : (j : Int) < (n : Int) := by omega
          by_cases hjk : j = k
          case pos =>
            have HE := Lib.hid (show wOneL Q x 1 ((ids.take (j + 1)).filter fun y => decide (y ≠ x)) = some t by
              rw [filter_take_out hjl' (by rw [← HXK.out]; congr 1)]; exact HT.out)
            have dj : ((j : Int) == (k : Int)) = true := by simp; omega
            have djn : (j == k) = true := by simpa using hjk
            clear hjk
            go_wp2_with fail
            go_roundw
            case rel => exact ⟨j + 1, by omega, by go_num, t, rfl, HE.out, F_o.out, F_g.out, HBW.out⟩
            case measure => simp [intOf]; omega
          case neg =>
            have hkl' : k < ids.length := by rw [← HLN.out]; exact hlt
            have hne : ids[j] ≠ x := fun e => hjk (nodup_inj HND.out hjl' hkl' (e.trans HXK.out.symm))
            obtain ⟨y, hy⟩ : ∃ y, ids.getD j 0 = y := ⟨_, rfl⟩
            have hyj : ids[j] = y := by rw [← hy, getD_at hjl']
            have HCJ := Lib.hid (show w.cell? ⟨s, o + j, none⟩ = some (.int .i64 y) by rw [← hy]; exact HC.out j hjl)
            obtain ⟨y0, yQ, y8⟩ : 0 ≤ y ∧ y < Q ∧ y ≤ 8 := by rw [← hy]; exact HR.out j hjl
            have hwy : IntKind.u64.wrap y = y := wrap_u y0 (by omega)
            have HYJ := Lib.hid hyj
            have HNE := Lib.hid hne
            have dj : ((j : Int) == (k : Int)) = false := by simp; omega
            have djn : (j == k) = false := by simpa using hjk
            obtain ⟨d, hd⟩ : ∃ d, (y - x) % Q = d := ⟨_, rfl⟩
            have d0 : 0 ≤ d := by rw [← hd]; exact Int.emod_nonneg _ (by omega)
            have dQ : d < Q := by rw [← hd]; exact Int.emod_lt_of_pos _ (by omega)
            have HD := Lib.hid hd
            clear hy hyj hne hjk hd
            cases hinv : invF Q d with
            | none =>
              have HU := Lib.hid (invS_none (by omega) hinv)
              have HM := Lib.hid (show y * 0 % Q = 0 by simp)
              have HZ := Lib.hid (show wAll Q ids ids = none from wAll_none (i := x) (by rw [← HXK.out]; exact List.getElem_mem hkl') (wOne_none_of HT.out hjl' HNE.out (by rw [HYJ.out, HD.out]; exact hinv)))
              clear hinv
              go_wp2_with fail
              go_wp2_with fail
              replace F_g := Lib.hid F_g.out.drew
              replace F_o := Lib.hid (F_o.out.keep (Below.refl _ _).drew)
              replace HBW := Lib.hid HBW.out.drew
              have hS := And.intro F_g.out.s (And.intro ((HBW.out.cell (p := ⟨s, o + j, none⟩) hs).trans HCJ.out) ((HBW.out.cell (p := ⟨s, o + k, none⟩) hs).trans HCK.out))
              refine wp_region_stage 23 (fun w' => SBox w' w.heap.size P Q G ∧ w'.cell? ⟨s, o + j, none⟩ = some (.int .i64 y) ∧ w'.cell? ⟨s, o + k, none⟩ = some (.int .i64 x)) (by kernel_rfl) ?_
              refine wpAnyB_take (i := 0) (some 31) (Op.load 24 (Operand.tmp 2)) 24 (v := ?_) ⟨_, rfl, rfl, rfl, rfl, rfl⟩ (by kernel_rfl) (by kernel_rfl) (by kernel_rfl) [18, 19, 20, 21, 22, 23] (by kernel_rfl) (fun _ _ _ h => h) hS (fun w' hSw => ?_) ?_
              rotate_left
              · obtain ⟨⟨s0, s1, s2⟩, s3, s4⟩ := hSw
                unfold bareOp
                go_simp
                try with_reducible rfl
              simp only [Act.put, List.setIfInBounds_toArray, List.set_cons_zero, List.set_cons_succ]
              refine wpAnyB_takeP (i := 1) (some 32) (Op.move (Operand.tmp 1)) 51 (v := ?_) ⟨_, rfl, rfl, rfl, rfl, rfl⟩ (by kernel_rfl) (by kernel_rfl) (by kernel_rfl) (by kernel_rfl) (fun _ _ _ h => h) (fun _ => hS) (fun w' => ?_) ?_
              rotate_left
              · unfold bareOp
                go_simp
                try with_reducible rfl
              simp only [Act.put, List.setIfInBounds_toArray, List.set_cons_zero, List.set_cons_succ]
              refine wpAnyB_takeP (i := 2) (some 33) (Op.move (Operand.tmp 9)) 3 (v := ?_) ⟨_, rfl, rfl, rfl, rfl, rfl⟩ (by kernel_rfl) (by kernel_rfl) (by kernel_rfl) (by kernel_rfl) (fun _ _ _ h => h) (fun _ => hS) (fun w' => ?_) ?_
              rotate_left
              · unfold bareOp
                go_simp
                try with_reducible rfl
              simp only [Act.put, List.setIfInBounds_toArray, List.set_cons_zero, List.set_cons_succ]
              refine wpAnyB_takeP (i := 3) (some 34) (Op.indexAddr 51 (Operand.tmp 32) (Operand.tmp 33)) 0 (v := ?_) ⟨_, rfl, rfl, rfl, rfl, rfl⟩ (by kernel_rfl) (by kernel_rfl) (by kernel_rfl) (by kernel_rfl) (fun _ _ _ h => h) (fun _ => hS) (fun w' => ?_) ?_
              rotate_left
              · unfold bareOp
                go_simp
                try with_reducible rfl
              simp only [Act.put, List.setIfInBounds_toArray, List.set_cons_zero, List.set_cons_succ]
              refine wpAnyB_take (i := 4) (some 35) (Op.load 3 (Operand.tmp 34)) 3 (v := ?_) ⟨_, rfl, rfl, rfl, rfl, rfl⟩ (by kernel_rfl) (by kernel_rfl) (by kernel_rfl) [5, 18, 19, 20, 21, 22, 23] (by kernel_rfl) (fun _ _ _ h => h) hS (fun w' hSw => ?_) ?_
              rotate_left
              · obtain ⟨⟨s0, s1, s2⟩, s3, s4⟩ := hSw
                unfold bareOp
                go_simp
                try with_reducible rfl
              simp only [Act.put, List.setIfInBounds_toArray, List.set_cons_zero, List.set_cons_succ]
              refine wpAnyB_takeP (i := 5) (some 36) (Op.convert 3 22 (Operand.tmp 35)) 22 (v := ?_) ⟨_, rfl, rfl, rfl, rfl, rfl⟩ (by kernel_rfl) (by kernel_rfl) (by kernel_rfl) (by kernel_rfl) (fun _ _ _ h => h) (fun _ => hS) (fun w' => ?_) ?_
              rotate_left
              · unfold bareOp
                go_simp
                try with_reducible rfl
              simp only [Act.put, List.setIfInBounds_toArray, List.set_cons_zero, List.set_cons_succ]
              refine wpAnyB_take (i := 6) (some 37) (Op.load 24 (Operand.tmp 2)) 24 (v := ?_) ⟨_, rfl, rfl, rfl, rfl, rfl⟩ (by kernel_rfl) (by kernel_rfl) (by kernel_rfl) [17, 18, 19, 20, 21, 22, 23] (by kernel_rfl) (fun _ _ _ h => h) hS (fun w' hSw => ?_) ?_
              rotate_left
              · obtain ⟨⟨s0, s1, s2⟩, s3, s4⟩ := hSw
                unfold bareOp
                go_simp
                try with_reducible rfl
              simp only [Act.put, List.setIfInBounds_toArray, List.set_cons_zero, List.set_cons_succ]
              refine wpAnyB_takeP (i := 7) (some 38) (Op.move (Operand.tmp 1)) 51 (v := ?_) ⟨_, rfl, rfl, rfl, rfl, rfl⟩ (by kernel_rfl) (by kernel_rfl) (by kernel_rfl) (by kernel_rfl) (fun _ _ _ h => h) (fun _ => hS) (fun w' => ?_) ?_
              rotate_left
              · unfold bareOp
                go_simp
                try with_reducible rfl
              simp only [Act.put, List.setIfInBounds_toArray, List.set_cons_zero, List.set_cons_succ]
              refine wpAnyB_takeP (i := 8) (some 39) (Op.move (Operand.tmp 9)) 3 (v := ?_) ⟨_, rfl, rfl, rfl, rfl, rfl⟩ (by kernel_rfl) (by kernel_rfl) (by kernel_rfl) (by kernel_rfl) (fun _ _ _ h => h) (fun _ => hS) (fun w' => ?_) ?_
              rotate_left
              · unfold bareOp
                go_simp
                try with_reducible rfl
              simp only [Act.put, List.setIfInBounds_toArray, List.set_cons_zero, List.set_cons_succ]
              refine wpAnyB_takeP (i := 9) (some 40) (Op.indexAddr 51 (Operand.tmp 38) (Operand.tmp 39)) 0 (v := ?_) ⟨_, rfl, rfl, rfl, rfl, rfl⟩ (by kernel_rfl) (by kernel_rfl) (by kernel_rfl) (by kernel_rfl) (fun _ _ _ h => h) (fun _ => hS) (fun w' => ?_) ?_
              rotate_left
              · unfold bareOp
                go_simp
                try with_reducible rfl
              simp only [Act.put, List.setIfInBounds_toArray, List.set_cons_zero, List.set_cons_succ]
              refine wpAnyB_take (i := 10) (some 41) (Op.load 3 (Operand.tmp 40)) 3 (v := ?_) ⟨_, rfl, rfl, rfl, rfl, rfl⟩ (by kernel_rfl) (by kernel_rfl) (by kernel_rfl) [11, 17, 18, 19, 20, 21, 22, 23] (by kernel_rfl) (fun _ _ _ h => h) hS (fun w' hSw => ?_) ?_
              rotate_left
              · obtain ⟨⟨s0, s1, s2⟩, s3, s4⟩ := hSw
                unfold bareOp
                go_simp
                try with_reducible rfl
              simp only [Act.put, List.setIfInBounds_toArray, List.set_cons_zero, List.set_cons_succ]
              refine wpAnyB_takeP (i := 11) (some 42) (Op.convert 3 22 (Operand.tmp 41)) 22 (v := ?_) ⟨_, rfl, rfl, rfl, rfl, rfl⟩ (by kernel_rfl) (by kernel_rfl) (by kernel_rfl) (by kernel_rfl) (fun _ _ _ h => h) (fun _ => hS) (fun w' => ?_) ?_
              rotate_left
              · unfold bareOp
                go_simp
                try with_reducible rfl
              simp only [Act.put, List.setIfInBounds_toArray, List.set_cons_zero, List.set_cons_succ]
              refine wpAnyB_takeP (i := 12) (some 43) (Op.move (Operand.tmp 1)) 51 (v := ?_) ⟨_, rfl, rfl, rfl, rfl, rfl⟩ (by kernel_rfl) (by kernel_rfl) (by kernel_rfl) (by kernel_rfl) (fun _ _ _ h => h) (fun _ => hS) (fun w' => ?_) ?_
              rotate_left
              · unfold bareOp
                go_simp
                try with_reducible rfl
              simp only [Act.put, List.setIfInBounds_toArray, List.set_cons_zero, List.set_cons_succ]
              refine wpAnyB_takeP (i := 13) (some 44) (Op.move (Operand.tmp 7)) 3 (v := ?_) ⟨_, rfl, rfl, rfl, rfl, rfl⟩ (by kernel_rfl) (by kernel_rfl) (by kernel_rfl) (by kernel_rfl) (fun _ _ _ h => h) (fun _ => hS) (fun w' => ?_) ?_
              rotate_left
              · unfold bareOp
                go_simp
                try with_reducible rfl
              simp only [Act.put, List.setIfInBounds_toArray, List.set_cons_zero, List.set_cons_succ]
              refine wpAnyB_takeP (i := 14) (some 45) (Op.indexAddr 51 (Operand.tmp 43) (Operand.tmp 44)) 0 (v := ?_) ⟨_, rfl, rfl, rfl, rfl, rfl⟩ (by kernel_rfl) (by kernel_rfl) (by kernel_rfl) (by kernel_rfl) (fun _ _ _ h => h) (fun _ => hS) (fun w' => ?_) ?_
              rotate_left
              · unfold bareOp
                go_simp
                try with_reducible rfl
              simp only [Act.put, List.setIfInBounds_toArray, List.set_cons_zero, List.set_cons_succ]
              refine wpAnyB_take (i := 15) (some 46) (Op.load 3 (Operand.tmp 45)) 3 (v := ?_) ⟨_, rfl, rfl, rfl, rfl, rfl⟩ (by kernel_rfl) (by kernel_rfl) (by kernel_rfl) [16, 17, 18, 19, 20, 21, 22, 23] (by kernel_rfl) (fun _ _ _ h => h) hS (fun w' hSw => ?_) ?_
              rotate_left
              · obtain ⟨⟨s0, s1, s2⟩, s3, s4⟩ := hSw
                unfold bareOp
                go_simp
                try with_reducible rfl
              simp only [Act.put, List.setIfInBounds_toArray, List.set_cons_zero, List.set_cons_succ]
              refine wpAnyB_takeP (i := 16) (some 47) (Op.convert 3 22 (Operand.tmp 46)) 22 (v := ?_) ⟨_, rfl, rfl, rfl, rfl, rfl⟩ (by kernel_rfl) (by kernel_rfl) (by kernel_rfl) (by kernel_rfl) (fun _ _ _ h => h) (fun _ => hS) (fun w' => ?_) ?_
              rotate_left
              · unfold bareOp
                go_simp
                try with_reducible rfl
              simp only [Act.put, List.setIfInBounds_toArray, List.set_cons_zero, List.set_cons_succ]
              refine wpAnyB_only (i := 17) (some 48) (Op.call { callee := Callee.value (Operand.func 94), args := #[Operand.tmp 37, Operand.tmp 42, Operand.tmp 47], argTypes := #[24, 22, 22] }) 22 ⟨_, rfl, rfl, rfl, rfl, rfl⟩ (by kernel_rfl) (fun K hK => ?_)
              unfold bareOp
              go_wp2_with (go_at_call 94; refine (rDiff_gen _ HH.out y0 yQ x0 xQ HD.out).mono ?_; rintro e w8 ⟨rfl, hb8⟩)
              replace F_g := Lib.hid (F_g.out.keep hb8)
              replace F_o := Lib.hid (F_o.out.keep hb8)
              replace HBW := Lib.hid (HBW.out.trans (hb8.mono HBW.out.size))
              replace hS := And.intro F_g.out.s (And.intro ((HBW.out.cell (p := ⟨s, o + j, none⟩) hs).trans HCJ.out) ((HBW.out.cell (p := ⟨s, o + k, none⟩) hs).trans HCK.out))
              clear hb8
              refine hK.out _ _ (fun _ => hS) ?_
              clear hK K
              try simp only [Act.put, List.setIfInBounds_toArray, List.set_cons_zero, List.set_cons_succ]
              refine wpAnyB_only (i := 18) (some 49) (Op.call { callee := Callee.value (Operand.func 93), args := #[Operand.tmp 31, Operand.tmp 36, Operand.tmp 48], argTypes := #[24, 22, 22] }) 113 ⟨_, rfl, rfl, rfl, rfl, rfl⟩ (by kernel_rfl) (fun K hK => ?_)
              unfold bareOp
              go_wp2_with (go_at_call 93; refine (rover_any _ HH.out y0 yQ d0 dQ HU.out HM.out).mono ?_; rintro e w8 ⟨rfl, hb8⟩)
              replace F_g := Lib.hid (F_g.out.keep hb8)
              replace F_o := Lib.hid (F_o.out.keep hb8)
              replace HBW := Lib.hid (HBW.out.trans (hb8.mono HBW.out.size))
              replace hS := And.intro F_g.out.s (And.intro ((HBW.out.cell (p := ⟨s, o + j, none⟩) hs).trans HCJ.out) ((HBW.out.cell (p := ⟨s, o + k, none⟩) hs).trans HCK.out))
              clear hb8
              refine hK.out _ _ (fun _ => hS) ?_
              clear hK K
              try simp only [Act.put, List.setIfInBounds_toArray, List.set_cons_zero, List.set_cons_succ]
              refine wpAnyB_takeP (i := 19) (some 30) (Op.move (Operand.tmp 49)) 113 (v := ?_) ⟨_, rfl, rfl, rfl, rfl, rfl⟩ (by kernel_rfl) (by kernel_rfl) (by kernel_rfl) (by kernel_rfl) (fun _ _ _ h => h) (fun _ => hS) (fun w' => ?_) ?_
              rotate_left
              · unfold bareOp
                go_simp
                try with_reducible rfl
              simp only [Act.put, List.setIfInBounds_toArray, List.set_cons_zero, List.set_cons_succ]
              refine wpAnyB_takeP (i := 20) (some 50) (Op.extract (Operand.tmp 30) 0) 22 (v := ?_) ⟨_, rfl, rfl, rfl, rfl, rfl⟩ (by kernel_rfl) (by kernel_rfl) (by kernel_rfl) (by kernel_rfl) (fun _ _ _ h => h) (fun _ => hS) (fun w' => ?_) ?_
              rotate_left
              · unfold bareOp
                go_simp
                try with_reducible rfl
              simp only [Act.put, List.setIfInBounds_toArray, List.set_cons_zero, List.set_cons_succ]
              refine wpAnyB_takeP (i := 21) (some 51) (Op.extract (Operand.tmp 30) 1) 4 (v := ?_) ⟨_, rfl, rfl, rfl, rfl, rfl⟩ (by kernel_rfl) (by kernel_rfl) (by kernel_rfl) (by kernel_rfl) (fun _ _ _ h => h) (fun _ => hS) (fun w' => ?_) ?_
              rotate_left
              · unfold bareOp
                go_simp
                try with_reducible rfl
              simp only [Act.put, List.setIfInBounds_toArray, List.set_cons_zero, List.set_cons_succ]
              refine wpAnyB_takeP (i := 22) (some 10) (Op.assign (Operand.tmp 50)) 22 (v := ?_) ⟨_, rfl, rfl, rfl, rfl, rfl⟩ (by kernel_rfl) (by kernel_rfl) (by kernel_rfl) (by kernel_rfl) (fun _ _ _ h => h) (fun _ => hS) (fun w' => ?_) ?_
              rotate_left
              · unfold bareOp
                go_simp
                try with_reducible rfl
              simp only [Act.put, List.setIfInBounds_toArray, List.set_cons_zero, List.set_cons_succ]
              refine wpAnyB_only (i := 23) (some 11) (Op.assign (Operand.tmp 51)) 4 ⟨_, rfl, rfl, rfl, rfl, rfl⟩ (by kernel_rfl) (fun K hK => ?_)
              unfold bareOp
              go_wp2_with fail
              refine hK.out _ _ (fun h => absurd (h.symm.trans (by kernel_rfl : _ = true)) (by decide)) ?_
              clear hK K
              try simp only [Act.put, List.setIfInBounds_toArray, List.set_cons_zero, List.set_cons_succ]
              refine wpAnyB_done (by kernel_rfl) ?_ _
              go_wp2_with fail
              go_ret2
              exact ⟨_, by rw [HZ.out]; rfl, by rw [HZ.out]; exact OwnU.nil _ _, HBW.out⟩
            | some u =>
              have HU := Lib.hid (invS_some hinv)
              obtain ⟨u0, uQ, -⟩ := invF_some hinv
              obtain ⟨m, hm⟩ : ∃ m, y * u % Q = m := ⟨_, rfl⟩
              have m0 : 0 ≤ m := by rw [← hm]; exact Int.emod_nonneg _ (by omega)
              have mQ : m < Q := by rw [← hm]; exact Int.emod_lt_of_pos _ (by omega)
              obtain ⟨t2, ht2⟩ : ∃ t2, t * m % Q = t2 := ⟨_, rfl⟩
              have HM := Lib.hid hm
              have HT2 := Lib.hid ht2
              have HE := Lib.hid (show wOneL Q x 1 ((ids.take (j + 1)).filter fun y => decide (y ≠ x)) = some t2 by
                rw [filter_take_in hjl' HNE.out, wOneL_append, HT.out, HYJ.out]
                show wOneL Q x t [y] = some t2
                simp only [wOneL]
                rw [HD.out, hinv]
                show some (t * (y * u % Q) % Q) = some t2
                rw [hm, ht2])
              clear hinv hm ht2
              go_wp2_with fail
              go_wp2_with fail
              replace F_g := Lib.hid F_g.out.drew
              replace F_o := Lib.hid (F_o.out.keep (Below.refl _ _).drew)
              replace HBW := Lib.hid HBW.out.drew
              have hS := And.intro F_g.out.s (And.intro ((HBW.out.cell (p := ⟨s, o + j, none⟩) hs).trans HCJ.out) ((HBW.out.cell (p := ⟨s, o + k, none⟩) hs).trans HCK.out))
              refine wp_region_stage 23 (fun w' => SBox w' w.heap.size P Q G ∧ w'.cell? ⟨s, o + j, none⟩ = some (.int .i64 y) ∧ w'.cell? ⟨s, o + k, none⟩ = some (.int .i64 x)) (by kernel_rfl) ?_
              refine wpAnyB_take (i := 0) (some 31) (Op.load 24 (Operand.tmp 2)) 24 (v := ?_) ⟨_, rfl, rfl, rfl, rfl, rfl⟩ (by kernel_rfl) (by kernel_rfl) (by kernel_rfl) [18, 19, 20, 21, 22, 23] (by kernel_rfl) (fun _ _ _ h => h) hS (fun w' hSw => ?_) ?_
              rotate_left
              · obtain ⟨⟨s0, s1, s2⟩, s3, s4⟩ := hSw
                unfold bareOp
                go_simp
                try with_reducible rfl
              simp only [Act.put, List.setIfInBounds_toArray, List.set_cons_zero, List.set_cons_succ]
              refine wpAnyB_takeP (i := 1) (some 32) (Op.move (Operand.tmp 1)) 51 (v := ?_) ⟨_, rfl, rfl, rfl, rfl, rfl⟩ (by kernel_rfl) (by kernel_rfl) (by kernel_rfl) (by kernel_rfl) (fun _ _ _ h => h) (fun _ => hS) (fun w' => ?_) ?_
              rotate_left
              · unfold bareOp
                go_simp
                try with_reducible rfl
              simp only [Act.put, List.setIfInBounds_toArray, List.set_cons_zero, List.set_cons_succ]
              refine wpAnyB_takeP (i := 2) (some 33) (Op.move (Operand.tmp 9)) 3 (v := ?_) ⟨_, rfl, rfl, rfl, rfl, rfl⟩ (by kernel_rfl) (by kernel_rfl) (by kernel_rfl) (by kernel_rfl) (fun _ _ _ h => h) (fun _ => hS) (fun w' => ?_) ?_
              rotate_left
              · unfold bareOp
                go_simp
                try with_reducible rfl
              simp only [Act.put, List.setIfInBounds_toArray, List.set_cons_zero, List.set_cons_succ]
              refine wpAnyB_takeP (i := 3) (some 34) (Op.indexAddr 51 (Operand.tmp 32) (Operand.tmp 33)) 0 (v := ?_) ⟨_, rfl, rfl, rfl, rfl, rfl⟩ (by kernel_rfl) (by kernel_rfl) (by kernel_rfl) (by kernel_rfl) (fun _ _ _ h => h) (fun _ => hS) (fun w' => ?_) ?_
              rotate_left
              · unfold bareOp
                go_simp
                try with_reducible rfl
              simp only [Act.put, List.setIfInBounds_toArray, List.set_cons_zero, List.set_cons_succ]
              refine wpAnyB_take (i := 4) (some 35) (Op.load 3 (Operand.tmp 34)) 3 (v := ?_) ⟨_, rfl, rfl, rfl, rfl, rfl⟩ (by kernel_rfl) (by kernel_rfl) (by kernel_rfl) [5, 18, 19, 20, 21, 22, 23] (by kernel_rfl) (fun _ _ _ h => h) hS (fun w' hSw => ?_) ?_
              rotate_left
              · obtain ⟨⟨s0, s1, s2⟩, s3, s4⟩ := hSw
                unfold bareOp
                go_simp
                try with_reducible rfl
              simp only [Act.put, List.setIfInBounds_toArray, List.set_cons_zero, List.set_cons_succ]
              refine wpAnyB_takeP (i := 5) (some 36) (Op.convert 3 22 (Operand.tmp 35)) 22 (v := ?_) ⟨_, rfl, rfl, rfl, rfl, rfl⟩ (by kernel_rfl) (by kernel_rfl) (by kernel_rfl) (by kernel_rfl) (fun _ _ _ h => h) (fun _ => hS) (fun w' => ?_) ?_
              rotate_left
              · unfold bareOp
                go_simp
                try with_reducible rfl
              simp only [Act.put, List.setIfInBounds_toArray, List.set_cons_zero, List.set_cons_succ]
              refine wpAnyB_take (i := 6) (some 37) (Op.load 24 (Operand.tmp 2)) 24 (v := ?_) ⟨_, rfl, rfl, rfl, rfl, rfl⟩ (by kernel_rfl) (by kernel_rfl) (by kernel_rfl) [17, 18, 19, 20, 21, 22, 23] (by kernel_rfl) (fun _ _ _ h => h) hS (fun w' hSw => ?_) ?_
              rotate_left
              · obtain ⟨⟨s0, s1, s2⟩, s3, s4⟩ := hSw
                unfold bareOp
                go_simp
                try with_reducible rfl
              simp only [Act.put, List.setIfInBounds_toArray, List.set_cons_zero, List.set_cons_succ]
              refine wpAnyB_takeP (i := 7) (some 38) (Op.move (Operand.tmp 1)) 51 (v := ?_) ⟨_, rfl, rfl, rfl, rfl, rfl⟩ (by kernel_rfl) (by kernel_rfl) (by kernel_rfl) (by kernel_rfl) (fun _ _ _ h => h) (fun _ => hS) (fun w' => ?_) ?_
              rotate_left
              · unfold bareOp
                go_simp
                try with_reducible rfl
              simp only [Act.put, List.setIfInBounds_toArray, List.set_cons_zero, List.set_cons_succ]
              refine wpAnyB_takeP (i := 8) (some 39) (Op.move (Operand.tmp 9)) 3 (v := ?_) ⟨_, rfl, rfl, rfl, rfl, rfl⟩ (by kernel_rfl) (by kernel_rfl) (by kernel_rfl) (by kernel_rfl) (fun _ _ _ h => h) (fun _ => hS) (fun w' => ?_) ?_
              rotate_left
              · unfold bareOp
                go_simp
                try with_reducible rfl
              simp only [Act.put, List.setIfInBounds_toArray, List.set_cons_zero, List.set_cons_succ]
              refine wpAnyB_takeP (i := 9) (some 40) (Op.indexAddr 51 (Operand.tmp 38) (Operand.tmp 39)) 0 (v := ?_) ⟨_, rfl, rfl, rfl, rfl, rfl⟩ (by kernel_rfl) (by kernel_rfl) (by kernel_rfl) (by kernel_rfl) (fun _ _ _ h => h) (fun _ => hS) (fun w' => ?_) ?_
              rotate_left
              · unfold bareOp
                go_simp
                try with_reducible rfl
              simp only [Act.put, List.setIfInBounds_toArray, List.set_cons_zero, List.set_cons_succ]
              refine wpAnyB_take (i := 10) (some 41) (Op.load 3 (Operand.tmp 40)) 3 (v := ?_) ⟨_, rfl, rfl, rfl, rfl, rfl⟩ (by kernel_rfl) (by kernel_rfl) (by kernel_rfl) [11, 17, 18, 19, 20, 21, 22, 23] (by kernel_rfl) (fun _ _ _ h => h) hS (fun w' hSw => ?_) ?_
              rotate_left
              · obtain ⟨⟨s0, s1, s2⟩, s3, s4⟩ := hSw
                unfold bareOp
                go_simp
                try with_reducible rfl
              simp only [Act.put, List.setIfInBounds_toArray, List.set_cons_zero, List.set_cons_succ]
              refine wpAnyB_takeP (i := 11) (some 42) (Op.convert 3 22 (Operand.tmp 41)) 22 (v := ?_) ⟨_, rfl, rfl, rfl, rfl, rfl⟩ (by kernel_rfl) (by kernel_rfl) (by kernel_rfl) (by kernel_rfl) (fun _ _ _ h => h) (fun _ => hS) (fun w' => ?_) ?_
              rotate_left
              · unfold bareOp
                go_simp
                try with_reducible rfl
              simp only [Act.put, List.setIfInBounds_toArray, List.set_cons_zero, List.set_cons_succ]
              refine wpAnyB_takeP (i := 12) (some 43) (Op.move (Operand.tmp 1)) 51 (v := ?_) ⟨_, rfl, rfl, rfl, rfl, rfl⟩ (by kernel_rfl) (by kernel_rfl) (by kernel_rfl) (by kernel_rfl) (fun _ _ _ h => h) (fun _ => hS) (fun w' => ?_) ?_
              rotate_left
              · unfold bareOp
                go_simp
                try with_reducible rfl
              simp only [Act.put, List.setIfInBounds_toArray, List.set_cons_zero, List.set_cons_succ]
              refine wpAnyB_takeP (i := 13) (some 44) (Op.move (Operand.tmp 7)) 3 (v := ?_) ⟨_, rfl, rfl, rfl, rfl, rfl⟩ (by kernel_rfl) (by kernel_rfl) (by kernel_rfl) (by kernel_rfl) (fun _ _ _ h => h) (fun _ => hS) (fun w' => ?_) ?_
              rotate_left
              · unfold bareOp
                go_simp
                try with_reducible rfl
              simp only [Act.put, List.setIfInBounds_toArray, List.set_cons_zero, List.set_cons_succ]
              refine wpAnyB_takeP (i := 14) (some 45) (Op.indexAddr 51 (Operand.tmp 43) (Operand.tmp 44)) 0 (v := ?_) ⟨_, rfl, rfl, rfl, rfl, rfl⟩ (by kernel_rfl) (by kernel_rfl) (by kernel_rfl) (by kernel_rfl) (fun _ _ _ h => h) (fun _ => hS) (fun w' => ?_) ?_
              rotate_left
              · unfold bareOp
                go_simp
                try with_reducible rfl
              simp only [Act.put, List.setIfInBounds_toArray, List.set_cons_zero, List.set_cons_succ]
              refine wpAnyB_take (i := 15) (some 46) (Op.load 3 (Operand.tmp 45)) 3 (v := ?_) ⟨_, rfl, rfl, rfl, rfl, rfl⟩ (by kernel_rfl) (by kernel_rfl) (by kernel_rfl) [16, 17, 18, 19, 20, 21, 22, 23] (by kernel_rfl) (fun _ _ _ h => h) hS (fun w' hSw => ?_) ?_
              rotate_left
              · obtain ⟨⟨s0, s1, s2⟩, s3, s4⟩ := hSw
                unfold bareOp
                go_simp
                try with_reducible rfl
              simp only [Act.put, List.setIfInBounds_toArray, List.set_cons_zero, List.set_cons_succ]
              refine wpAnyB_takeP (i := 16) (some 47) (Op.convert 3 22 (Operand.tmp 46)) 22 (v := ?_) ⟨_, rfl, rfl, rfl, rfl, rfl⟩ (by kernel_rfl) (by kernel_rfl) (by kernel_rfl) (by kernel_rfl) (fun _ _ _ h => h) (fun _ => hS) (fun w' => ?_) ?_
              rotate_left
              · unfold bareOp
                go_simp
                try with_reducible rfl
              simp only [Act.put, List.setIfInBounds_toArray, List.set_cons_zero, List.set_cons_succ]
              refine wpAnyB_only (i := 17) (some 48) (Op.call { callee := Callee.value (Operand.func 94), args := #[Operand.tmp 37, Operand.tmp 42, Operand.tmp 47], argTypes := #[24, 22, 22] }) 22 ⟨_, rfl, rfl, rfl, rfl, rfl⟩ (by kernel_rfl) (fun K hK => ?_)
              unfold bareOp
              go_wp2_with (go_at_call 94; refine (rDiff_gen _ HH.out y0 yQ x0 xQ HD.out).mono ?_; rintro e w8 ⟨rfl, hb8⟩)
              replace F_g := Lib.hid (F_g.out.keep hb8)
              replace F_o := Lib.hid (F_o.out.keep hb8)
              replace HBW := Lib.hid (HBW.out.trans (hb8.mono HBW.out.size))
              replace hS := And.intro F_g.out.s (And.intro ((HBW.out.cell (p := ⟨s, o + j, none⟩) hs).trans HCJ.out) ((HBW.out.cell (p := ⟨s, o + k, none⟩) hs).trans HCK.out))
              clear hb8
              refine hK.out _ _ (fun _ => hS) ?_
              clear hK K
              try simp only [Act.put, List.setIfInBounds_toArray, List.set_cons_zero, List.set_cons_succ]
              refine wpAnyB_only (i := 18) (some 49) (Op.call { callee := Callee.value (Operand.func 93), args := #[Operand.tmp 31, Operand.tmp 36, Operand.tmp 48], argTypes := #[24, 22, 22] }) 113 ⟨_, rfl, rfl, rfl, rfl, rfl⟩ (by kernel_rfl) (fun K hK => ?_)
              unfold bareOp
              go_wp2_with (go_at_call 93; refine (rover_any _ HH.out y0 yQ d0 dQ HU.out HM.out).mono ?_; rintro e w8 ⟨rfl, hb8⟩)
              replace F_g := Lib.hid (F_g.out.keep hb8)
              replace F_o := Lib.hid (F_o.out.keep hb8)
              replace HBW := Lib.hid (HBW.out.trans (hb8.mono HBW.out.size))
              replace hS := And.intro F_g.out.s (And.intro ((HBW.out.cell (p := ⟨s, o + j, none⟩) hs).trans HCJ.out) ((HBW.out.cell (p := ⟨s, o + k, none⟩) hs).trans HCK.out))
              clear hb8
              refine hK.out _ _ (fun _ => hS) ?_
              clear hK K
              try simp only [Act.put, List.setIfInBounds_toArray, List.set_cons_zero, List.set_cons_succ]
              refine wpAnyB_takeP (i := 19) (some 30) (Op.move (Operand.tmp 49)) 113 (v := ?_) ⟨_, rfl, rfl, rfl, rfl, rfl⟩ (by kernel_rfl) (by kernel_rfl) (by kernel_rfl) (by kernel_rfl) (fun _ _ _ h => h) (fun _ => hS) (fun w' => ?_) ?_
              rotate_left
              · unfold bareOp
                go_simp
                try with_reducible rfl
              simp only [Act.put, List.setIfInBounds_toArray, List.set_cons_zero, List.set_cons_succ]
              refine wpAnyB_takeP (i := 20) (some 50) (Op.extract (Operand.tmp 30) 0) 22 (v := ?_) ⟨_, rfl, rfl, rfl, rfl, rfl⟩ (by kernel_rfl) (by kernel_rfl) (by kernel_rfl) (by kernel_rfl) (fun _ _ _ h => h) (fun _ => hS) (fun w' => ?_) ?_
              rotate_left
              · unfold bareOp
                go_simp
                try with_reducible rfl
              simp only [Act.put, List.setIfInBounds_toArray, List.set_cons_zero, List.set_cons_succ]
              refine wpAnyB_takeP (i := 21) (some 51) (Op.extract (Operand.tmp 30) 1) 4 (v := ?_) ⟨_, rfl, rfl, rfl, rfl, rfl⟩ (by kernel_rfl) (by kernel_rfl) (by kernel_rfl) (by kernel_rfl) (fun _ _ _ h => h) (fun _ => hS) (fun w' => ?_) ?_
              rotate_left
              · unfold bareOp
                go_simp
                try with_reducible rfl
              simp only [Act.put, List.setIfInBounds_toArray, List.set_cons_zero, List.set_cons_succ]
              refine wpAnyB_takeP (i := 22) (some 10) (Op.assign (Operand.tmp 50)) 22 (v := ?_) ⟨_, rfl, rfl, rfl, rfl, rfl⟩ (by kernel_rfl) (by kernel_rfl) (by kernel_rfl) (by kernel_rfl) (fun _ _ _ h => h) (fun _ => hS) (fun w' => ?_) ?_
              rotate_left
              · unfold bareOp
                go_simp
                try with_reducible rfl
              simp only [Act.put, List.setIfInBounds_toArray, List.set_cons_zero, List.set_cons_succ]
              refine wpAnyB_only (i := 23) (some 11) (Op.assign (Operand.tmp 51)) 4 ⟨_, rfl, rfl, rfl, rfl, rfl⟩ (by kernel_rfl) (fun K hK => ?_)
              unfold bareOp
              go_wp2_with fail
              refine hK.out _ _ (fun h => absurd (h.symm.trans (by kernel_rfl : _ = true)) (by decide)) ?_
              clear hK K
              try simp only [Act.put, List.setIfInBounds_toArray, List.set_cons_zero, List.set_cons_succ]
              refine wpAnyB_done (by kernel_rfl) ?_ _
              obtain ⟨x0a, x0b, x0c, -⟩ := id F_g.out
              go_wp2_with fail
              clear x0a x0b x0c
              refine (rProduct_gen _ HH.out t0 tQ m0 mQ HT2.out).mono ?_
              rintro e w7 ⟨rfl, hb7⟩
              replace F_g := Lib.hid (F_g.out.keep hb7)
              replace F_o := Lib.hid (F_o.out.keep hb7)
              replace HBW := Lib.hid (HBW.out.trans (hb7.mono HBW.out.size))
              clear hb7
              go_wp2_with fail
              go_roundw
              case rel => exact ⟨j + 1, by omega, by go_num, t2, rfl, HE.out, F_o.out, F_g.out, HBW.out⟩
              case measure => simp [intOf]; omega
end Go.Proofs.Ytjfaaicbojnpaaa
