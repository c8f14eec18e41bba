/- The totals of votes: the reference's. -/
import Derived.Test.YtembepajnigfiaaTotB
import Derived.Test.YtembepajnigfiaaStageG
namespace Go.Proofs.Ytembepajnigfiaa
open Go.RowKit Num
set_option linter.unusedSimpArgs false
set_option linter.unusedVariables false

theorem cell_list_at (w : World) (cs : List Value) (t : TypeId) (s : Nat) (hs : s = w.heap.size) : ∀ j u, cs[j]? = some u → (w.alloc (.cells cs.toArray t)).cell? ((⟨s, 0, none⟩ : Addr).add j) = some u := by
  intro j u hj
  subst hs
  rw [add_pl, Nat.zero_add, World.cell?_alloc_new]
  simpa using hj
theorem owns_below2 {W W' : World} {n₀ : Nat} {e : TypeId} {sz n : Nat} {v : Value} {xs : List Value} (h : W.ownsRow n₀ e sz v n xs) (hb : Below W.heap.size W W') : W'.ownsRow n₀ e sz v n xs :=
  World.ownsRow.kept (row := none) h ⟨hb.os, hb.tape, hb.output, hb.size, fun k hk _ => hb.block k hk⟩ (by cases v.ownBlock <;> simp)
theorem owns_alloc2 {W : World} {n₀ : Nat} {e : TypeId} {sz n : Nat} {v : Value} {xs : List Value} (h : W.ownsRow n₀ e sz v n xs) (o : Obj) : (W.alloc o).ownsRow n₀ e sz v n xs := owns_below2 h ((Below.refl _ _).alloc (Nat.le_refl _) o)

structure CellAt (w : World) (s o : Nat) (v : Value) : Prop where
  lt : s < w.heap.size
  c : w.cell? ⟨s, o, none⟩ = some v
theorem CellAt.keep {w w' : World} {s o : Nat} {v : Value} (h : CellAt w s o v) (hb : Below w.heap.size w w') : CellAt w' s o v := ⟨Nat.lt_of_lt_of_le h.lt hb.size, (hb.cell (p := ⟨s, o, none⟩) h.lt).trans h.c⟩
theorem CellAt.drew {w : World} {s o : Nat} {v : Value} (h : CellAt w s o v) : CellAt w.drew s o v := h.keep (Below.refl _ _).drew
theorem apart_lt {W : World} {B n : Nat} {e : TypeId} {sz : Nat} {v u : Value} {xs : List Value} (h : ∀ g, u.ownBlock = some g → g < B) (hv : W.ownsRow B e sz v n xs) : u.ownBlock = none ∨ u.ownBlock ≠ v.ownBlock := by
  cases hu : u.ownBlock with
  | none => exact .inl rfl
  | some g =>
    refine .inr fun e0 => ?_
    have h1 := h g hu
    have h2 := (hv.lt g e0.symm).1
    omega
theorem Boxed.keepT {w w' : World} {B n : Nat} {P Q G : Int} (h : Boxed w B P Q G) (hb : Below n w w') (hn : B < n) : Boxed w' B P Q G :=
  ⟨(hb.cell (p := ⟨B, 0, none⟩) hn).trans h.c0, (hb.cell (p := ⟨B, 1, none⟩) hn).trans h.c1, (hb.cell (p := ⟨B, 2, none⟩) hn).trans h.c2, Nat.lt_of_lt_of_le h.lt hb.size⟩
set_option maxHeartbeats 2000000 in
theorem rform_any {P Q G : Int} (w : World) (hP : 0 ≤ P) (hQ : 0 ≤ Q) (hG : 0 ≤ G) :
    Calls Try.prog 13 #[.agg #[.int .u64 P, .int .u64 Q, .int .u64 G]] w fun e w' => e = .returned (.int .i64 (formS P Q G)) ∧ Below w.heap.size w w' := by
  have F_g := Lib.hid (Boxed.new w P Q G 24)
  have HBW := Lib.hid (show Below w.heap.size w (w.alloc (.cells #[.int .u64 P, .int .u64 Q, .int .u64 G] 24)) from (Below.refl _ _).alloc (Nat.le_refl _) _)
  have HR := Lib.hid (show askS P Q G [] [] = formS P Q G by unfold askS formS; split <;> simp [okAll])
  go_enter Try.func13, Try.ntmps13
  obtain ⟨x0a, x0b, x0c, -⟩ := id F_g.out
  go_wp2_with fail
  refine (rAsked_any _ hP hQ hG (ShL.nil _) (ShL.nil _) (by simp) (by simp) HR.out).mono ?_
  rintro e w1 ⟨rfl, hb1⟩
  have HB := Lib.hid (HBW.out.trans (hb1.mono HBW.out.size))
  clear hb1
  go_wp2_with fail
  go_ret
  exact ⟨rfl, HB.out⟩

set_option maxRecDepth 100000 in
set_option maxHeartbeats 8000000 in
theorem rOf_any {P Q G : Int} {k : Nat} {a : Option Addr} {m c : Nat} {l : List Vt} (w : World) (hH : Has P Q G) (hl : ShV w a m l) (hm : m ≤ 256) (hk : k ≤ 10) (ho : ∀ V, V ∈ l → V.n = k ∧ okS P V.bs = true) :
    Calls Try.prog 15 #[.agg #[.int .u64 P, .int .u64 Q, .int .u64 G], .int .i64 k, .slice a m c] w fun e w' => ∃ a' c', e = .returned (.slice a' k c') ∧ ShS w' a' k (totS P k l) ∧ (a' = none → c' = 0) ∧ Below w.heap.size w w' := by
  obtain ⟨i0, hi, hz0, hz1, hz2⟩ := info_parts (P := Try.prog) (e := 45) (z := .agg #[.int .u64 0, .int .u64 0]) (size := 2) (bytes := 16) (by kernel_rfl)
  have HS := Lib.hid hl
  have HL := Lib.hid hl.len
  have HO := Lib.hid ho
  have hP1 : 1 < P := by have := hH.1; omega
  clear hl ho
  have F_g := Lib.hid (Boxed.new w P Q G 24)
  have HBW := Lib.hid (show Below w.heap.size w (w.alloc (.cells #[.int .u64 P, .int .u64 Q, .int .u64 G] 24)) from (Below.refl _ _).alloc (Nat.le_refl _) _)
  go_enter Try.func15, Try.ntmps15
  go_wp2_with fail
  go_loopw [7, 8] (fun c7 c8 wr => ∃ i : Nat, i ≤ k ∧ c8 = .int .i64 i ∧ ∃ (a7 : Option Addr) (p7 : Nat), c7 = .slice a7 i p7 ∧ Hid (wr.ownsRow (w.heap.size + 1) 45 2 c7 i (flatS (totS P i l))) ∧ Hid (Boxed wr w.heap.size P Q G) ∧ Hid (Below w.heap.size w wr)) (fun _ c8 _ => k - (intOf c8).toNat)
  case atStart => exact ⟨0, Nat.zero_le _, rfl, none, 0, rfl, World.ownsRow_nil _ _ _ _, F_g.out, HBW.out⟩
  case round =>
    clear F_g HBW
    obtain ⟨i, hik, rfl, a7, p7, rfl, HOW, F_g, HBW⟩ := hrel
    have hi0 : (0 : Int) ≤ (i : Int) := by omega
    by_cases hlt : i < k
    case neg =>
      obtain rfl : i = k := by omega
      obtain ⟨a', c', e', hs'⟩ := ShS.of_owned HOW.out
      have HSS := Lib.hid hs'
      have HEE := Lib.hid e'
      have HNC := Lib.hid (show a7 = none → p7 = 0 from fun h => by
        rcases HOW.out.2 with ⟨h1, _⟩ | ⟨g, cap, cur, h1, _⟩
        · injection h1 with e1 e2 e3
        · subst h; cases h1)
      clear hs' e'
      go_wp2_with fail
      go_ret
      refine ⟨a7, p7, rfl, ?_, HNC.out, HBW.out⟩
      have e2 := HEE.out
      injection e2 with e3
      rw [e3]; exact HSS.out
    case pos =>
      have hi1 : (i : Int) < (k : Int) := by omega
      have hwi : IntKind.i64.wrap ((i : Int) + 1) = (i : Int) + 1 := IntWalk.i64_in _ (by omega)
      obtain ⟨B, hB⟩ : ∃ B, wr.heap.size = B := ⟨_, rfl⟩
      have HB7 := Lib.hid (show ∀ g, (Value.slice a7 i p7).ownBlock = some g → g < B from fun g hg => by rw [← hB]; exact (HOW.out.lt g hg).2)
      have hB1 : w.heap.size + 1 ≤ B := by have := F_g.out.lt; omega
      go_wp2_with fail
      go_loopw [9, 10] (fun c9 c10 wq => ∃ j : Nat, j ≤ m ∧ c10 = .int .i64 j ∧ ∃ (a9 : Option Addr) (p9 : Nat), c9 = .slice a9 j p9 ∧ Hid (wq.ownsRow B 45 2 c9 j (flatS (colS (l.take j) i))) ∧ Hid (wq.ownsRow (w.heap.size + 1) 45 2 (.slice a7 i p7) i (flatS (totS P i l))) ∧ Hid (B ≤ wq.heap.size) ∧ Hid (Boxed wq w.heap.size P Q G) ∧ Hid (Below w.heap.size w wq)) (fun _ c10 _ => m - (intOf c10).toNat)
      case atStart => exact ⟨0, Nat.zero_le _, rfl, none, 0, rfl, World.ownsRow_nil _ _ _ _, HOW.out, (Nat.le_of_eq hB.symm), F_g.out, HBW.out⟩
      case round =>
        clear F_g HBW HOW hB
        obtain ⟨j, hjm, rfl, a9, p9, rfl, HO9, HO7, HD, F_g, HBW⟩ := hrel
        have hBz := HD.out
        have hj0 : (0 : Int) ≤ (j : Int) := by omega
        by_cases hjl : j < m
        case neg =>
          have hjn : j = m := by omega
          subst hjn
          have HCO := Lib.hid (show colS (l.take j) i = colS l i by rw [List.take_of_length_le (by have := HL.out; omega)])
          obtain ⟨x, y, hxy⟩ : ∃ x y, allP P (colS l i) = (x, y) := ⟨_, _, rfl⟩
          have HXY := Lib.hid hxy
          have HST := Lib.hid (show totS P (i + 1) l = totS P i l ++ [(x, y)] by rw [← hxy, totS, List.range_succ, List.map_append]; rfl)
          have h9 := HO9.out
          rw [HCO.out] at h9
          obtain ⟨a9', c9', e9, hs9⟩ := ShS.of_owned h9
          have e9' := e9
          injection e9' with f1 f2 f3
          subst f1 f3
          have HSB := Lib.hid hs9
          have HMM := Lib.hid (show ∀ p, p ∈ colS l i → U64 p.1 ∧ U64 p.2 ∧ p.1 < P ∧ p.2 < P from fun p hp => by
            obtain ⟨V, hV, rfl⟩ := List.mem_map.1 hp
            obtain ⟨h1, h2⟩ := HO.out V hV
            have hin : VtIn w V := by
              rcases HS.out with ⟨_, h0⟩ | ⟨s, o, _, _, hr⟩
              · rw [h0] at hV; cases hV
              · exact hr.ok V hV
            have hbl : i < V.bs.length := by have := hin.h1.len; omega
            rw [getD_atT hbl]
            have hm2 := List.mem_iff_getElem.2 ⟨i, hbl, rfl⟩
            have h3 := hin.u1 _ hm2
            have h4 := okS_mem h2 hm2
            exact ⟨h3.1, h3.2, h4.1, h4.2⟩)
          have HOK := Lib.hid (show okS P (colS l i) = true by
            rw [okS, List.all_eq_true]
            intro p hp
            have := HMM.out p hp
            simp; omega)
          clear e9 hs9 h9 hxy
          obtain ⟨x0, x1, x2, -⟩ := id F_g.out
          go_wp2_with fail
          clear x0 x1 x2
          refine (rall_any _ hH HSB.out (fun p hp => ⟨(HMM.out p hp).1.1, (HMM.out p hp).2.1.1⟩) HOK.out (by omega) HXY.out).mono ?_
          rintro e w3 ⟨rfl, hb3⟩
          have HO5 := Lib.hid (owns_below2 HO7.out hb3)
          replace F_g := Lib.hid (F_g.out.keep hb3)
          replace HBW := Lib.hid (HBW.out.trans (hb3.mono HBW.out.size))
          have hz3 := F_g.out.lt
          have HTL := Lib.hid (show (totS P i l).length = i by simp [totS])
          clear hb3 HO9 HO7
          go_wp2_with (at_builtin; refine wpList_append_own _ rfl _ _ 27 rfl (w.heap.size + 1) 45 i0 (.agg #[.int .u64 0, .int .u64 0]) 2 16 Try.underlying27 hi hz0 hz1 hz2 rfl (by decide) _ _ _ rfl (owns_alloc2 HO5.out _) _ 1 1 [.int .u64 x, .int .u64 y] rfl rfl (cell_list_at _ _ _ _ (by first | rfl | simp)) (fun z hz => by simp at hz; rcases hz with rfl | rfl <;> rfl) (by unfold maxLen; omega) (by omega) (by first | omega | (simp; omega)) ?_; intro v' w9 hown hgr hnil; have HO9 := Lib.hid hown; have HB9 := Lib.hid (Below.rowT (n := w.heap.size + 1) hgr (fun k hk => by have := (HO5.out.lt k hk).1; omega) (by first | omega | (simp; omega))); have HG9 := Lib.hid hgr; clear hown hgr hnil)
          obtain ⟨a5, c5, e5, -⟩ := ShS.of_owned (show w9.ownsRow (w.heap.size + 1) 45 2 v' (i + 1) (flatS (totS P i l ++ [(x, y)])) by rw [flatS_append]; exact HO9.out)
          subst e5
          go_wp2_with fail
          go_roundw
          case rel => exact ⟨i + 1, by omega, by go_num, a5, c5, rfl, (show w9.ownsRow (w.heap.size + 1) 45 2 (.slice a5 (i + 1) c5) (i + 1) (flatS (totS P (i + 1) l)) by rw [HST.out, flatS_append]; exact HO9.out), (F_g.out.alloc _).keepT HB9.out (by omega), (HBW.out.alloc HBW.out.size _).trans (HB9.out.mono (by omega))⟩
          case measure => simp [intOf] <;> omega
        case pos =>
          have hj1 : (j : Int) < (m : Int) := by omega
          have hwj : IntKind.i64.wrap ((j : Int) + 1) = (j : Int) + 1 := IntWalk.i64_in _ (by omega)
          have c26 : Try.prog.cellsOf 33 = 11 := by kernel_rfl
          have cS : Try.prog.cellsOf 45 = 2 := by kernel_rfl
          obtain ⟨s, o, V, hsa, hV, hc, hin⟩ := (HS.out.keep HBW.out).at j hjl
          obtain ⟨hVn, hVo⟩ := HO.out V (List.mem_of_getElem? hV)
          obtain ⟨x, y, hxy⟩ : ∃ x y, V.bs.getD i (0, 0) = (x, y) := ⟨_, _, rfl⟩
          obtain ⟨sb, ob, hsb, hsbl, b0, b1⟩ := hin.h1.at i (by omega)
          rw [hxy] at b0 b1
          simp only at b0 b1
          have HST := Lib.hid (show colS (l.take (j + 1)) i = colS (l.take j) i ++ [(x, y)] by rw [colS_snoc hV, hxy])
          obtain ⟨-, v0, -⟩ := hc
          rw [hsb, hVn] at v0
          subst hsa
          have hz3 := F_g.out.lt
          clear hV hin hxy hVo hsb hVn
          go_wp2_with (at_builtin; refine wpList_append_own _ rfl _ _ 27 rfl B 45 i0 (.agg #[.int .u64 0, .int .u64 0]) 2 16 Try.underlying27 hi hz0 hz1 hz2 rfl (by decide) _ _ _ rfl (owns_alloc2 HO9.out _) _ 1 1 [.int .u64 x, .int .u64 y] rfl rfl (cell_list_at _ _ _ _ (by first | rfl | simp)) (fun z hz => by simp at hz; rcases hz with rfl | rfl <;> rfl) (by unfold maxLen; omega) (by omega) (by first | omega | (simp; omega)) ?_; intro v' w9 hown hgr hnil; have HN9 := Lib.hid hown; have HB9 := Lib.hid (Below.rowT (n := w.heap.size + 1) hgr (fun k hk => by have := (HO9.out.lt k hk).1; omega) (by first | omega | (simp; omega))); have HG9 := Lib.hid hgr; have HK7 := Lib.hid (World.ownsRow.kept (owns_alloc2 HO7.out _) hgr (apart_lt HB7.out HO9.out)); clear hown hgr hnil)
          obtain ⟨a5, c5, e5, -⟩ := ShS.of_owned (show w9.ownsRow B 45 2 v' (j + 1) (flatS (colS (l.take j) i ++ [(x, y)])) by rw [flatS_append]; exact HN9.out)
          subst e5
          go_wp2_with fail
          go_roundw
          case rel => exact ⟨j + 1, by omega, by go_num, a5, c5, rfl, (show w9.ownsRow B 45 2 (.slice a5 (j + 1) c5) (j + 1) (flatS (colS (l.take (j + 1)) i)) by rw [HST.out, flatS_append]; exact HN9.out), HK7.out, (Nat.le_trans hBz (Nat.le_trans (by simp) HB9.out.size)), (F_g.out.alloc _).keepT HB9.out (by omega), (HBW.out.alloc HBW.out.size _).trans (HB9.out.mono (by omega))⟩
          case measure => simp [intOf] <;> omega

set_option maxRecDepth 100000 in
set_option maxHeartbeats 8000000 in
theorem rTotal_any {P Q G n er : Int} {a : Option Addr} {m c : Nat} {l : List Vt} {ps : List (Int × Int)} (w : World) (hP : 0 ≤ P) (hQ : 0 ≤ Q) (hG : 0 ≤ G) (nl : -9223372036854775808 ≤ n) (nu : n ≤ 9223372036854775807) (hl : ShV w a m l) (h20 : 256 < l.length ∨ ∀ V, V ∈ l → V.n ≤ 1000000) (hr : totF P Q G n l = (er, ps)) :
    Calls Try.prog 6 #[.agg #[.int .u64 P, .int .u64 Q, .int .u64 G], .int .i64 n, .slice a m c] w (RetTot w er ps) := by
  have HS := Lib.hid hl
  have HL := Lib.hid hl.len
  have H20 := Lib.hid h20
  clear hl h20
  have F_g := Lib.hid (Boxed.new w P Q G 24)
  have HBW := Lib.hid (show Below w.heap.size w (w.alloc (.cells #[.int .u64 P, .int .u64 Q, .int .u64 G] 24)) from (Below.refl _ _).alloc (Nat.le_refl _) _)
  go_enter Try.func6, Try.ntmps6
  obtain ⟨x0a, x0b, x0c, -⟩ := id F_g.out
  go_wp2_with fail
  clear x0a x0b x0c
  refine (rform_any _ hP hQ hG).mono ?_
  rintro e w1 ⟨rfl, hb1⟩
  replace F_g := Lib.hid (F_g.out.keep hb1)
  replace HBW := Lib.hid (HBW.out.trans (hb1.mono HBW.out.size))
  clear hb1
  by_cases hH : Has P Q G
  case neg =>
    rw [totF, if_neg hH] at hr
    cases hr
    rw [show formS P Q G = 300 from if_neg hH]
    clear F_g
    go_wp2_with fail
    go_loopw [8, 9] (fun c8 c9 wr => c8 = .int .i64 300 ∧ c9 = .int .i64 0 ∧ Hid (Below w.heap.size w wr)) (fun _ _ _ => 0)
    case atStart => exact ⟨rfl, rfl, HBW.out⟩
    case round =>
      clear HBW
      obtain ⟨rfl, rfl, HBW⟩ := hrel
      by_cases hm0 : 0 < m
      case pos =>
        have dm : decide ((0 : Int) < (m : Int)) = true := by simp; omega
        go_wp2_with fail
        go_ret2
        exact ⟨none, 0, rfl, ShS.nil _ _, fun _ => rfl, HBW.out⟩
      case neg =>
        have dm : decide ((0 : Int) < (m : Int)) = false := by simp; omega
        go_wp2_with fail
        go_ret2
        exact ⟨none, 0, rfl, ShS.nil _ _, fun _ => rfl, HBW.out⟩
  case pos =>
    rw [totF, if_pos hH] at hr
    rw [show formS P Q G = 0 from if_pos hH]
    by_cases h1 : n < 1
    case pos =>
      rw [if_pos (.inl h1)] at hr
      cases hr
      have d1 : decide (n < 1) = true := by simpa using h1
      clear F_g
      go_wp2_with fail
      go_loopw [8, 9] (fun c8 c9 wr => c8 = .int .i64 2 ∧ c9 = .int .i64 0 ∧ Hid (Below w.heap.size w wr)) (fun _ _ _ => 0)
      case atStart => exact ⟨rfl, rfl, HBW.out⟩
      case round =>
        clear HBW
        obtain ⟨rfl, rfl, HBW⟩ := hrel
        by_cases hm0 : 0 < m
        case pos =>
          have dm : decide ((0 : Int) < (m : Int)) = true := by simp; omega
          go_wp2_with fail
          go_ret2
          exact ⟨none, 0, rfl, ShS.nil _ _, fun _ => rfl, HBW.out⟩
        case neg =>
          have dm : decide ((0 : Int) < (m : Int)) = false := by simp; omega
          go_wp2_with fail
          go_ret2
          exact ⟨none, 0, rfl, ShS.nil _ _, fun _ => rfl, HBW.out⟩
    case neg =>
      have d1 : decide (n < 1) = false := by simpa using h1
      by_cases h2 : 10 < n
      case pos =>
        rw [if_pos (.inr h2)] at hr
        cases hr
        have d2 : decide (10 < n) = true := by simpa using h2
        clear F_g
        go_wp2_with fail
        go_loopw [8, 9] (fun c8 c9 wr => c8 = .int .i64 2 ∧ c9 = .int .i64 0 ∧ Hid (Below w.heap.size w wr)) (fun _ _ _ => 0)
        case atStart => exact ⟨rfl, rfl, HBW.out⟩
        case round =>
          clear HBW
          obtain ⟨rfl, rfl, HBW⟩ := hrel
          by_cases hm0 : 0 < m
          case pos =>
            have dm : decide ((0 : Int) < (m : Int)) = true := by simp; omega
            go_wp2_with fail
            go_ret2
            exact ⟨none, 0, rfl, ShS.nil _ _, fun _ => rfl, HBW.out⟩
          case neg =>
            have dm : decide ((0 : Int) < (m : Int)) = false := by simp; omega
            go_wp2_with fail
            go_ret2
            exact ⟨none, 0, rfl, ShS.nil _ _, fun _ => rfl, HBW.out⟩
      case neg =>
        have d2 : decide (10 < n) = false := by simpa using h2
        rw [if_neg (by omega)] at hr
        by_cases h3 : 256 < l.length
        case pos =>
          rw [if_pos h3] at hr
          cases hr
          have d3 : decide ((256 : Int) < (m : Int)) = true := by have := HL.out; simp; omega
          clear h3 F_g
          go_wp2_with fail
          go_loopw [8, 9] (fun c8 c9 wr => c8 = .int .i64 4 ∧ c9 = .int .i64 0 ∧ Hid (Below w.heap.size w wr)) (fun _ _ _ => 0)
          case atStart => exact ⟨rfl, rfl, HBW.out⟩
          case round =>
            clear HBW
            obtain ⟨rfl, rfl, HBW⟩ := hrel
            by_cases hm0 : 0 < m
            case pos =>
              have dm : decide ((0 : Int) < (m : Int)) = true := by simp; omega
              go_wp2_with fail
              go_ret2
              exact ⟨none, 0, rfl, ShS.nil _ _, fun _ => rfl, HBW.out⟩
            case neg =>
              have dm : decide ((0 : Int) < (m : Int)) = false := by simp; omega
              go_wp2_with fail
              go_ret2
              exact ⟨none, 0, rfl, ShS.nil _ _, fun _ => rfl, HBW.out⟩
        case neg =>
          rw [if_neg h3] at hr
          have d3 : decide ((256 : Int) < (m : Int)) = false := by have := HL.out; simp; omega
          have hm2 : m ≤ 256 := by have := HL.out; omega
          have HV20 := Lib.hid (H20.out.resolve_left h3)
          have HR := Lib.hid hr
          obtain ⟨k, rfl⟩ : ∃ k : Nat, n = (k : Int) := ⟨n.toNat, by omega⟩
          have k1 : 1 ≤ k := by omega
          have k10 : k ≤ 10 := by omega
          clear h3 hr
          go_wp2_with fail
          clear d1 d2 d3 h1 h2
          go_loopw [8, 9] (fun c8 c9 wr => ∃ (i : Nat) (E : Int), i ≤ m ∧ c9 = .int .i64 i ∧ c8 = .int .i64 E ∧ Hid ((E = 0 ∧ (l.take i).any (oddS P k) = false) ∨ (E = 8 ∧ l.any (oddS P k) = true)) ∧ Hid (Boxed wr w.heap.size P Q G) ∧ Hid (Below w.heap.size w wr)) (fun _ c9 _ => m - (intOf c9).toNat)
          case atStart => exact ⟨0, 0, Nat.zero_le _, rfl, rfl, .inl ⟨rfl, by simp⟩, F_g.out, HBW.out⟩
          case round =>
            clear F_g HBW
            obtain ⟨i, E, hi, rfl, rfl, HE, F_g, HBW⟩ := hrel
            have hi0 : (0 : Int) ≤ (i : Int) := by omega
            rcases HE.out with ⟨rfl, hE⟩ | ⟨rfl, hE⟩
            · by_cases hlt : i < m
              case neg =>
                have HZ := Lib.hid (show l.any (oddS P k) = false by rwa [List.take_of_length_le (by have := HL.out; omega)] at hE)
                have hr := HR.out
                rw [if_neg (by rw [HZ.out]; simp)] at hr
                obtain ⟨rfl, rfl⟩ := Prod.mk.inj hr
                have HO := Lib.hid (show ∀ V, V ∈ l → V.n = k ∧ okS P V.bs = true from fun V hV => by
                  have := List.any_eq_false.1 HZ.out V hV
                  simp [oddS] at this
                  exact ⟨by omega, this.2⟩)
                have HKN := Lib.hid (show ((k : Int)).toNat = k by omega)
                have HLE := Lib.hid (show (totS P ((k : Int)).toNat l).length = k by simp [totS])
                clear hE hr HE
                obtain ⟨x0a, x0b, x0c, -⟩ := id F_g.out
                go_wp2_with fail
                clear x0a x0b x0c
                refine (rOf_any _ hH (HS.out.keep HBW.out) hm2 k10 HO.out).mono ?_
                rintro e w3 ⟨a', c', rfl, hs3, hz3, hb3⟩
                have HS3 := Lib.hid hs3
                have HZ3 := Lib.hid hz3
                have HB3 := Lib.hid (HBW.out.trans (hb3.mono HBW.out.size))
                clear hs3 hz3 hb3
                go_wp2_with fail
                go_ret2
                refine ⟨a', c', by rw [HLE.out]; rfl, ?_, HZ3.out, HB3.out⟩
                rw [HLE.out, HKN.out]; exact HS3.out
              case pos =>
                have hi1 : (i : Int) < (m : Int) := by omega
                have hwi : IntKind.i64.wrap ((i : Int) + 1) = (i : Int) + 1 := IntWalk.i64_in _ (by omega)
                have c26 : Try.prog.cellsOf 33 = 11 := by kernel_rfl
                obtain ⟨s, o, V, hsa, hV, hc, hin⟩ := (HS.out.keep HBW.out).at i hlt
                have HV := Lib.hid hV
                have HIN := Lib.hid hin.h1
                have H20V := HV20.out V (List.mem_of_getElem? hV)
                obtain ⟨hcl, hc0, -⟩ := hc
                subst hsa
                obtain ⟨v, hv⟩ : ∃ v, oddS P k V = v := ⟨_, rfl⟩
                have HVV := Lib.hid hv
                have HSN := Lib.hid (show (l.take (i + 1)).any (oddS P k) = v by
                  rw [List.take_add_one, hV, List.any_append, hE, ← hv]; simp)
                have HTR := Lib.hid (show v = true → l.any (oddS P k) = true from fun h => by
                  rw [List.any_eq_true]
                  exact ⟨V, List.mem_of_getElem? hV, hv.trans h⟩)
                have HC0 := Lib.hid (show wr.cell? ⟨s, o + i * 11, none⟩ = some (.slice V.a V.n V.c) from hc0)
                have HCL := Lib.hid hcl
                clear hV hin hv hE HE hc0 hcl
                by_cases hn : (V.n : Int) = (k : Int)
                case neg =>
                  have d1 : decide ((V.n : Int) = (k : Int)) = false := by simpa using hn
                  have d2 : ((V.n : Int) == (k : Int)) = false := by simpa using hn
                  have d3 : ((V.n : Int) != (k : Int)) = true := by simp; omega
                  obtain rfl : v = true := by rw [← HVV.out, oddS, d1]; rfl
                  have hc0 := HC0.out
                  go_wp2_with fail
                  go_region
                  go_wp2_with fail
                  clear hc0
                  go_roundw
                  case rel => exact ⟨i + 1, 8, by omega, by go_num, rfl, .inr ⟨rfl, HTR.out (by first | trivial | rfl)⟩, F_g.out.drew, HBW.out.drew⟩
                  case measure => simp [intOf] <;> omega
                case pos =>
                  have d1 : decide ((V.n : Int) = (k : Int)) = true := by simpa using hn
                  have d2 : ((V.n : Int) == (k : Int)) = true := by simpa using hn
                  have d3 : ((V.n : Int) != (k : Int)) = false := by simp; omega
                  obtain ⟨u, hu⟩ : ∃ u, okS P V.bs = u := ⟨_, rfl⟩
                  have HU := Lib.hid hu
                  have HVU := Lib.hid (show v = !u by rw [← HVV.out, ← hu, oddS, d1]; rfl)
                  clear hu
                  have F_c := Lib.hid (CellAt.mk HCL.out HC0.out)
                  go_wp2_with fail
                  replace F_g := Lib.hid F_g.out.drew
                  replace F_c := Lib.hid F_c.out.drew
                  replace HBW := Lib.hid HBW.out.drew
                  have hS := And.intro F_g.out.s F_c.out.c
                  refine wp_region_stage 17 (fun w' => SBox w' w.heap.size P Q G ∧ w'.cell? ⟨s, o + i * 11, none⟩ = some (.slice V.a V.n V.c)) (by kernel_rfl) ?_
                  refine wpAnyB_takeP (i := 0) (some 39) (Op.move (Operand.tmp 2)) 25 (v := ?_) ⟨_, rfl, rfl, rfl, rfl, rfl⟩ (by kernel_rfl) (by kernel_rfl) (by kernel_rfl) (by kernel_rfl) (fun _ _ _ h => h) (fun _ => hS) (fun w' => ?_) ?_
                  rotate_left
                  · unfold bareOp
                    go_simp
                    try with_reducible rfl
                  simp only [Act.put, List.setIfInBounds_toArray, List.set_cons_zero, List.set_cons_succ]
                  refine wpAnyB_takeP (i := 1) (some 40) (Op.move (Operand.tmp 9)) 3 (v := ?_) ⟨_, rfl, rfl, rfl, rfl, rfl⟩ (by kernel_rfl) (by kernel_rfl) (by kernel_rfl) (by kernel_rfl) (fun _ _ _ h => h) (fun _ => hS) (fun w' => ?_) ?_
                  rotate_left
                  · unfold bareOp
                    go_simp
                    try with_reducible rfl
                  simp only [Act.put, List.setIfInBounds_toArray, List.set_cons_zero, List.set_cons_succ]
                  refine wpAnyB_takeP (i := 2) (some 41) (Op.indexAddr 25 (Operand.tmp 39) (Operand.tmp 40)) 0 (v := ?_) ⟨_, rfl, rfl, rfl, rfl, rfl⟩ (by kernel_rfl) (by kernel_rfl) (by kernel_rfl) (by kernel_rfl) (fun _ _ _ h => h) (fun _ => hS) (fun w' => ?_) ?_
                  rotate_left
                  · unfold bareOp
                    go_simp
                    try with_reducible rfl
                  simp only [Act.put, List.setIfInBounds_toArray, List.set_cons_zero, List.set_cons_succ]
                  refine wpAnyB_takeP (i := 3) (some 42) (Op.fieldAddr 33 (Operand.tmp 41) 0) 0 (v := ?_) ⟨_, rfl, rfl, rfl, rfl, rfl⟩ (by kernel_rfl) (by kernel_rfl) (by kernel_rfl) (by kernel_rfl) (fun _ _ _ h => h) (fun _ => hS) (fun w' => ?_) ?_
                  rotate_left
                  · unfold bareOp
                    go_simp
                    try with_reducible rfl
                  simp only [Act.put, List.setIfInBounds_toArray, List.set_cons_zero, List.set_cons_succ]
                  refine wpAnyB_take (i := 4) (some 43) (Op.load 27 (Operand.tmp 42)) 27 (v := ?_) ⟨_, rfl, rfl, rfl, rfl, rfl⟩ (by kernel_rfl) (by kernel_rfl) (by kernel_rfl) [5, 7, 8, 9, 10, 11, 12, 13, 14, 15, 16, 17] (by kernel_rfl) (fun _ _ _ h => h) hS (fun w' hSw => ?_) ?_
                  rotate_left
                  · obtain ⟨⟨b0, b1, b2⟩, b3⟩ := hSw
                    unfold bareOp
                    go_simp
                    try with_reducible rfl
                  simp only [Act.put, List.setIfInBounds_toArray, List.set_cons_zero, List.set_cons_succ]
                  refine wpAnyB_takeP (i := 5) (some 44) (Op.call { callee := Callee.builtin Builtin.len, args := #[Operand.tmp 43], argTypes := #[27] }) 3 (v := ?_) ⟨_, rfl, rfl, rfl, rfl, rfl⟩ (by kernel_rfl) (by kernel_rfl) (by kernel_rfl) (by kernel_rfl) (fun _ _ _ h => h) (fun _ => hS) (fun w' => ?_) ?_
                  rotate_left
                  · unfold bareOp
                    go_simp
                    try with_reducible rfl
                  simp only [Act.put, List.setIfInBounds_toArray, List.set_cons_zero, List.set_cons_succ]
                  refine wpAnyB_takeP (i := 6) (some 45) (Op.move (Operand.tmp 1)) 3 (v := ?_) ⟨_, rfl, rfl, rfl, rfl, rfl⟩ (by kernel_rfl) (by kernel_rfl) (by kernel_rfl) (by kernel_rfl) (fun _ _ _ h => h) (fun _ => hS) (fun w' => ?_) ?_
                  rotate_left
                  · unfold bareOp
                    go_simp
                    try with_reducible rfl
                  simp only [Act.put, List.setIfInBounds_toArray, List.set_cons_zero, List.set_cons_succ]
                  refine wpAnyB_takeP (i := 7) (some 46) (Op.binOp BinOp.neq 3 (Operand.tmp 44) (Operand.tmp 45) 3) 4 (v := ?_) ⟨_, rfl, rfl, rfl, rfl, rfl⟩ (by kernel_rfl) (by kernel_rfl) (by kernel_rfl) (by kernel_rfl) (fun _ _ _ h => h) (fun _ => hS) (fun w' => ?_) ?_
                  rotate_left
                  · unfold bareOp
                    go_simp
                    try with_reducible rfl
                  simp only [Act.put, List.setIfInBounds_toArray, List.set_cons_zero, List.set_cons_succ]
                  refine wpAnyB_takeP (i := 8) (some 47) (Op.move (Operand.tmp 46)) 4 (v := ?_) ⟨_, rfl, rfl, rfl, rfl, rfl⟩ (by kernel_rfl) (by kernel_rfl) (by kernel_rfl) (by kernel_rfl) (fun _ _ _ h => h) (fun _ => hS) (fun w' => ?_) ?_
                  rotate_left
                  · unfold bareOp
                    go_simp
                    try with_reducible rfl
                  simp only [Act.put, List.setIfInBounds_toArray, List.set_cons_zero, List.set_cons_succ]
                  refine wpAnyB_takeG (i := 9) (some 48) (Op.load 24 (Operand.tmp 3)) 24 (some (8, false)) (v := ?_) ⟨_, rfl, rfl, rfl, rfl, rfl⟩ rfl (by kernel_rfl) (by kernel_rfl) (by kernel_rfl) [15, 16, 17] (by kernel_rfl) (fun _ _ _ h => h) hS (fun w' hSw => ?_) ?_
                  rotate_left
                  · obtain ⟨⟨b0, b1, b2⟩, b3⟩ := hSw
                    unfold bareOp
                    go_simp
                    try with_reducible rfl
                  simp only [Act.put, List.setIfInBounds_toArray, List.set_cons_zero, List.set_cons_succ]
                  refine wpAnyB_takePG (i := 10) (some 49) (Op.move (Operand.tmp 2)) 25 (some (8, false)) (v := ?_) ⟨_, rfl, rfl, rfl, rfl, rfl⟩ rfl (by kernel_rfl) (by kernel_rfl) (by kernel_rfl) (by kernel_rfl) (fun _ _ _ h => h) (fun _ => hS) (fun w' => ?_) ?_
                  rotate_left
                  · unfold bareOp
                    go_simp
                    try with_reducible rfl
                  simp only [Act.put, List.setIfInBounds_toArray, List.set_cons_zero, List.set_cons_succ]
                  refine wpAnyB_takePG (i := 11) (some 50) (Op.move (Operand.tmp 9)) 3 (some (8, false)) (v := ?_) ⟨_, rfl, rfl, rfl, rfl, rfl⟩ rfl (by kernel_rfl) (by kernel_rfl) (by kernel_rfl) (by kernel_rfl) (fun _ _ _ h => h) (fun _ => hS) (fun w' => ?_) ?_
                  rotate_left
                  · unfold bareOp
                    go_simp
                    try with_reducible rfl
                  simp only [Act.put, List.setIfInBounds_toArray, List.set_cons_zero, List.set_cons_succ]
                  refine wpAnyB_takePG (i := 12) (some 51) (Op.indexAddr 25 (Operand.tmp 49) (Operand.tmp 50)) 0 (some (8, false)) (v := ?_) ⟨_, rfl, rfl, rfl, rfl, rfl⟩ rfl (by kernel_rfl) (by kernel_rfl) (by kernel_rfl) (by kernel_rfl) (fun _ _ _ h => h) (fun _ => hS) (fun w' => ?_) ?_
                  rotate_left
                  · unfold bareOp
                    go_simp
                    try with_reducible rfl
                  simp only [Act.put, List.setIfInBounds_toArray, List.set_cons_zero, List.set_cons_succ]
                  refine wpAnyB_takePG (i := 13) (some 52) (Op.fieldAddr 33 (Operand.tmp 51) 0) 0 (some (8, false)) (v := ?_) ⟨_, rfl, rfl, rfl, rfl, rfl⟩ rfl (by kernel_rfl) (by kernel_rfl) (by kernel_rfl) (by kernel_rfl) (fun _ _ _ h => h) (fun _ => hS) (fun w' => ?_) ?_
                  rotate_left
                  · unfold bareOp
                    go_simp
                    try with_reducible rfl
                  simp only [Act.put, List.setIfInBounds_toArray, List.set_cons_zero, List.set_cons_succ]
                  refine wpAnyB_takeG (i := 14) (some 53) (Op.load 27 (Operand.tmp 52)) 27 (some (8, false)) (v := ?_) ⟨_, rfl, rfl, rfl, rfl, rfl⟩ rfl (by kernel_rfl) (by kernel_rfl) (by kernel_rfl) [15, 16, 17] (by kernel_rfl) (fun _ _ _ h => h) hS (fun w' hSw => ?_) ?_
                  rotate_left
                  · obtain ⟨⟨b0, b1, b2⟩, b3⟩ := hSw
                    unfold bareOp
                    go_simp
                    try with_reducible rfl
                  simp only [Act.put, List.setIfInBounds_toArray, List.set_cons_zero, List.set_cons_succ]
                  refine wpAnyB_onlyG (i := 15) (some 54) (Op.call { callee := Callee.value (Operand.func 14), args := #[Operand.tmp 48, Operand.tmp 53], argTypes := #[24, 27] }) 4 (some (8, false)) ⟨_, rfl, rfl, rfl, rfl, rfl⟩ (by kernel_rfl) rfl (fun K hK => ?_)
                  unfold bareOp
                  go_wp2_with (go_at_call 14; refine (rranged_any _ (HIN.out.keep (Below.refl _ _).drew) (by omega)).mono ?_; rintro e w8 ⟨rfl, hb8⟩)
                  replace F_g := Lib.hid (F_g.out.keep hb8)
                  replace F_c := Lib.hid (F_c.out.keep hb8)
                  replace HBW := Lib.hid (HBW.out.trans (hb8.mono HBW.out.size))
                  rw [HU.out]
                  replace hS := And.intro F_g.out.s F_c.out.c
                  clear hb8
                  refine hK.out _ _ (fun _ => hS) ?_
                  clear hK K
                  try simp only [Act.put, List.setIfInBounds_toArray, List.set_cons_zero, List.set_cons_succ]
                  refine wpAnyB_takePG (i := 16) (some 55) (Op.unOp UnOp.not 4 (Operand.tmp 54)) 4 (some (8, false)) (v := ?_) ⟨_, rfl, rfl, rfl, rfl, rfl⟩ rfl (by kernel_rfl) (by kernel_rfl) (by kernel_rfl) (by kernel_rfl) (fun _ _ _ h => h) (fun _ => hS) (fun w' => ?_) ?_
                  rotate_left
                  · unfold bareOp
                    go_simp
                    try with_reducible rfl
                  simp only [Act.put, List.setIfInBounds_toArray, List.set_cons_zero, List.set_cons_succ]
                  refine wpAnyB_only (i := 17) (some 56) (Op.pick (Operand.tmp 47) (Operand.const (Value.bool true)) (Operand.tmp 55)) 4 ⟨_, rfl, rfl, rfl, rfl, rfl⟩ (by kernel_rfl) (fun K hK => ?_)
                  unfold bareOp
                  go_wp2_with fail
                  refine hK.out _ _ (fun h => absurd (h.symm.trans (by kernel_rfl : _ = true)) (by decide)) ?_
                  clear hK K
                  try simp only [Act.put, List.setIfInBounds_toArray, List.set_cons_zero, List.set_cons_succ]
                  refine wpAnyB_done (by kernel_rfl) ?_ _
                  clear hS
                  cases u with
                  | true =>
                    obtain rfl : v = false := HVU.out
                    go_wp2_with fail
                    go_roundw
                    case rel => exact ⟨i + 1, 0, by omega, by go_num, rfl, .inl ⟨rfl, HSN.out⟩, F_g.out, HBW.out⟩
                    case measure => simp [intOf] <;> omega
                  | false =>
                    obtain rfl : v = true := HVU.out
                    go_wp2_with fail
                    go_roundw
                    case rel => exact ⟨i + 1, 8, by omega, by go_num, rfl, .inr ⟨rfl, HTR.out (by first | trivial | rfl)⟩, F_g.out, HBW.out⟩
                    case measure => simp [intOf] <;> omega
            · have HZ := Lib.hid hE
              have hr := HR.out
              rw [if_pos HZ.out] at hr
              cases hr
              clear hE HE
              by_cases hm0 : i < m
              case pos =>
                have dm : decide ((i : Int) < (m : Int)) = true := by simp; omega
                go_wp2_with fail
                go_ret2
                exact ⟨none, 0, rfl, ShS.nil _ _, fun _ => rfl, HBW.out⟩
              case neg =>
                have dm : decide ((i : Int) < (m : Int)) = false := by simp; omega
                go_wp2_with fail
                go_ret2
                exact ⟨none, 0, rfl, ShS.nil _ _, fun _ => rfl, HBW.out⟩
end Go.Proofs.Ytembepajnigfiaa
