/- The reference's interpolation. -/
import Derived.Test.YtjfaaicbojnpaaaIntp
namespace Go.Proofs.Ytjfaaicbojnpaaa
open Go.RowKit Num
set_option linter.unusedSimpArgs false
set_option linter.unusedVariables false

/-- The product when k coefficients are over. -/
def TimS (Q m f : Int) (p : List Int) (k : Nat) (o : List Int) : Prop :=
  o.length = p.length + 1 ∧ (0 ≤ o.getD k 0 ∧ o.getD k 0 < Q) ∧ (∀ j, k < j → o.getD j 0 = 0) ∧ timesL Q m f 0 p = o.take k ++ timesL Q m f (o.getD k 0) (p.drop k)
theorem rep_getD (n j : Nat) : (List.replicate n (0 : Int)).getD j 0 = 0 := by
  by_cases hj : j < n
  · rw [getD_at (by simpa using hj)]; simp
  · rw [getD_over (by simpa using hj)]
theorem TimS.start {Q m f : Int} (hQ : 0 < Q) (p : List Int) : TimS Q m f p 0 (List.replicate (p.length + 1) 0) :=
  ⟨by simp, by rw [rep_getD]; exact ⟨Int.le_refl _, hQ⟩, fun j _ => rep_getD _ _, by rw [rep_getD]; rfl⟩
theorem TimS.step {Q m f : Int} {p o : List Int} {k : Nat} (hQ : 0 < Q) (h : TimS Q m f p k o) (hk : k < p.length) :
    TimS Q m f p (k + 1) ((o.set k ((o.getD k 0 + p.getD k 0 * m % Q * f % Q) % Q)).set (k + 1) ((0 + p.getD k 0 * f % Q) % Q)) := by
  obtain ⟨h1, h2, h3, h4⟩ := h
  obtain ⟨t, ht⟩ : ∃ t, (o.getD k 0 + p.getD k 0 * m % Q * f % Q) % Q = t := ⟨_, rfl⟩
  obtain ⟨s, hs⟩ : ∃ s, (0 + p.getD k 0 * f % Q) % Q = s := ⟨_, rfl⟩
  have e1 : ((o.set k t).set (k + 1) s).getD (k + 1) 0 = s := by rw [getD_set (by rw [List.length_set]; omega), if_pos rfl]
  rw [ht, hs]
  refine ⟨by simp [h1], by rw [e1, ← hs]; exact ⟨Int.emod_nonneg _ (by omega), Int.emod_lt_of_pos _ hQ⟩, fun j hj => ?_, ?_⟩
  · rw [getD_set (by rw [List.length_set]; omega), if_neg (by omega), getD_set (by omega), if_neg (by omega)]
    exact h3 j (by omega)
  · have e2 : ((o.set k t).set (k + 1) s).take (k + 1) = o.take k ++ [t] := by
      apply List.ext_getElem?
      intro j
      rcases Nat.lt_trichotomy j k with hj | hj | hj
      · rw [List.getElem?_take_of_lt (by omega), List.getElem?_set_ne (by omega), List.getElem?_set_ne (by omega), List.getElem?_append_left (by simp; omega), List.getElem?_take_of_lt hj]
      · subst hj
        rw [List.getElem?_take_of_lt (by omega), List.getElem?_set_ne (by omega), List.getElem?_set_self (by omega), List.getElem?_append_right (by simp; omega)]
        simp [Nat.min_eq_left (show j ≤ o.length by omega)]
      · rw [List.getElem?_eq_none (by simp; omega), List.getElem?_eq_none (by simp; omega)]
    rw [e1, e2, h4, drop_cons hk]
    show _ ++ ((o.getD k 0 + p.getD k 0 * m % Q * f % Q) % Q) :: timesL Q m f ((0 + p.getD k 0 * f % Q) % Q) (p.drop (k + 1)) = _
    rw [ht, hs, List.append_assoc]
    rfl
theorem TimS.done {Q m f : Int} {p o : List Int} (h : TimS Q m f p p.length o) : timesL Q m f 0 p = o := by
  obtain ⟨h1, -, -, h4⟩ := h
  rw [h4, List.drop_length, timesL, getD_at (by omega), ← List.take_succ_eq_append_getElem (by omega), List.take_of_length_le (by omega)]
/-- A sum of two lists, done up to k. -/
def SumIn (Q : Int) (os pk : List Int) (k : Nat) (o : List Int) : Prop :=
  o.length = os.length ∧ ∀ j, o.getD j 0 = if j < k ∧ j < os.length then (os.getD j 0 + pk.getD j 0) % Q else os.getD j 0
theorem SumIn.start (Q : Int) (os pk : List Int) : SumIn Q os pk 0 os := ⟨rfl, fun j => by rw [if_neg (by omega)]⟩
theorem SumIn.step {Q : Int} {os pk o : List Int} {k : Nat} (h : SumIn Q os pk k o) (hk : k < os.length) : SumIn Q os pk (k + 1) (o.set k ((o.getD k 0 + pk.getD k 0) % Q)) := by
  refine ⟨by rw [List.length_set]; exact h.1, fun j => ?_⟩
  rw [getD_set (by rw [h.1]; exact hk)]
  by_cases e : k = j
  · subst e; rw [if_pos rfl, if_pos (by omega), h.2 k, if_neg (by omega)]
  · rw [if_neg e, h.2 j]
    by_cases e2 : j < k ∧ j < os.length
    · rw [if_pos e2, if_pos (by omega)]
    · rw [if_neg e2, if_neg (by omega)]
theorem SumIn.done {Q : Int} {os pk o : List Int} (hl : pk.length = os.length) (h : SumIn Q os pk os.length o) : o = List.zipWith (fun a b => (a + b) % Q) os pk := by
  apply List.ext_getElem (by rw [h.1]; simp [hl])
  intro j h1 h2
  have := h.2 j
  rw [getD_at h1, if_pos (by have := h.1; omega), getD_at (by have := h.1; omega), getD_at (by have := h.1; omega)] at this
  rw [this, List.getElem_zipWith]
theorem SumIn.rng {Q : Int} {os pk o : List Int} {k : Nat} (hQ : 0 < Q) (h : SumIn Q os pk k o) (hr : ∀ x, x ∈ os → 0 ≤ x ∧ x < Q) (j : Nat) : 0 ≤ o.getD j 0 ∧ o.getD j 0 < Q := by
  rw [h.2 j]
  split
  · exact ⟨Int.emod_nonneg _ (by omega), Int.emod_lt_of_pos _ hQ⟩
  · exact getD_rng hQ hr j
theorem sumL_append (Q : Int) (ids : List Int) : ∀ (l m : List (Int × Int)) (out : List Int), sumL Q ids out (l ++ m) = (sumL Q ids out l).bind fun o => sumL Q ids o m
  | [], m, out => rfl
  | (x, v) :: l, m, out => by
    rw [List.cons_append]
    simp only [sumL]
    cases partL Q x [v] (ids.filter fun y => decide (y ≠ x)) with
    | none => rfl
    | some r => exact sumL_append Q ids l m _
theorem sumL_snoc {Q : Int} {ids vs out os pk : List Int} {i : Nat} (h : sumL Q ids out ((ids.zip vs).take i) = some os) (hi : i < ids.length) (hl : vs.length = ids.length)
    (hp : partL Q (ids.getD i 0) [vs.getD i 0] (ids.filter fun y => decide (y ≠ ids.getD i 0)) = some pk) : sumL Q ids out ((ids.zip vs).take (i + 1)) = some (List.zipWith (fun a b => (a + b) % Q) os pk) := by
  have hz : i < (ids.zip vs).length := by simp; omega
  rw [List.take_succ_eq_append_getElem hz, sumL_append, h]
  have e : (ids.zip vs)[i] = (ids.getD i 0, vs.getD i 0) := by rw [List.getElem_zip, getD_at (by omega), getD_at (by omega)]
  rw [e]
  show sumL Q ids os [(ids.getD i 0, vs.getD i 0)] = _
  simp only [sumL]
  rw [hp]
theorem partL_snoc {Q xi y u : Int} {l p pk : List Int} (h : partL Q xi p l = some pk) (hu : invF Q ((xi - y) % Q) = some u) : partL Q xi p (l ++ [y]) = some (timesL Q ((0 - y) % Q) u 0 pk) := by
  rw [partL_append, h]
  show partL Q xi pk [y] = _
  simp only [partL]
  rw [hu]
theorem OwnN.lit {W : World} {n₀ : Nat} (v : Int) (hb : n₀ ≤ W.heap.size) : OwnN (W.alloc (.cells #[.int .u64 v] 22)) n₀ W.heap.size 1 1 [v] :=
  ⟨rfl, World.ownsRow_lit W #[.int .u64 v] 1 hb (by decide) rfl⟩
theorem OwnN.madeB {W : World} {n₀ g n : Nat} (h : W.ownsRow n₀ 22 1 (.slice (some ⟨g, 0, none⟩) n n) n (madeCells #[Value.int IntKind.u64 0] n).toList) : OwnN W n₀ g n n (List.replicate n 0) :=
  OwnN.made (by rw [Nat.mul_one]; exact h)
theorem OwnN.cells {W : World} {n₀ g N cap : Nat} {xs : List Int} (h : OwnN W n₀ g N cap xs) : ∀ i, i < N → W.cell? ⟨g, 0 + i, none⟩ = some (.int .u64 (xs.getD i 0)) := fun i hi => by rw [Nat.zero_add]; exact h.at hi

set_option maxRecDepth 100000 in
set_option maxHeartbeats 8000000 in
theorem rtimes_any {P Q G x f : Int} {s o n c : Nat} {ps : List Int} (w : World) (hH : Has P Q G) (hl : n = ps.length) (hn : n ≤ 100) (hs : s < w.heap.size) (hcell : ∀ i, i < n → w.cell? ⟨s, o + i, none⟩ = some (.int .u64 (ps.getD i 0))) (hr : ∀ y, y ∈ ps → 0 ≤ y ∧ y < Q) (x0 : 0 ≤ x) (xQ : x < Q) (f0 : 0 ≤ f) (fQ : f < Q) :
    Calls Try.prog 96 #[.agg #[.int .u64 P, .int .u64 Q, .int .u64 G], .slice (some ⟨s, o, none⟩) n c, .int .i64 x, .int .u64 f] w fun e w' => ∃ v, e = .returned v ∧ OwnU w' w.heap.size v (timesL Q ((0 - x) % Q) f 0 ps) ∧ Below w.heap.size w w' := by
  obtain ⟨p5, p3, hQ', pq, g2, gP⟩ := id hH
  have q3 : Q < 1073741824 := by omega
  have q1 : 1 < Q := by omega
  have HH := Lib.hid hH
  have HL := Lib.hid hl
  have HC := Lib.hid hcell
  have HR := Lib.hid hr
  clear hH hl hcell hr pq
  obtain ⟨ng, hng⟩ : ∃ z, (0 - x) % Q = z := ⟨_, rfl⟩
  have n0 : 0 ≤ ng := by rw [← hng]; exact Int.emod_nonneg _ (by omega)
  have nQ : ng < Q := by rw [← hng]; exact Int.emod_lt_of_pos _ (by omega)
  have HNG := Lib.hid hng
  clear hng
  rw [HNG.out]
  obtain ⟨N, hN⟩ : ∃ N, n + 1 = N := ⟨_, rfl⟩
  have hwN : IntKind.i64.wrap ((n : Int) + 1) = (N : Int) := by rw [IntWalk.i64_in _ (by omega)]; omega
  have hwx : IntKind.u64.wrap x = x := wrap_u x0 (by omega)
  have HNN := Lib.hid hN
  have hN1 : N ≤ 101 := by omega
  have hnN : n < N := by omega
  clear hN
  obtain ⟨i0, hi, hz0, hz1, hz2⟩ := info_parts (P := Try.prog) (e := 22) (z := .int .u64 0) (size := 1) (bytes := 8) (by kernel_rfl)
  have F_g := Lib.hid (show Boxed (w.alloc (.cells #[.int .u64 P, .int .u64 Q, .int .u64 G] 24)) (w.heap.size) P Q G from Boxed.at _ P Q G _ (w.heap.size) (by simp))
  have HBW := Lib.hid (show Below w.heap.size w (w.alloc (.cells #[.int .u64 P, .int .u64 Q, .int .u64 G] 24)) from (Below.refl _ _).alloc (by simp <;> omega) _)
  go_enter Try.func96, Try.ntmps96
  go_wp2_with (at_make; refine wpList_make_full _ rfl _ _ 25 rfl (w.heap.size + 1) 22 i0 (.int .u64 0) 1 Try.underlying25 hi hz0 hz1 _ _ _ _ N rfl rfl rfl rfl (by rw [hz2]; omega) (by unfold maxLen; omega) (by simp) ?_)
  intro w5 hown hgr
  have HOWN := Lib.hid hown
  have HGR := Lib.hid hgr
  clear hown hgr
  have hb5 := Below.row (n := w.heap.size + 1) HGR.out (fun j hj => by cases hj) (by simp)
  have F_o := Lib.hid (OwnN.madeB (W := w5) (n₀ := w.heap.size + 1) (g := w.heap.size + 1) (n := N) (by have h9 := HOWN.out; simpa only [World.size_alloc] using h9))
  replace F_g := Lib.hid (F_g.out.keepN hb5 (Nat.lt_succ_self _))
  replace HBW := Lib.hid (HBW.out.trans (hb5.mono (Nat.le_succ _)))
  clear hb5 HOWN HGR hi hz0 hz1 hz2 i0
  obtain ⟨x0a, x0b, x0c, -⟩ := id F_g.out
  go_wp2_with fail
  clear x0a x0b x0c
  have F_o2 := F_o
  clear hwN
  refine (rDiff_gen _ HH.out (Int.le_refl _) (by omega) x0 xQ HNG.out).mono ?_
  rintro e w6 ⟨rfl, hb6⟩
  replace F_g := Lib.hid (F_g.out.keep hb6)
  replace F_o := Lib.hid (F_o.out.keep hb6)
  replace HBW := Lib.hid (HBW.out.trans (hb6.mono HBW.out.size))
  clear hb6 F_o2
  go_wp2_with fail
  go_loopw [11] (fun c11 wr => ∃ k : Nat, k ≤ n ∧ c11 = .int .i64 k ∧ ∃ os : List Int, Hid (TimS Q ng f ps k os) ∧ Hid (OwnN wr (w.heap.size + 1) (w.heap.size + 1) N N os) ∧ Hid (Boxed wr w.heap.size P Q G) ∧ Hid (Below w.heap.size w wr)) (fun c11 _ => n - (intOf c11).toNat)
  case atStart => exact ⟨0, Nat.zero_le _, rfl, _, (show TimS Q ng f ps 0 (List.replicate N 0) by rw [← HNN.out, HL.out]; exact TimS.start (by omega) ps), F_o.out, F_g.out, HBW.out⟩
  case round =>
    clear F_g F_o HBW
    obtain ⟨k, hk, rfl, os, HI, F_o, F_g, HBW⟩ := hrel
    by_cases hlt : k < n
    case neg =>
      have HZ := Lib.hid (show timesL Q ng f 0 ps = os from TimS.done (by rw [show ps.length = k by rw [← HL.out]; omega]; exact HI.out))
      go_wp2_with fail
      go_ret
      exact ⟨_, rfl, by rw [HZ.out]; exact F_o.out.own.mono (Nat.le_succ _), HBW.out⟩
    case pos =>
      have hk0 : (0 : Int) ≤ (k : Int) := by omega
      have hk1 : (k : Int) < (n : Int) := by omega
      have hkN : k < N := by omega
      have hk2 : (k : Int) < (N : Int) := by omega
      obtain ⟨e, he⟩ : ∃ e, k + 1 = e := ⟨_, rfl⟩
      have heN : e < N := by omega
      have he0 : (0 : Int) ≤ (e : Int) := by omega
      have he1 : (e : Int) < (N : Int) := by omega
      have hen : e ≤ n := by omega
      have hwe : IntKind.i64.wrap ((k : Int) + 1) = (e : Int) := by rw [IntWalk.i64_in _ (by omega)]; omega
      obtain ⟨y, hy⟩ : ∃ z, ps.getD k 0 = z := ⟨_, rfl⟩
      obtain ⟨y0, yQ⟩ := show 0 ≤ y ∧ y < Q by rw [← hy]; exact getD_rng (by omega) HR.out k
      have HCY := Lib.hid (show w.cell? ⟨s, o + k, none⟩ = some (.int .u64 y) by rw [← hy]; exact HC.out k hlt)
      obtain ⟨c0, hc0⟩ : ∃ z, os.getD k 0 = z := ⟨_, rfl⟩
      obtain ⟨c00, c0Q⟩ := show 0 ≤ c0 ∧ c0 < Q by rw [← hc0]; exact HI.out.2.1
      obtain ⟨a1, ha1⟩ : ∃ z, y * ng % Q = z := ⟨_, rfl⟩
      have a10 : 0 ≤ a1 := by rw [← ha1]; exact Int.emod_nonneg _ (by omega)
      have a1Q : a1 < Q := by rw [← ha1]; exact Int.emod_lt_of_pos _ (by omega)
      obtain ⟨a2, ha2⟩ : ∃ z, a1 * f % Q = z := ⟨_, rfl⟩
      have a20 : 0 ≤ a2 := by rw [← ha2]; exact Int.emod_nonneg _ (by omega)
      have a2Q : a2 < Q := by rw [← ha2]; exact Int.emod_lt_of_pos _ (by omega)
      obtain ⟨t, ht⟩ : ∃ z, (c0 + a2) % Q = z := ⟨_, rfl⟩
      obtain ⟨b1, hb1⟩ : ∃ z, y * f % Q = z := ⟨_, rfl⟩
      have b10 : 0 ≤ b1 := by rw [← hb1]; exact Int.emod_nonneg _ (by omega)
      have b1Q : b1 < Q := by rw [← hb1]; exact Int.emod_lt_of_pos _ (by omega)
      obtain ⟨t2, ht2⟩ : ∃ z, (0 + b1) % Q = z := ⟨_, rfl⟩
      have HST := Lib.hid (show TimS Q ng f ps e ((os.set k t).set e t2) by
        have := HI.out.step (by omega) (by rw [← HL.out]; exact hlt)
        rwa [hc0, hy, ha1, ha2, ht, hb1, ht2, he] at this)
      have HZ := Lib.hid (show (os.set k t).getD e 0 = 0 by
        rw [getD_set (by rw [HI.out.1, ← HL.out]; omega), if_neg (by omega)]
        exact HI.out.2.2.1 e (by omega))
      have HC0 := Lib.hid hc0
      have HA1 := Lib.hid ha1
      have HA2 := Lib.hid ha2
      have HT := Lib.hid ht
      have HB1 := Lib.hid hb1
      have HT2 := Lib.hid ht2
      have HE := Lib.hid he
      clear hy hc0 ha1 ha2 ht hb1 ht2 he
      go_wp2_with fail
      replace F_g := Lib.hid F_g.out.drew
      replace F_o := Lib.hid F_o.out.drew
      replace HBW := Lib.hid HBW.out.drew
      have hS := And.intro F_g.out.s (And.intro ((F_o.out.at hkN).trans (congrArg (fun z => some (Value.int IntKind.u64 z)) HC0.out)) ((HBW.out.cell (p := ⟨s, o + k, none⟩) hs).trans HCY.out))
      refine wp_region_stage 19 (fun w' => SBox w' w.heap.size P Q G ∧ w'.cell? ⟨w.heap.size + 1, k, none⟩ = some (.int .u64 c0) ∧ w'.cell? ⟨s, o + k, none⟩ = some (.int .u64 y)) (by kernel_rfl) ?_
      refine wpAnyB_takeP (i := 0) (some 26) (Op.move (Operand.tmp 9)) 25 (v := ?_) ⟨_, rfl, rfl, rfl, rfl, rfl⟩ (by kernel_rfl) (by kernel_rfl) (by kernel_rfl) (by kernel_rfl) (fun _ _ _ h => h) (fun _ => hS) (fun w' => ?_) ?_
      rotate_left
      · unfold bareOp
        go_simp
        try with_reducible rfl
      simp only [Act.put, List.setIfInBounds_toArray, List.set_cons_zero, List.set_cons_succ]
      refine wpAnyB_takeP (i := 1) (some 27) (Op.move (Operand.tmp 11)) 3 (v := ?_) ⟨_, rfl, rfl, rfl, rfl, rfl⟩ (by kernel_rfl) (by kernel_rfl) (by kernel_rfl) (by kernel_rfl) (fun _ _ _ h => h) (fun _ => hS) (fun w' => ?_) ?_
      rotate_left
      · unfold bareOp
        go_simp
        try with_reducible rfl
      simp only [Act.put, List.setIfInBounds_toArray, List.set_cons_zero, List.set_cons_succ]
      refine wpAnyB_take (i := 2) (some 28) (Op.load 24 (Operand.tmp 4)) 24 (v := ?_) ⟨_, rfl, rfl, rfl, rfl, rfl⟩ (by kernel_rfl) (by kernel_rfl) (by kernel_rfl) [17, 18, 19] (by kernel_rfl) (fun _ _ _ h => h) hS (fun w' hSw => ?_) ?_
      rotate_left
      · obtain ⟨⟨b0, b1, b2⟩, b3, b4⟩ := hSw
        unfold bareOp
        go_simp
        try with_reducible rfl
      simp only [Act.put, List.setIfInBounds_toArray, List.set_cons_zero, List.set_cons_succ]
      refine wpAnyB_takeP (i := 3) (some 29) (Op.move (Operand.tmp 9)) 25 (v := ?_) ⟨_, rfl, rfl, rfl, rfl, rfl⟩ (by kernel_rfl) (by kernel_rfl) (by kernel_rfl) (by kernel_rfl) (fun _ _ _ h => h) (fun _ => hS) (fun w' => ?_) ?_
      rotate_left
      · unfold bareOp
        go_simp
        try with_reducible rfl
      simp only [Act.put, List.setIfInBounds_toArray, List.set_cons_zero, List.set_cons_succ]
      refine wpAnyB_takeP (i := 4) (some 30) (Op.move (Operand.tmp 11)) 3 (v := ?_) ⟨_, rfl, rfl, rfl, rfl, rfl⟩ (by kernel_rfl) (by kernel_rfl) (by kernel_rfl) (by kernel_rfl) (fun _ _ _ h => h) (fun _ => hS) (fun w' => ?_) ?_
      rotate_left
      · unfold bareOp
        go_simp
        try with_reducible rfl
      simp only [Act.put, List.setIfInBounds_toArray, List.set_cons_zero, List.set_cons_succ]
      refine wpAnyB_takeP (i := 5) (some 31) (Op.indexAddr 25 (Operand.tmp 29) (Operand.tmp 30)) 0 (v := ?_) ⟨_, rfl, rfl, rfl, rfl, rfl⟩ (by kernel_rfl) (by kernel_rfl) (by kernel_rfl) (by kernel_rfl) (fun _ _ _ h => h) (fun _ => hS) (fun w' => ?_) ?_
      rotate_left
      · unfold bareOp
        go_simp
        try with_reducible rfl
      simp only [Act.put, List.setIfInBounds_toArray, List.set_cons_zero, List.set_cons_succ]
      refine wpAnyB_take (i := 6) (some 32) (Op.load 22 (Operand.tmp 31)) 22 (v := ?_) ⟨_, rfl, rfl, rfl, rfl, rfl⟩ (by kernel_rfl) (by kernel_rfl) (by kernel_rfl) [17, 18, 19] (by kernel_rfl) (fun _ _ _ h => h) hS (fun w' hSw => ?_) ?_
      rotate_left
      · obtain ⟨⟨b0, b1, b2⟩, b3, b4⟩ := hSw
        unfold bareOp
        go_simp
        try with_reducible rfl
      simp only [Act.put, List.setIfInBounds_toArray, List.set_cons_zero, List.set_cons_succ]
      refine wpAnyB_take (i := 7) (some 33) (Op.load 24 (Operand.tmp 4)) 24 (v := ?_) ⟨_, rfl, rfl, rfl, rfl, rfl⟩ (by kernel_rfl) (by kernel_rfl) (by kernel_rfl) [16, 17, 18, 19] (by kernel_rfl) (fun _ _ _ h => h) hS (fun w' hSw => ?_) ?_
      rotate_left
      · obtain ⟨⟨b0, b1, b2⟩, b3, b4⟩ := hSw
        unfold bareOp
        go_simp
        try with_reducible rfl
      simp only [Act.put, List.setIfInBounds_toArray, List.set_cons_zero, List.set_cons_succ]
      refine wpAnyB_take (i := 8) (some 34) (Op.load 24 (Operand.tmp 4)) 24 (v := ?_) ⟨_, rfl, rfl, rfl, rfl, rfl⟩ (by kernel_rfl) (by kernel_rfl) (by kernel_rfl) [14, 16, 17, 18, 19] (by kernel_rfl) (fun _ _ _ h => h) hS (fun w' hSw => ?_) ?_
      rotate_left
      · obtain ⟨⟨b0, b1, b2⟩, b3, b4⟩ := hSw
        unfold bareOp
        go_simp
        try with_reducible rfl
      simp only [Act.put, List.setIfInBounds_toArray, List.set_cons_zero, List.set_cons_succ]
      refine wpAnyB_takeP (i := 9) (some 35) (Op.move (Operand.tmp 1)) 25 (v := ?_) ⟨_, rfl, rfl, rfl, rfl, rfl⟩ (by kernel_rfl) (by kernel_rfl) (by kernel_rfl) (by kernel_rfl) (fun _ _ _ h => h) (fun _ => hS) (fun w' => ?_) ?_
      rotate_left
      · unfold bareOp
        go_simp
        try with_reducible rfl
      simp only [Act.put, List.setIfInBounds_toArray, List.set_cons_zero, List.set_cons_succ]
      refine wpAnyB_takeP (i := 10) (some 36) (Op.move (Operand.tmp 11)) 3 (v := ?_) ⟨_, rfl, rfl, rfl, rfl, rfl⟩ (by kernel_rfl) (by kernel_rfl) (by kernel_rfl) (by kernel_rfl) (fun _ _ _ h => h) (fun _ => hS) (fun w' => ?_) ?_
      rotate_left
      · unfold bareOp
        go_simp
        try with_reducible rfl
      simp only [Act.put, List.setIfInBounds_toArray, List.set_cons_zero, List.set_cons_succ]
      refine wpAnyB_takeP (i := 11) (some 37) (Op.indexAddr 25 (Operand.tmp 35) (Operand.tmp 36)) 0 (v := ?_) ⟨_, rfl, rfl, rfl, rfl, rfl⟩ (by kernel_rfl) (by kernel_rfl) (by kernel_rfl) (by kernel_rfl) (fun _ _ _ h => h) (fun _ => hS) (fun w' => ?_) ?_
      rotate_left
      · unfold bareOp
        go_simp
        try with_reducible rfl
      simp only [Act.put, List.setIfInBounds_toArray, List.set_cons_zero, List.set_cons_succ]
      refine wpAnyB_take (i := 12) (some 38) (Op.load 22 (Operand.tmp 37)) 22 (v := ?_) ⟨_, rfl, rfl, rfl, rfl, rfl⟩ (by kernel_rfl) (by kernel_rfl) (by kernel_rfl) [14, 16, 17, 18, 19] (by kernel_rfl) (fun _ _ _ h => h) hS (fun w' hSw => ?_) ?_
      rotate_left
      · obtain ⟨⟨b0, b1, b2⟩, b3, b4⟩ := hSw
        unfold bareOp
        go_simp
        try with_reducible rfl
      simp only [Act.put, List.setIfInBounds_toArray, List.set_cons_zero, List.set_cons_succ]
      refine wpAnyB_takeP (i := 13) (some 39) (Op.move (Operand.tmp 10)) 22 (v := ?_) ⟨_, rfl, rfl, rfl, rfl, rfl⟩ (by kernel_rfl) (by kernel_rfl) (by kernel_rfl) (by kernel_rfl) (fun _ _ _ h => h) (fun _ => hS) (fun w' => ?_) ?_
      rotate_left
      · unfold bareOp
        go_simp
        try with_reducible rfl
      simp only [Act.put, List.setIfInBounds_toArray, List.set_cons_zero, List.set_cons_succ]
      refine wpAnyB_takeP (i := 15) (some 41) (Op.move (Operand.tmp 3)) 22 (v := ?_) ⟨_, rfl, rfl, rfl, rfl, rfl⟩ (by kernel_rfl) (by kernel_rfl) (by kernel_rfl) (by kernel_rfl) (fun _ _ _ h => h) (fun _ => hS) (fun w' => ?_) ?_
      rotate_left
      · unfold bareOp
        go_simp
        try with_reducible rfl
      simp only [Act.put, List.setIfInBounds_toArray, List.set_cons_zero, List.set_cons_succ]
      refine wpAnyB_only (i := 14) (some 40) (Op.call { callee := Callee.value (Operand.func 76), args := #[Operand.tmp 34, Operand.tmp 38, Operand.tmp 39], argTypes := #[24, 22, 22] }) 22 ⟨_, rfl, rfl, rfl, rfl, rfl⟩ (by kernel_rfl) (fun K hK => ?_)
      unfold bareOp
      go_wp2_with (go_at_call 76; refine (rProduct_gen _ HH.out y0 yQ n0 nQ HA1.out).mono ?_; rintro e w8 ⟨rfl, hb8⟩)
      replace F_g := Lib.hid (F_g.out.keep hb8)
      replace F_o := Lib.hid (F_o.out.keep hb8)
      replace HBW := Lib.hid (HBW.out.trans (hb8.mono HBW.out.size))
      replace hS := And.intro F_g.out.s (And.intro ((F_o.out.at hkN).trans (congrArg (fun z => some (Value.int IntKind.u64 z)) HC0.out)) ((HBW.out.cell (p := ⟨s, o + k, none⟩) hs).trans HCY.out))
      clear hb8
      refine hK.out _ _ (fun _ => hS) ?_
      clear hK K
      try simp only [Act.put, List.setIfInBounds_toArray, List.set_cons_zero, List.set_cons_succ]
      refine wpAnyB_only (i := 16) (some 42) (Op.call { callee := Callee.value (Operand.func 76), args := #[Operand.tmp 33, Operand.tmp 40, Operand.tmp 41], argTypes := #[24, 22, 22] }) 22 ⟨_, rfl, rfl, rfl, rfl, rfl⟩ (by kernel_rfl) (fun K hK => ?_)
      unfold bareOp
      go_wp2_with (go_at_call 76; refine (rProduct_gen _ HH.out a10 a1Q f0 fQ HA2.out).mono ?_; rintro e w8 ⟨rfl, hb8⟩)
      replace F_g := Lib.hid (F_g.out.keep hb8)
      replace F_o := Lib.hid (F_o.out.keep hb8)
      replace HBW := Lib.hid (HBW.out.trans (hb8.mono HBW.out.size))
      replace hS := And.intro F_g.out.s (And.intro ((F_o.out.at hkN).trans (congrArg (fun z => some (Value.int IntKind.u64 z)) HC0.out)) ((HBW.out.cell (p := ⟨s, o + k, none⟩) hs).trans HCY.out))
      clear hb8
      refine hK.out _ _ (fun _ => hS) ?_
      clear hK K
      try simp only [Act.put, List.setIfInBounds_toArray, List.set_cons_zero, List.set_cons_succ]
      refine wpAnyB_only (i := 17) (some 43) (Op.call { callee := Callee.value (Operand.func 56), args := #[Operand.tmp 28, Operand.tmp 32, Operand.tmp 42], argTypes := #[24, 22, 22] }) 22 ⟨_, rfl, rfl, rfl, rfl, rfl⟩ (by kernel_rfl) (fun K hK => ?_)
      unfold bareOp
      go_wp2_with (go_at_call 56; refine (rSum_gen _ HH.out c00 c0Q a20 a2Q HT.out).mono ?_; rintro e w8 ⟨rfl, hb8⟩)
      replace F_g := Lib.hid (F_g.out.keep hb8)
      replace F_o := Lib.hid (F_o.out.keep hb8)
      replace HBW := Lib.hid (HBW.out.trans (hb8.mono HBW.out.size))
      replace hS := And.intro F_g.out.s (And.intro ((F_o.out.at hkN).trans (congrArg (fun z => some (Value.int IntKind.u64 z)) HC0.out)) ((HBW.out.cell (p := ⟨s, o + k, none⟩) hs).trans HCY.out))
      clear hb8
      refine hK.out _ _ (fun _ => hS) ?_
      clear hK K
      try simp only [Act.put, List.setIfInBounds_toArray, List.set_cons_zero, List.set_cons_succ]
      refine wpAnyB_takeP (i := 18) (some 44) (Op.indexAddr 25 (Operand.tmp 26) (Operand.tmp 27)) 0 (v := ?_) ⟨_, rfl, rfl, rfl, rfl, rfl⟩ (by kernel_rfl) (by kernel_rfl) (by kernel_rfl) (by kernel_rfl) (fun _ _ _ h => h) (fun _ => hS) (fun w' => ?_) ?_
      rotate_left
      · unfold bareOp
        go_simp
        try with_reducible rfl
      simp only [Act.put, List.setIfInBounds_toArray, List.set_cons_zero, List.set_cons_succ]
      refine wpAnyB_only (i := 19) none (Op.store 22 (Operand.tmp 44) (Operand.tmp 43)) 0 ⟨_, rfl, rfl, rfl, rfl, rfl⟩ (by kernel_rfl) (fun K hK => ?_)
      unfold bareOp
      have hcs := hS.2.1
      have hfs := F_o.out.fz k
      go_wp2_with fail
      refine hK.out _ _ (fun h => absurd (h.symm.trans (by kernel_rfl : _ = true)) (by decide)) ?_
      clear hK K
      try simp only [Act.put, List.setIfInBounds_toArray, List.set_cons_zero, List.set_cons_succ]
      refine wpAnyB_done (by kernel_rfl) ?_ _
      replace F_g := Lib.hid (F_g.out.far (c := w.heap.size + 1) (o := k) (by omega) (.int .u64 t))
      replace F_o := Lib.hid (F_o.out.set (k := k) t)
      replace HBW := Lib.hid (HBW.out.setCell (p := ⟨w.heap.size + 1, k, none⟩) (by show w.heap.size ≤ w.heap.size + 1; omega) (.int .u64 t))
      clear hS
      go_wp2_with fail
      replace F_g := Lib.hid F_g.out.drew
      replace F_o := Lib.hid F_o.out.drew
      replace HBW := Lib.hid HBW.out.drew
      have hS := And.intro F_g.out.s (And.intro ((F_o.out.at heN).trans (congrArg (fun z => some (Value.int IntKind.u64 z)) HZ.out)) ((HBW.out.cell (p := ⟨s, o + k, none⟩) hs).trans HCY.out))
      refine wp_region_stage 18 (fun w' => SBox w' w.heap.size P Q G ∧ w'.cell? ⟨w.heap.size + 1, e, none⟩ = some (.int .u64 0) ∧ w'.cell? ⟨s, o + k, none⟩ = some (.int .u64 y)) (by kernel_rfl) ?_
      refine wpAnyB_takeP (i := 0) (some 45) (Op.move (Operand.tmp 9)) 25 (v := ?_) ⟨_, rfl, rfl, rfl, rfl, rfl⟩ (by kernel_rfl) (by kernel_rfl) (by kernel_rfl) (by kernel_rfl) (fun _ _ _ h => h) (fun _ => hS) (fun w' => ?_) ?_
      rotate_left
      · unfold bareOp
        go_simp
        try with_reducible rfl
      simp only [Act.put, List.setIfInBounds_toArray, List.set_cons_zero, List.set_cons_succ]
      refine wpAnyB_takeP (i := 1) (some 46) (Op.move (Operand.tmp 11)) 3 (v := ?_) ⟨_, rfl, rfl, rfl, rfl, rfl⟩ (by kernel_rfl) (by kernel_rfl) (by kernel_rfl) (by kernel_rfl) (fun _ _ _ h => h) (fun _ => hS) (fun w' => ?_) ?_
      rotate_left
      · unfold bareOp
        go_simp
        try with_reducible rfl
      simp only [Act.put, List.setIfInBounds_toArray, List.set_cons_zero, List.set_cons_succ]
      refine wpAnyB_takeP (i := 2) (some 47) (Op.binOp BinOp.add 3 (Operand.tmp 46) (Operand.const (Value.int IntKind.i64 1)) 3) 3 (v := ?_) ⟨_, rfl, rfl, rfl, rfl, rfl⟩ (by kernel_rfl) (by kernel_rfl) (by kernel_rfl) (by kernel_rfl) (fun _ _ _ h => h) (fun _ => hS) (fun w' => ?_) ?_
      rotate_left
      · unfold bareOp
        go_simp
        try with_reducible rfl
      simp only [Act.put, List.setIfInBounds_toArray, List.set_cons_zero, List.set_cons_succ]
      refine wpAnyB_take (i := 3) (some 48) (Op.load 24 (Operand.tmp 4)) 24 (v := ?_) ⟨_, rfl, rfl, rfl, rfl, rfl⟩ (by kernel_rfl) (by kernel_rfl) (by kernel_rfl) [16, 17, 18] (by kernel_rfl) (fun _ _ _ h => h) hS (fun w' hSw => ?_) ?_
      rotate_left
      · obtain ⟨⟨b0, b1, b2⟩, b3, b4⟩ := hSw
        unfold bareOp
        go_simp
        try with_reducible rfl
      simp only [Act.put, List.setIfInBounds_toArray, List.set_cons_zero, List.set_cons_succ]
      refine wpAnyB_takeP (i := 4) (some 49) (Op.move (Operand.tmp 9)) 25 (v := ?_) ⟨_, rfl, rfl, rfl, rfl, rfl⟩ (by kernel_rfl) (by kernel_rfl) (by kernel_rfl) (by kernel_rfl) (fun _ _ _ h => h) (fun _ => hS) (fun w' => ?_) ?_
      rotate_left
      · unfold bareOp
        go_simp
        try with_reducible rfl
      simp only [Act.put, List.setIfInBounds_toArray, List.set_cons_zero, List.set_cons_succ]
      refine wpAnyB_takeP (i := 5) (some 50) (Op.move (Operand.tmp 11)) 3 (v := ?_) ⟨_, rfl, rfl, rfl, rfl, rfl⟩ (by kernel_rfl) (by kernel_rfl) (by kernel_rfl) (by kernel_rfl) (fun _ _ _ h => h) (fun _ => hS) (fun w' => ?_) ?_
      rotate_left
      · unfold bareOp
        go_simp
        try with_reducible rfl
      simp only [Act.put, List.setIfInBounds_toArray, List.set_cons_zero, List.set_cons_succ]
      refine wpAnyB_takeP (i := 6) (some 51) (Op.binOp BinOp.add 3 (Operand.tmp 50) (Operand.const (Value.int IntKind.i64 1)) 3) 3 (v := ?_) ⟨_, rfl, rfl, rfl, rfl, rfl⟩ (by kernel_rfl) (by kernel_rfl) (by kernel_rfl) (by kernel_rfl) (fun _ _ _ h => h) (fun _ => hS) (fun w' => ?_) ?_
      rotate_left
      · unfold bareOp
        go_simp
        try with_reducible rfl
      simp only [Act.put, List.setIfInBounds_toArray, List.set_cons_zero, List.set_cons_succ]
      refine wpAnyB_takeP (i := 7) (some 52) (Op.indexAddr 25 (Operand.tmp 49) (Operand.tmp 51)) 0 (v := ?_) ⟨_, rfl, rfl, rfl, rfl, rfl⟩ (by kernel_rfl) (by kernel_rfl) (by kernel_rfl) (by kernel_rfl) (fun _ _ _ h => h) (fun _ => hS) (fun w' => ?_) ?_
      rotate_left
      · unfold bareOp
        go_simp
        try with_reducible rfl
      simp only [Act.put, List.setIfInBounds_toArray, List.set_cons_zero, List.set_cons_succ]
      refine wpAnyB_take (i := 8) (some 53) (Op.load 22 (Operand.tmp 52)) 22 (v := ?_) ⟨_, rfl, rfl, rfl, rfl, rfl⟩ (by kernel_rfl) (by kernel_rfl) (by kernel_rfl) [16, 17, 18] (by kernel_rfl) (fun _ _ _ h => h) hS (fun w' hSw => ?_) ?_
      rotate_left
      · obtain ⟨⟨b0, b1, b2⟩, b3, b4⟩ := hSw
        unfold bareOp
        go_simp
        try with_reducible rfl
      simp only [Act.put, List.setIfInBounds_toArray, List.set_cons_zero, List.set_cons_succ]
      refine wpAnyB_take (i := 9) (some 54) (Op.load 24 (Operand.tmp 4)) 24 (v := ?_) ⟨_, rfl, rfl, rfl, rfl, rfl⟩ (by kernel_rfl) (by kernel_rfl) (by kernel_rfl) [15, 16, 17, 18] (by kernel_rfl) (fun _ _ _ h => h) hS (fun w' hSw => ?_) ?_
      rotate_left
      · obtain ⟨⟨b0, b1, b2⟩, b3, b4⟩ := hSw
        unfold bareOp
        go_simp
        try with_reducible rfl
      simp only [Act.put, List.setIfInBounds_toArray, List.set_cons_zero, List.set_cons_succ]
      refine wpAnyB_takeP (i := 10) (some 55) (Op.move (Operand.tmp 1)) 25 (v := ?_) ⟨_, rfl, rfl, rfl, rfl, rfl⟩ (by kernel_rfl) (by kernel_rfl) (by kernel_rfl) (by kernel_rfl) (fun _ _ _ h => h) (fun _ => hS) (fun w' => ?_) ?_
      rotate_left
      · unfold bareOp
        go_simp
        try with_reducible rfl
      simp only [Act.put, List.setIfInBounds_toArray, List.set_cons_zero, List.set_cons_succ]
      refine wpAnyB_takeP (i := 11) (some 56) (Op.move (Operand.tmp 11)) 3 (v := ?_) ⟨_, rfl, rfl, rfl, rfl, rfl⟩ (by kernel_rfl) (by kernel_rfl) (by kernel_rfl) (by kernel_rfl) (fun _ _ _ h => h) (fun _ => hS) (fun w' => ?_) ?_
      rotate_left
      · unfold bareOp
        go_simp
        try with_reducible rfl
      simp only [Act.put, List.setIfInBounds_toArray, List.set_cons_zero, List.set_cons_succ]
      refine wpAnyB_takeP (i := 12) (some 57) (Op.indexAddr 25 (Operand.tmp 55) (Operand.tmp 56)) 0 (v := ?_) ⟨_, rfl, rfl, rfl, rfl, rfl⟩ (by kernel_rfl) (by kernel_rfl) (by kernel_rfl) (by kernel_rfl) (fun _ _ _ h => h) (fun _ => hS) (fun w' => ?_) ?_
      rotate_left
      · unfold bareOp
        go_simp
        try with_reducible rfl
      simp only [Act.put, List.setIfInBounds_toArray, List.set_cons_zero, List.set_cons_succ]
      refine wpAnyB_take (i := 13) (some 58) (Op.load 22 (Operand.tmp 57)) 22 (v := ?_) ⟨_, rfl, rfl, rfl, rfl, rfl⟩ (by kernel_rfl) (by kernel_rfl) (by kernel_rfl) [15, 16, 17, 18] (by kernel_rfl) (fun _ _ _ h => h) hS (fun w' hSw => ?_) ?_
      rotate_left
      · obtain ⟨⟨b0, b1, b2⟩, b3, b4⟩ := hSw
        unfold bareOp
        go_simp
        try with_reducible rfl
      simp only [Act.put, List.setIfInBounds_toArray, List.set_cons_zero, List.set_cons_succ]
      refine wpAnyB_takeP (i := 14) (some 59) (Op.move (Operand.tmp 3)) 22 (v := ?_) ⟨_, rfl, rfl, rfl, rfl, rfl⟩ (by kernel_rfl) (by kernel_rfl) (by kernel_rfl) (by kernel_rfl) (fun _ _ _ h => h) (fun _ => hS) (fun w' => ?_) ?_
      rotate_left
      · unfold bareOp
        go_simp
        try with_reducible rfl
      simp only [Act.put, List.setIfInBounds_toArray, List.set_cons_zero, List.set_cons_succ]
      refine wpAnyB_only (i := 15) (some 60) (Op.call { callee := Callee.value (Operand.func 76), args := #[Operand.tmp 54, Operand.tmp 58, Operand.tmp 59], argTypes := #[24, 22, 22] }) 22 ⟨_, rfl, rfl, rfl, rfl, rfl⟩ (by kernel_rfl) (fun K hK => ?_)
      unfold bareOp
      go_wp2_with (go_at_call 76; refine (rProduct_gen _ HH.out y0 yQ f0 fQ HB1.out).mono ?_; rintro e w8 ⟨rfl, hb8⟩)
      replace F_g := Lib.hid (F_g.out.keep hb8)
      replace F_o := Lib.hid (F_o.out.keep hb8)
      replace HBW := Lib.hid (HBW.out.trans (hb8.mono HBW.out.size))
      replace hS := And.intro F_g.out.s (And.intro ((F_o.out.at heN).trans (congrArg (fun z => some (Value.int IntKind.u64 z)) HZ.out)) ((HBW.out.cell (p := ⟨s, o + k, none⟩) hs).trans HCY.out))
      clear hb8
      refine hK.out _ _ (fun _ => hS) ?_
      clear hK K
      try simp only [Act.put, List.setIfInBounds_toArray, List.set_cons_zero, List.set_cons_succ]
      refine wpAnyB_only (i := 16) (some 61) (Op.call { callee := Callee.value (Operand.func 56), args := #[Operand.tmp 48, Operand.tmp 53, Operand.tmp 60], argTypes := #[24, 22, 22] }) 22 ⟨_, rfl, rfl, rfl, rfl, rfl⟩ (by kernel_rfl) (fun K hK => ?_)
      unfold bareOp
      go_wp2_with (go_at_call 56; refine (rSum_gen _ HH.out (Int.le_refl _) (by omega) b10 b1Q HT2.out).mono ?_; rintro e w8 ⟨rfl, hb8⟩)
      replace F_g := Lib.hid (F_g.out.keep hb8)
      replace F_o := Lib.hid (F_o.out.keep hb8)
      replace HBW := Lib.hid (HBW.out.trans (hb8.mono HBW.out.size))
      replace hS := And.intro F_g.out.s (And.intro ((F_o.out.at heN).trans (congrArg (fun z => some (Value.int IntKind.u64 z)) HZ.out)) ((HBW.out.cell (p := ⟨s, o + k, none⟩) hs).trans HCY.out))
      clear hb8
      refine hK.out _ _ (fun _ => hS) ?_
      clear hK K
      try simp only [Act.put, List.setIfInBounds_toArray, List.set_cons_zero, List.set_cons_succ]
      refine wpAnyB_takeP (i := 17) (some 62) (Op.indexAddr 25 (Operand.tmp 45) (Operand.tmp 47)) 0 (v := ?_) ⟨_, rfl, rfl, rfl, rfl, rfl⟩ (by kernel_rfl) (by kernel_rfl) (by kernel_rfl) (by kernel_rfl) (fun _ _ _ h => h) (fun _ => hS) (fun w' => ?_) ?_
      rotate_left
      · unfold bareOp
        go_simp
        try with_reducible rfl
      simp only [Act.put, List.setIfInBounds_toArray, List.set_cons_zero, List.set_cons_succ]
      refine wpAnyB_only (i := 18) none (Op.store 22 (Operand.tmp 62) (Operand.tmp 61)) 0 ⟨_, rfl, rfl, rfl, rfl, rfl⟩ (by kernel_rfl) (fun K hK => ?_)
      unfold bareOp
      have hcs := hS.2.1
      have hfs := F_o.out.fz e
      go_wp2_with fail
      refine hK.out _ _ (fun h => absurd (h.symm.trans (by kernel_rfl : _ = true)) (by decide)) ?_
      clear hK K
      try simp only [Act.put, List.setIfInBounds_toArray, List.set_cons_zero, List.set_cons_succ]
      refine wpAnyB_done (by kernel_rfl) ?_ _
      replace F_g := Lib.hid (F_g.out.far (c := w.heap.size + 1) (o := e) (by omega) (.int .u64 t2))
      replace F_o := Lib.hid (F_o.out.set (k := e) t2)
      replace HBW := Lib.hid (HBW.out.setCell (p := ⟨w.heap.size + 1, e, none⟩) (by show w.heap.size ≤ w.heap.size + 1; omega) (.int .u64 t2))
      clear hS
      go_wp2_with fail
      go_roundw
      case rel => exact ⟨e, hen, rfl, _, HST.out, F_o.out, F_g.out, HBW.out⟩
      case measure => have := HE.out; simp [intOf] <;> omega

theorem sumL_rng {Q : Int} {ids vs os : List Int} {i : Nat} (hQ : 0 < Q) (hnd : ids.Nodup) (h : sumL Q ids (List.replicate ids.length 0) ((ids.zip vs).take i) = some os) : os.length = ids.length ∧ ∀ x, x ∈ os → 0 ≤ x ∧ x < Q := by
  obtain ⟨h1, h2, -, -⟩ := sumL_spec hQ hnd h (by simp) (fun x hx => by rw [List.mem_replicate] at hx; rw [hx.2]; exact ⟨Int.le_refl _, hQ⟩) (fun q hq => (List.of_mem_zip (List.mem_of_mem_take hq)).1)
  exact ⟨h1, h2⟩

set_option maxRecDepth 100000 in
set_option maxHeartbeats 8000000 in
theorem rthrough_any {P Q G : Int} {s o s2 o2 n c d : Nat} {ids vs : List Int} (w : World) (hH : Has P Q G) (h1 : 1 ≤ n) (hl : n = ids.length) (hl2 : n = vs.length) (hn : n ≤ 8) (hs : s < w.heap.size) (hcell : ∀ i, i < n → w.cell? ⟨s, o + i, none⟩ = some (.int .i64 (ids.getD i 0))) (hbd : ∀ k, k < ids.length → 0 ≤ ids.getD k 0 ∧ ids.getD k 0 < Q ∧ ids.getD k 0 ≤ 8) (hnd : ids.Nodup)
    (hs2 : s2 < w.heap.size) (hcell2 : ∀ i, i < n → w.cell? ⟨s2, o2 + i, none⟩ = some (.int .u64 (vs.getD i 0))) (hvr : ∀ x, x ∈ vs → 0 ≤ x ∧ x < Q) :
    Calls Try.prog 77 #[.agg #[.int .u64 P, .int .u64 Q, .int .u64 G], .slice (some ⟨s, o, none⟩) n c, .slice (some ⟨s2, o2, none⟩) n d] w (RetRowB w (throughS Q ids vs)) := by
  obtain ⟨p5, p3, hQ', pq, g2, gP⟩ := id hH
  have q3 : Q < 1073741824 := by omega
  have q1 : 1 < Q := by omega
  have HH := Lib.hid hH
  have HLI := Lib.hid hl
  have HLV := Lib.hid hl2
  have HC := Lib.hid hcell
  have HC2 := Lib.hid hcell2
  have HBD := Lib.hid hbd
  have HND := Lib.hid hnd
  have HVR := Lib.hid hvr
  have HLN := Lib.hid (hl2.symm.trans hl)
  clear hH hl hl2 hcell hcell2 hbd hnd hvr pq
  obtain ⟨i0, hi, hz0, hz1, hz2⟩ := info_parts (P := Try.prog) (e := 22) (z := .int .u64 0) (size := 1) (bytes := 8) (by kernel_rfl)
  have F_g := Lib.hid (show Boxed (w.alloc (.cells #[.int .u64 P, .int .u64 Q, .int .u64 G] 24)) (w.heap.size) P Q G from Boxed.at _ P Q G _ (w.heap.size) (by simp))
  have HBW := Lib.hid (show Below w.heap.size w (w.alloc (.cells #[.int .u64 P, .int .u64 Q, .int .u64 G] 24)) from (Below.refl _ _).alloc (by simp <;> omega) _)
  go_enter Try.func77, Try.ntmps77
  go_wp2_with (at_make; refine wpList_make_full _ rfl _ _ 25 rfl (w.heap.size + 1) 22 i0 (.int .u64 0) 1 Try.underlying25 hi hz0 hz1 _ _ _ _ n rfl rfl rfl rfl (by rw [hz2]; omega) (by unfold maxLen; omega) (by simp) ?_)
  intro w5 hown hgr
  have HOWN := Lib.hid hown
  have HGR := Lib.hid hgr
  clear hown hgr
  have hb5 := Below.row (n := w.heap.size + 1) HGR.out (fun j hj => by cases hj) (by simp)
  have F_o := Lib.hid (OwnN.madeB (W := w5) (n₀ := w.heap.size + 1) (g := w.heap.size + 1) (n := n) (by have h9 := HOWN.out; simpa only [World.size_alloc] using h9))
  replace F_g := Lib.hid (F_g.out.keepN hb5 (Nat.lt_succ_self _))
  replace HBW := Lib.hid (HBW.out.trans (hb5.mono (Nat.le_succ _)))
  clear hb5 HOWN HGR hi hz0 hz1 hz2 i0
  go_wp2_with fail
  go_loopw [9, 10, 11, 12, 13, 14] (fun c9 c10 c11 c12 c13 c14 wr => ∃ i : Nat, i ≤ n ∧ c9 = .int .i64 i ∧ ∃ os : List Int, Hid (sumL Q ids (List.replicate ids.length 0) ((ids.zip vs).take i) = some os) ∧ Hid (OwnN wr (w.heap.size + 1) (w.heap.size + 1) n n os) ∧ Hid (Boxed wr w.heap.size P Q G) ∧ Hid (Below w.heap.size w wr)) (fun c9 _ _ _ _ _ _ => n - (intOf c9).toNat)
  case atStart => exact ⟨0, Nat.zero_le _, rfl, List.replicate n 0, (show sumL Q ids (List.replicate ids.length 0) ((ids.zip vs).take 0) = some (List.replicate n 0) by rw [List.take_zero, HLI.out]; rfl), F_o.out, F_g.out, HBW.out⟩
  case round =>
    clear F_g F_o HBW
    obtain ⟨i, hi, rfl, os, HI, F_o, F_g, HBW⟩ := hrel
    obtain ⟨wo, rfl⟩ : ∃ wo : World, wo = wr := ⟨_, rfl⟩
    by_cases hlt : i < n
    case neg =>
      have HZ := Lib.hid (show throughS Q ids vs = some os by
        have h9 := HI.out
        rw [List.take_of_length_le (by rw [List.length_zip, ← HLI.out, ← HLV.out]; omega)] at h9
        exact h9)
      go_wp2_with fail
      go_ret2
      refine ⟨_, by rw [HZ.out]; rfl, ?_, HBW.out⟩
      rw [HZ.out]; exact F_o.out.own.mono (Nat.le_succ _)
    case pos =>
      obtain ⟨HOL, HOR⟩ := sumL_rng (by omega) HND.out HI.out
      replace HOL := Lib.hid HOL
      replace HOR := Lib.hid HOR
      have hi0 : (0 : Int) ≤ (i : Int) := by omega
      have hi1 : (i : Int) < (n : Int) := by omega
      obtain ⟨x, hx⟩ : ∃ x, ids.getD i 0 = x := ⟨_, rfl⟩
      obtain ⟨v, hv⟩ : ∃ v, vs.getD i 0 = v := ⟨_, rfl⟩
      have HCX := Lib.hid (show w.cell? ⟨s, o + i, none⟩ = some (.int .i64 x) by rw [← hx]; exact HC.out i hlt)
      obtain ⟨x0, xQ, x8⟩ := show 0 ≤ x ∧ x < Q ∧ x ≤ 8 by rw [← hx]; exact HBD.out i (by rw [← HLI.out]; exact hlt)
      obtain ⟨v0, vQ⟩ := show 0 ≤ v ∧ v < Q by rw [← hv]; exact getD_rng (by omega) HVR.out i
      have hcv := (HBW.out.cell (p := ⟨s2, o2 + i, none⟩) hs2).trans (HC2.out i hlt)
      rw [hv] at hcv
      have HXI := Lib.hid hx
      have HVI := Lib.hid hv
      have hwx : IntKind.u64.wrap x = x := wrap_u x0 (by omega)
      clear hx hv
      go_wp2_with fail
      clear hcv
      have hwl := F_g.out.lt
      have hol := F_o.out.lt.2
      have F_p := Lib.hid (OwnN.lit (W := wo) (n₀ := wo.heap.size) v (Nat.le_refl _))
      replace F_o := Lib.hid (F_o.out.keep ((Below.refl _ _).alloc (Nat.le_refl _) (.cells #[.int .u64 v] 22)))
      replace F_g := Lib.hid (F_g.out.alloc (.cells #[.int .u64 v] 22))
      replace HBW := Lib.hid (HBW.out.alloc HBW.out.size (.cells #[.int .u64 v] 22))
      go_loopw [10, 11, 12, 13] (fun c10 c11 c12 c13 wr => ∃ j : Nat, j ≤ n ∧ c11 = .int .i64 j ∧ ∃ (pk : List Int) (gp L cap : Nat), c10 = .slice (some ⟨gp, 0, none⟩) L cap ∧ Hid (partL Q x [v] ((ids.take j).filter fun y => decide (y ≠ x)) = some pk) ∧ Hid (OwnN wr wo.heap.size gp L cap pk) ∧ Hid (OwnN wr (w.heap.size + 1) (w.heap.size + 1) n n os) ∧ Hid (Boxed wr w.heap.size P Q G) ∧ Hid (Below w.heap.size w wr)) (fun _ c11 _ _ _ => n - (intOf c11).toNat)
      case atStart => exact ⟨0, Nat.zero_le _, rfl, [v], wo.heap.size, 1, 1, rfl, (show partL Q x [v] ((ids.take 0).filter fun y => decide (y ≠ x)) = some [v] from rfl), F_p.out, F_o.out, F_g.out, HBW.out⟩
      case round =>
        clear F_g F_o F_p HBW
        obtain ⟨j, hj, rfl, pk, gp, L, cap, rfl, HP, F_p, F_o, F_g, HBW⟩ := hrel
        have hL9 : L ≤ 9 ∧ 1 ≤ L := by
          have h1 := F_p.out.len
          have h2 := partL_length HP.out
          have h3 := List.length_filter_le (fun y => decide (y ≠ x)) (ids.take j)
          have h4 := HLI.out
          simp only [List.length_take, List.length_cons, List.length_nil] at h2 h3
          omega
        have HPR := Lib.hid (partL_range (by omega) HP.out (fun z hz => by rw [List.mem_singleton] at hz; rw [hz]; exact ⟨v0, vQ⟩))
        have hj0 : (0 : Int) ≤ (j : Int) := by omega
        by_cases hjl : j < n
        case neg =>
          have hxm : x ∈ ids := by rw [← HXI.out, getD_at (by rw [← HLI.out]; exact hlt)]; exact List.getElem_mem _
          have HPA := Lib.hid (show partL Q x [v] (ids.filter fun y => decide (y ≠ x)) = some pk by
            have h9 := HP.out
            rw [List.take_of_length_le (by rw [← HLI.out]; omega)] at h9
            exact h9)
          have hLn : L = n := by
            have h1 := F_p.out.len
            have h2 := partL_length HPA.out
            have h3 := filter_ne_length HND.out hxm
            have h4 := HLI.out
            simp only [List.length_cons, List.length_nil] at h2
            omega
          subst hLn
          have HSN := Lib.hid (show sumL Q ids (List.replicate ids.length 0) ((ids.zip vs).take (i + 1)) = some (List.zipWith (fun a b => (a + b) % Q) os pk) from
            sumL_snoc HI.out (by rw [← HLI.out]; exact hlt) HLN.out (by rw [HXI.out, HVI.out]; exact HPA.out))
          have HPL := Lib.hid (show pk.length = os.length by rw [HOL.out, ← HLI.out]; exact F_p.out.len)
          have hpg := F_p.out.lt.1
          clear HP HPA hL9 hxm
          go_wp2_with fail
          go_loopw [14] (fun c14 wr => ∃ k : Nat, k ≤ L ∧ c14 = .int .i64 k ∧ ∃ o3 : List Int, Hid (SumIn Q os pk k o3) ∧ Hid (OwnN wr (w.heap.size + 1) (w.heap.size + 1) L L o3) ∧ Hid (OwnN wr wo.heap.size gp L cap pk) ∧ Hid (Boxed wr w.heap.size P Q G) ∧ Hid (Below w.heap.size w wr)) (fun c14 _ => L - (intOf c14).toNat)
          case atStart => exact ⟨0, Nat.zero_le _, rfl, os, SumIn.start Q os pk, F_o.out, F_p.out, F_g.out, HBW.out⟩
          case round =>
            clear F_g F_o F_p HBW
            obtain ⟨k, hk, rfl, o3, HS, F_o, F_p, F_g, HBW⟩ := hrel
            by_cases hkn : k < L
            case neg =>
              have HZ := Lib.hid (show o3 = List.zipWith (fun a b => (a + b) % Q) os pk from SumIn.done HPL.out (by rw [show os.length = k by rw [HOL.out, ← HLI.out]; omega]; exact HS.out))
              go_wp2_with fail
              go_roundw
              case rel => exact ⟨i + 1, by omega, by go_num, _, HSN.out, (by rw [← HZ.out]; exact F_o.out), F_g.out, HBW.out⟩
              case measure => simp [intOf] <;> omega
            case pos =>
              have hk0 : (0 : Int) ≤ (k : Int) := by omega
              have hk1 : (k : Int) < (L : Int) := by omega
              obtain ⟨a1, ha⟩ : ∃ z, o3.getD k 0 = z := ⟨_, rfl⟩
              obtain ⟨b1, hb⟩ : ∃ z, pk.getD k 0 = z := ⟨_, rfl⟩
              obtain ⟨a10, a1Q⟩ := show 0 ≤ a1 ∧ a1 < Q by rw [← ha]; exact HS.out.rng (by omega) HOR.out k
              obtain ⟨b10, b1Q⟩ := show 0 ≤ b1 ∧ b1 < Q by rw [← hb]; exact getD_rng (by omega) HPR.out k
              obtain ⟨t, ht⟩ : ∃ z, (a1 + b1) % Q = z := ⟨_, rfl⟩
              have HST := Lib.hid (show SumIn Q os pk (k + 1) (o3.set k t) by
                have h9 := HS.out.step (by rw [HOL.out, ← HLI.out]; exact hkn)
                rwa [ha, hb, ht] at h9)
              have HA := Lib.hid ha
              have HB := Lib.hid hb
              have HT := Lib.hid ht
              clear ha hb ht
              go_wp2_with fail
              replace F_g := Lib.hid F_g.out.drew
              replace F_o := Lib.hid F_o.out.drew
              replace F_p := Lib.hid F_p.out.drew
              replace HBW := Lib.hid HBW.out.drew
              have hS := And.intro F_g.out.s (And.intro ((F_o.out.at hkn).trans (congrArg (fun z => some (Value.int IntKind.u64 z)) HA.out)) ((F_p.out.at hkn).trans (congrArg (fun z => some (Value.int IntKind.u64 z)) HB.out)))
              refine wp_region_stage 13 (fun w' => SBox w' w.heap.size P Q G ∧ w'.cell? ⟨w.heap.size + 1, k, none⟩ = some (.int .u64 a1) ∧ w'.cell? ⟨gp, k, none⟩ = some (.int .u64 b1)) (by kernel_rfl) ?_
              refine wpAnyB_takeP (i := 0) (some 71) (Op.move (Operand.tmp 8)) 25 (v := ?_) ⟨_, rfl, rfl, rfl, rfl, rfl⟩ (by kernel_rfl) (by kernel_rfl) (by kernel_rfl) (by kernel_rfl) (fun _ _ _ h => h) (fun _ => hS) (fun w' => ?_) ?_
              rotate_left
              · unfold bareOp
                go_simp
                try with_reducible rfl
              simp only [Act.put, List.setIfInBounds_toArray, List.set_cons_zero, List.set_cons_succ]
              refine wpAnyB_takeP (i := 1) (some 72) (Op.move (Operand.tmp 14)) 3 (v := ?_) ⟨_, rfl, rfl, rfl, rfl, rfl⟩ (by kernel_rfl) (by kernel_rfl) (by kernel_rfl) (by kernel_rfl) (fun _ _ _ h => h) (fun _ => hS) (fun w' => ?_) ?_
              rotate_left
              · unfold bareOp
                go_simp
                try with_reducible rfl
              simp only [Act.put, List.setIfInBounds_toArray, List.set_cons_zero, List.set_cons_succ]
              refine wpAnyB_take (i := 2) (some 73) (Op.load 24 (Operand.tmp 3)) 24 (v := ?_) ⟨_, rfl, rfl, rfl, rfl, rfl⟩ (by kernel_rfl) (by kernel_rfl) (by kernel_rfl) [11, 12, 13] (by kernel_rfl) (fun _ _ _ h => h) hS (fun w' hSw => ?_) ?_
              rotate_left
              · obtain ⟨⟨b0, b1x, b2⟩, b3, b4⟩ := hSw
                unfold bareOp
                go_simp
                try with_reducible rfl
              simp only [Act.put, List.setIfInBounds_toArray, List.set_cons_zero, List.set_cons_succ]
              refine wpAnyB_takeP (i := 3) (some 74) (Op.move (Operand.tmp 8)) 25 (v := ?_) ⟨_, rfl, rfl, rfl, rfl, rfl⟩ (by kernel_rfl) (by kernel_rfl) (by kernel_rfl) (by kernel_rfl) (fun _ _ _ h => h) (fun _ => hS) (fun w' => ?_) ?_
              rotate_left
              · unfold bareOp
                go_simp
                try with_reducible rfl
              simp only [Act.put, List.setIfInBounds_toArray, List.set_cons_zero, List.set_cons_succ]
              refine wpAnyB_takeP (i := 4) (some 75) (Op.move (Operand.tmp 14)) 3 (v := ?_) ⟨_, rfl, rfl, rfl, rfl, rfl⟩ (by kernel_rfl) (by kernel_rfl) (by kernel_rfl) (by kernel_rfl) (fun _ _ _ h => h) (fun _ => hS) (fun w' => ?_) ?_
              rotate_left
              · unfold bareOp
                go_simp
                try with_reducible rfl
              simp only [Act.put, List.setIfInBounds_toArray, List.set_cons_zero, List.set_cons_succ]
              refine wpAnyB_takeP (i := 5) (some 76) (Op.indexAddr 25 (Operand.tmp 74) (Operand.tmp 75)) 0 (v := ?_) ⟨_, rfl, rfl, rfl, rfl, rfl⟩ (by kernel_rfl) (by kernel_rfl) (by kernel_rfl) (by kernel_rfl) (fun _ _ _ h => h) (fun _ => hS) (fun w' => ?_) ?_
              rotate_left
              · unfold bareOp
                go_simp
                try with_reducible rfl
              simp only [Act.put, List.setIfInBounds_toArray, List.set_cons_zero, List.set_cons_succ]
              refine wpAnyB_take (i := 6) (some 77) (Op.load 22 (Operand.tmp 76)) 22 (v := ?_) ⟨_, rfl, rfl, rfl, rfl, rfl⟩ (by kernel_rfl) (by kernel_rfl) (by kernel_rfl) [11, 12, 13] (by kernel_rfl) (fun _ _ _ h => h) hS (fun w' hSw => ?_) ?_
              rotate_left
              · obtain ⟨⟨b0, b1x, b2⟩, b3, b4⟩ := hSw
                unfold bareOp
                go_simp
                try with_reducible rfl
              simp only [Act.put, List.setIfInBounds_toArray, List.set_cons_zero, List.set_cons_succ]
              refine wpAnyB_takeP (i := 7) (some 78) (Op.move (Operand.tmp 10)) 25 (v := ?_) ⟨_, rfl, rfl, rfl, rfl, rfl⟩ (by kernel_rfl) (by kernel_rfl) (by kernel_rfl) (by kernel_rfl) (fun _ _ _ h => h) (fun _ => hS) (fun w' => ?_) ?_
              rotate_left
              · unfold bareOp
                go_simp
                try with_reducible rfl
              simp only [Act.put, List.setIfInBounds_toArray, List.set_cons_zero, List.set_cons_succ]
              refine wpAnyB_takeP (i := 8) (some 79) (Op.move (Operand.tmp 14)) 3 (v := ?_) ⟨_, rfl, rfl, rfl, rfl, rfl⟩ (by kernel_rfl) (by kernel_rfl) (by kernel_rfl) (by kernel_rfl) (fun _ _ _ h => h) (fun _ => hS) (fun w' => ?_) ?_
              rotate_left
              · unfold bareOp
                go_simp
                try with_reducible rfl
              simp only [Act.put, List.setIfInBounds_toArray, List.set_cons_zero, List.set_cons_succ]
              refine wpAnyB_takeP (i := 9) (some 80) (Op.indexAddr 25 (Operand.tmp 78) (Operand.tmp 79)) 0 (v := ?_) ⟨_, rfl, rfl, rfl, rfl, rfl⟩ (by kernel_rfl) (by kernel_rfl) (by kernel_rfl) (by kernel_rfl) (fun _ _ _ h => h) (fun _ => hS) (fun w' => ?_) ?_
              rotate_left
              · unfold bareOp
                go_simp
                try with_reducible rfl
              simp only [Act.put, List.setIfInBounds_toArray, List.set_cons_zero, List.set_cons_succ]
              refine wpAnyB_take (i := 10) (some 81) (Op.load 22 (Operand.tmp 80)) 22 (v := ?_) ⟨_, rfl, rfl, rfl, rfl, rfl⟩ (by kernel_rfl) (by kernel_rfl) (by kernel_rfl) [11, 12, 13] (by kernel_rfl) (fun _ _ _ h => h) hS (fun w' hSw => ?_) ?_
              rotate_left
              · obtain ⟨⟨b0, b1x, b2⟩, b3, b4⟩ := hSw
                unfold bareOp
                go_simp
                try with_reducible rfl
              simp only [Act.put, List.setIfInBounds_toArray, List.set_cons_zero, List.set_cons_succ]
              refine wpAnyB_only (i := 11) (some 82) (Op.call { callee := Callee.value (Operand.func 56), args := #[Operand.tmp 73, Operand.tmp 77, Operand.tmp 81], argTypes := #[24, 22, 22] }) 22 ⟨_, rfl, rfl, rfl, rfl, rfl⟩ (by kernel_rfl) (fun K hK => ?_)
              unfold bareOp
              go_wp2_with (go_at_call 56; refine (rSum_gen _ HH.out a10 a1Q b10 b1Q HT.out).mono ?_; rintro e w8 ⟨rfl, hb8⟩)
              replace F_g := Lib.hid (F_g.out.keep hb8)
              replace F_o := Lib.hid (F_o.out.keep hb8)
              replace F_p := Lib.hid (F_p.out.keep hb8)
              replace HBW := Lib.hid (HBW.out.trans (hb8.mono HBW.out.size))
              replace hS := And.intro F_g.out.s (And.intro ((F_o.out.at hkn).trans (congrArg (fun z => some (Value.int IntKind.u64 z)) HA.out)) ((F_p.out.at hkn).trans (congrArg (fun z => some (Value.int IntKind.u64 z)) HB.out)))
              clear hb8
              refine hK.out _ _ (fun _ => hS) ?_
              clear hK K
              try simp only [Act.put, List.setIfInBounds_toArray, List.set_cons_zero, List.set_cons_succ]
              refine wpAnyB_takeP (i := 12) (some 83) (Op.indexAddr 25 (Operand.tmp 71) (Operand.tmp 72)) 0 (v := ?_) ⟨_, rfl, rfl, rfl, rfl, rfl⟩ (by kernel_rfl) (by kernel_rfl) (by kernel_rfl) (by kernel_rfl) (fun _ _ _ h => h) (fun _ => hS) (fun w' => ?_) ?_
              rotate_left
              · unfold bareOp
                go_simp
                try with_reducible rfl
              simp only [Act.put, List.setIfInBounds_toArray, List.set_cons_zero, List.set_cons_succ]
              refine wpAnyB_only (i := 13) none (Op.store 22 (Operand.tmp 83) (Operand.tmp 82)) 0 ⟨_, rfl, rfl, rfl, rfl, rfl⟩ (by kernel_rfl) (fun K hK => ?_)
              unfold bareOp
              have hcs := hS.2.1
              have hfs := F_o.out.fz k
              go_wp2_with fail
              refine hK.out _ _ (fun h => absurd (h.symm.trans (by kernel_rfl : _ = true)) (by decide)) ?_
              clear hK K
              try simp only [Act.put, List.setIfInBounds_toArray, List.set_cons_zero, List.set_cons_succ]
              refine wpAnyB_done (by kernel_rfl) ?_ _
              replace F_g := Lib.hid (F_g.out.far (c := w.heap.size + 1) (o := k) (by omega) (.int .u64 t))
              replace F_o := Lib.hid (F_o.out.set (k := k) t)
              replace F_p := Lib.hid (F_p.out.far (b := w.heap.size + 1) (o := k) (by omega) (.int .u64 t))
              replace HBW := Lib.hid (HBW.out.setCell (p := ⟨w.heap.size + 1, k, none⟩) (by show w.heap.size ≤ w.heap.size + 1; omega) (.int .u64 t))
              clear hS
              go_wp2_with fail
              go_roundw
              case rel => first | exact ⟨k + 1, by omega, by go_num, _, HST.out, F_o.out, F_p.out, F_g.out, HBW.out⟩ | ((repeat apply Exists.intro); exact ⟨⟨k + 1, by omega, by go_num, _, HST.out, F_o.out, F_p.out, F_g.out, HBW.out⟩, rfl⟩)
              case measure => simp [intOf] <;> omega
        case pos =>
          have hjl' : j < ids.length := by rw [← HLI.out]; exact hjl
          have hj1 : (j : Int) < (n : Int) := by omega
          by_cases hjk : j = i
          case pos =>
            have HE := Lib.hid (show partL Q x [v] ((ids.take (j + 1)).filter fun y => decide (y ≠ x)) = some pk by
              rw [filter_take_out hjl' (by rw [← getD_at hjl', hjk]; exact HXI.out)]; exact HP.out)
            have dj : ((j : Int) == (i : Int)) = true := by simp; omega
            have djn : (j == i) = true := by simpa using hjk
            clear hjk
            go_wp2_with fail
            go_roundw
            case rel => exact ⟨j + 1, by omega, by go_num, pk, gp, L, cap, rfl, HE.out, F_p.out, F_o.out, F_g.out, HBW.out⟩
            case measure => simp [intOf] <;> omega
          case neg =>
            have hne : ids[j] ≠ x := fun e => hjk (nodup_inj HND.out hjl' (by rw [← HLI.out]; exact hlt) (e.trans (by rw [← HXI.out, getD_at (by rw [← HLI.out]; exact hlt)])))
            obtain ⟨y, hy⟩ : ∃ y, ids.getD j 0 = y := ⟨_, rfl⟩
            have HCY := Lib.hid (show w.cell? ⟨s, o + j, none⟩ = some (.int .i64 y) by rw [← hy]; exact HC.out j hjl)
            obtain ⟨y0, yQ, y8⟩ := show 0 ≤ y ∧ y < Q ∧ y ≤ 8 by rw [← hy]; exact HBD.out j hjl'
            have hwy : IntKind.u64.wrap y = y := wrap_u y0 (by omega)
            have HYJ := Lib.hid (show ids[j] = y by rw [← hy, getD_at hjl'])
            have HNE := Lib.hid hne
            have HYD := Lib.hid hy
            have HJI := Lib.hid hjk
            have dj : ((j : Int) == (i : Int)) = false := by simp; omega
            have djn : (j == i) = false := by simpa using hjk
            obtain ⟨dd, hd⟩ : ∃ d, (x - y) % Q = d := ⟨_, rfl⟩
            have d0 : 0 ≤ dd := by rw [← hd]; exact Int.emod_nonneg _ (by omega)
            have dQ : dd < Q := by rw [← hd]; exact Int.emod_lt_of_pos _ (by omega)
            have HDD := Lib.hid hd
            clear hy hne hjk hd
            cases hinv : invF Q dd with
            | none =>
              have HU := Lib.hid (invS_none (by omega) hinv)
              have HZ := Lib.hid (show throughS Q ids vs = none from through_none (i := i) (j := j) (by omega) HND.out HLN.out (by rw [← HLI.out]; exact hlt) hjl' (fun e => HJI.out e.symm) (by rw [HXI.out, HYD.out, HDD.out]; exact hinv))
              clear hinv
              go_wp2_with fail
              go_wp2_with fail
              replace F_g := Lib.hid F_g.out.drew
              replace F_o := Lib.hid F_o.out.drew
              replace F_p := Lib.hid F_p.out.drew
              replace HBW := Lib.hid HBW.out.drew
              have hS := And.intro F_g.out.s (And.intro ((HBW.out.cell (p := ⟨s, o + i, none⟩) hs).trans HCX.out) ((HBW.out.cell (p := ⟨s, o + j, none⟩) hs).trans HCY.out))
              refine wp_region_stage 18 (fun w' => SBox w' w.heap.size P Q G ∧ w'.cell? ⟨s, o + i, none⟩ = some (.int .i64 x) ∧ w'.cell? ⟨s, o + j, none⟩ = some (.int .i64 y)) (by kernel_rfl) ?_
              refine wpAnyB_take (i := 0) (some 39) (Op.load 24 (Operand.tmp 3)) 24 (v := ?_) ⟨_, rfl, rfl, rfl, rfl, rfl⟩ (by kernel_rfl) (by kernel_rfl) (by kernel_rfl) [13, 14, 15, 16, 17, 18] (by kernel_rfl) (fun _ _ _ h => h) hS (fun w' hSw => ?_) ?_
              rotate_left
              · obtain ⟨⟨b0, b1, b2⟩, b3, b4⟩ := hSw
                unfold bareOp
                go_simp
                try with_reducible rfl
              simp only [Act.put, List.setIfInBounds_toArray, List.set_cons_zero, List.set_cons_succ]
              refine wpAnyB_take (i := 1) (some 40) (Op.load 24 (Operand.tmp 3)) 24 (v := ?_) ⟨_, rfl, rfl, rfl, rfl, rfl⟩ (by kernel_rfl) (by kernel_rfl) (by kernel_rfl) [12, 13, 14, 15, 16, 17, 18] (by kernel_rfl) (fun _ _ _ h => h) hS (fun w' hSw => ?_) ?_
              rotate_left
              · obtain ⟨⟨b0, b1, b2⟩, b3, b4⟩ := hSw
                unfold bareOp
                go_simp
                try with_reducible rfl
              simp only [Act.put, List.setIfInBounds_toArray, List.set_cons_zero, List.set_cons_succ]
              refine wpAnyB_takeP (i := 2) (some 41) (Op.move (Operand.tmp 1)) 51 (v := ?_) ⟨_, rfl, rfl, rfl, rfl, rfl⟩ (by kernel_rfl) (by kernel_rfl) (by kernel_rfl) (by kernel_rfl) (fun _ _ _ h => h) (fun _ => hS) (fun w' => ?_) ?_
              rotate_left
              · unfold bareOp
                go_simp
                try with_reducible rfl
              simp only [Act.put, List.setIfInBounds_toArray, List.set_cons_zero, List.set_cons_succ]
              refine wpAnyB_takeP (i := 3) (some 42) (Op.move (Operand.tmp 9)) 3 (v := ?_) ⟨_, rfl, rfl, rfl, rfl, rfl⟩ (by kernel_rfl) (by kernel_rfl) (by kernel_rfl) (by kernel_rfl) (fun _ _ _ h => h) (fun _ => hS) (fun w' => ?_) ?_
              rotate_left
              · unfold bareOp
                go_simp
                try with_reducible rfl
              simp only [Act.put, List.setIfInBounds_toArray, List.set_cons_zero, List.set_cons_succ]
              refine wpAnyB_takeP (i := 4) (some 43) (Op.indexAddr 51 (Operand.tmp 41) (Operand.tmp 42)) 0 (v := ?_) ⟨_, rfl, rfl, rfl, rfl, rfl⟩ (by kernel_rfl) (by kernel_rfl) (by kernel_rfl) (by kernel_rfl) (fun _ _ _ h => h) (fun _ => hS) (fun w' => ?_) ?_
              rotate_left
              · unfold bareOp
                go_simp
                try with_reducible rfl
              simp only [Act.put, List.setIfInBounds_toArray, List.set_cons_zero, List.set_cons_succ]
              refine wpAnyB_take (i := 5) (some 44) (Op.load 3 (Operand.tmp 43)) 3 (v := ?_) ⟨_, rfl, rfl, rfl, rfl, rfl⟩ (by kernel_rfl) (by kernel_rfl) (by kernel_rfl) [6, 12, 13, 14, 15, 16, 17, 18] (by kernel_rfl) (fun _ _ _ h => h) hS (fun w' hSw => ?_) ?_
              rotate_left
              · obtain ⟨⟨b0, b1, b2⟩, b3, b4⟩ := hSw
                unfold bareOp
                go_simp
                try with_reducible rfl
              simp only [Act.put, List.setIfInBounds_toArray, List.set_cons_zero, List.set_cons_succ]
              refine wpAnyB_takeP (i := 6) (some 45) (Op.convert 3 22 (Operand.tmp 44)) 22 (v := ?_) ⟨_, rfl, rfl, rfl, rfl, rfl⟩ (by kernel_rfl) (by kernel_rfl) (by kernel_rfl) (by kernel_rfl) (fun _ _ _ h => h) (fun _ => hS) (fun w' => ?_) ?_
              rotate_left
              · unfold bareOp
                go_simp
                try with_reducible rfl
              simp only [Act.put, List.setIfInBounds_toArray, List.set_cons_zero, List.set_cons_succ]
              refine wpAnyB_takeP (i := 7) (some 46) (Op.move (Operand.tmp 1)) 51 (v := ?_) ⟨_, rfl, rfl, rfl, rfl, rfl⟩ (by kernel_rfl) (by kernel_rfl) (by kernel_rfl) (by kernel_rfl) (fun _ _ _ h => h) (fun _ => hS) (fun w' => ?_) ?_
              rotate_left
              · unfold bareOp
                go_simp
                try with_reducible rfl
              simp only [Act.put, List.setIfInBounds_toArray, List.set_cons_zero, List.set_cons_succ]
              refine wpAnyB_takeP (i := 8) (some 47) (Op.move (Operand.tmp 11)) 3 (v := ?_) ⟨_, rfl, rfl, rfl, rfl, rfl⟩ (by kernel_rfl) (by kernel_rfl) (by kernel_rfl) (by kernel_rfl) (fun _ _ _ h => h) (fun _ => hS) (fun w' => ?_) ?_
              rotate_left
              · unfold bareOp
                go_simp
                try with_reducible rfl
              simp only [Act.put, List.setIfInBounds_toArray, List.set_cons_zero, List.set_cons_succ]
              refine wpAnyB_takeP (i := 9) (some 48) (Op.indexAddr 51 (Operand.tmp 46) (Operand.tmp 47)) 0 (v := ?_) ⟨_, rfl, rfl, rfl, rfl, rfl⟩ (by kernel_rfl) (by kernel_rfl) (by kernel_rfl) (by kernel_rfl) (fun _ _ _ h => h) (fun _ => hS) (fun w' => ?_) ?_
              rotate_left
              · unfold bareOp
                go_simp
                try with_reducible rfl
              simp only [Act.put, List.setIfInBounds_toArray, List.set_cons_zero, List.set_cons_succ]
              refine wpAnyB_take (i := 10) (some 49) (Op.load 3 (Operand.tmp 48)) 3 (v := ?_) ⟨_, rfl, rfl, rfl, rfl, rfl⟩ (by kernel_rfl) (by kernel_rfl) (by kernel_rfl) [11, 12, 13, 14, 15, 16, 17, 18] (by kernel_rfl) (fun _ _ _ h => h) hS (fun w' hSw => ?_) ?_
              rotate_left
              · obtain ⟨⟨b0, b1, b2⟩, b3, b4⟩ := hSw
                unfold bareOp
                go_simp
                try with_reducible rfl
              simp only [Act.put, List.setIfInBounds_toArray, List.set_cons_zero, List.set_cons_succ]
              refine wpAnyB_takeP (i := 11) (some 50) (Op.convert 3 22 (Operand.tmp 49)) 22 (v := ?_) ⟨_, rfl, rfl, rfl, rfl, rfl⟩ (by kernel_rfl) (by kernel_rfl) (by kernel_rfl) (by kernel_rfl) (fun _ _ _ h => h) (fun _ => hS) (fun w' => ?_) ?_
              rotate_left
              · unfold bareOp
                go_simp
                try with_reducible rfl
              simp only [Act.put, List.setIfInBounds_toArray, List.set_cons_zero, List.set_cons_succ]
              refine wpAnyB_only (i := 12) (some 51) (Op.call { callee := Callee.value (Operand.func 94), args := #[Operand.tmp 40, Operand.tmp 45, Operand.tmp 50], argTypes := #[24, 22, 22] }) 22 ⟨_, rfl, rfl, rfl, rfl, rfl⟩ (by kernel_rfl) (fun K hK => ?_)
              unfold bareOp
              go_wp2_with (go_at_call 94; refine (rDiff_gen _ HH.out x0 xQ y0 yQ HDD.out).mono ?_; rintro e w8 ⟨rfl, hb8⟩)
              replace F_g := Lib.hid (F_g.out.keep hb8)
              replace F_o := Lib.hid (F_o.out.keep hb8)
              replace F_p := Lib.hid (F_p.out.keep hb8)
              replace HBW := Lib.hid (HBW.out.trans (hb8.mono HBW.out.size))
              replace hS := And.intro F_g.out.s (And.intro ((HBW.out.cell (p := ⟨s, o + i, none⟩) hs).trans HCX.out) ((HBW.out.cell (p := ⟨s, o + j, none⟩) hs).trans HCY.out))
              clear hb8
              refine hK.out _ _ (fun _ => hS) ?_
              clear hK K
              try simp only [Act.put, List.setIfInBounds_toArray, List.set_cons_zero, List.set_cons_succ]
              refine wpAnyB_only (i := 13) (some 52) (Op.call { callee := Callee.value (Operand.func 95), args := #[Operand.tmp 39, Operand.tmp 51], argTypes := #[24, 22] }) 113 ⟨_, rfl, rfl, rfl, rfl, rfl⟩ (by kernel_rfl) (fun K hK => ?_)
              unfold bareOp
              go_wp2_with (go_at_call 95; refine (rhalf_any _ HH.out d0 dQ HU.out).mono ?_; rintro e w8 ⟨rfl, hb8⟩)
              replace F_g := Lib.hid (F_g.out.keep hb8)
              replace F_o := Lib.hid (F_o.out.keep hb8)
              replace F_p := Lib.hid (F_p.out.keep hb8)
              replace HBW := Lib.hid (HBW.out.trans (hb8.mono HBW.out.size))
              replace hS := And.intro F_g.out.s (And.intro ((HBW.out.cell (p := ⟨s, o + i, none⟩) hs).trans HCX.out) ((HBW.out.cell (p := ⟨s, o + j, none⟩) hs).trans HCY.out))
              clear hb8
              refine hK.out _ _ (fun _ => hS) ?_
              clear hK K
              try simp only [Act.put, List.setIfInBounds_toArray, List.set_cons_zero, List.set_cons_succ]
              refine wpAnyB_takeP (i := 14) (some 38) (Op.move (Operand.tmp 52)) 113 (v := ?_) ⟨_, rfl, rfl, rfl, rfl, rfl⟩ (by kernel_rfl) (by kernel_rfl) (by kernel_rfl) (by kernel_rfl) (fun _ _ _ h => h) (fun _ => hS) (fun w' => ?_) ?_
              rotate_left
              · unfold bareOp
                go_simp
                try with_reducible rfl
              simp only [Act.put, List.setIfInBounds_toArray, List.set_cons_zero, List.set_cons_succ]
              refine wpAnyB_takeP (i := 15) (some 53) (Op.extract (Operand.tmp 38) 0) 22 (v := ?_) ⟨_, rfl, rfl, rfl, rfl, rfl⟩ (by kernel_rfl) (by kernel_rfl) (by kernel_rfl) (by kernel_rfl) (fun _ _ _ h => h) (fun _ => hS) (fun w' => ?_) ?_
              rotate_left
              · unfold bareOp
                go_simp
                try with_reducible rfl
              simp only [Act.put, List.setIfInBounds_toArray, List.set_cons_zero, List.set_cons_succ]
              refine wpAnyB_takeP (i := 16) (some 54) (Op.extract (Operand.tmp 38) 1) 4 (v := ?_) ⟨_, rfl, rfl, rfl, rfl, rfl⟩ (by kernel_rfl) (by kernel_rfl) (by kernel_rfl) (by kernel_rfl) (fun _ _ _ h => h) (fun _ => hS) (fun w' => ?_) ?_
              rotate_left
              · unfold bareOp
                go_simp
                try with_reducible rfl
              simp only [Act.put, List.setIfInBounds_toArray, List.set_cons_zero, List.set_cons_succ]
              refine wpAnyB_takeP (i := 17) (some 12) (Op.assign (Operand.tmp 53)) 22 (v := ?_) ⟨_, rfl, rfl, rfl, rfl, rfl⟩ (by kernel_rfl) (by kernel_rfl) (by kernel_rfl) (by kernel_rfl) (fun _ _ _ h => h) (fun _ => hS) (fun w' => ?_) ?_
              rotate_left
              · unfold bareOp
                go_simp
                try with_reducible rfl
              simp only [Act.put, List.setIfInBounds_toArray, List.set_cons_zero, List.set_cons_succ]
              refine wpAnyB_only (i := 18) (some 13) (Op.assign (Operand.tmp 54)) 4 ⟨_, rfl, rfl, rfl, rfl, rfl⟩ (by kernel_rfl) (fun K hK => ?_)
              unfold bareOp
              go_wp2_with fail
              refine hK.out _ _ (fun h => absurd (h.symm.trans (by kernel_rfl : _ = true)) (by decide)) ?_
              clear hK K
              try simp only [Act.put, List.setIfInBounds_toArray, List.set_cons_zero, List.set_cons_succ]
              refine wpAnyB_done (by kernel_rfl) ?_ _
              go_wp2_with fail
              go_ret2
              exact ⟨_, by rw [HZ.out]; rfl, by rw [HZ.out]; exact OwnU.nil _ _, HBW.out⟩
            | some u =>
              have HU := Lib.hid (invS_some hinv)
              obtain ⟨u0, uQ, -⟩ := invF_some hinv
              have HE := Lib.hid (show partL Q x [v] ((ids.take (j + 1)).filter fun y => decide (y ≠ x)) = some (timesL Q ((0 - y) % Q) u 0 pk) by
                rw [filter_take_in hjl' HNE.out, HYJ.out]
                exact partL_snoc HP.out (by rw [HDD.out]; exact hinv))
              have HL1 := Lib.hid (show L + 1 = (timesL Q ((0 - y) % Q) u 0 pk).length by rw [timesL_length, F_p.out.len])
              clear hinv
              go_wp2_with fail
              go_wp2_with fail
              replace F_g := Lib.hid F_g.out.drew
              replace F_o := Lib.hid F_o.out.drew
              replace F_p := Lib.hid F_p.out.drew
              replace HBW := Lib.hid HBW.out.drew
              have hS := And.intro F_g.out.s (And.intro ((HBW.out.cell (p := ⟨s, o + i, none⟩) hs).trans HCX.out) ((HBW.out.cell (p := ⟨s, o + j, none⟩) hs).trans HCY.out))
              refine wp_region_stage 18 (fun w' => SBox w' w.heap.size P Q G ∧ w'.cell? ⟨s, o + i, none⟩ = some (.int .i64 x) ∧ w'.cell? ⟨s, o + j, none⟩ = some (.int .i64 y)) (by kernel_rfl) ?_
              refine wpAnyB_take (i := 0) (some 39) (Op.load 24 (Operand.tmp 3)) 24 (v := ?_) ⟨_, rfl, rfl, rfl, rfl, rfl⟩ (by kernel_rfl) (by kernel_rfl) (by kernel_rfl) [13, 14, 15, 16, 17, 18] (by kernel_rfl) (fun _ _ _ h => h) hS (fun w' hSw => ?_) ?_
              rotate_left
              · obtain ⟨⟨b0, b1, b2⟩, b3, b4⟩ := hSw
                unfold bareOp
                go_simp
                try with_reducible rfl
              simp only [Act.put, List.setIfInBounds_toArray, List.set_cons_zero, List.set_cons_succ]
              refine wpAnyB_take (i := 1) (some 40) (Op.load 24 (Operand.tmp 3)) 24 (v := ?_) ⟨_, rfl, rfl, rfl, rfl, rfl⟩ (by kernel_rfl) (by kernel_rfl) (by kernel_rfl) [12, 13, 14, 15, 16, 17, 18] (by kernel_rfl) (fun _ _ _ h => h) hS (fun w' hSw => ?_) ?_
              rotate_left
              · obtain ⟨⟨b0, b1, b2⟩, b3, b4⟩ := hSw
                unfold bareOp
                go_simp
                try with_reducible rfl
              simp only [Act.put, List.setIfInBounds_toArray, List.set_cons_zero, List.set_cons_succ]
              refine wpAnyB_takeP (i := 2) (some 41) (Op.move (Operand.tmp 1)) 51 (v := ?_) ⟨_, rfl, rfl, rfl, rfl, rfl⟩ (by kernel_rfl) (by kernel_rfl) (by kernel_rfl) (by kernel_rfl) (fun _ _ _ h => h) (fun _ => hS) (fun w' => ?_) ?_
              rotate_left
              · unfold bareOp
                go_simp
                try with_reducible rfl
              simp only [Act.put, List.setIfInBounds_toArray, List.set_cons_zero, List.set_cons_succ]
              refine wpAnyB_takeP (i := 3) (some 42) (Op.move (Operand.tmp 9)) 3 (v := ?_) ⟨_, rfl, rfl, rfl, rfl, rfl⟩ (by kernel_rfl) (by kernel_rfl) (by kernel_rfl) (by kernel_rfl) (fun _ _ _ h => h) (fun _ => hS) (fun w' => ?_) ?_
              rotate_left
              · unfold bareOp
                go_simp
                try with_reducible rfl
              simp only [Act.put, List.setIfInBounds_toArray, List.set_cons_zero, List.set_cons_succ]
              refine wpAnyB_takeP (i := 4) (some 43) (Op.indexAddr 51 (Operand.tmp 41) (Operand.tmp 42)) 0 (v := ?_) ⟨_, rfl, rfl, rfl, rfl, rfl⟩ (by kernel_rfl) (by kernel_rfl) (by kernel_rfl) (by kernel_rfl) (fun _ _ _ h => h) (fun _ => hS) (fun w' => ?_) ?_
              rotate_left
              · unfold bareOp
                go_simp
                try with_reducible rfl
              simp only [Act.put, List.setIfInBounds_toArray, List.set_cons_zero, List.set_cons_succ]
              refine wpAnyB_take (i := 5) (some 44) (Op.load 3 (Operand.tmp 43)) 3 (v := ?_) ⟨_, rfl, rfl, rfl, rfl, rfl⟩ (by kernel_rfl) (by kernel_rfl) (by kernel_rfl) [6, 12, 13, 14, 15, 16, 17, 18] (by kernel_rfl) (fun _ _ _ h => h) hS (fun w' hSw => ?_) ?_
              rotate_left
              · obtain ⟨⟨b0, b1, b2⟩, b3, b4⟩ := hSw
                unfold bareOp
                go_simp
                try with_reducible rfl
              simp only [Act.put, List.setIfInBounds_toArray, List.set_cons_zero, List.set_cons_succ]
              refine wpAnyB_takeP (i := 6) (some 45) (Op.convert 3 22 (Operand.tmp 44)) 22 (v := ?_) ⟨_, rfl, rfl, rfl, rfl, rfl⟩ (by kernel_rfl) (by kernel_rfl) (by kernel_rfl) (by kernel_rfl) (fun _ _ _ h => h) (fun _ => hS) (fun w' => ?_) ?_
              rotate_left
              · unfold bareOp
                go_simp
                try with_reducible rfl
              simp only [Act.put, List.setIfInBounds_toArray, List.set_cons_zero, List.set_cons_succ]
              refine wpAnyB_takeP (i := 7) (some 46) (Op.move (Operand.tmp 1)) 51 (v := ?_) ⟨_, rfl, rfl, rfl, rfl, rfl⟩ (by kernel_rfl) (by kernel_rfl) (by kernel_rfl) (by kernel_rfl) (fun _ _ _ h => h) (fun _ => hS) (fun w' => ?_) ?_
              rotate_left
              · unfold bareOp
                go_simp
                try with_reducible rfl
              simp only [Act.put, List.setIfInBounds_toArray, List.set_cons_zero, List.set_cons_succ]
              refine wpAnyB_takeP (i := 8) (some 47) (Op.move (Operand.tmp 11)) 3 (v := ?_) ⟨_, rfl, rfl, rfl, rfl, rfl⟩ (by kernel_rfl) (by kernel_rfl) (by kernel_rfl) (by kernel_rfl) (fun _ _ _ h => h) (fun _ => hS) (fun w' => ?_) ?_
              rotate_left
              · unfold bareOp
                go_simp
                try with_reducible rfl
              simp only [Act.put, List.setIfInBounds_toArray, List.set_cons_zero, List.set_cons_succ]
              refine wpAnyB_takeP (i := 9) (some 48) (Op.indexAddr 51 (Operand.tmp 46) (Operand.tmp 47)) 0 (v := ?_) ⟨_, rfl, rfl, rfl, rfl, rfl⟩ (by kernel_rfl) (by kernel_rfl) (by kernel_rfl) (by kernel_rfl) (fun _ _ _ h => h) (fun _ => hS) (fun w' => ?_) ?_
              rotate_left
              · unfold bareOp
                go_simp
                try with_reducible rfl
              simp only [Act.put, List.setIfInBounds_toArray, List.set_cons_zero, List.set_cons_succ]
              refine wpAnyB_take (i := 10) (some 49) (Op.load 3 (Operand.tmp 48)) 3 (v := ?_) ⟨_, rfl, rfl, rfl, rfl, rfl⟩ (by kernel_rfl) (by kernel_rfl) (by kernel_rfl) [11, 12, 13, 14, 15, 16, 17, 18] (by kernel_rfl) (fun _ _ _ h => h) hS (fun w' hSw => ?_) ?_
              rotate_left
              · obtain ⟨⟨b0, b1, b2⟩, b3, b4⟩ := hSw
                unfold bareOp
                go_simp
                try with_reducible rfl
              simp only [Act.put, List.setIfInBounds_toArray, List.set_cons_zero, List.set_cons_succ]
              refine wpAnyB_takeP (i := 11) (some 50) (Op.convert 3 22 (Operand.tmp 49)) 22 (v := ?_) ⟨_, rfl, rfl, rfl, rfl, rfl⟩ (by kernel_rfl) (by kernel_rfl) (by kernel_rfl) (by kernel_rfl) (fun _ _ _ h => h) (fun _ => hS) (fun w' => ?_) ?_
              rotate_left
              · unfold bareOp
                go_simp
                try with_reducible rfl
              simp only [Act.put, List.setIfInBounds_toArray, List.set_cons_zero, List.set_cons_succ]
              refine wpAnyB_only (i := 12) (some 51) (Op.call { callee := Callee.value (Operand.func 94), args := #[Operand.tmp 40, Operand.tmp 45, Operand.tmp 50], argTypes := #[24, 22, 22] }) 22 ⟨_, rfl, rfl, rfl, rfl, rfl⟩ (by kernel_rfl) (fun K hK => ?_)
              unfold bareOp
              go_wp2_with (go_at_call 94; refine (rDiff_gen _ HH.out x0 xQ y0 yQ HDD.out).mono ?_; rintro e w8 ⟨rfl, hb8⟩)
              replace F_g := Lib.hid (F_g.out.keep hb8)
              replace F_o := Lib.hid (F_o.out.keep hb8)
              replace F_p := Lib.hid (F_p.out.keep hb8)
              replace HBW := Lib.hid (HBW.out.trans (hb8.mono HBW.out.size))
              replace hS := And.intro F_g.out.s (And.intro ((HBW.out.cell (p := ⟨s, o + i, none⟩) hs).trans HCX.out) ((HBW.out.cell (p := ⟨s, o + j, none⟩) hs).trans HCY.out))
              clear hb8
              refine hK.out _ _ (fun _ => hS) ?_
              clear hK K
              try simp only [Act.put, List.setIfInBounds_toArray, List.set_cons_zero, List.set_cons_succ]
              refine wpAnyB_only (i := 13) (some 52) (Op.call { callee := Callee.value (Operand.func 95), args := #[Operand.tmp 39, Operand.tmp 51], argTypes := #[24, 22] }) 113 ⟨_, rfl, rfl, rfl, rfl, rfl⟩ (by kernel_rfl) (fun K hK => ?_)
              unfold bareOp
              go_wp2_with (go_at_call 95; refine (rhalf_any _ HH.out d0 dQ HU.out).mono ?_; rintro e w8 ⟨rfl, hb8⟩)
              replace F_g := Lib.hid (F_g.out.keep hb8)
              replace F_o := Lib.hid (F_o.out.keep hb8)
              replace F_p := Lib.hid (F_p.out.keep hb8)
              replace HBW := Lib.hid (HBW.out.trans (hb8.mono HBW.out.size))
              replace hS := And.intro F_g.out.s (And.intro ((HBW.out.cell (p := ⟨s, o + i, none⟩) hs).trans HCX.out) ((HBW.out.cell (p := ⟨s, o + j, none⟩) hs).trans HCY.out))
              clear hb8
              refine hK.out _ _ (fun _ => hS) ?_
              clear hK K
              try simp only [Act.put, List.setIfInBounds_toArray, List.set_cons_zero, List.set_cons_succ]
              refine wpAnyB_takeP (i := 14) (some 38) (Op.move (Operand.tmp 52)) 113 (v := ?_) ⟨_, rfl, rfl, rfl, rfl, rfl⟩ (by kernel_rfl) (by kernel_rfl) (by kernel_rfl) (by kernel_rfl) (fun _ _ _ h => h) (fun _ => hS) (fun w' => ?_) ?_
              rotate_left
              · unfold bareOp
                go_simp
                try with_reducible rfl
              simp only [Act.put, List.setIfInBounds_toArray, List.set_cons_zero, List.set_cons_succ]
              refine wpAnyB_takeP (i := 15) (some 53) (Op.extract (Operand.tmp 38) 0) 22 (v := ?_) ⟨_, rfl, rfl, rfl, rfl, rfl⟩ (by kernel_rfl) (by kernel_rfl) (by kernel_rfl) (by kernel_rfl) (fun _ _ _ h => h) (fun _ => hS) (fun w' => ?_) ?_
              rotate_left
              · unfold bareOp
                go_simp
                try with_reducible rfl
              simp only [Act.put, List.setIfInBounds_toArray, List.set_cons_zero, List.set_cons_succ]
              refine wpAnyB_takeP (i := 16) (some 54) (Op.extract (Operand.tmp 38) 1) 4 (v := ?_) ⟨_, rfl, rfl, rfl, rfl, rfl⟩ (by kernel_rfl) (by kernel_rfl) (by kernel_rfl) (by kernel_rfl) (fun _ _ _ h => h) (fun _ => hS) (fun w' => ?_) ?_
              rotate_left
              · unfold bareOp
                go_simp
                try with_reducible rfl
              simp only [Act.put, List.setIfInBounds_toArray, List.set_cons_zero, List.set_cons_succ]
              refine wpAnyB_takeP (i := 17) (some 12) (Op.assign (Operand.tmp 53)) 22 (v := ?_) ⟨_, rfl, rfl, rfl, rfl, rfl⟩ (by kernel_rfl) (by kernel_rfl) (by kernel_rfl) (by kernel_rfl) (fun _ _ _ h => h) (fun _ => hS) (fun w' => ?_) ?_
              rotate_left
              · unfold bareOp
                go_simp
                try with_reducible rfl
              simp only [Act.put, List.setIfInBounds_toArray, List.set_cons_zero, List.set_cons_succ]
              refine wpAnyB_only (i := 18) (some 13) (Op.assign (Operand.tmp 54)) 4 ⟨_, rfl, rfl, rfl, rfl, rfl⟩ (by kernel_rfl) (fun K hK => ?_)
              unfold bareOp
              go_wp2_with fail
              refine hK.out _ _ (fun h => absurd (h.symm.trans (by kernel_rfl : _ = true)) (by decide)) ?_
              clear hK K
              try simp only [Act.put, List.setIfInBounds_toArray, List.set_cons_zero, List.set_cons_succ]
              refine wpAnyB_done (by kernel_rfl) ?_ _
              clear hS
              go_wp2_with fail
              replace F_g := Lib.hid F_g.out.drew
              replace F_o := Lib.hid F_o.out.drew
              replace F_p := Lib.hid F_p.out.drew
              replace HBW := Lib.hid HBW.out.drew
              have hS := And.intro F_g.out.s ((HBW.out.cell (p := ⟨s, o + j, none⟩) hs).trans HCY.out)
              refine wp_region_stage 8 (fun w' => SBox w' w.heap.size P Q G ∧ w'.cell? ⟨s, o + j, none⟩ = some (.int .i64 y)) (by kernel_rfl) ?_
              refine wpAnyB_take (i := 0) (some 57) (Op.load 24 (Operand.tmp 3)) 24 (v := ?_) ⟨_, rfl, rfl, rfl, rfl, rfl⟩ (by kernel_rfl) (by kernel_rfl) (by kernel_rfl) [7, 8] (by kernel_rfl) (fun _ _ _ h => h) hS (fun w' hSw => ?_) ?_
              rotate_left
              · obtain ⟨⟨b0, b1, b2⟩, b3⟩ := hSw
                unfold bareOp
                go_simp
                try with_reducible rfl
              simp only [Act.put, List.setIfInBounds_toArray, List.set_cons_zero, List.set_cons_succ]
              refine wpAnyB_takeP (i := 1) (some 58) (Op.move (Operand.tmp 10)) 25 (v := ?_) ⟨_, rfl, rfl, rfl, rfl, rfl⟩ (by kernel_rfl) (by kernel_rfl) (by kernel_rfl) (by kernel_rfl) (fun _ _ _ h => h) (fun _ => hS) (fun w' => ?_) ?_
              rotate_left
              · unfold bareOp
                go_simp
                try with_reducible rfl
              simp only [Act.put, List.setIfInBounds_toArray, List.set_cons_zero, List.set_cons_succ]
              refine wpAnyB_takeP (i := 2) (some 59) (Op.move (Operand.tmp 1)) 51 (v := ?_) ⟨_, rfl, rfl, rfl, rfl, rfl⟩ (by kernel_rfl) (by kernel_rfl) (by kernel_rfl) (by kernel_rfl) (fun _ _ _ h => h) (fun _ => hS) (fun w' => ?_) ?_
              rotate_left
              · unfold bareOp
                go_simp
                try with_reducible rfl
              simp only [Act.put, List.setIfInBounds_toArray, List.set_cons_zero, List.set_cons_succ]
              refine wpAnyB_takeP (i := 3) (some 60) (Op.move (Operand.tmp 11)) 3 (v := ?_) ⟨_, rfl, rfl, rfl, rfl, rfl⟩ (by kernel_rfl) (by kernel_rfl) (by kernel_rfl) (by kernel_rfl) (fun _ _ _ h => h) (fun _ => hS) (fun w' => ?_) ?_
              rotate_left
              · unfold bareOp
                go_simp
                try with_reducible rfl
              simp only [Act.put, List.setIfInBounds_toArray, List.set_cons_zero, List.set_cons_succ]
              refine wpAnyB_takeP (i := 4) (some 61) (Op.indexAddr 51 (Operand.tmp 59) (Operand.tmp 60)) 0 (v := ?_) ⟨_, rfl, rfl, rfl, rfl, rfl⟩ (by kernel_rfl) (by kernel_rfl) (by kernel_rfl) (by kernel_rfl) (fun _ _ _ h => h) (fun _ => hS) (fun w' => ?_) ?_
              rotate_left
              · unfold bareOp
                go_simp
                try with_reducible rfl
              simp only [Act.put, List.setIfInBounds_toArray, List.set_cons_zero, List.set_cons_succ]
              refine wpAnyB_take (i := 5) (some 62) (Op.load 3 (Operand.tmp 61)) 3 (v := ?_) ⟨_, rfl, rfl, rfl, rfl, rfl⟩ (by kernel_rfl) (by kernel_rfl) (by kernel_rfl) [7, 8] (by kernel_rfl) (fun _ _ _ h => h) hS (fun w' hSw => ?_) ?_
              rotate_left
              · obtain ⟨⟨b0, b1, b2⟩, b3⟩ := hSw
                unfold bareOp
                go_simp
                try with_reducible rfl
              simp only [Act.put, List.setIfInBounds_toArray, List.set_cons_zero, List.set_cons_succ]
              refine wpAnyB_takeP (i := 6) (some 63) (Op.move (Operand.tmp 12)) 22 (v := ?_) ⟨_, rfl, rfl, rfl, rfl, rfl⟩ (by kernel_rfl) (by kernel_rfl) (by kernel_rfl) (by kernel_rfl) (fun _ _ _ h => h) (fun _ => hS) (fun w' => ?_) ?_
              rotate_left
              · unfold bareOp
                go_simp
                try with_reducible rfl
              simp only [Act.put, List.setIfInBounds_toArray, List.set_cons_zero, List.set_cons_succ]
              refine wpAnyB_only (i := 7) (some 64) (Op.call { callee := Callee.value (Operand.func 96), args := #[Operand.tmp 57, Operand.tmp 58, Operand.tmp 62, Operand.tmp 63], argTypes := #[24, 25, 3, 22] }) 25 ⟨_, rfl, rfl, rfl, rfl, rfl⟩ (by kernel_rfl) (fun K hK => ?_)
              unfold bareOp
              go_wp2_with fail
              refine (rtimes_any _ HH.out (F_p.out.len.symm) (by omega) F_p.out.lt.2 F_p.out.cells HPR.out y0 yQ u0 uQ).mono ?_
              rintro e w8 ⟨v9, rfl, ho8, hb8⟩
              obtain ⟨gp', cap', rfl, hop⟩ := (ho8.mono (Nat.le_trans F_p.out.lt.1 (Nat.le_of_lt F_p.out.lt.2))).of2 HL1.out (by omega)
              have F_n := Lib.hid hop
              replace F_g := Lib.hid (F_g.out.keep hb8)
              replace F_o := Lib.hid (F_o.out.keep hb8)
              replace HBW := Lib.hid (HBW.out.trans (hb8.mono HBW.out.size))
              replace hS := And.intro F_g.out.s ((HBW.out.cell (p := ⟨s, o + j, none⟩) hs).trans HCY.out)
              clear hb8 ho8 hop F_p
              refine hK.out _ _ (fun _ => hS) ?_
              clear hK K
              try simp only [Act.put, List.setIfInBounds_toArray, List.set_cons_zero, List.set_cons_succ]
              refine wpAnyB_only (i := 8) (some 10) (Op.assign (Operand.tmp 64)) 25 ⟨_, rfl, rfl, rfl, rfl, rfl⟩ (by kernel_rfl) (fun K hK => ?_)
              unfold bareOp
              go_wp2_with fail
              refine hK.out _ _ (fun h => absurd (h.symm.trans (by kernel_rfl : _ = true)) (by decide)) ?_
              clear hK K
              try simp only [Act.put, List.setIfInBounds_toArray, List.set_cons_zero, List.set_cons_succ]
              refine wpAnyB_done (by kernel_rfl) ?_ _
              clear hS
              go_wp2_with fail
              go_roundw
              case rel => exact ⟨j + 1, by omega, by go_num, _, _, L + 1, _, rfl, HE.out, F_n.out, F_o.out, F_g.out, HBW.out⟩
              case measure => simp [intOf] <;> omega

end Go.Proofs.Ytjfaaicbojnpaaa
