/- shamir.value. -/
import Derived.Test.YtjfaaicbojnpaaaBack
import Derived.Test.YtjfaaicbojnpaaaStageIn
import Derived.Test.YtjfaaicbojnpaaaPoly
namespace Go.Proofs.Ytjfaaicbojnpaaa
open Go.RowKit Go.Shelf Num
set_option linter.unusedSimpArgs false
set_option linter.unusedVariables false

attribute [local go_sem] Oper.semAt_some

/-- A pair whose element is below Q. -/
abbrev BkQ (Q : Int) := { x : Nat × Int // 0 ≤ x.2 ∧ x.2 < Q }
def bkOf {Q : Int} (zs : List Int) (hz : ∀ k : Nat, 0 ≤ zs[k]?.getD 0 ∧ zs[k]?.getD 0 < Q) (k : Nat) : BkQ Q := ⟨(zs.length - 1 - k, zs[zs.length - 1 - k]?.getD 0), hz _⟩
/-- Horner's rule over what has come. -/
def hornS {Q : Int} (i : Int) (pre : List (BkQ Q)) : Int := pre.foldl (fun s x => (s * i % Q + x.1.2) % Q) 0
theorem hornS_push {Q : Int} (i : Int) (pre : List (BkQ Q)) (x : BkQ Q) : hornS i (pre ++ [x]) = (hornS i pre * i % Q + x.1.2) % Q := by simp [hornS]
theorem hornS_range {Q : Int} (i : Int) (hQ : 0 < Q) (pre : List (BkQ Q)) : 0 ≤ hornS i pre ∧ hornS i pre < Q := by
  rcases List.eq_nil_or_concat pre with rfl | ⟨l, x, rfl⟩
  · exact ⟨Int.le_refl _, hQ⟩
  · rw [List.concat_eq_append, hornS_push]
    exact ⟨Int.emod_nonneg _ (by omega), Int.emod_lt_of_pos _ hQ⟩
theorem getD_range {Q : Int} (hQ : 0 < Q) (zs : List Int) (hz : ∀ x, x ∈ zs → 0 ≤ x ∧ x < Q) (k : Nat) : 0 ≤ zs[k]?.getD 0 ∧ zs[k]?.getD 0 < Q := by
  rcases h : zs[k]? with _ | x
  · exact ⟨Int.le_refl _, hQ⟩
  · exact hz x (List.mem_of_getElem? h)
theorem below_from {B n : Nat} {W W' : World} (h : Below n W W') (hn : W.heap.size ≤ n) : KeepsFrom B W W' :=
  ⟨h.size, fun k o _ hk ho => by
    have := (Array.getElem?_eq_some_iff.1 hk).1
    rw [h.block k (by omega)]; exact hk⟩
def SumBox (W : World) (n : Nat) (P Q G i s : Int) : Prop :=
  SBox W n P Q G ∧ W.cell? ⟨n + 1, 0, none⟩ = some (.int .i64 i) ∧ W.cell? ⟨n + 2, 0, none⟩ = some (.int .u64 s)

set_option maxRecDepth 100000 in
set_option maxHeartbeats 4000000 in
theorem svalue_raw {P Q G i : Int} {zs : List Int} (w : World) (b off cap : Nat) (hH : Has P Q G) (hi0 : 0 ≤ i) (hiQ : i < Q) (hz : ∀ k : Nat, 0 ≤ zs[k]?.getD 0 ∧ zs[k]?.getD 0 < Q) (hlen : zs.length ≤ 1000) (hb : b < w.heap.size) (hI : ∀ j, j < zs.length → w.cell? ⟨b, off + j, none⟩ = some (.int .u64 (zs[j]?.getD 0))) :
    Calls Try.prog 59 #[.agg #[.int .u64 P, .int .u64 Q, .int .u64 G], .slice (some ⟨b, off, none⟩) zs.length cap, .int .i64 i] w fun e w' => e = .returned (.int .u64 (hornS i (upTo (bkOf zs hz) zs.length))) ∧ Below w.heap.size w w' := by
  have q3 : Q < 1073741824 := by have h1 := hH.2.2.2.1; have h2 := hH.2.1; omega
  have q1 : 0 < Q := by omega
  have hwi : IntKind.u64.wrap i = i := wrap_u hi0 (by omega)
  have HH := Lib.hid hH
  have HI := Lib.hid hI
  clear hH hI
  refine (callsIn_wide (n := 6)).1 ?_
  refine callsIn_of_wp_marks Try.func59 rfl trivial ?_ rfl
  simp only [Try.ntmps59, List.size_toArray, List.length_cons, List.length_nil, Nat.reduceAdd, Nat.reduceSub, Array.replicate_succ, Array.replicate_zero, List.push_toArray, List.append_toArray, List.nil_append, List.cons_append]
  gi_wp2_with (refine ⟨trivial, ?_⟩; gi_at_call 87; refine (back_in Fence.wide _ trivial rfl _ _ _ _).mono ?_; rintro e w1 ⟨rfl, rfl⟩)
  obtain ⟨W0, hW0⟩ : ∃ W0, (((w.alloc (.cells #[.int .u64 P, .int .u64 Q, .int .u64 G] 24)).alloc (.cells #[.int .i64 i] 3)).alloc (.cells #[.int .u64 0] 22)).alloc (.cells #[.slice (some ⟨b, off, none⟩) zs.length cap] 25) = W0 := ⟨_, rfl⟩
  have hB0 : Below w.heap.size w W0 := by
    rw [← hW0]
    exact ((((Below.refl _ w).alloc (Nat.le_refl _) _).alloc (by simp) _).alloc (by simp; omega) _).alloc (by simp; omega) _
  have hsz : W0.heap.size = w.heap.size + 4 := by rw [← hW0]; simp
  have g0 : W0.cell? ⟨w.heap.size, 0, none⟩ = some (.int .u64 P) := by
    rw [← hW0, World.cell?_alloc_past _ _ _ (by first | omega | (simp <;> omega)), World.cell?_alloc_past _ _ _ (by first | omega | (simp <;> omega)), World.cell?_alloc_past _ _ _ (by first | omega | (simp <;> omega)), World.cell?_alloc_new]; rfl
  have g1 : W0.cell? ⟨w.heap.size, 1, none⟩ = some (.int .u64 Q) := by
    rw [← hW0, World.cell?_alloc_past _ _ _ (by first | omega | (simp <;> omega)), World.cell?_alloc_past _ _ _ (by first | omega | (simp <;> omega)), World.cell?_alloc_past _ _ _ (by first | omega | (simp <;> omega)), World.cell?_alloc_new]; rfl
  have g2 : W0.cell? ⟨w.heap.size, 2, none⟩ = some (.int .u64 G) := by
    rw [← hW0, World.cell?_alloc_past _ _ _ (by first | omega | (simp <;> omega)), World.cell?_alloc_past _ _ _ (by first | omega | (simp <;> omega)), World.cell?_alloc_past _ _ _ (by first | omega | (simp <;> omega)), World.cell?_alloc_new]; rfl
  have ci : W0.cell? ⟨w.heap.size + 1, 0, none⟩ = some (.int .i64 i) := by
    rw [← hW0, World.cell?_alloc_past _ _ _ (by first | omega | (simp <;> omega)), World.cell?_alloc_past _ _ _ (by first | omega | (simp <;> omega)), World.cell?_alloc_at _ _ _ _ (by first | omega | (simp <;> omega))]; rfl
  have cs : W0.cell? ⟨w.heap.size + 2, 0, none⟩ = some (.int .u64 0) := by
    rw [← hW0, World.cell?_alloc_past _ _ _ (by first | omega | (simp <;> omega)), World.cell?_alloc_at _ _ _ _ (by first | omega | (simp <;> omega))]; rfl
  have fs : W0.frozen? ⟨w.heap.size + 2, 0, none⟩ = false := by rw [← hW0, World.frozen?_alloc_past _ _ _ (by first | omega | (simp <;> omega)), World.frozen?_alloc_at _ _ _ _ (by first | omega | (simp <;> omega))]
  have cB : W0.cell? ⟨w.heap.size + 3, 0, none⟩ = some (.slice (some ⟨b, off, none⟩) zs.length cap) := by
    rw [← hW0, World.cell?_alloc_at _ _ _ _ (by first | omega | (simp <;> omega))]; rfl
  rw [hW0]
  refine wpIn_rangeFunc_ownG rfl (by omega) (gf := 99) (lb := #[.pointer (some ⟨w.heap.size + 3, 0, none⟩)]) rfl trivial (enters_of Try.func99 (by kernel_rfl) rfl)
    (back_stops Fence.wide (6 - 1) trivial rfl (by omega) (w.heap.size + 3) b off cap (fun x : BkQ Q => x.1.1) (fun x => x.1.2) (bkOf zs hz) zs (fun k _ => ⟨rfl, rfl⟩) (by omega) W0 (by omega) (by omega) cB (fun j hj => (hB0.cell (p := ⟨b, off + j, none⟩) hb).trans (HI.out j hj)))
    (fun h k => KpC.trans h k) (fun W l o o' hl h a b => KpC.put (w := W0) (by omega) (by omega) W l o o' hl h a b) (Below.refl _ _) (fun _ => rfl)
    (fun pre W => (SumBox W w.heap.size P Q G i (hornS i pre) ∧ W.frozen? ⟨w.heap.size + 2, 0, none⟩ = false ∧ W.cell? ⟨w.heap.size + 3, 0, none⟩ = some (.slice (some ⟨b, off, none⟩) zs.length cap)) ∧ Below w.heap.size w W)
    (fun _ _ _ => False)
    (OwnFrom.and (Own.from (fun s A B row hs hg hr => ⟨⟨⟨cell_kept hs.1.1.1 hg hr, cell_kept hs.1.1.2.1 hg hr, cell_kept hs.1.1.2.2 hg hr⟩, cell_kept hs.1.2.1 hg hr, cell_kept hs.1.2.2 hg hr⟩, (frozen_kept hs.1.2.2 hg hr).trans hs.2.1, cell_kept hs.2.2 hg hr⟩) _) (ownFrom_below (Nat.le_refl _) (by omega)))
    (fun _ _ _ _ _ hs _ _ => hs)
    ⟨⟨⟨⟨g0, g1, g2⟩, ci, cs⟩, fs, cB⟩, hB0⟩
    (fun x => { tmps := #[.agg #[.int .u64 P, .int .u64 Q, .int .u64 G], .slice (some ⟨b, off, none⟩) zs.length cap, .int .i64 i, .pointer (some ⟨w.heap.size, 0, none⟩), undef, .pointer (some ⟨w.heap.size + 1, 0, none⟩), .int .u64 0, .pointer (some ⟨w.heap.size + 2, 0, none⟩), undef, .int .u64 x.1.2, .slice (some ⟨b, off, none⟩) zs.length cap, .func (.func 99) #[] #[.pointer (some ⟨w.heap.size + 3, 0, none⟩)], .int .i64 x.1.1, .int .u64 x.1.2, undef, undef, undef, undef, undef, undef, undef, undef, undef], defers := [] }) ?assign ?body ?done ?stop
  case assign =>
    intro l x W K hK
    gi_wp2
    exact hK
  case body =>
    rintro l pre ⟨⟨jx, x⟩, hx0⟩ W ⟨⟨hSB, hf, hc3⟩, hB⟩ hl
    obtain ⟨x0, xQ⟩ : 0 ≤ x ∧ x < Q := hx0
    have hWs : w.heap.size + 3 < W.heap.size := World.block_lt_of_cell? W _ hc3
    obtain ⟨s, hs⟩ : ∃ s, hornS i pre = s := ⟨_, rfl⟩
    have s0 : 0 ≤ s := by rw [← hs]; exact (hornS_range i q1 pre).1
    have sQ : s < Q := by rw [← hs]; exact (hornS_range i q1 pre).2
    rw [hs] at hSB
    have HSM := Lib.hid hs
    obtain ⟨m, hm⟩ : ∃ m, s * i % Q = m := ⟨_, rfl⟩
    have m0 : 0 ≤ m := by rw [← hm]; exact Int.emod_nonneg _ (by omega)
    have mQ : m < Q := by rw [← hm]; exact Int.emod_lt_of_pos _ (by omega)
    obtain ⟨t, ht⟩ : ∃ t, (m + x) % Q = t := ⟨_, rfl⟩
    have HM := Lib.hid hm
    have HT := Lib.hid ht
    clear hm ht hs
    have hSk : ∀ W', Below W.heap.size W W' → SumBox W' w.heap.size P Q G i s := fun W' h => ⟨⟨(h.cell (p := ⟨w.heap.size, 0, none⟩) (by show w.heap.size < _; omega)).trans hSB.1.1, (h.cell (p := ⟨w.heap.size, 1, none⟩) (by show w.heap.size < _; omega)).trans hSB.1.2.1, (h.cell (p := ⟨w.heap.size, 2, none⟩) (by show w.heap.size < _; omega)).trans hSB.1.2.2⟩, (h.cell (p := ⟨w.heap.size + 1, 0, none⟩) (by show w.heap.size + 1 < _; omega)).trans hSB.2.1, (h.cell (p := ⟨w.heap.size + 2, 0, none⟩) (by show w.heap.size + 2 < _; omega)).trans hSB.2.2⟩
    have HBW := Lib.hid ((Below.refl W.heap.size W).drew)
    have hS := hSk _ HBW.out
    gi_wp2_with fail
    refine wpIn_region_stage 8 (fun W' => SumBox W' w.heap.size P Q G i s) (by kernel_rfl) (by kernel_rfl) ?_
    refine wpAnyB_take (i := 0) (some 14) (Op.load 24 (Operand.tmp 3)) 24 (v := ?_) ⟨_, rfl, rfl, rfl, rfl, rfl⟩ (by kernel_rfl) (by kernel_rfl) (by kernel_rfl) [7, 8] (by kernel_rfl) (fun _ _ _ h => h) hS (fun w' hSw => ?_) ?_
    rotate_left
    · obtain ⟨⟨b0, b1, b2⟩, b3, b4⟩ := hSw
      unfold bareOp
      go_simp
      try with_reducible rfl
    simp only [Act.put, List.setIfInBounds_toArray, List.set_cons_zero, List.set_cons_succ]
    refine wpAnyB_take (i := 1) (some 15) (Op.load 24 (Operand.tmp 3)) 24 (v := ?_) ⟨_, rfl, rfl, rfl, rfl, rfl⟩ (by kernel_rfl) (by kernel_rfl) (by kernel_rfl) [5, 7, 8] (by kernel_rfl) (fun _ _ _ h => h) hS (fun w' hSw => ?_) ?_
    rotate_left
    · obtain ⟨⟨b0, b1, b2⟩, b3, b4⟩ := hSw
      unfold bareOp
      go_simp
      try with_reducible rfl
    simp only [Act.put, List.setIfInBounds_toArray, List.set_cons_zero, List.set_cons_succ]
    refine wpAnyB_take (i := 2) (some 16) (Op.load 22 (Operand.tmp 7)) 22 (v := ?_) ⟨_, rfl, rfl, rfl, rfl, rfl⟩ (by kernel_rfl) (by kernel_rfl) (by kernel_rfl) [5, 7, 8] (by kernel_rfl) (fun _ _ _ h => h) hS (fun w' hSw => ?_) ?_
    rotate_left
    · obtain ⟨⟨b0, b1, b2⟩, b3, b4⟩ := hSw
      unfold bareOp
      go_simp
      try with_reducible rfl
    simp only [Act.put, List.setIfInBounds_toArray, List.set_cons_zero, List.set_cons_succ]
    refine wpAnyB_take (i := 3) (some 17) (Op.load 3 (Operand.tmp 5)) 3 (v := ?_) ⟨_, rfl, rfl, rfl, rfl, rfl⟩ (by kernel_rfl) (by kernel_rfl) (by kernel_rfl) [4, 5, 7, 8] (by kernel_rfl) (fun _ _ _ h => h) hS (fun w' hSw => ?_) ?_
    rotate_left
    · obtain ⟨⟨b0, b1, b2⟩, b3, b4⟩ := hSw
      unfold bareOp
      go_simp
      try with_reducible rfl
    simp only [Act.put, List.setIfInBounds_toArray, List.set_cons_zero, List.set_cons_succ]
    refine wpAnyB_takeP (i := 4) (some 18) (Op.convert 3 22 (Operand.tmp 17)) 22 (v := ?_) ⟨_, rfl, rfl, rfl, rfl, rfl⟩ (by kernel_rfl) (by kernel_rfl) (by kernel_rfl) (by kernel_rfl) (fun _ _ _ h => h) (fun _ => hS) (fun w' => ?_) ?_
    rotate_left
    · unfold bareOp
      go_simp
      try with_reducible rfl
    simp only [Act.put, List.setIfInBounds_toArray, List.set_cons_zero, List.set_cons_succ]
    refine wpAnyB_takeP (i := 6) (some 20) (Op.move (Operand.tmp 9)) 22 (v := ?_) ⟨_, rfl, rfl, rfl, rfl, rfl⟩ (by kernel_rfl) (by kernel_rfl) (by kernel_rfl) (by kernel_rfl) (fun _ _ _ h => h) (fun _ => hS) (fun w' => ?_) ?_
    rotate_left
    · unfold bareOp
      go_simp
      try with_reducible rfl
    simp only [Act.put, List.setIfInBounds_toArray, List.set_cons_zero, List.set_cons_succ]
    refine wpAnyB_only (i := 5) (some 19) (Op.call { callee := Callee.value (Operand.func 71), args := #[Operand.tmp 15, Operand.tmp 16, Operand.tmp 18], argTypes := #[24, 22, 22] }) 22 ⟨_, rfl, rfl, rfl, rfl, rfl⟩ (by kernel_rfl) (fun K hK => ?_)
    unfold bareOp
    go_wp2_with (go_at_call 71; refine (stimes_ok _ HH.out s0 sQ hi0 hiQ HM.out).mono ?_; rintro e w6 ⟨rfl, hb6⟩)
    replace HBW := Lib.hid (HBW.out.trans (hb6.mono HBW.out.size))
    replace hS := hSk _ HBW.out
    clear hb6
    refine hK.out _ _ (fun _ => hS) ?_
    clear hK K
    try simp only [Act.put, List.setIfInBounds_toArray, List.set_cons_zero, List.set_cons_succ]
    refine wpAnyB_only (i := 7) (some 21) (Op.call { callee := Callee.value (Operand.func 53), args := #[Operand.tmp 14, Operand.tmp 19, Operand.tmp 20], argTypes := #[24, 22, 22] }) 22 ⟨_, rfl, rfl, rfl, rfl, rfl⟩ (by kernel_rfl) (fun K hK => ?_)
    unfold bareOp
    go_wp2_with (go_at_call 53; refine (splus_ok _ HH.out m0 mQ x0 xQ HT.out).mono ?_; rintro e w7 ⟨rfl, hb7⟩)
    replace HBW := Lib.hid (HBW.out.trans (hb7.mono HBW.out.size))
    replace hS := hSk _ HBW.out
    clear hb7
    have hf7 := (HBW.out.frozen (p := ⟨w.heap.size + 2, 0, none⟩) (by show w.heap.size + 2 < _; omega)).trans hf
    have hc7 := hS.2.2
    refine hK.out _ _ (fun _ => hS) ?_
    clear hK K
    try simp only [Act.put, List.setIfInBounds_toArray, List.set_cons_zero, List.set_cons_succ]
    refine wpAnyB_only (i := 8) none (Op.store 22 (Operand.tmp 7) (Operand.tmp 21)) 0 ⟨_, rfl, rfl, rfl, rfl, rfl⟩ (by kernel_rfl) (fun K hK => ?_)
    unfold bareOp
    go_wp2_with fail
    refine hK.out _ _ (fun h => absurd (h.symm.trans (by kernel_rfl : _ = true)) (by decide)) ?_
    clear hK K
    try simp only [Act.put, List.setIfInBounds_toArray, List.set_cons_zero, List.set_cons_succ]
    refine wpAnyB_done (by kernel_rfl) ?_ _
    unfold OnlyN
    gi_wp2
    have hw7 : W.heap.size ≤ w7.heap.size := HBW.out.size
    have hoth : ∀ c o, c ≠ w.heap.size + 2 → (w7.setCell ⟨w.heap.size + 2, 0, none⟩ (.int .u64 t)).cell? ⟨c, o, none⟩ = w7.cell? ⟨c, o, none⟩ := fun c o hc => World.cell?_setCell_other _ _ _ _ (fun e => hc (congrArg Addr.block e).symm)
    refine ⟨(below_from HBW.out (Nat.le_refl _)).trans ((KeepsOthers.setCell _ _ _).from _), (KpC.below HBW.out (by omega) (by omega)).trans ⟨fun o => hoth _ _ (by omega), fun o => hoth _ _ (by omega)⟩, ⟨⟨⟨(hoth _ _ (by omega)).trans hS.1.1, (hoth _ _ (by omega)).trans hS.1.2.1, (hoth _ _ (by omega)).trans hS.1.2.2⟩, (hoth _ _ (by omega)).trans hS.2.1, ?_⟩, by rw [World.frozen?_setCell]; exact hf7, (hoth _ _ (by omega)).trans ((HBW.out.cell (p := ⟨w.heap.size + 3, 0, none⟩) (by show w.heap.size + 3 < _; omega)).trans hc3)⟩, (hB.trans (HBW.out.mono (by omega))).setCell (p := ⟨w.heap.size + 2, 0, none⟩) (by show w.heap.size ≤ w.heap.size + 2; omega) _⟩
    rw [hornS_push, HSM.out, HM.out]
    show _ = some (Value.int .u64 ((m + x) % Q))
    rw [HT.out]
    exact World.cell?_setCell_same' _ _ _ (by rw [hc7]; rfl)
  case done =>
    rintro D ys W hD rfl ⟨⟨hS, _, _⟩, hB⟩ hK
    obtain ⟨_, _, hc⟩ := hS
    gi_wp2
    refine ⟨by simp, .inl ⟨_, _, rfl, run_takeDeferred hK, ?_⟩⟩
    exact ⟨_, results_tmp rfl _ _ _, rfl, hB.trans (belowK_b (w := w) (Nat.le_refl _) W D _ _ (by omega) hK rfl rfl)⟩
  case stop =>
    rintro D c pre W _ _ h _
    exact h.elim

theorem horn_cg {Q : Int} (i : Int) (zs : List Int) (hz : ∀ k : Nat, 0 ≤ zs[k]?.getD 0 ∧ zs[k]?.getD 0 < Q) : ∀ k, k ≤ zs.length → Cg Q (hornS i (upTo (bkOf zs hz) k)) (pv i (zs.drop (zs.length - k)))
  | 0, _ => by rw [Nat.sub_zero, List.drop_length]; exact Cg.refl _ _
  | k + 1, hk => by
    have ih := horn_cg i zs hz k (by omega)
    have hlt : zs.length - (k + 1) < zs.length := by omega
    rw [upTo_succ, hornS_push, List.drop_eq_getElem_cons hlt, show zs.length - (k + 1) + 1 = zs.length - k by omega]
    have e : (bkOf zs hz k).1.2 = zs[zs.length - (k + 1)] := by
      show zs[zs.length - 1 - k]?.getD 0 = _
      rw [show zs.length - 1 - k = zs.length - (k + 1) by omega, List.getElem?_eq_getElem hlt]; rfl
    rw [e]
    show Cg Q _ (zs[zs.length - (k + 1)] + i * pv i (zs.drop (zs.length - k)))
    refine (cg_emod _ _).trans ?_
    rw [Int.add_comm, Int.mul_comm i]
    exact (Cg.refl _ _).add ((cg_emod _ _).trans (ih.mul (Cg.refl _ _)))
theorem horn_val {Q : Int} (hQ : 0 < Q) (i : Int) (zs : List Int) (hz : ∀ k : Nat, 0 ≤ zs[k]?.getD 0 ∧ zs[k]?.getD 0 < Q) : hornS i (upTo (bkOf zs hz) zs.length) = valS Q i zs := by
  have h := horn_cg i zs hz zs.length (Nat.le_refl _)
  rw [Nat.sub_self, List.drop_zero] at h
  have hr := hornS_range i hQ (upTo (bkOf zs hz) zs.length)
  have hv := valS_range i hQ zs
  exact (h.trans (cg_emod _ _).symm).eq hr.1 hr.2 hv.1 hv.2

theorem svalue_any {P Q G i v : Int} {a : Option Addr} {n c : Nat} {xs : List Int} (w : World) (hH : Has P Q G) (hi0 : 0 ≤ i) (hiQ : i < Q) (h : ShI .u64 w a n xs) (hn1 : 1 ≤ n) (hn : n ≤ 1000) (hx : ∀ x, x ∈ xs → 0 ≤ x ∧ x < Q) (hv : valS Q i xs = v) :
    Calls Try.prog 59 #[.agg #[.int .u64 P, .int .u64 Q, .int .u64 G], .slice a n c, .int .i64 i] w fun e w' => e = .returned (.int .u64 v) ∧ Below w.heap.size w w' := by
  have hQ : 0 < Q := by omega
  rcases h with ⟨h0, _⟩ | ⟨s, o, rfl, hl, hs, hc⟩
  · omega
  · subst hl
    refine (svalue_raw w s o c hH hi0 hiQ (getD_range hQ xs hx) hn hs (fun j hj => by rw [hc j hj, List.getD_eq_getElem?_getD])).mono ?_
    rintro e w' ⟨rfl, hb⟩
    exact ⟨ret_int ((horn_val hQ i xs _).trans hv), hb⟩
end Go.Proofs.Ytjfaaicbojnpaaa
