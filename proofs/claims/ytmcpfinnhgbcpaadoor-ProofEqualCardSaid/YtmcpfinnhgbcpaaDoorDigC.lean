/- digest.step: a block compressed into a state. -/
import Derived.Test.YtmcpfinnhgbcpaaDoorDigL
import Derived.Test.YtmcpfinnhgbcpaaDoorStageThree
import Derived.Deep.Cut
import Derived.Deep.CutRange
namespace Go.Proofs.YtmcpfinnhgbcpaaDoor
open Go Go.RowKit Sha
set_option linter.unusedSimpArgs false
set_option linter.unusedVariables false

/-- The two tables, as the program's text lays them. -/
structure Tabs (w : World) : Prop where
  k : ∀ t, t < 64 → w.cell? ⟨1, t, none⟩ = some (.int .u32 (kAt t))
  f : ∀ i, i < 8 → w.cell? ⟨0, i, none⟩ = some (.int .u32 (firstS.l.getD i 0))
  klt : 1 < w.heap.size
  flt : 0 < w.heap.size
theorem Tabs.below {w w' : World} (h : Tabs w) (hb : Below w.heap.size w w') : Tabs w' :=
  ⟨fun t ht => (hb.cell (p := ⟨1, t, none⟩) h.klt).trans (h.k t ht), fun t ht => (hb.cell (p := ⟨0, t, none⟩) h.flt).trans (h.f t ht), Nat.lt_of_lt_of_le h.klt hb.size, Nat.lt_of_lt_of_le h.flt hb.size⟩

theorem exec_loadArr {P : Program} {w : World} {ρ : Operand → Value} {d : Option Tmp} {t ty : TypeId} {p : Operand} {k : IntKind} {b : Nat} {xs : List Int} {n : Nat} {e : TypeId} (hn : n = xs.length) (hp : ρ p = .pointer (some ⟨b, 0, none⟩)) (hu : P.underlying t = some (.array n e))
    (hi : (P.info? t).map (·.size) = some n) (hc : ∀ i, i < xs.length → w.cell? ⟨b, i, none⟩ = some (.int k (xs.getD i 0))) : (execOp ρ (bareOp d (.load t p) ty)).run P w = .ok (.value (.agg (valV k xs))) w := by
  have hrun := run_loadVarArr (P := P) (w := w) t k b 0 xs n e hu (by rw [← hn]; exact hi) (fun i hi => by rw [Nat.zero_add]; exact hc i hi)
  unfold bareOp
  simp [execOp, hp, Instr.loadAt, Instr.sureAddr, hrun, Result.andThen]

/-- A copy within one row: all is read before anything is written. -/
theorem wp_copyArr {P : Program} {w : World} {o : Oper} {a : Act} {K : Act → World → Prop} {Q : Exit → Act → World → Prop} (d s : Operand) (dT sT : TypeId)
    (ho : o.op = .call { callee := .builtin .copy, args := #[d, s], argTypes := #[dT, sT] }) (elem : TypeId) (hu : P.underlying dT = some (.slice elem)) (hsz : (P.info? elem).map (·.size) = some 1)
    (k : IntKind) (b c q q' dLen dCap sLen sCap : Nat) (hd : a.eval d = .slice (some ⟨b, q, none⟩) dLen dCap) (hs : a.eval s = .slice (some ⟨c, q', none⟩) sLen sCap)
    (xs : List Int) (hn : xs.length = Nat.min sLen dLen) (hsrc : ∀ i, i < xs.length → w.cell? ⟨c, q' + i, none⟩ = some (.int k (xs.getD i 0)))
    (hc : ∀ i, i < xs.length → (w.cell? ⟨b, q + i, none⟩).isSome = true) (hf : ∀ i, i < xs.length → w.frozen? ⟨b, q + i, none⟩ = false)
    (h : ∀ w', Laid k w w' b q xs → K (a.put o.dst (goInt xs.length)) w') : Oper.wp P o a w K Q := by
  have hrun := run_copy_cells (P := P) w dT sT o.type elem b q dLen dCap ⟨c, q', none⟩ sLen sCap (xs.map (Value.int k)) hu hsz (by simpa using hn) (cellsAt k hsrc) (by simpa using hc) (by simpa using hf) (valV_one k xs)
  unfold Oper.wp
  simp [execOp, ho, resolve, invoke, builtin, hd, hs, hrun, Result.andThen]
  exact h _ (Laid.of k b q xs hc)

/-- The state of digest.step behind its first statements: the argument's box, the result's, the schedule, the registers. -/
structure StepIn (w wx : World) (Bs Br Bw Bv : Nat) (s v : S8) (p : List Int) (q : Nat) : Prop where
  fs : Arr .u32 wx Bs s.l
  fr : Arr .u32 wx Br (List.replicate 8 0)
  fw : Arr .u32 wx Bw (wsAll p q)
  fv : Arr .u32 wx Bv v.l
  vs : Bv ≠ Bs
  vr : Bv ≠ Br
  vw : Bv ≠ Bw
  sr : Bs ≠ Br
  vl : w.heap.size ≤ Bv
  rl : w.heap.size ≤ Br
  bel : Below w.heap.size w wx
theorem StepIn.drewN {w wx : World} {Bs Br Bw Bv : Nat} {s v : S8} {p : List Int} {q : Nat} (h : StepIn w wx Bs Br Bw Bv s v p q) (n : Nat) : StepIn w (wx.drewN n) Bs Br Bw Bv s v p q :=
  ⟨h.fs.drewN n, h.fr.drewN n, h.fw.drewN n, h.fv.drewN n, h.vs, h.vr, h.vw, h.sr, h.vl, h.rl, below_drewN h.bel n⟩
theorem StepIn.drew {w wx : World} {Bs Br Bw Bv : Nat} {s v : S8} {p : List Int} {q : Nat} (h : StepIn w wx Bs Br Bw Bv s v p q) : StepIn w wx.drew Bs Br Bw Bv s v p q :=
  ⟨h.fs.drew, h.fr.drew, h.fw.drew, h.fv.drew, h.vs, h.vr, h.vw, h.sr, h.vl, h.rl, h.bel.drew⟩
theorem StepIn.laid {w wx wy : World} {Bs Br Bw Bv : Nat} {s v v' : S8} {p : List Int} {q o : Nat} {ys : List Int} (h : StepIn w wx Bs Br Bw Bv s v p q) (hL : Laid .u32 wx wy Bv o ys) (hv : Arr .u32 wy Bv v'.l) : StepIn w wy Bs Br Bw Bv s v' p q :=
  ⟨h.fs.laid hL (Ne.symm h.vs), h.fr.laid hL (Ne.symm h.vr), h.fw.laid hL (Ne.symm h.vw), hv, h.vs, h.vr, h.vw, h.sr, h.vl, h.rl, h.bel.trans (hL.below _ h.vl)⟩
theorem StepIn.set {w wx : World} {Bs Br Bw Bv : Nat} {s v v' : S8} {p : List Int} {q o : Nat} {x : Int} (h : StepIn w wx Bs Br Bw Bv s v p q) (ho : o < 8) (hv : v.l.set o x = v'.l) : StepIn w (wx.setCell ⟨Bv, o, none⟩ (.int .u32 x)) Bs Br Bw Bv s v' p q :=
  ⟨h.fs.far h.vs _, h.fr.far h.vr _, h.fw.far h.vw _, h.fv.set o ho hv, h.vs, h.vr, h.vw, h.sr, h.vl, h.rl, h.bel.setCell h.vl _⟩

theorem Arr.shift {w w' : World} {B : Nat} {a b c d e f g h : Int} (hA : Arr .u32 w B [a, b, c, d, e, f, g, h]) (hL : Laid .u32 w w' B 1 [a, b, c, d, e, f, g]) : Arr .u32 w' B [a, a, b, c, d, e, f, g] := by
  refine ⟨fun i hi => ?_, fun i => (hL.frozen _).trans (hA.f i), by rw [hL.size]; exact hA.lt⟩
  cases i with
  | zero => exact (hL.beside 0 (.inl (by decide))).trans (hA.c 0 (by simp))
  | succ j =>
    have hj : j < 7 := by simp at hi; omega
    have := hL.row j hj
    rw [Nat.add_comm 1 j] at this
    rw [this]
    rfl
theorem take7 {a b c d e f g h : Int} {i : Nat} (hi : i < 7) : [a, b, c, d, e, f, g, h].getD i 0 = [a, b, c, d, e, f, g].getD i 0 := by
  have : i = 0 ∨ i = 1 ∨ i = 2 ∨ i = 3 ∨ i = 4 ∨ i = 5 ∨ i = 6 := by omega
  rcases this with rfl | rfl | rfl | rfl | rfl | rfl | rfl <;> rfl
theorem StepIn.round {w wx : World} {Bs Br Bw Bv : Nat} {s : S8} {p : List Int} {q : Nat} {a b c d e f g x y X Y : Int} (h : StepIn w wx Bs Br Bw Bv s ⟨a, a, b, c, d, e, f, g⟩ p q) (hx : X = M (d + x)) (hy : Y = M (x + y)) :
    StepIn w ((wx.setCell ⟨Bv, 4, none⟩ (.int .u32 X)).setCell ⟨Bv, 0, none⟩ (.int .u32 Y)) Bs Br Bw Bv s ⟨M (x + y), a, b, c, M (d + x), e, f, g⟩ p q := by
  subst hx hy
  exact (h.set (v' := ⟨a, a, b, c, M (d + x), e, f, g⟩) (by decide) rfl).set (by decide) rfl

/-- The sums, so far as they are reckoned. -/
def mixL (s v : S8) (n : Nat) : List Int := (List.range 8).map fun i => if i < n then M (s.l.getD i 0 + v.l.getD i 0) else s.l.getD i 0
theorem mixL_len (s v : S8) (n : Nat) : (mixL s v n).length = 8 := by simp [mixL]
theorem mixL_zero (s v : S8) : mixL s v 0 = s.l := rfl
theorem mixL_all (s v : S8) : mixL s v 8 = (add8 s v).l := rfl
theorem mixL_get (s v : S8) (n : Nat) (h : n < 8) : (mixL s v n).getD n 0 = s.l.getD n 0 := by
  simp [mixL, List.getD_eq_getElem?_getD, h]
theorem mixL_succ (s v : S8) (n : Nat) (hn : n < 8) {x : Int} (hx : x = M (s.l.getD n 0 + v.l.getD n 0)) : (mixL s v n).set n x = mixL s v (n + 1) := by
  subst hx
  apply List.ext_getElem
  · simp [mixL]
  · intro i h1 h2
    simp only [List.getElem_set, mixL, List.getElem_map, List.getElem_range]
    by_cases e : n = i
    · subst e; simp
    · have : (i < n + 1) = (i < n) := propext (by omega)
      simp [e, this]
structure AddIn (w wx : World) (Bs Br Bv : Nat) (xs : List Int) (v : S8) : Prop where
  fs : Arr .u32 wx Bs xs
  fr : Arr .u32 wx Br (List.replicate 8 0)
  fv : Arr .u32 wx Bv v.l
  vs : Bv ≠ Bs
  sr : Bs ≠ Br
  sl : w.heap.size ≤ Bs
  rl : w.heap.size ≤ Br
  bel : Below w.heap.size w wx
theorem AddIn.drew {w wx : World} {Bs Br Bv : Nat} {xs : List Int} {v : S8} (h : AddIn w wx Bs Br Bv xs v) : AddIn w wx.drew Bs Br Bv xs v :=
  ⟨h.fs.drew, h.fr.drew, h.fv.drew, h.vs, h.sr, h.sl, h.rl, h.bel.drew⟩
theorem AddIn.set {w wx : World} {Bs Br Bv : Nat} {xs ys : List Int} {v : S8} {o : Nat} {x : Int} (h : AddIn w wx Bs Br Bv xs v) (ho : o < xs.length) (hv : xs.set o x = ys) : AddIn w (wx.setCell ⟨Bs, o, none⟩ (.int .u32 x)) Bs Br Bv ys v :=
  ⟨h.fs.set o ho hv, h.fr.far h.sr _, h.fv.far (Ne.symm h.vs) _, h.vs, h.sr, h.sl, h.rl, h.bel.setCell h.sl _⟩

set_option maxRecDepth 100000 in
set_option maxHeartbeats 8000000 in
theorem dstep_any {o m sb q : Nat} {p : List Int} {s : S8} (w : World) (hT : Tabs w) (h : Blk w sb o p q) (hm : 64 ≤ m) :
    Calls Tryd.prog 87 #[.agg (valV .u32 s.l), .slice (some ⟨sb, o, none⟩) 64 m] w fun e w' => e = .returned (.agg (valV .u32 (stepS p q s).l)) ∧ Below w.heap.size w w' := by
  have HT := Lib.hid hT
  have HS := Lib.hid h
  have hsl := h.lt
  clear h hT
  go_enter Tryd.func87, Tryd.ntmps87
  go_wp2_with (first
    | (refine wpL_boxArr rfl 111 .u32 _ s.l rfl rfl ?_; intro w1 h1; have F_s := Lib.hid h1.arr; have HBW := Lib.hid (h1.below _ (Nat.le_refl _)); have hle := HBW.out.size; clear h1; simp only [Act.put, List.setIfInBounds_toArray, List.set_cons_zero, List.set_cons_succ])
    | (refine wpL_allocArr rfl 111 .u32 8 rfl (by kernel_rfl) ?_; intro w2 h2; have ne_s_r := Nat.ne_of_lt F_s.out.lt; replace F_s := Lib.hid (F_s.out.keep (h2.below _ (Nat.le_refl _))); have F_r := Lib.hid h2.arr; replace HBW := Lib.hid (HBW.out.trans (h2.below _ HBW.out.size)); clear h2; simp only [Act.put, List.setIfInBounds_toArray, List.set_cons_zero, List.set_cons_succ]))
  go_cut [5, 6] from 13 to 15 (fun c5 c6 wx => ∃ Bw Bv : Nat, c5 = .pointer (some ⟨Bw, 0, none⟩) ∧ c6 = .pointer (some ⟨Bv, 0, none⟩) ∧ Hid (StepIn w wx w.heap.size w1.heap.size Bw Bv s s p q))
  case first =>
    replace F_s := Lib.hid F_s.out.drew
    replace F_r := Lib.hid F_r.out.drew
    replace HBW := Lib.hid HBW.out.drew
    refine wp_region_stage 6 (fun w' => ∀ i, i < s.l.length → w'.cell? ⟨w.heap.size, i, none⟩ = some (.int .u32 (s.l.getD i 0))) (by kernel_rfl) ?_
    refine wpAnyB_takeP (i := 0) (some 13) (Op.move (Operand.tmp 1)) 27 (v := ?_) ⟨_, rfl, rfl, rfl, rfl, rfl⟩ (by kernel_rfl) (by kernel_rfl) (by kernel_rfl) (by kernel_rfl) (fun _ _ _ h => h) (fun _ => F_s.out.c) (fun w' => ?_) ?_
    rotate_left
    · unfold bareOp
      go_simp
      try with_reducible rfl
    simp only [Act.put, List.setIfInBounds_toArray, List.set_cons_zero, List.set_cons_succ]
    refine wpAnyB_take (i := 2) (some 15) (Op.load 111 (Operand.tmp 2)) 111 (v := .agg (valV .u32 s.l)) ⟨_, rfl, rfl, rfl, rfl, rfl⟩ (by kernel_rfl) (by kernel_rfl) (by kernel_rfl) [6] (by kernel_rfl) (fun _ _ _ h => h) F_s.out.c (fun w' hSw => exec_loadArr rfl rfl Tryd.underlying111 (by kernel_rfl) hSw) ?_
    try simp only [Act.put, List.setIfInBounds_toArray, List.set_cons_zero, List.set_cons_succ]
    refine wpAnyB_three (i := 1) (j := 3) (k := 4) (some 14) (Op.call { callee := Callee.value (Operand.func 93), args := #[Operand.tmp 13], argTypes := #[27] }) 118 (some 5) (Op.alloc 118) 0 (some 6) (Op.alloc 111) 0 ⟨_, rfl, rfl, rfl, rfl, rfl⟩ ⟨_, rfl, rfl, rfl, rfl, rfl⟩ ⟨_, rfl, rfl, rfl, rfl, rfl⟩ (by kernel_rfl) (fun K hK => ?_) (fun K hK => ?_) (fun K hK => ?_)
    · skip
      unfold bareOp
      go_wp2_with (go_at_call 93; refine (dspread_any (q := q) (p := p) _ (HS.out.below HBW.out hsl) hm).mono ?_; rintro e w21 ⟨rfl, hb21⟩)
      replace F_s := Lib.hid (F_s.out.keep hb21)
      replace F_r := Lib.hid (F_r.out.keep hb21)
      replace HBW := Lib.hid (HBW.out.trans (hb21.mono HBW.out.size))
      clear hb21
      refine hK.out _ _ (fun _ => F_s.out.c) ?_
      clear hK K
      try simp only [Act.put, List.setIfInBounds_toArray, List.set_cons_zero, List.set_cons_succ]
      refine wpAnyB_two (i := 3) (j := 4) (some 5) (Op.alloc 118) 0 (some 6) (Op.alloc 111) 0 ⟨_, rfl, rfl, rfl, rfl, rfl⟩ ⟨_, rfl, rfl, rfl, rfl, rfl⟩ (by kernel_rfl) (fun K hK => ?_) (fun K hK => ?_)
      · skip
        unfold bareOp
        refine wp_allocArr 118 .u32 64 rfl (by kernel_rfl) ?_
        intro w22 h22
        have H22 := Lib.hid h22
        clear h22
        have ne_s_w := Nat.ne_of_lt F_s.out.lt
        replace F_s := Lib.hid (F_s.out.keep (H22.out.below _ (Nat.le_refl _)))
        have ne_r_w := Nat.ne_of_lt F_r.out.lt
        replace F_r := Lib.hid (F_r.out.keep (H22.out.below _ (Nat.le_refl _)))
        have le_w := HBW.out.size
        have F_w := Lib.hid H22.out.arr
        replace HBW := Lib.hid (HBW.out.trans (H22.out.below _ HBW.out.size))
        clear H22
        refine hK.out _ _ (fun _ => F_s.out.c) ?_
        clear hK K
        try simp only [Act.put, List.setIfInBounds_toArray, List.set_cons_zero, List.set_cons_succ]
        refine wpAnyB_only (i := 4) (some 6) (Op.alloc 111) 0 ⟨_, rfl, rfl, rfl, rfl, rfl⟩ (by kernel_rfl) (fun K hK => ?_)
        unfold bareOp
        refine wp_allocArr 111 .u32 8 rfl (by kernel_rfl) ?_
        intro w23 h23
        have H23 := Lib.hid h23
        clear h23
        have ne_s_v := Nat.ne_of_lt F_s.out.lt
        replace F_s := Lib.hid (F_s.out.keep (H23.out.below _ (Nat.le_refl _)))
        have ne_r_v := Nat.ne_of_lt F_r.out.lt
        replace F_r := Lib.hid (F_r.out.keep (H23.out.below _ (Nat.le_refl _)))
        have ne_w_v := Nat.ne_of_lt F_w.out.lt
        replace F_w := Lib.hid (F_w.out.keep (H23.out.below _ (Nat.le_refl _)))
        have le_v := HBW.out.size
        have F_v := Lib.hid H23.out.arr
        replace HBW := Lib.hid (HBW.out.trans (H23.out.below _ HBW.out.size))
        clear H23
        refine hK.out _ _ (fun _ => F_s.out.c) ?_
        clear hK K
        try simp only [Act.put, List.setIfInBounds_toArray, List.set_cons_zero, List.set_cons_succ]
        refine wpAnyB_only (i := 5) none (Op.store 118 (Operand.tmp 5) (Operand.tmp 14)) 0 ⟨_, rfl, rfl, rfl, rfl, rfl⟩ (by kernel_rfl) (fun K hK => ?_)
        unfold bareOp
        refine wp_storeArr 118 .u32 _ _ _ (wsAll p q) _ rfl rfl rfl rfl (by rw [wsAll_len]; kernel_rfl) F_w.out (by rw [wsAll_len]; rfl) ?_
        intro w24 h24
        have H24 := Lib.hid h24
        clear h24
        replace F_s := Lib.hid (F_s.out.laid H24.out ne_s_w)
        replace F_r := Lib.hid (F_r.out.laid H24.out ne_r_w)
        replace F_v := Lib.hid (F_v.out.laid H24.out (Ne.symm ne_w_v))
        replace F_w := Lib.hid (F_w.out.whole H24.out)
        replace HBW := Lib.hid (HBW.out.trans (H24.out.below _ le_w))
        clear H24
        refine hK.out _ _ (fun _ => F_s.out.c) ?_
        clear hK K
        try simp only [Act.put, List.setIfInBounds_toArray, List.set_cons_zero, List.set_cons_succ]
        refine wpAnyB_only (i := 6) none (Op.store 111 (Operand.tmp 6) (Operand.tmp 15)) 0 ⟨_, rfl, rfl, rfl, rfl, rfl⟩ (by kernel_rfl) (fun K hK => ?_)
        unfold bareOp
        refine wp_storeArr 111 .u32 _ _ _ s.l _ rfl rfl rfl rfl (by kernel_rfl) F_v.out (by rfl) ?_
        intro w25 h25
        have H25 := Lib.hid h25
        clear h25
        replace F_s := Lib.hid (F_s.out.laid H25.out ne_s_v)
        replace F_r := Lib.hid (F_r.out.laid H25.out ne_r_v)
        replace F_w := Lib.hid (F_w.out.laid H25.out ne_w_v)
        replace F_v := Lib.hid (F_v.out.whole H25.out)
        replace HBW := Lib.hid (HBW.out.trans (H25.out.below _ le_v))
        clear H25
        refine hK.out _ _ (fun h => absurd (h.symm.trans (by kernel_rfl : _ = true)) (by decide)) ?_
        clear hK K
        try simp only [Act.put, List.setIfInBounds_toArray, List.set_cons_zero, List.set_cons_succ]
        refine wpAnyB_done (by kernel_rfl) ?_ _
        go_wp2_with fail
        go_meet
        case rel => exact ⟨_, _, rfl, rfl, ⟨F_s.out, F_r.out, F_w.out, F_v.out, Ne.symm ne_s_v, Ne.symm ne_r_v, Ne.symm ne_w_v, ne_s_r, le_v, hle, HBW.out⟩⟩
      · skip
        unfold bareOp
        refine wp_allocArr 111 .u32 8 rfl (by kernel_rfl) ?_
        intro w22 h22
        have H22 := Lib.hid h22
        clear h22
        have ne_s_v := Nat.ne_of_lt F_s.out.lt
        replace F_s := Lib.hid (F_s.out.keep (H22.out.below _ (Nat.le_refl _)))
        have ne_r_v := Nat.ne_of_lt F_r.out.lt
        replace F_r := Lib.hid (F_r.out.keep (H22.out.below _ (Nat.le_refl _)))
        have le_v := HBW.out.size
        have F_v := Lib.hid H22.out.arr
        replace HBW := Lib.hid (HBW.out.trans (H22.out.below _ HBW.out.size))
        clear H22
        refine hK.out _ _ (fun _ => F_s.out.c) ?_
        clear hK K
        try simp only [Act.put, List.setIfInBounds_toArray, List.set_cons_zero, List.set_cons_succ]
        refine wpAnyB_only (i := 3) (some 5) (Op.alloc 118) 0 ⟨_, rfl, rfl, rfl, rfl, rfl⟩ (by kernel_rfl) (fun K hK => ?_)
        unfold bareOp
        refine wp_allocArr 118 .u32 64 rfl (by kernel_rfl) ?_
        intro w23 h23
        have H23 := Lib.hid h23
        clear h23
        have ne_s_w := Nat.ne_of_lt F_s.out.lt
        replace F_s := Lib.hid (F_s.out.keep (H23.out.below _ (Nat.le_refl _)))
        have ne_r_w := Nat.ne_of_lt F_r.out.lt
        replace F_r := Lib.hid (F_r.out.keep (H23.out.below _ (Nat.le_refl _)))
        have ne_v_w := Nat.ne_of_lt F_v.out.lt
        replace F_v := Lib.hid (F_v.out.keep (H23.out.below _ (Nat.le_refl _)))
        have le_w := HBW.out.size
        have F_w := Lib.hid H23.out.arr
        replace HBW := Lib.hid (HBW.out.trans (H23.out.below _ HBW.out.size))
        clear H23
        refine hK.out _ _ (fun _ => F_s.out.c) ?_
        clear hK K
        try simp only [Act.put, List.setIfInBounds_toArray, List.set_cons_zero, List.set_cons_succ]
        refine wpAnyB_only (i := 5) none (Op.store 118 (Operand.tmp 5) (Operand.tmp 14)) 0 ⟨_, rfl, rfl, rfl, rfl, rfl⟩ (by kernel_rfl) (fun K hK => ?_)
        unfold bareOp
        refine wp_storeArr 118 .u32 _ _ _ (wsAll p q) _ rfl rfl rfl rfl (by rw [wsAll_len]; kernel_rfl) F_w.out (by rw [wsAll_len]; rfl) ?_
        intro w24 h24
        have H24 := Lib.hid h24
        clear h24
        replace F_s := Lib.hid (F_s.out.laid H24.out ne_s_w)
        replace F_r := Lib.hid (F_r.out.laid H24.out ne_r_w)
        replace F_v := Lib.hid (F_v.out.laid H24.out ne_v_w)
        replace F_w := Lib.hid (F_w.out.whole H24.out)
        replace HBW := Lib.hid (HBW.out.trans (H24.out.below _ le_w))
        clear H24
        refine hK.out _ _ (fun _ => F_s.out.c) ?_
        clear hK K
        try simp only [Act.put, List.setIfInBounds_toArray, List.set_cons_zero, List.set_cons_succ]
        refine wpAnyB_only (i := 6) none (Op.store 111 (Operand.tmp 6) (Operand.tmp 15)) 0 ⟨_, rfl, rfl, rfl, rfl, rfl⟩ (by kernel_rfl) (fun K hK => ?_)
        unfold bareOp
        refine wp_storeArr 111 .u32 _ _ _ s.l _ rfl rfl rfl rfl (by kernel_rfl) F_v.out (by rfl) ?_
        intro w25 h25
        have H25 := Lib.hid h25
        clear h25
        replace F_s := Lib.hid (F_s.out.laid H25.out ne_s_v)
        replace F_r := Lib.hid (F_r.out.laid H25.out ne_r_v)
        replace F_w := Lib.hid (F_w.out.laid H25.out (Ne.symm ne_v_w))
        replace F_v := Lib.hid (F_v.out.whole H25.out)
        replace HBW := Lib.hid (HBW.out.trans (H25.out.below _ le_v))
        clear H25
        refine hK.out _ _ (fun h => absurd (h.symm.trans (by kernel_rfl : _ = true)) (by decide)) ?_
        clear hK K
        try simp only [Act.put, List.setIfInBounds_toArray, List.set_cons_zero, List.set_cons_succ]
        refine wpAnyB_done (by kernel_rfl) ?_ _
        go_wp2_with fail
        go_meet
        case rel => exact ⟨_, _, rfl, rfl, ⟨F_s.out, F_r.out, F_w.out, F_v.out, Ne.symm ne_s_v, Ne.symm ne_r_v, ne_v_w, ne_s_r, le_v, hle, HBW.out⟩⟩
    · skip
      unfold bareOp
      refine wp_allocArr 118 .u32 64 rfl (by kernel_rfl) ?_
      intro w21 h21
      have H21 := Lib.hid h21
      clear h21
      have ne_s_w := Nat.ne_of_lt F_s.out.lt
      replace F_s := Lib.hid (F_s.out.keep (H21.out.below _ (Nat.le_refl _)))
      have ne_r_w := Nat.ne_of_lt F_r.out.lt
      replace F_r := Lib.hid (F_r.out.keep (H21.out.below _ (Nat.le_refl _)))
      have le_w := HBW.out.size
      have F_w := Lib.hid H21.out.arr
      replace HBW := Lib.hid (HBW.out.trans (H21.out.below _ HBW.out.size))
      clear H21
      refine hK.out _ _ (fun _ => F_s.out.c) ?_
      clear hK K
      try simp only [Act.put, List.setIfInBounds_toArray, List.set_cons_zero, List.set_cons_succ]
      refine wpAnyB_two (i := 1) (j := 4) (some 14) (Op.call { callee := Callee.value (Operand.func 93), args := #[Operand.tmp 13], argTypes := #[27] }) 118 (some 6) (Op.alloc 111) 0 ⟨_, rfl, rfl, rfl, rfl, rfl⟩ ⟨_, rfl, rfl, rfl, rfl, rfl⟩ (by kernel_rfl) (fun K hK => ?_) (fun K hK => ?_)
      · skip
        unfold bareOp
        go_wp2_with (go_at_call 93; refine (dspread_any (q := q) (p := p) _ (HS.out.below HBW.out hsl) hm).mono ?_; rintro e w22 ⟨rfl, hb22⟩)
        replace F_s := Lib.hid (F_s.out.keep hb22)
        replace F_r := Lib.hid (F_r.out.keep hb22)
        replace F_w := Lib.hid (F_w.out.keep hb22)
        replace HBW := Lib.hid (HBW.out.trans (hb22.mono HBW.out.size))
        clear hb22
        refine hK.out _ _ (fun _ => F_s.out.c) ?_
        clear hK K
        try simp only [Act.put, List.setIfInBounds_toArray, List.set_cons_zero, List.set_cons_succ]
        refine wpAnyB_only (i := 4) (some 6) (Op.alloc 111) 0 ⟨_, rfl, rfl, rfl, rfl, rfl⟩ (by kernel_rfl) (fun K hK => ?_)
        unfold bareOp
        refine wp_allocArr 111 .u32 8 rfl (by kernel_rfl) ?_
        intro w23 h23
        have H23 := Lib.hid h23
        clear h23
        have ne_s_v := Nat.ne_of_lt F_s.out.lt
        replace F_s := Lib.hid (F_s.out.keep (H23.out.below _ (Nat.le_refl _)))
        have ne_r_v := Nat.ne_of_lt F_r.out.lt
        replace F_r := Lib.hid (F_r.out.keep (H23.out.below _ (Nat.le_refl _)))
        have ne_w_v := Nat.ne_of_lt F_w.out.lt
        replace F_w := Lib.hid (F_w.out.keep (H23.out.below _ (Nat.le_refl _)))
        have le_v := HBW.out.size
        have F_v := Lib.hid H23.out.arr
        replace HBW := Lib.hid (HBW.out.trans (H23.out.below _ HBW.out.size))
        clear H23
        refine hK.out _ _ (fun _ => F_s.out.c) ?_
        clear hK K
        try simp only [Act.put, List.setIfInBounds_toArray, List.set_cons_zero, List.set_cons_succ]
        refine wpAnyB_only (i := 5) none (Op.store 118 (Operand.tmp 5) (Operand.tmp 14)) 0 ⟨_, rfl, rfl, rfl, rfl, rfl⟩ (by kernel_rfl) (fun K hK => ?_)
        unfold bareOp
        refine wp_storeArr 118 .u32 _ _ _ (wsAll p q) _ rfl rfl rfl rfl (by rw [wsAll_len]; kernel_rfl) F_w.out (by rw [wsAll_len]; rfl) ?_
        intro w24 h24
        have H24 := Lib.hid h24
        clear h24
        replace F_s := Lib.hid (F_s.out.laid H24.out ne_s_w)
        replace F_r := Lib.hid (F_r.out.laid H24.out ne_r_w)
        replace F_v := Lib.hid (F_v.out.laid H24.out (Ne.symm ne_w_v))
        replace F_w := Lib.hid (F_w.out.whole H24.out)
        replace HBW := Lib.hid (HBW.out.trans (H24.out.below _ le_w))
        clear H24
        refine hK.out _ _ (fun _ => F_s.out.c) ?_
        clear hK K
        try simp only [Act.put, List.setIfInBounds_toArray, List.set_cons_zero, List.set_cons_succ]
        refine wpAnyB_only (i := 6) none (Op.store 111 (Operand.tmp 6) (Operand.tmp 15)) 0 ⟨_, rfl, rfl, rfl, rfl, rfl⟩ (by kernel_rfl) (fun K hK => ?_)
        unfold bareOp
        refine wp_storeArr 111 .u32 _ _ _ s.l _ rfl rfl rfl rfl (by kernel_rfl) F_v.out (by rfl) ?_
        intro w25 h25
        have H25 := Lib.hid h25
        clear h25
        replace F_s := Lib.hid (F_s.out.laid H25.out ne_s_v)
        replace F_r := Lib.hid (F_r.out.laid H25.out ne_r_v)
        replace F_w := Lib.hid (F_w.out.laid H25.out ne_w_v)
        replace F_v := Lib.hid (F_v.out.whole H25.out)
        replace HBW := Lib.hid (HBW.out.trans (H25.out.below _ le_v))
        clear H25
        refine hK.out _ _ (fun h => absurd (h.symm.trans (by kernel_rfl : _ = true)) (by decide)) ?_
        clear hK K
        try simp only [Act.put, List.setIfInBounds_toArray, List.set_cons_zero, List.set_cons_succ]
        refine wpAnyB_done (by kernel_rfl) ?_ _
        go_wp2_with fail
        go_meet
        case rel => exact ⟨_, _, rfl, rfl, ⟨F_s.out, F_r.out, F_w.out, F_v.out, Ne.symm ne_s_v, Ne.symm ne_r_v, Ne.symm ne_w_v, ne_s_r, le_v, hle, HBW.out⟩⟩
      · skip
        unfold bareOp
        refine wp_allocArr 111 .u32 8 rfl (by kernel_rfl) ?_
        intro w22 h22
        have H22 := Lib.hid h22
        clear h22
        have ne_s_v := Nat.ne_of_lt F_s.out.lt
        replace F_s := Lib.hid (F_s.out.keep (H22.out.below _ (Nat.le_refl _)))
        have ne_r_v := Nat.ne_of_lt F_r.out.lt
        replace F_r := Lib.hid (F_r.out.keep (H22.out.below _ (Nat.le_refl _)))
        have ne_w_v := Nat.ne_of_lt F_w.out.lt
        replace F_w := Lib.hid (F_w.out.keep (H22.out.below _ (Nat.le_refl _)))
        have le_v := HBW.out.size
        have F_v := Lib.hid H22.out.arr
        replace HBW := Lib.hid (HBW.out.trans (H22.out.below _ HBW.out.size))
        clear H22
        refine hK.out _ _ (fun _ => F_s.out.c) ?_
        clear hK K
        try simp only [Act.put, List.setIfInBounds_toArray, List.set_cons_zero, List.set_cons_succ]
        refine wpAnyB_only (i := 1) (some 14) (Op.call { callee := Callee.value (Operand.func 93), args := #[Operand.tmp 13], argTypes := #[27] }) 118 ⟨_, rfl, rfl, rfl, rfl, rfl⟩ (by kernel_rfl) (fun K hK => ?_)
        unfold bareOp
        go_wp2_with (go_at_call 93; refine (dspread_any (q := q) (p := p) _ (HS.out.below HBW.out hsl) hm).mono ?_; rintro e w23 ⟨rfl, hb23⟩)
        replace F_s := Lib.hid (F_s.out.keep hb23)
        replace F_r := Lib.hid (F_r.out.keep hb23)
        replace F_w := Lib.hid (F_w.out.keep hb23)
        replace F_v := Lib.hid (F_v.out.keep hb23)
        replace HBW := Lib.hid (HBW.out.trans (hb23.mono HBW.out.size))
        clear hb23
        refine hK.out _ _ (fun _ => F_s.out.c) ?_
        clear hK K
        try simp only [Act.put, List.setIfInBounds_toArray, List.set_cons_zero, List.set_cons_succ]
        refine wpAnyB_only (i := 5) none (Op.store 118 (Operand.tmp 5) (Operand.tmp 14)) 0 ⟨_, rfl, rfl, rfl, rfl, rfl⟩ (by kernel_rfl) (fun K hK => ?_)
        unfold bareOp
        refine wp_storeArr 118 .u32 _ _ _ (wsAll p q) _ rfl rfl rfl rfl (by rw [wsAll_len]; kernel_rfl) F_w.out (by rw [wsAll_len]; rfl) ?_
        intro w24 h24
        have H24 := Lib.hid h24
        clear h24
        replace F_s := Lib.hid (F_s.out.laid H24.out ne_s_w)
        replace F_r := Lib.hid (F_r.out.laid H24.out ne_r_w)
        replace F_v := Lib.hid (F_v.out.laid H24.out (Ne.symm ne_w_v))
        replace F_w := Lib.hid (F_w.out.whole H24.out)
        replace HBW := Lib.hid (HBW.out.trans (H24.out.below _ le_w))
        clear H24
        refine hK.out _ _ (fun _ => F_s.out.c) ?_
        clear hK K
        try simp only [Act.put, List.setIfInBounds_toArray, List.set_cons_zero, List.set_cons_succ]
        refine wpAnyB_only (i := 6) none (Op.store 111 (Operand.tmp 6) (Operand.tmp 15)) 0 ⟨_, rfl, rfl, rfl, rfl, rfl⟩ (by kernel_rfl) (fun K hK => ?_)
        unfold bareOp
        refine wp_storeArr 111 .u32 _ _ _ s.l _ rfl rfl rfl rfl (by kernel_rfl) F_v.out (by rfl) ?_
        intro w25 h25
        have H25 := Lib.hid h25
        clear h25
        replace F_s := Lib.hid (F_s.out.laid H25.out ne_s_v)
        replace F_r := Lib.hid (F_r.out.laid H25.out ne_r_v)
        replace F_w := Lib.hid (F_w.out.laid H25.out ne_w_v)
        replace F_v := Lib.hid (F_v.out.whole H25.out)
        replace HBW := Lib.hid (HBW.out.trans (H25.out.below _ le_v))
        clear H25
        refine hK.out _ _ (fun h => absurd (h.symm.trans (by kernel_rfl : _ = true)) (by decide)) ?_
        clear hK K
        try simp only [Act.put, List.setIfInBounds_toArray, List.set_cons_zero, List.set_cons_succ]
        refine wpAnyB_done (by kernel_rfl) ?_ _
        go_wp2_with fail
        go_meet
        case rel => exact ⟨_, _, rfl, rfl, ⟨F_s.out, F_r.out, F_w.out, F_v.out, Ne.symm ne_s_v, Ne.symm ne_r_v, Ne.symm ne_w_v, ne_s_r, le_v, hle, HBW.out⟩⟩
    · skip
      unfold bareOp
      refine wp_allocArr 111 .u32 8 rfl (by kernel_rfl) ?_
      intro w21 h21
      have H21 := Lib.hid h21
      clear h21
      have ne_s_v := Nat.ne_of_lt F_s.out.lt
      replace F_s := Lib.hid (F_s.out.keep (H21.out.below _ (Nat.le_refl _)))
      have ne_r_v := Nat.ne_of_lt F_r.out.lt
      replace F_r := Lib.hid (F_r.out.keep (H21.out.below _ (Nat.le_refl _)))
      have le_v := HBW.out.size
      have F_v := Lib.hid H21.out.arr
      replace HBW := Lib.hid (HBW.out.trans (H21.out.below _ HBW.out.size))
      clear H21
      refine hK.out _ _ (fun _ => F_s.out.c) ?_
      clear hK K
      try simp only [Act.put, List.setIfInBounds_toArray, List.set_cons_zero, List.set_cons_succ]
      refine wpAnyB_two (i := 1) (j := 3) (some 14) (Op.call { callee := Callee.value (Operand.func 93), args := #[Operand.tmp 13], argTypes := #[27] }) 118 (some 5) (Op.alloc 118) 0 ⟨_, rfl, rfl, rfl, rfl, rfl⟩ ⟨_, rfl, rfl, rfl, rfl, rfl⟩ (by kernel_rfl) (fun K hK => ?_) (fun K hK => ?_)
      · skip
        unfold bareOp
        go_wp2_with (go_at_call 93; refine (dspread_any (q := q) (p := p) _ (HS.out.below HBW.out hsl) hm).mono ?_; rintro e w22 ⟨rfl, hb22⟩)
        replace F_s := Lib.hid (F_s.out.keep hb22)
        replace F_r := Lib.hid (F_r.out.keep hb22)
        replace F_v := Lib.hid (F_v.out.keep hb22)
        replace HBW := Lib.hid (HBW.out.trans (hb22.mono HBW.out.size))
        clear hb22
        refine hK.out _ _ (fun _ => F_s.out.c) ?_
        clear hK K
        try simp only [Act.put, List.setIfInBounds_toArray, List.set_cons_zero, List.set_cons_succ]
        refine wpAnyB_only (i := 3) (some 5) (Op.alloc 118) 0 ⟨_, rfl, rfl, rfl, rfl, rfl⟩ (by kernel_rfl) (fun K hK => ?_)
        unfold bareOp
        refine wp_allocArr 118 .u32 64 rfl (by kernel_rfl) ?_
        intro w23 h23
        have H23 := Lib.hid h23
        clear h23
        have ne_s_w := Nat.ne_of_lt F_s.out.lt
        replace F_s := Lib.hid (F_s.out.keep (H23.out.below _ (Nat.le_refl _)))
        have ne_r_w := Nat.ne_of_lt F_r.out.lt
        replace F_r := Lib.hid (F_r.out.keep (H23.out.below _ (Nat.le_refl _)))
        have ne_v_w := Nat.ne_of_lt F_v.out.lt
        replace F_v := Lib.hid (F_v.out.keep (H23.out.below _ (Nat.le_refl _)))
        have le_w := HBW.out.size
        have F_w := Lib.hid H23.out.arr
        replace HBW := Lib.hid (HBW.out.trans (H23.out.below _ HBW.out.size))
        clear H23
        refine hK.out _ _ (fun _ => F_s.out.c) ?_
        clear hK K
        try simp only [Act.put, List.setIfInBounds_toArray, List.set_cons_zero, List.set_cons_succ]
        refine wpAnyB_only (i := 5) none (Op.store 118 (Operand.tmp 5) (Operand.tmp 14)) 0 ⟨_, rfl, rfl, rfl, rfl, rfl⟩ (by kernel_rfl) (fun K hK => ?_)
        unfold bareOp
        refine wp_storeArr 118 .u32 _ _ _ (wsAll p q) _ rfl rfl rfl rfl (by rw [wsAll_len]; kernel_rfl) F_w.out (by rw [wsAll_len]; rfl) ?_
        intro w24 h24
        have H24 := Lib.hid h24
        clear h24
        replace F_s := Lib.hid (F_s.out.laid H24.out ne_s_w)
        replace F_r := Lib.hid (F_r.out.laid H24.out ne_r_w)
        replace F_v := Lib.hid (F_v.out.laid H24.out ne_v_w)
        replace F_w := Lib.hid (F_w.out.whole H24.out)
        replace HBW := Lib.hid (HBW.out.trans (H24.out.below _ le_w))
        clear H24
        refine hK.out _ _ (fun _ => F_s.out.c) ?_
        clear hK K
        try simp only [Act.put, List.setIfInBounds_toArray, List.set_cons_zero, List.set_cons_succ]
        refine wpAnyB_only (i := 6) none (Op.store 111 (Operand.tmp 6) (Operand.tmp 15)) 0 ⟨_, rfl, rfl, rfl, rfl, rfl⟩ (by kernel_rfl) (fun K hK => ?_)
        unfold bareOp
        refine wp_storeArr 111 .u32 _ _ _ s.l _ rfl rfl rfl rfl (by kernel_rfl) F_v.out (by rfl) ?_
        intro w25 h25
        have H25 := Lib.hid h25
        clear h25
        replace F_s := Lib.hid (F_s.out.laid H25.out ne_s_v)
        replace F_r := Lib.hid (F_r.out.laid H25.out ne_r_v)
        replace F_w := Lib.hid (F_w.out.laid H25.out (Ne.symm ne_v_w))
        replace F_v := Lib.hid (F_v.out.whole H25.out)
        replace HBW := Lib.hid (HBW.out.trans (H25.out.below _ le_v))
        clear H25
        refine hK.out _ _ (fun h => absurd (h.symm.trans (by kernel_rfl : _ = true)) (by decide)) ?_
        clear hK K
        try simp only [Act.put, List.setIfInBounds_toArray, List.set_cons_zero, List.set_cons_succ]
        refine wpAnyB_done (by kernel_rfl) ?_ _
        go_wp2_with fail
        go_meet
        case rel => exact ⟨_, _, rfl, rfl, ⟨F_s.out, F_r.out, F_w.out, F_v.out, Ne.symm ne_s_v, Ne.symm ne_r_v, ne_v_w, ne_s_r, le_v, hle, HBW.out⟩⟩
      · skip
        unfold bareOp
        refine wp_allocArr 118 .u32 64 rfl (by kernel_rfl) ?_
        intro w22 h22
        have H22 := Lib.hid h22
        clear h22
        have ne_s_w := Nat.ne_of_lt F_s.out.lt
        replace F_s := Lib.hid (F_s.out.keep (H22.out.below _ (Nat.le_refl _)))
        have ne_r_w := Nat.ne_of_lt F_r.out.lt
        replace F_r := Lib.hid (F_r.out.keep (H22.out.below _ (Nat.le_refl _)))
        have ne_v_w := Nat.ne_of_lt F_v.out.lt
        replace F_v := Lib.hid (F_v.out.keep (H22.out.below _ (Nat.le_refl _)))
        have le_w := HBW.out.size
        have F_w := Lib.hid H22.out.arr
        replace HBW := Lib.hid (HBW.out.trans (H22.out.below _ HBW.out.size))
        clear H22
        refine hK.out _ _ (fun _ => F_s.out.c) ?_
        clear hK K
        try simp only [Act.put, List.setIfInBounds_toArray, List.set_cons_zero, List.set_cons_succ]
        refine wpAnyB_only (i := 1) (some 14) (Op.call { callee := Callee.value (Operand.func 93), args := #[Operand.tmp 13], argTypes := #[27] }) 118 ⟨_, rfl, rfl, rfl, rfl, rfl⟩ (by kernel_rfl) (fun K hK => ?_)
        unfold bareOp
        go_wp2_with (go_at_call 93; refine (dspread_any (q := q) (p := p) _ (HS.out.below HBW.out hsl) hm).mono ?_; rintro e w23 ⟨rfl, hb23⟩)
        replace F_s := Lib.hid (F_s.out.keep hb23)
        replace F_r := Lib.hid (F_r.out.keep hb23)
        replace F_v := Lib.hid (F_v.out.keep hb23)
        replace F_w := Lib.hid (F_w.out.keep hb23)
        replace HBW := Lib.hid (HBW.out.trans (hb23.mono HBW.out.size))
        clear hb23
        refine hK.out _ _ (fun _ => F_s.out.c) ?_
        clear hK K
        try simp only [Act.put, List.setIfInBounds_toArray, List.set_cons_zero, List.set_cons_succ]
        refine wpAnyB_only (i := 5) none (Op.store 118 (Operand.tmp 5) (Operand.tmp 14)) 0 ⟨_, rfl, rfl, rfl, rfl, rfl⟩ (by kernel_rfl) (fun K hK => ?_)
        unfold bareOp
        refine wp_storeArr 118 .u32 _ _ _ (wsAll p q) _ rfl rfl rfl rfl (by rw [wsAll_len]; kernel_rfl) F_w.out (by rw [wsAll_len]; rfl) ?_
        intro w24 h24
        have H24 := Lib.hid h24
        clear h24
        replace F_s := Lib.hid (F_s.out.laid H24.out ne_s_w)
        replace F_r := Lib.hid (F_r.out.laid H24.out ne_r_w)
        replace F_v := Lib.hid (F_v.out.laid H24.out ne_v_w)
        replace F_w := Lib.hid (F_w.out.whole H24.out)
        replace HBW := Lib.hid (HBW.out.trans (H24.out.below _ le_w))
        clear H24
        refine hK.out _ _ (fun _ => F_s.out.c) ?_
        clear hK K
        try simp only [Act.put, List.setIfInBounds_toArray, List.set_cons_zero, List.set_cons_succ]
        refine wpAnyB_only (i := 6) none (Op.store 111 (Operand.tmp 6) (Operand.tmp 15)) 0 ⟨_, rfl, rfl, rfl, rfl, rfl⟩ (by kernel_rfl) (fun K hK => ?_)
        unfold bareOp
        refine wp_storeArr 111 .u32 _ _ _ s.l _ rfl rfl rfl rfl (by kernel_rfl) F_v.out (by rfl) ?_
        intro w25 h25
        have H25 := Lib.hid h25
        clear h25
        replace F_s := Lib.hid (F_s.out.laid H25.out ne_s_v)
        replace F_r := Lib.hid (F_r.out.laid H25.out ne_r_v)
        replace F_w := Lib.hid (F_w.out.laid H25.out (Ne.symm ne_v_w))
        replace F_v := Lib.hid (F_v.out.whole H25.out)
        replace HBW := Lib.hid (HBW.out.trans (H25.out.below _ le_v))
        clear H25
        refine hK.out _ _ (fun h => absurd (h.symm.trans (by kernel_rfl : _ = true)) (by decide)) ?_
        clear hK K
        try simp only [Act.put, List.setIfInBounds_toArray, List.set_cons_zero, List.set_cons_succ]
        refine wpAnyB_done (by kernel_rfl) ?_ _
        go_wp2_with fail
        go_meet
        case rel => exact ⟨_, _, rfl, rfl, ⟨F_s.out, F_r.out, F_w.out, F_v.out, Ne.symm ne_s_v, Ne.symm ne_r_v, ne_v_w, ne_s_r, le_v, hle, HBW.out⟩⟩
  case rest =>
    obtain ⟨Bw, Bv, rfl, rfl, HI⟩ := hcut
    clear F_s F_r HBW hle ne_s_r
    generalize w1.heap.size = Br at HI
    go_wp2_with fail
    go_loopw [16] (fun c16 wr => ∃ t : Nat, t ≤ 64 ∧ c16 = .int .i64 t ∧ Hid (StepIn w wr w.heap.size Br Bw Bv s (rnds p q s t) p q)) (fun c16 _ => 64 - (intOf c16).toNat)
    case atStart => exact ⟨0, by omega, rfl, HI.out⟩
    case round =>
      clear HI
      obtain ⟨t, ht, rfl, HI⟩ := hrel
      by_cases hlt : t < 64
      case pos =>
        obtain ⟨v, hv⟩ : ∃ v, rnds p q s t = v := ⟨_, rfl⟩
        rw [hv] at HI
        have HV := Lib.hid hv
        clear hv
        obtain ⟨va, vb, vc, vd, ve, vf, vg, vh⟩ := v
        obtain ⟨kk, hkk⟩ : ∃ x, kAt t = x := ⟨_, rfl⟩
        have HKK := Lib.hid hkk
        clear hkk
        obtain ⟨ww, hww⟩ : ∃ x, ws p q t = x := ⟨_, rfl⟩
        have HWW := Lib.hid hww
        clear hww
        have c0 : wr.cell? ⟨Bv, 0, none⟩ = some (.int .u32 va) := HI.out.fv.c 0 (by decide : 0 < 8)
        have c1 : wr.cell? ⟨Bv, 1, none⟩ = some (.int .u32 vb) := HI.out.fv.c 1 (by decide : 1 < 8)
        have c2 : wr.cell? ⟨Bv, 2, none⟩ = some (.int .u32 vc) := HI.out.fv.c 2 (by decide : 2 < 8)
        have c3 : wr.cell? ⟨Bv, 3, none⟩ = some (.int .u32 vd) := HI.out.fv.c 3 (by decide : 3 < 8)
        have c4 : wr.cell? ⟨Bv, 4, none⟩ = some (.int .u32 ve) := HI.out.fv.c 4 (by decide : 4 < 8)
        have c5 : wr.cell? ⟨Bv, 5, none⟩ = some (.int .u32 vf) := HI.out.fv.c 5 (by decide : 5 < 8)
        have c6 : wr.cell? ⟨Bv, 6, none⟩ = some (.int .u32 vg) := HI.out.fv.c 6 (by decide : 6 < 8)
        have c7 : wr.cell? ⟨Bv, 7, none⟩ = some (.int .u32 vh) := HI.out.fv.c 7 (by decide : 7 < 8)
        have ck := (HT.out.below HI.out.bel).k t hlt
        rw [HKK.out] at ck
        have cw := HI.out.fw.c t (by rw [wsAll_len]; exact hlt)
        rw [wsAll_get _ _ _ hlt, HWW.out] at cw
        have hd : decide ((t : Int) < 64) = true := by simp; omega
        have l64 : (t : Int) < 64 := by omega
        have t0 : (0 : Int) ≤ (t : Int) := by omega
        have hw1 : IntKind.i64.wrap ((t : Int) + 1) = (t : Int) + 1 := IntWalk.i64_in _ (by omega)
        go_wp2_with fail
        go_quiet (fail)
        go_wp2_with fail
        replace HI := Lib.hid (HI.out.drewN nq)
        clear c0 c1 c2 c3 c4 c5 c6 c7 ck cw
        generalize wr.drewN nq = wq at HI ⊢
        have c0 : wq.cell? ⟨Bv, 0, none⟩ = some (.int .u32 va) := HI.out.fv.c 0 (by decide : 0 < 8)
        have c1 : wq.cell? ⟨Bv, 1, none⟩ = some (.int .u32 vb) := HI.out.fv.c 1 (by decide : 1 < 8)
        have c2 : wq.cell? ⟨Bv, 2, none⟩ = some (.int .u32 vc) := HI.out.fv.c 2 (by decide : 2 < 8)
        have c3 : wq.cell? ⟨Bv, 3, none⟩ = some (.int .u32 vd) := HI.out.fv.c 3 (by decide : 3 < 8)
        have c4 : wq.cell? ⟨Bv, 4, none⟩ = some (.int .u32 ve) := HI.out.fv.c 4 (by decide : 4 < 8)
        have c5 : wq.cell? ⟨Bv, 5, none⟩ = some (.int .u32 vf) := HI.out.fv.c 5 (by decide : 5 < 8)
        have c6 : wq.cell? ⟨Bv, 6, none⟩ = some (.int .u32 vg) := HI.out.fv.c 6 (by decide : 6 < 8)
        have c7 : wq.cell? ⟨Bv, 7, none⟩ = some (.int .u32 vh) := HI.out.fv.c 7 (by decide : 7 < 8)
        have ck := (HT.out.below HI.out.bel).k t hlt
        rw [HKK.out] at ck
        have cw := HI.out.fw.c t (by rw [wsAll_len]; exact hlt)
        rw [wsAll_get _ _ _ hlt, HWW.out] at cw
        go_quiet ((go_at_call 94; refine Calls.quiet_of (dright_z _ (by decide) (by decide))))
        go_wp2_with fail
        replace HI := Lib.hid (HI.out.drewN nq)
        clear c0 c1 c2 c3 c4 c5 c6 c7 ck cw
        generalize wq.drewN nq = wp at HI ⊢
        have c0 : wp.cell? ⟨Bv, 0, none⟩ = some (.int .u32 va) := HI.out.fv.c 0 (by decide : 0 < 8)
        have c1 : wp.cell? ⟨Bv, 1, none⟩ = some (.int .u32 vb) := HI.out.fv.c 1 (by decide : 1 < 8)
        have c2 : wp.cell? ⟨Bv, 2, none⟩ = some (.int .u32 vc) := HI.out.fv.c 2 (by decide : 2 < 8)
        have c3 : wp.cell? ⟨Bv, 3, none⟩ = some (.int .u32 vd) := HI.out.fv.c 3 (by decide : 3 < 8)
        have c4 : wp.cell? ⟨Bv, 4, none⟩ = some (.int .u32 ve) := HI.out.fv.c 4 (by decide : 4 < 8)
        have c5 : wp.cell? ⟨Bv, 5, none⟩ = some (.int .u32 vf) := HI.out.fv.c 5 (by decide : 5 < 8)
        have c6 : wp.cell? ⟨Bv, 6, none⟩ = some (.int .u32 vg) := HI.out.fv.c 6 (by decide : 6 < 8)
        have c7 : wp.cell? ⟨Bv, 7, none⟩ = some (.int .u32 vh) := HI.out.fv.c 7 (by decide : 7 < 8)
        have ck := (HT.out.below HI.out.bel).k t hlt
        rw [HKK.out] at ck
        have cw := HI.out.fw.c t (by rw [wsAll_len]; exact hlt)
        rw [wsAll_get _ _ _ hlt, HWW.out] at cw
        go_quiet ((go_at_call 94; refine Calls.quiet_of (dright_z _ (by decide) (by decide))))
        go_wp2_with fail
        clear c0 c1 c2 c3 c4 c5 c6 c7 ck cw
        replace HI := Lib.hid (HI.out.drewN nq).drew
        have hS := trivial
        refine wp_region_stage 2 (fun _ => True) (by kernel_rfl) ?_
        refine wpAnyB_takeP (i := 0) (some 75) (Op.slice 111 (Operand.tmp 6) (some (Operand.const (Value.int IntKind.i64 1))) none none) 121 (v := ?_) ⟨_, rfl, rfl, rfl, rfl, rfl⟩ (by kernel_rfl) (by kernel_rfl) (by kernel_rfl) (by kernel_rfl) (fun _ _ _ h => h) (fun _ => hS) (fun w' => ?_) ?_
        rotate_left
        · unfold bareOp
          go_simp
          try with_reducible rfl
        simp only [Act.put, List.setIfInBounds_toArray, List.set_cons_zero, List.set_cons_succ]
        refine wpAnyB_takeP (i := 1) (some 76) (Op.slice 111 (Operand.tmp 6) none (some (Operand.const (Value.int IntKind.i64 7))) none) 121 (v := ?_) ⟨_, rfl, rfl, rfl, rfl, rfl⟩ (by kernel_rfl) (by kernel_rfl) (by kernel_rfl) (by kernel_rfl) (fun _ _ _ h => h) (fun _ => hS) (fun w' => ?_) ?_
        rotate_left
        · unfold bareOp
          go_simp
          try with_reducible rfl
        simp only [Act.put, List.setIfInBounds_toArray, List.set_cons_zero, List.set_cons_succ]
        refine wpAnyB_only (i := 2) (some 77) (Op.call { callee := Callee.builtin Builtin.copy, args := #[Operand.tmp 75, Operand.tmp 76], argTypes := #[121, 121] }) 3 ⟨_, rfl, rfl, rfl, rfl, rfl⟩ (by kernel_rfl) (fun K hK => ?_)
        unfold bareOp
        refine wp_copyArr _ _ _ _ rfl 110 Tryd.underlying121 (by kernel_rfl) .u32 Bv Bv 1 0 7 7 7 8 rfl rfl [va, vb, vc, vd, ve, vf, vg] rfl (fun i hi => by rw [Nat.zero_add, HI.out.fv.c i (Nat.lt_succ_of_lt hi : i < 8)]; exact congrArg (fun z => some (Value.int .u32 z)) (take7 hi)) (fun i hi => by rw [HI.out.fv.c (1 + i) (by have : i < 7 := hi; show 1 + i < 8; omega)]; rfl) (fun i hi => HI.out.fv.f _) ?_
        intro w9 h9
        have HJ := Lib.hid (StepIn.laid (v' := ⟨va, va, vb, vc, vd, ve, vf, vg⟩) HI.out h9 (HI.out.fv.shift h9))
        clear h9
        refine hK.out _ _ (fun h => absurd (h.symm.trans (by kernel_rfl : _ = true)) (by decide)) ?_
        clear hK K
        try simp only [Act.put, List.setIfInBounds_toArray, List.set_cons_zero, List.set_cons_succ]
        refine wpAnyB_done (by kernel_rfl) ?_ _
        have d4 : w9.cell? ⟨Bv, 4, none⟩ = some (.int .u32 vd) := HJ.out.fv.c 4 (by decide : 4 < 8)
        have d0 : w9.cell? ⟨Bv, 0, none⟩ = some (.int .u32 va) := HJ.out.fv.c 0 (by decide : 0 < 8)
        have f4 := HJ.out.fv.f 4
        have f0 := HJ.out.fv.f 0
        go_wp2_with fail
        clear d4 d0
        go_roundw
        case rel =>
          refine ⟨t + 1, by omega, by go_num, ?_⟩
          rw [rnds, HV.out]
          refine StepIn.round (x := xOf ⟨va, vb, vc, vd, ve, vf, vg, vh⟩ (kAt t) (ws p q t)) (y := yOf ⟨va, vb, vc, vd, ve, vf, vg, vh⟩) HJ.out ?_ ?_
          · rw [HKK.out, HWW.out]
            simp only [xOf, big1, ch]
            unfold M
            omega
          · rw [HKK.out, HWW.out]
            simp only [xOf, yOf, big1, big0, ch, mj]
            unfold M
            omega
        case measure => simp [intOf]; omega
      case neg =>
        obtain rfl : t = 64 := by omega
        simp only [Int.cast_ofNat_Int]
        obtain ⟨v, hv⟩ : ∃ v, rnds p q s 64 = v := ⟨_, rfl⟩
        rw [hv] at HI
        have HV := Lib.hid hv
        clear hv
        have HJ := Lib.hid (show AddIn w wr w.heap.size Br Bv (mixL s v 0) v from ⟨HI.out.fs, HI.out.fr, HI.out.fv, HI.out.vs, HI.out.sr, Nat.le_refl _, HI.out.rl, HI.out.bel⟩)
        clear HI
        go_wp2_with fail
        go_loopw [88] (fun c88 wr => ∃ i : Nat, i ≤ 8 ∧ c88 = .int .i64 i ∧ Hid (AddIn w wr w.heap.size Br Bv (mixL s v i) v)) (fun c88 _ => 8 - (intOf c88).toNat)
        case atStart => exact ⟨0, by omega, rfl, HJ.out⟩
        case round =>
          clear HJ ht hlt
          obtain ⟨i, hi, rfl, HJ⟩ := hrel
          by_cases hlt : i < 8
          case pos =>
            obtain ⟨x, hx⟩ : ∃ x, s.l.getD i 0 = x := ⟨_, rfl⟩
            obtain ⟨y, hy⟩ : ∃ y, v.l.getD i 0 = y := ⟨_, rfl⟩
            have hd : decide ((i : Int) < 8) = true := by simp; omega
            have l8 : (i : Int) < 8 := by omega
            have i0 : (0 : Int) ≤ (i : Int) := by omega
            have hw1 : IntKind.i64.wrap ((i : Int) + 1) = (i : Int) + 1 := IntWalk.i64_in _ (by omega)
            go_wp2_with fail
            replace HJ := Lib.hid HJ.out.drew
            have cs := HJ.out.fs.c i (by rw [mixL_len]; exact hlt)
            rw [mixL_get _ _ _ hlt, hx] at cs
            have cv := HJ.out.fv.c i hlt
            rw [hy] at cv
            have fz := HJ.out.fs.f i
            have HX := Lib.hid hx
            have HY := Lib.hid hy
            clear hx hy
            have hS := And.intro cs cv
            refine wp_region_stage 8 (fun w' => w'.cell? ⟨w.heap.size, i, none⟩ = some (.int .u32 x) ∧ w'.cell? ⟨Bv, i, none⟩ = some (.int .u32 y)) (by kernel_rfl) ?_
            refine wpAnyB_takeP (i := 0) (some 91) (Op.move (Operand.tmp 12)) 3 (v := ?_) ⟨_, rfl, rfl, rfl, rfl, rfl⟩ (by kernel_rfl) (by kernel_rfl) (by kernel_rfl) (by kernel_rfl) (fun _ _ _ h => h) (fun _ => hS) (fun w' => ?_) ?_
            rotate_left
            · unfold bareOp
              go_simp
              try with_reducible rfl
            simp only [Act.put, List.setIfInBounds_toArray, List.set_cons_zero, List.set_cons_succ]
            refine wpAnyB_takeP (i := 1) (some 92) (Op.indexAddr 111 (Operand.tmp 2) (Operand.tmp 91)) 0 (v := ?_) ⟨_, rfl, rfl, rfl, rfl, rfl⟩ (by kernel_rfl) (by kernel_rfl) (by kernel_rfl) (by kernel_rfl) (fun _ _ _ h => h) (fun _ => hS) (fun w' => ?_) ?_
            rotate_left
            · unfold bareOp
              go_simp
              try with_reducible rfl
            simp only [Act.put, List.setIfInBounds_toArray, List.set_cons_zero, List.set_cons_succ]
            refine wpAnyB_take (i := 2) (some 93) (Op.load 110 (Operand.tmp 92)) 110 (v := ?_) ⟨_, rfl, rfl, rfl, rfl, rfl⟩ (by kernel_rfl) (by kernel_rfl) (by kernel_rfl) [6, 7, 8] (by kernel_rfl) (fun _ _ _ h => h) hS (fun w' hSw => ?_) ?_
            rotate_left
            · obtain ⟨a1, a2⟩ := hSw
              unfold bareOp
              go_simp
              try with_reducible rfl
            simp only [Act.put, List.setIfInBounds_toArray, List.set_cons_zero, List.set_cons_succ]
            refine wpAnyB_takeP (i := 3) (some 94) (Op.move (Operand.tmp 12)) 3 (v := ?_) ⟨_, rfl, rfl, rfl, rfl, rfl⟩ (by kernel_rfl) (by kernel_rfl) (by kernel_rfl) (by kernel_rfl) (fun _ _ _ h => h) (fun _ => hS) (fun w' => ?_) ?_
            rotate_left
            · unfold bareOp
              go_simp
              try with_reducible rfl
            simp only [Act.put, List.setIfInBounds_toArray, List.set_cons_zero, List.set_cons_succ]
            refine wpAnyB_takeP (i := 4) (some 95) (Op.indexAddr 111 (Operand.tmp 6) (Operand.tmp 94)) 0 (v := ?_) ⟨_, rfl, rfl, rfl, rfl, rfl⟩ (by kernel_rfl) (by kernel_rfl) (by kernel_rfl) (by kernel_rfl) (fun _ _ _ h => h) (fun _ => hS) (fun w' => ?_) ?_
            rotate_left
            · unfold bareOp
              go_simp
              try with_reducible rfl
            simp only [Act.put, List.setIfInBounds_toArray, List.set_cons_zero, List.set_cons_succ]
            refine wpAnyB_take (i := 5) (some 96) (Op.load 110 (Operand.tmp 95)) 110 (v := ?_) ⟨_, rfl, rfl, rfl, rfl, rfl⟩ (by kernel_rfl) (by kernel_rfl) (by kernel_rfl) [6, 7, 8] (by kernel_rfl) (fun _ _ _ h => h) hS (fun w' hSw => ?_) ?_
            rotate_left
            · obtain ⟨a1, a2⟩ := hSw
              unfold bareOp
              go_simp
              try with_reducible rfl
            simp only [Act.put, List.setIfInBounds_toArray, List.set_cons_zero, List.set_cons_succ]
            refine wpAnyB_takeP (i := 6) (some 97) (Op.binOp BinOp.add 110 (Operand.tmp 93) (Operand.tmp 96) 110) 110 (v := ?_) ⟨_, rfl, rfl, rfl, rfl, rfl⟩ (by kernel_rfl) (by kernel_rfl) (by kernel_rfl) (by kernel_rfl) (fun _ _ _ h => h) (fun _ => hS) (fun w' => ?_) ?_
            rotate_left
            · unfold bareOp
              go_simp
              try with_reducible rfl
            simp only [Act.put, List.setIfInBounds_toArray, List.set_cons_zero, List.set_cons_succ]
            refine wpAnyB_takeP (i := 7) (some 98) (Op.indexAddr 111 (Operand.tmp 2) (Operand.tmp 91)) 0 (v := ?_) ⟨_, rfl, rfl, rfl, rfl, rfl⟩ (by kernel_rfl) (by kernel_rfl) (by kernel_rfl) (by kernel_rfl) (fun _ _ _ h => h) (fun _ => hS) (fun w' => ?_) ?_
            rotate_left
            · unfold bareOp
              go_simp
              try with_reducible rfl
            simp only [Act.put, List.setIfInBounds_toArray, List.set_cons_zero, List.set_cons_succ]
            refine wpAnyB_only (i := 8) none (Op.store 110 (Operand.tmp 98) (Operand.tmp 97)) 0 ⟨_, rfl, rfl, rfl, rfl, rfl⟩ (by kernel_rfl) (fun K hK => ?_)
            unfold bareOp
            go_wp2_with fail
            refine hK.out _ _ (fun h => absurd (h.symm.trans (by kernel_rfl : _ = true)) (by decide)) ?_
            clear hK K
            try simp only [Act.put, List.setIfInBounds_toArray, List.set_cons_zero, List.set_cons_succ]
            refine wpAnyB_done (by kernel_rfl) ?_ _
            go_wp2_with fail
            go_roundw
            case rel =>
              refine ⟨i + 1, by omega, by go_num, AddIn.set HJ.out (by rw [mixL_len]; exact hlt) (mixL_succ s v i hlt ?_)⟩
              rw [HX.out, HY.out]
              unfold M
              omega
            case measure => simp [intOf]; omega
          case neg =>
            obtain rfl : i = 8 := by omega
            rw [mixL_all] at HJ
            go_wp2_with (first
              | (refine wpL_loadArr rfl 111 .u32 _ w.heap.size _ 8 110 rfl rfl Tryd.underlying111 (by kernel_rfl) HJ.out.fs ?_)
              | (refine wpL_storeArr rfl 111 .u32 _ _ Br _ _ rfl rfl rfl rfl (by kernel_rfl) HJ.out.fr rfl ?_; intro w9 h9; have H9 := Lib.hid h9; clear h9))
            refine bodyPost_ret (res_arr .u32 Br 0 (add8 s v).l 8 110 rfl Tryd.underlying111 (by kernel_rfl) _ rfl H9.out.row) rfl ?_
            exact ⟨by rw [stepS, HV.out], HJ.out.bel.trans (H9.out.below _ HJ.out.rl)⟩
end Go.Proofs.YtmcpfinnhgbcpaaDoor
