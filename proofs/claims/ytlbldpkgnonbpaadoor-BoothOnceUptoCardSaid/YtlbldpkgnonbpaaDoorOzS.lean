/- Challenge, of the empty booth. -/
import Derived.Test.YtlbldpkgnonbpaaDoorOzR
import Derived.BigQuiet
import Derived.Lib.AppendZeros
import Derived.Great.BuildSlice
import Derived.Test.YtlbldpkgnonbpaaDoorOzB
import Derived.Test.YtlbldpkgnonbpaaDoorOzP
set_option linter.unusedSimpArgs false
set_option linter.unusedVariables false
set_option maxRecDepth 100000
namespace Go.Proofs.YtlbldpkgnonbpaaDoor
open Go Go.RowKit Num Sha
def ChalR (w : World) (P Q G y n e' : Int) (V : Vt) (R : Rv) (e : Ending) (w' : World) : Prop := Below w.heap.size w w' ∧ ((e' ≠ 0 ∧ e = .returned (.tuple #[.agg #[.slice none 0 0, .slice none 0 0, .slice none 0 0], .int .i64 e'])) ∨
  (e' = 0 ∧ ((¬ (rangeP Q n.toNat R ∧ matchP P G y n.toNat V R) ∧ e = .returned (.tuple #[.agg #[.slice none 0 0, .slice none 0 0, .slice none 0 0], .int .i64 362])) ∨
    ((rangeP Q n.toNat R ∧ matchP P G y n.toNat V R) ∧ ∃ (a a' : Option Addr) (c c' : Nat), e = .returned (.tuple #[.agg #[.slice none 0 0, .slice a 1 c, .slice a' 1 c'], .int .i64 0])))))
open Go Go.RowKit Num Sha
theorem drop_beq {xs ys : List Int} {k : Nat} (hx : k < xs.length) (hy : k < ys.length) : (xs.drop k == ys.drop k) = (xs.getD k 0 == ys.getD k 0 && xs.drop (k + 1) == ys.drop (k + 1)) := by
 rw [List.drop_eq_getElem_cons hx, List.drop_eq_getElem_cons hy, List.cons_beq_cons]
 simp [List.getD, hx, hy]
theorem eq_arr32 (d : Nat) (xs ys : List Int) (hx : xs.length = 32) (hy : ys.length = 32) (w : World) : (Op.equalIn (d + 2) 37 (.agg (valV .u8 xs)) (.agg (valV .u8 ys))).run Tryd.prog w = .ok (xs == ys) w := by
 have u3 := Tryd.underlying5
 have hs : ∀ cs : List Int, cs.length = 32 → ∀ i, i < 32 → (part 5 (valV .u8 cs) (i * 1)).run Tryd.prog w = .ok (.int .u8 (cs.getD i 0)) w := by
  intro cs hl i hi
  have := Tryd.isAgg5 w
  have hg : (valV .u8 cs)[i]? = some (.int .u8 (cs.getD i 0)) := by
   unfold valV
   simp [List.getD_eq_getElem?_getD, List.getElem?_eq_getElem (show i < cs.length by omega)]
  simp [part, this, hg, Nat.mul_one, go_sem]
 rw [Op.equalIn]
 simp only [Sem.run_bind, run_underlying Tryd.underlying37, Result.andThen_ok, Tryd.sizeOf5]
 simp only [Std.Legacy.Range.forIn_eq_forIn_range', Std.Legacy.Range.size, Nat.sub_zero, Nat.add_sub_cancel, Nat.div_one]
 have key : ∀ n k, k + n = 32 → (forIn (List.range' k n) ((none, ()) : Option Bool × Unit) (fun i (__s : Option Bool × Unit) => do
             let __do_lift ← part 5 (valV IntKind.u8 xs) (i * 1)
             let __do_lift_1 ← part 5 (valV IntKind.u8 ys) (i * 1)
             let __do_lift ← Op.equalIn (d + 1) 5 __do_lift __do_lift_1
             if (!__do_lift) = true then pure (ForInStep.done (some false, ())) else pure (ForInStep.yield (none, ())))).run Tryd.prog w = .ok (if xs.drop k == ys.drop k then (none, ()) else (some false, ())) w := by
   intro n
   induction n with
   | zero =>
    intro k hk
    rw [List.drop_eq_nil_of_le (by omega), List.drop_eq_nil_of_le (by omega)]
    simp
   | succ n ih =>
    intro k hk
    rw [List.range'_succ, List.forIn_cons, drop_beq (by omega) (by omega)]
    simp only [Sem.run_bind, hs xs hx k (by omega), hs ys hy k (by omega), Result.andThen_ok, run_equalIn_int w d 5 .u8 .u8 _ _ u3, Sem.run_ite]
    by_cases he : xs.getD k 0 = ys.getD k 0
    · have hb : (xs.getD k 0 == ys.getD k 0) = true := by simpa using he
      rw [hb]
      simp only [Bool.not_true, Bool.false_eq_true, if_false, Sem.run_pure, Result.andThen_ok, Bool.true_and]
      exact ih (k + 1) (by omega)
    · have hb : (xs.getD k 0 == ys.getD k 0) = false := by simpa using he
      rw [hb]
      simp
 rw [key 32 0 rfl]
 simp only [List.drop_zero, Result.andThen_ok]
 cases h : xs == ys <;> simp
open Go Go.RowKit Num Sha
open BigFrame in
theorem wpQuiet_row {P : Program} {ops : Array Oper} {C : World → Prop} {Q : Act → Prop} {a : Act} {o : Oper} {rest : List Oper} (hw : Region.wanted o (yielded ops a.tmps) = true) (t : TypeId) (k : IntKind) (p : Operand) (b off : Nat) (xs : List Int) (n : Nat) (e : TypeId) (ho : o.op = .load t p) (hp : a.eval p = .pointer (some ⟨b, off, none⟩)) (hu : P.underlying t = some (.array n e))
    (hi : (P.info? t).map (·.size) = some xs.length) (hc : ∀ w, C w → ∀ i, i < xs.length → w.cell? ⟨b, off + i, none⟩ = some (.int k (xs.getD i 0))) (h : wpQuiet P ops C Q rest (a.put o.dst (.agg (valV k xs)))) : wpQuiet P ops C Q (o :: rest) a :=
  wpQuiet_want hw fun K hK => ⟨_, fun w hC => by
   have hrun := run_loadVarArr (P := P) (w := w) t k b off xs n e hu hi (hc w hC)
   have hr : (execOp a.eval o).run P w = .ok (.value (.agg (valV k xs))) w := by
    simp [execOp, ho, hp, Instr.loadAt, Instr.sureAddr, hrun, Result.andThen]
   unfold Oper.quietAt
   rw [hr]
   exact ⟨rfl, rfl⟩, hK _ h⟩
theorem wpQuiet_eqArr {P : Program} {ops : Array Oper} {C : World → Prop} {Q : Act → Prop} {a : Act} {o : Oper} {rest : List Oper} (hw : Region.wanted o (yielded ops a.tmps) = true) (t u : TypeId) (x y : Operand) (xs ys : Array Value) (r : Bool) (ho : o.op = .binOp .eql t x y u) (hx : a.eval x = .agg xs) (hy : a.eval y = .agg ys) (hm : P.eqGuardType P.depth t = false)
    (hr : ∀ w, (Op.equalIn 10000 t (.agg xs) (.agg ys)).run P w = .ok r w) (h : wpQuiet P ops C Q rest (a.put o.dst (.bool r))) : wpQuiet P ops C Q (o :: rest) a :=
  BigFrame.wpQuiet_want hw fun K hK => ⟨_, fun w hC => by
   have hr2 : (execOp a.eval o).run P w = .ok (.value (.bool r)) w := by
    have g1 := run_eqGuard_agg (P := P) w .eql t x y xs ys hm
    have g2 : (binOp .eql t (.agg xs) (.agg ys)).run P w = .ok (.bool r) w := by rw [run_eql_struct, hr]; rfl
    simp [execOp, ho, hx, hy, g1, g2, Result.andThen]
   unfold Oper.quietAt
   rw [hr2]
   exact ⟨rfl, rfl⟩, hK _ h⟩
def ShC (w : World) (a : Option Addr) (n : Nat) (l : List (List Int)) : Prop := (n = 0 ∧ l = []) ∨ ∃ s o, a = some ⟨s, o, none⟩ ∧ n = l.length ∧ s < w.heap.size ∧ ∀ i, i < l.length → (l.getD i []).length = 32 ∧ ∀ j, j < 32 → w.cell? ⟨s, o + i * 32 + j, none⟩ = some (.int .u8 ((l.getD i []).getD j 0))
theorem ShC.len {w : World} {a : Option Addr} {n : Nat} {l : List (List Int)} (h : ShC w a n l) : n = l.length := by
 rcases h with ⟨rfl, rfl⟩ | ⟨s, o, -, h, -⟩
 · rfl
 · exact h
theorem ShC.keep {w w' : World} {a : Option Addr} {n : Nat} {l : List (List Int)} (h : ShC w a n l) (hb : Below w.heap.size w w') : ShC w' a n l := by
 rcases h with h | ⟨s, o, h1, h2, h3, h4⟩
 · exact .inl h
 · exact .inr ⟨s, o, h1, h2, Nat.lt_of_lt_of_le h3 hb.size, fun i hi => ⟨(h4 i hi).1, fun j hj => (hb.cell (p := ⟨s, o + i * 32 + j, none⟩) h3).trans ((h4 i hi).2 j hj)⟩⟩
theorem ShC.nil (w : World) (a : Option Addr) : ShC w a 0 [] := .inl ⟨rfl, rfl⟩
theorem ShC.at {w : World} {a : Option Addr} {n : Nat} {l : List (List Int)} (h : ShC w a n l) (i : Nat) (hi : i < n) : ∃ s o, a = some ⟨s, o, none⟩ ∧ (l.getD i []).length = 32 ∧ ∀ j, j < 32 → w.cell? ⟨s, o + i * 32 + j, none⟩ = some (.int .u8 ((l.getD i []).getD j 0)) := by
 rcases h with ⟨rfl, rfl⟩ | ⟨s, o, h1, h2, h3, h4⟩
 · omega
 · exact ⟨s, o, h1, h4 i (by omega)⟩
set_option maxHeartbeats 8000000 in
theorem indexC_any {a : Option Addr} {n c : Nat} {l : List (List Int)} {cs : List Int} (w : World) (hl : cs.length = 32) (hS : ShC w a n l) (hn : n ≤ 10000) :
    Calls Tryd.prog 96 #[.slice a n c, .agg (valV .u8 cs)] w fun e w' => (∃ r : Int, e = .returned (.int .i64 r) ∧ (0 ≤ r ↔ cs ∈ l)) ∧ Below w.heap.size w w' := by
  have HL := Lh hl
  have HE := Lh hS.len
  have HS := Lh (hS.keep ((Below.refl _ _).alloc (Nat.le_refl _) (.cells (valV .u8 cs) 37)))
  have HBW := Lh (show Below w.heap.size w (w.alloc (.cells (valV .u8 cs) 37)) from (Below.refl _ _).alloc (Nat.le_refl _) _)
  have F_a := Lh (Arr.new .u8 w cs 37 w.heap.size rfl)
  clear hl hS
  go_enter Tryd.func96, Tryd.ntmps96
  go_wp2_with fail
  go_loopw [5, 8] (fun _ c8 wr => ∃ (k : Nat), k ≤ n ∧ c8 = .int .i64 k ∧ Hid (cs ∉ l.take k) ∧ Hid (Arr .u8 wr w.heap.size cs) ∧ Hid (ShC wr a n l) ∧ Hid (Below w.heap.size w wr)) (fun _ c8 _ => n - (intOf c8).toNat)
  case atStart => exact ⟨0, by omega, rfl, Lh (by rw [List.take_zero]; exact List.not_mem_nil), F_a, HS, HBW⟩
  case round =>
   clear F_a HS HBW
   obtain ⟨k, hk, rfl, HN, F_a, HS, HBW⟩ := hrel
   by_cases hlt : k < n
   case neg =>
    obtain rfl : k = n := by omega
    have hd : decide ((k : Int) < (k : Int)) = false := decide_eq_false (by omega)
    go_wp2_with fail
    go_ret
    exact ⟨⟨_, rfl, ⟨fun h => by omega, fun h => by
     have := HN.o
     rw [List.take_of_length_le (by rw [← HE.o]; exact Nat.le_refl _)] at this
     exact absurd h this⟩⟩, HBW.o⟩
   case pos =>
    have hd : decide ((k : Int) < (n : Int)) = true := decide_eq_true (by omega)
    have i0 : (0 : Int) ≤ (k : Int) := by omega
    have i1 : (k : Int) < (n : Int) := by omega
    have w1 : IntKind.i64.wrap ((k : Int) + 1) = (k : Int) + 1 := IntWalk.i64_in _ (by omega)
    have c32 : Tryd.prog.cellsOf 37 = 32 := by kernel_rfl
    obtain ⟨s, o, rfl, hxl, hxc⟩ := HS.o.at k hlt
    have hget : l.take (k + 1) = l.take k ++ [l.getD k []] := by
     have hkl : k < l.length := by rw [← HE.o]; exact hlt
     rw [List.take_succ_eq_append_getElem hkl]
     simp [List.getD, hkl]
    have HG := Lh (show l.getD k [] ∈ l by
     have hkl : k < l.length := by rw [← HE.o]; exact hlt
     simp [List.getD, hkl])
    have HT := Lh hget
    clear hget
    generalize l.getD k [] = xs at hxl hxc HT HG
    have HXL := Lh hxl
    have HXC := Lh hxc
    clear hxl hxc
    go_wp2_with fail
    refine wp_region_quiet_lit (by kernel_rfl) (by kernel_rfl) ?_
    refine wpQuiet_row rfl 37 .u8 (.tmp 3) w.heap.size 0 cs 32 5 rfl rfl Tryd.underlying37 (by rw [HL.o]; kernel_rfl) (fun w' hw' j hj => by obtain ⟨m, rfl⟩ := hw'; rw [World.cell?_drewN, Nat.zero_add]; exact F_a.o.c j hj) ?_
    simp only [Act.put, sZ]
    repeat (go_big_quiet_step (fail))
    refine wpQuiet_row rfl 37 .u8 (.tmp 14) s (o + k * 32) xs 32 5 rfl rfl Tryd.underlying37 (by rw [HXL.o]; kernel_rfl) (fun w' hw' j hj => by obtain ⟨m, rfl⟩ := hw'; rw [World.cell?_drewN]; exact HXC.o j (by rw [HXL.o] at hj; exact hj)) ?_
    simp only [Act.put, sZ]
    refine wpQuiet_eqArr rfl 37 37 (.tmp 11) (.tmp 15) _ _ (cs == xs) rfl rfl rfl (by kernel_rfl) (fun w' => eq_arr32 9998 cs xs HL.o HXL.o w') ?_
    simp only [Act.put, sZ]
    refine wpQuiet_nil ?_
    intro _ hw'
    obtain ⟨nq, rfl⟩ := hw'
    by_cases hcx : cs = xs
    case pos =>
     have hb : (cs == xs) = true := by simpa using hcx
     rw [hb]
     go_wp2_with fail
     go_ret
     exact ⟨⟨_, rfl, ⟨fun _ => by rw [hcx]; exact HG.o, fun _ => by omega⟩⟩, below_drewN HBW.o _⟩
    case neg =>
     have hb : (cs == xs) = false := by simpa using hcx
     rw [hb]
     have HX := Lh hcx
     clear hcx
     go_wp2_with fail
     go_roundw
     case rel => exact ⟨k + 1, by omega, by go_num, Lh (by rw [HT.o, List.mem_append, List.mem_singleton]; rintro (h | h); exact HN.o h; exact HX.o h), Lh (F_a.o.drewN _), Lh (HS.o.keep (below_drewN (Below.refl _ _) _)), Lh (below_drewN HBW.o _)⟩
     case measure => simp [intOf] <;> omega
set_option maxHeartbeats 8000000 in
theorem containsC_any {a : Option Addr} {n c : Nat} {l : List (List Int)} {cs : List Int} (w : World) (hl : cs.length = 32) (hS : ShC w a n l) (hn : n ≤ 10000) :
    Calls Tryd.prog 64 #[.slice a n c, .agg (valV .u8 cs)] w fun e w' => e = .returned (.bool (decide (cs ∈ l))) ∧ Below w.heap.size w w' := by
  have HL := Lh hl
  have HS := Lh hS
  have HBW := Lh (show Below w.heap.size w (w.alloc (.cells (valV .u8 cs) 37)) from (Below.refl _ _).alloc (Nat.le_refl _) _)
  have F_a := Lh (Arr.new .u8 w cs 37 w.heap.size rfl)
  clear hl hS
  go_enter Tryd.func64, Tryd.ntmps64
  go_wp2_with (refine wpL_loadArr rfl 37 .u8 (.tmp 3) w.heap.size cs 32 5 rfl rfl Tryd.underlying37 (by rw [HL.o]; kernel_rfl) F_a.o ?_; simp only [Act.put, sZ])
  refine (indexC_any _ HL.o (HS.o.keep HBW.o) hn).mono ?_
  rintro e w1 ⟨⟨r, rfl, hr⟩, hb1⟩
  replace HBW := Lh (HBW.o.trans (hb1.mono HBW.o.size))
  clear hb1
  by_cases h0 : 0 ≤ r
  case pos =>
   have HM := Lh (decide_eq_true (hr.1 h0))
   clear hr
   go_wp2_with fail
   go_ret
   exact ⟨by rw [HM.o]; first | rfl | (rw [decide_eq_false (by omega)]; rfl), HBW.o⟩
  case neg =>
   have HM := Lh (decide_eq_false (fun h => h0 (hr.2 h)))
   clear hr
   go_wp2_with fail
   go_ret
   exact ⟨by rw [HM.o]; first | rfl | (rw [decide_eq_false (by omega)]; rfl), HBW.o⟩
open Go Go.RowKit Num Sha
theorem flat_at {α : Type} (f : α → List Value) (k : Nat) (hk : ∀ x, (f x).length = k) : ∀ (l : List α) (i j : Nat) (hi : i < l.length), j < k → (l.flatMap f)[i * k + j]? = (f l[i])[j]?
  | [], i, j, hi, _ => by simp at hi
  | x :: l, 0, j, _, hj => by
   rw [Nat.zero_mul, Nat.zero_add, List.flatMap_cons, List.getElem?_append_left (by rw [hk]; exact hj)]
   rfl
  | x :: l, i + 1, j, hi, hj => by
   have h := flat_at f k hk l i j (by simpa using hi) hj
   rw [List.flatMap_cons, List.getElem?_append_right (by rw [hk, Nat.add_mul]; omega), hk, show (i + 1) * k + j - k = i * k + j by rw [Nat.add_mul]; omega, h]
   rfl
theorem flat_len {α : Type} (f : α → List Value) (k : Nat) (hk : ∀ x, (f x).length = k) : ∀ l : List α, (l.flatMap f).length = l.length * k
  | [] => by simp
  | x :: l => by rw [List.flatMap_cons, List.length_append, hk, flat_len f k hk l, List.length_cons, Nat.add_mul]; omega
def Rv.vs (R : Rv) : List Value := [.slice R.a R.n R.c, .slice R.b R.m R.d]
theorem Vt.vs_len (V : Vt) : V.vs.length = 11 := rfl
theorem Rv.vs_len (R : Rv) : R.vs.length = 2 := rfl
theorem Vt.vs_one (V : Vt) (u : Value) (h : u ∈ V.vs) : u.oneCell' = true := by
 simp only [Vt.vs, Bt.vs, List.mem_append, List.mem_cons, List.not_mem_nil, or_false] at h
 rcases h with (rfl | rfl | rfl) | (rfl | rfl | rfl | rfl | rfl | rfl | rfl | rfl) <;> rfl
theorem Rv.vs_one (R : Rv) (u : Value) (h : u ∈ R.vs) : u.oneCell' = true := by
 simp only [Rv.vs, List.mem_cons, List.not_mem_nil, or_false] at h
 rcases h with rfl | rfl <;> rfl
theorem flatV_one (l : List Vt) (u : Value) (h : u ∈ l.flatMap Vt.vs) : u.oneCell' = true := by
 obtain ⟨V, -, h⟩ := List.mem_flatMap.1 h
 exact V.vs_one u h
structure RRow (w : World) (s o : Nat) (l : List Rv) : Prop where
  lt : s < w.heap.size
  c : ∀ i (h : i < l.length), ∀ k u, l[i].vs[k]? = some u → w.cell? ⟨s, o + i * 2 + k, none⟩ = some u
  ok : ∀ V, V ∈ l → RvIn w V
theorem RRow.keep {w w' : World} {s o : Nat} {l : List Rv} (h : RRow w s o l) (hb : Below w.heap.size w w') : RRow w' s o l :=
  ⟨Nat.lt_of_lt_of_le h.lt hb.size, fun i hi k u hu => (hb.cell (p := ⟨s, o + i * 2 + k, none⟩) h.lt).trans (h.c i hi k u hu), fun V hV => (h.ok V hV).keep hb⟩
def ShR (w : World) (a : Option Addr) (n : Nat) (l : List Rv) : Prop := (n = 0 ∧ l = []) ∨ ∃ s o, a = some ⟨s, o, none⟩ ∧ n = l.length ∧ RRow w s o l
theorem ShR.len {w : World} {a : Option Addr} {n : Nat} {l : List Rv} (h : ShR w a n l) : n = l.length := by
 rcases h with ⟨h1, h2⟩ | ⟨s, o, _, h1, _⟩
 · rw [h1, h2]; rfl
 · exact h1
theorem ShR.keep {w w' : World} {a : Option Addr} {n : Nat} {l : List Rv} (h : ShR w a n l) (hb : Below w.heap.size w w') : ShR w' a n l := by
 rcases h with h | ⟨s, o, h0, h1, h2⟩
 · exact .inl h
 · exact .inr ⟨s, o, h0, h1, h2.keep hb⟩
theorem ShR.nil (w : World) (a : Option Addr) : ShR w a 0 [] := .inl ⟨rfl, rfl⟩
theorem ShR.at {w : World} {a : Option Addr} {n : Nat} {l : List Rv} (h : ShR w a n l) (k : Nat) (hk : k < n) : ∃ s o R, a = some ⟨s, o, none⟩ ∧ l[k]? = some R ∧ s < w.heap.size ∧ w.cell? ⟨s, o + k * 2, none⟩ = some (.slice R.a R.n R.c) ∧ w.cell? ⟨s, o + k * 2 + 1, none⟩ = some (.slice R.b R.m R.d) ∧ RvIn w R := by
 rcases h with ⟨h1, _⟩ | ⟨s, o, h0, h1, h2⟩
 · omega
 · have hl : k < l.length := by omega
   exact ⟨s, o, l[k], h0, List.getElem?_eq_getElem hl, h2.lt, h2.c k hl 0 _ rfl, h2.c k hl 1 _ rfl, h2.ok _ (List.getElem_mem hl)⟩
theorem ShV.cells {w : World} {ad : Addr} {n : Nat} {l : List Vt} (h : ShV w (some ad) n l) : ∀ j u, (l.flatMap Vt.vs)[j]? = some u → w.cell? (ad.add j) = some u := by
 rcases h with ⟨_, h⟩ | ⟨s, o, h0, h1, h2⟩
 · subst h; intro j u hj; simp at hj
 · cases h0
   intro j u hj
   have hlt : j < l.length * 11 := by
    rw [← flat_len Vt.vs 11 Vt.vs_len l]
    exact (List.getElem?_eq_some_iff.1 hj).1
   have hi : j / 11 < l.length := by omega
   have e := flat_at Vt.vs 11 Vt.vs_len l (j / 11) (j % 11) hi (Nat.mod_lt _ (by omega))
   have ej : j / 11 * 11 + j % 11 = j := by omega
   rw [ej] at e
   rw [e] at hj
   have := h2.c _ hi _ _ hj
   rw [add_pl]
   rwa [show o + j / 11 * 11 + j % 11 = o + j by omega] at this
theorem ShV.of_owned {w : World} {base : Nat} {e : TypeId} {v : Value} {n : Nat} {l : List Vt} (h : w.ownsRow base e 11 v n (l.flatMap Vt.vs)) (hok : ∀ V, V ∈ l → VtIn w V) : ∃ a c, v = .slice a n c ∧ ShV w a n l ∧ (a = none → c = 0) ∧ n ≤ c := by
 have hl := h.1
 rw [flat_len Vt.vs 11 Vt.vs_len] at hl
 rcases h.2 with ⟨rfl, h0⟩ | ⟨g, cap, cur, rfl, hb, hg, hn, _⟩
 · subst h0
   have : l = [] := List.eq_nil_of_length_eq_zero (by omega)
   subst this
   exact ⟨none, 0, rfl, ShV.nil w _, fun _ => rfl, Nat.le_refl _⟩
 · refine ⟨_, _, rfl, .inr ⟨g, 0, rfl, by omega, (h.lt g rfl).2, fun i hi k u hu => ?_, hok⟩, (fun h => by cases h), hn⟩
   have hk : k < 11 := by have := (List.getElem?_eq_some_iff.1 hu).1; rwa [Vt.vs_len] at this
   have hc := h.cells (g := g) rfl (i * 11 + k) u (by rw [flat_at Vt.vs 11 Vt.vs_len l i k hi hk]; exact hu)
   rw [add_pl] at hc
   rwa [show 0 + i * 11 + k = 0 + (i * 11 + k) by omega]
theorem ShR.cells {w : World} {ad : Addr} {n : Nat} {l : List Rv} (h : ShR w (some ad) n l) : ∀ j u, (l.flatMap Rv.vs)[j]? = some u → w.cell? (ad.add j) = some u := by
 rcases h with ⟨_, h⟩ | ⟨s, o, h0, h1, h2⟩
 · subst h; intro j u hj; simp at hj
 · cases h0
   intro j u hj
   have hlt : j < l.length * 2 := by
    rw [← flat_len Rv.vs 2 Rv.vs_len l]
    exact (List.getElem?_eq_some_iff.1 hj).1
   have hi : j / 2 < l.length := by omega
   have e := flat_at Rv.vs 2 Rv.vs_len l (j / 2) (j % 2) hi (Nat.mod_lt _ (by omega))
   have ej : j / 2 * 2 + j % 2 = j := by omega
   rw [ej] at e
   rw [e] at hj
   have := h2.c _ hi _ _ hj
   rw [add_pl]
   rwa [show o + j / 2 * 2 + j % 2 = o + j by omega] at this
theorem ShR.of_owned {w : World} {base : Nat} {e : TypeId} {v : Value} {n : Nat} {l : List Rv} (h : w.ownsRow base e 2 v n (l.flatMap Rv.vs)) (hok : ∀ V, V ∈ l → RvIn w V) : ∃ a c, v = .slice a n c ∧ ShR w a n l ∧ (a = none → c = 0) ∧ n ≤ c := by
 have hl := h.1
 rw [flat_len Rv.vs 2 Rv.vs_len] at hl
 rcases h.2 with ⟨rfl, h0⟩ | ⟨g, cap, cur, rfl, hb, hg, hn, _⟩
 · subst h0
   have : l = [] := List.eq_nil_of_length_eq_zero (by omega)
   subst this
   exact ⟨none, 0, rfl, ShR.nil w _, fun _ => rfl, Nat.le_refl _⟩
 · refine ⟨_, _, rfl, .inr ⟨g, 0, rfl, by omega, (h.lt g rfl).2, fun i hi k u hu => ?_, hok⟩, (fun h => by cases h), hn⟩
   have hk : k < 2 := by have := (List.getElem?_eq_some_iff.1 hu).1; rwa [Rv.vs_len] at this
   have hc := h.cells (g := g) rfl (i * 2 + k) u (by rw [flat_at Rv.vs 2 Rv.vs_len l i k hi hk]; exact hu)
   rw [add_pl] at hc
   rwa [show 0 + i * 2 + k = 0 + (i * 2 + k) by omega]
set_option maxHeartbeats 8000000 in
theorem growV_any {k : Nat} (w : World) (hk : k ≤ 1000) :
    Calls Tryd.prog 97 #[.slice none 0 0, .int .i64 (k : Int)] w fun e w' => ∃ v, e = .returned v ∧ w'.ownsRow w.heap.size 29 11 v 0 [] ∧ Below w.heap.size w w' := by
  obtain ⟨i0, hi, hz0, hz1, hz2⟩ := info_parts (P := Tryd.prog) (e := 29) (z := .agg #[.slice none 0 0, .slice none 0 0, .bool false, .int .u64 0, .int .u64 0, .int .u64 0, .int .u64 0, .int .u64 0, .int .u64 0, .int .u64 0, .int .u64 0]) (size := 11) (bytes := 120) (by kernel_rfl)
  by_cases h0 : k = 0
  case pos =>
   subst h0
   refine (grow_nil w).mono ?_
   rintro e w' ⟨rfl, rfl⟩
   exact ⟨_, rfl, World.ownsRow_nil _ _ _ _, Below.refl _ _⟩
  case neg =>
  have d0 : decide ((k : Int) < 0) = false := decide_eq_false (by omega)
  have d1 : decide ((0 : Int) < (k : Int)) = true := decide_eq_true (by omega)
  have i0' : (0 : Int) ≤ (k : Int) := by omega
  have wk : IntKind.i64.wrap ((k : Int) - 0) = (k : Int) := by rw [Int.sub_zero]; exact IntWalk.i64_in _ (by omega)
  have hrun := Lib.run_append_nil_zeros (P := Tryd.prog) w 50 3 50 29 i0 (.agg #[.slice none 0 0, .slice none 0 0, .bool false, .int .u64 0, .int .u64 0, .int .u64 0, .int .u64 0, .int .u64 0, .int .u64 0, .int .u64 0, .int .u64 0]) .i64 .i64 Tryd.underlying50 Tryd.underlying3 hi hz0 k (by omega) (by rw [hz1]; decide) (by omega) (by rw [hz2]; omega)
  go_enter Tryd.func97, Tryd.ntmps97
  go_wp2_with (at_builtin; refine Lib.wpList_append_run _ rfl _ _ _ _ rfl _ _ rfl rfl _ _ hrun ?_)
  go_ret
  have hge := grownCap_ge w k 0 29
  have hle := grownCap_le_maxLen w k 0 29 (by unfold maxLen; omega)
  refine ⟨_, rfl, ?_, ((Below.refl _ _).alloc (Nat.le_refl _) _).drew⟩
  refine (World.ownsRow_made w _ _ (Nat.le_refl _) hle ?_).drew
  rw [Array.size_append, size_zeroCells, size_zeroCells, ← Nat.add_mul, Nat.add_sub_cancel' hge]
  rfl
def pickV (j : Nat) (l l' : List Vt) : List Vt := if j = 0 then [] else if j = 1 then l else l ++ l'
set_option maxHeartbeats 8000000 in
theorem concatV_any {B n m c d : Nat} {a b : Option Addr} {l l' : List Vt} (w : World) (h0 : w.cell? ⟨B, 0, none⟩ = some (.slice a n c)) (h1 : w.cell? ⟨B, 1, none⟩ = some (.slice b m d)) (hl : ShV w a n l) (hl' : ShV w b m l') (hca : a = none → c = 0) (hcb : b = none → d = 0) (hn : n + m ≤ 1000) :
    Calls Tryd.prog 68 #[.slice (some ⟨B, 0, none⟩) 2 2] w fun e w' => (∃ v, e = .returned v ∧ w'.ownsRow w.heap.size 29 11 v (n + m) ((l ++ l').flatMap Vt.vs)) ∧ Below w.heap.size w w' := by
  obtain ⟨i0, hi, hz0, hz1, hz2⟩ := info_parts (P := Tryd.prog) (e := 29) (z := (.agg #[.slice none 0 0, .slice none 0 0, .bool false, .int .u64 0, .int .u64 0, .int .u64 0, .int .u64 0, .int .u64 0, .int .u64 0, .int .u64 0, .int .u64 0])) (size := 11) (bytes := 120) (by kernel_rfl)
  have Ha := Lh hl
  have Hb := Lh hl'
  have hB := World.block_lt_of_cell? w _ h0
  clear hl hl'
  have wn : IntKind.i64.wrap ((0 : Int) + (n : Int)) = (n : Int) := by rw [Int.zero_add]; exact IntWalk.i64_in _ (by omega)
  have wm : IntKind.i64.wrap ((n : Int) + (m : Int)) = (n : Int) + (m : Int) := IntWalk.i64_in _ (by omega)
  have n0 : decide ((n : Int) < 0) = false := decide_eq_false (by omega)
  have m0 : decide ((n : Int) + (m : Int) < 0) = false := decide_eq_false (by omega)
  go_enter Tryd.func68, Tryd.ntmps68
  go_wp2_with fail
  go_loop [3, 5, 11] (fun c3 _ c11 => (c3 = .int .i64 0 ∧ c11 = .int .i64 0) ∨ (c3 = .int .i64 n ∧ c11 = .int .i64 1) ∨ (c3 = .int .i64 ((n : Int) + (m : Int)) ∧ c11 = .int .i64 2)) (fun _ _ c11 => 2 - (intOf c11).toNat)
  case atStart => exact .inl ⟨rfl, rfl⟩
  case round =>
   obtain ⟨rfl, rfl⟩ | ⟨rfl, rfl⟩ | ⟨rfl, rfl⟩ := hrel
   · go_wp2_with fail
     go_round
     case rel => exact .inr (.inl ⟨by go_num, rfl⟩)
     case measure => simp [intOf]
   · go_wp2_with fail
     go_round
     case rel => exact .inr (.inr ⟨by go_num, rfl⟩)
     case measure => simp [intOf]
   · rw [← Int.natCast_add]
     go_wp2_with fail
     refine (growV_any (k := n + m) _ hn).mono ?_
     rintro e w1 ⟨v0, rfl, ho, hb1⟩
     have HO := Lh ho
     have HBW := Lh hb1
     clear ho hb1
     go_wp2_with fail
     go_loopw [6, 8, 27] (fun c6 _ c27 wr => ∃ (j : Nat), j ≤ 2 ∧ c27 = .int .i64 j ∧ Hid (wr.ownsRow w.heap.size 29 11 c6 (if j = 0 then 0 else if j = 1 then n else n + m) ((pickV j l l').flatMap Vt.vs)) ∧ Hid (Below w.heap.size w wr)) (fun _ _ c27 _ => 2 - (intOf c27).toNat)
     case atStart => exact ⟨0, by omega, rfl, HO.o, HBW.o⟩
     case round =>
      clear HO HBW
      obtain ⟨j, hj, rfl, HO, HBW⟩ := hrel
      have q0 := (HBW.o.cell (p := ⟨B, 0, none⟩) hB).trans h0
      have q1 := (HBW.o.cell (p := ⟨B, 1, none⟩) hB).trans h1
      obtain rfl | rfl | rfl : j = 0 ∨ j = 1 ∨ j = 2 := by omega
      · replace HO := Lh (show wr.ownsRow w.heap.size 29 11 _ 0 [] from by simpa [pickV] using HO.o)
        cases a with
        | none =>
         have hz : n = 0 ∧ l = [] := by
          rcases Ha.o with h | ⟨s, o, h0, -⟩
          · exact h
          · cases h0
         obtain ⟨rfl, rfl⟩ := hz
         obtain rfl := hca rfl
         go_wp2_with (at_builtin; refine wpList_append_own_none rfl _ _ 50 rfl w.heap.size 29 i0 11 Tryd.underlying50 hi _ _ _ rfl HO.o rfl ?_)
         go_roundw
         case rel => first | exact ⟨_, _, _, ⟨0 + 1, by omega, rfl, Lh (by simpa [pickV] using HO.o)⟩, rfl, rfl, rfl⟩ | exact ⟨_, _, _, ⟨0 + 1, by omega, rfl, Lh (by simpa [pickV] using HO.o), HBW⟩, rfl, rfl, rfl⟩
         case measure => simp [intOf]
        | some ad =>
         go_wp2_with (at_builtin; refine wpList_append_own _ rfl _ _ 50 rfl w.heap.size 29 i0 (.agg #[.slice none 0 0, .slice none 0 0, .bool false, .int .u64 0, .int .u64 0, .int .u64 0, .int .u64 0, .int .u64 0, .int .u64 0, .int .u64 0, .int .u64 0]) 11 120 Tryd.underlying50 hi hz0 hz1 hz2 rfl (by decide) _ _ _ rfl HO.o ad n _ (l.flatMap Vt.vs) rfl (by rw [flat_len Vt.vs 11 Vt.vs_len, ← Ha.o.len]) ((Ha.o.keep HBW.o).cells) (fun u hu => flatV_one _ u hu) (by unfold maxLen; omega) (by omega) HBW.o.size ?_; intro v5 w5 ho5 hg5 _; have HO5 := Lh ho5; have HB5 := Lh (HBW.o.grown hg5 HBW.o.size (fun k hk => (HO.o.lt k hk).1)); clear ho5 hg5)
         go_roundw
         case rel => first | exact ⟨_, _, _, ⟨0 + 1, by omega, rfl, Lh (by simpa [pickV, List.flatMap_append, Nat.add_comm] using HO5.o)⟩, rfl, rfl, rfl⟩ | exact ⟨_, _, _, ⟨0 + 1, by omega, rfl, Lh (by simpa [pickV, List.flatMap_append, Nat.add_comm] using HO5.o), HB5⟩, rfl, rfl, rfl⟩ | exact ⟨0 + 1, by omega, rfl, Lh (by simpa [pickV, List.flatMap_append, Nat.add_comm] using HO5.o), HB5⟩
         case measure => simp [intOf]
      · replace HO := Lh (show wr.ownsRow w.heap.size 29 11 _ n (l.flatMap Vt.vs) from by simpa [pickV] using HO.o)
        cases b with
        | none =>
         have hz : m = 0 ∧ l' = [] := by
          rcases Hb.o with h | ⟨s, o, h0, -⟩
          · exact h
          · cases h0
         obtain ⟨rfl, rfl⟩ := hz
         obtain rfl := hcb rfl
         go_wp2_with (at_builtin; refine wpList_append_own_none rfl _ _ 50 rfl w.heap.size 29 i0 11 Tryd.underlying50 hi _ _ _ rfl HO.o rfl ?_)
         go_roundw
         case rel => first | exact ⟨_, _, _, ⟨1 + 1, by omega, rfl, Lh (by simpa [pickV] using HO.o)⟩, rfl, rfl, rfl⟩ | exact ⟨_, _, _, ⟨1 + 1, by omega, rfl, Lh (by simpa [pickV] using HO.o), HBW⟩, rfl, rfl, rfl⟩
         case measure => simp [intOf]
        | some ad =>
         go_wp2_with (at_builtin; refine wpList_append_own _ rfl _ _ 50 rfl w.heap.size 29 i0 (.agg #[.slice none 0 0, .slice none 0 0, .bool false, .int .u64 0, .int .u64 0, .int .u64 0, .int .u64 0, .int .u64 0, .int .u64 0, .int .u64 0, .int .u64 0]) 11 120 Tryd.underlying50 hi hz0 hz1 hz2 rfl (by decide) _ _ _ rfl HO.o ad m _ (l'.flatMap Vt.vs) rfl (by rw [flat_len Vt.vs 11 Vt.vs_len, ← Hb.o.len]) ((Hb.o.keep HBW.o).cells) (fun u hu => flatV_one _ u hu) (by unfold maxLen; omega) (by omega) HBW.o.size ?_; intro v5 w5 ho5 hg5 _; have HO5 := Lh ho5; have HB5 := Lh (HBW.o.grown hg5 HBW.o.size (fun k hk => (HO.o.lt k hk).1)); clear ho5 hg5)
         go_roundw
         case rel => first | exact ⟨_, _, _, ⟨1 + 1, by omega, rfl, Lh (by simpa [pickV, List.flatMap_append, Nat.add_comm] using HO5.o)⟩, rfl, rfl, rfl⟩ | exact ⟨_, _, _, ⟨1 + 1, by omega, rfl, Lh (by simpa [pickV, List.flatMap_append, Nat.add_comm] using HO5.o), HB5⟩, rfl, rfl, rfl⟩ | exact ⟨1 + 1, by omega, rfl, Lh (by simpa [pickV, List.flatMap_append, Nat.add_comm] using HO5.o), HB5⟩
         case measure => simp [intOf]
      · replace HO := Lh (show wr.ownsRow w.heap.size 29 11 _ (n + m) ((l ++ l').flatMap Vt.vs) from by simpa [pickV] using HO.o)
        go_wp2_with fail
        go_ret
        exact ⟨⟨_, rfl, HO.o⟩, HBW.o⟩
open Go Go.RowKit Num Sha
theorem fill_one32 {cs : List Int} (hl : cs.length = 32) (cells : Array Value) (hn : cells.size = 32) : Instr.fill (fun i => some (i * 32, 32)) cells [(0, .agg (valV .u8 cs))] = some (valV .u8 cs) := by
 have h := Great.fill_whole (s := 32) (by decide) [.agg (valV .u8 cs)] cells (fun v hv => by
  rw [List.mem_singleton] at hv
  subst hv
  simp [Value.cells, valV, hl]) (by simp [hn])
 simpa [Value.cells] using h
theorem wpL_lit32 {w : World} {o : Oper} {ops : Array Oper} {rest : List Oper} {a : Act} {Q : Exit → Act → World → Prop} (hg : o.guard = none) (x : Operand) (cs : List Int) (ho : o.op = .buildSlice 102 1 #[(0, x)]) (hx : a.eval x = .agg (valV .u8 cs)) (hl : cs.length = 32)
    (h : wpList Tryd.prog ops Q rest (a.put o.dst (.slice (some ⟨w.heap.size, 0, none⟩) 1 1)) (w.alloc (.cells (valV .u8 cs) 37))) : wpList Tryd.prog ops Q (o :: rest) a w := by
  obtain ⟨j0, ji, jz0, jz1, jz2⟩ := info_parts (P := Tryd.prog) (e := 37) (z := .agg (Array.replicate 32 (.int .u8 0))) (size := 32) (bytes := 32) (by kernel_rfl)
  refine wpList_buildSlice hg 102 37 1 #[(0, x)] ho (valV .u8 cs) j0 _ Tryd.underlying102 ji jz0 (by rw [jz1]; decide) (by rw [jz1]; decide) ?_ h
  rw [jz1]
  simp only [List.map_toArray, List.map_cons, List.map_nil, hx]
  exact fill_one32 hl _ (by simp)
theorem wpL_push32 {w : World} {o : Oper} {ops : Array Oper} {rest : List Oper} {a : Act} {Q : Exit → Act → World → Prop} (hg : o.guard = none) (s x : Operand) (ho : o.op = .call { callee := .builtin .append, args := #[s, x], argTypes := #[102, 102] })
    (base n b : Nat) (v : Value) (xs : List Value) (cs : List Int) (hl : cs.length = 32) (hs : a.eval s = v) (hx : a.eval x = .slice (some ⟨b, 0, none⟩) 1 1) (hown : w.ownsRow base 37 32 v n xs) (hA : Arr .u8 w b cs) (hn : n ≤ 100000) (hb : base ≤ w.heap.size)
    (h : ∀ v' w', w'.ownsRow base 37 32 v' (n + 1) (xs ++ cs.map (Value.int .u8)) → w.grownBy w' v.ownBlock → wpList Tryd.prog ops Q rest (a.put o.dst v') w') : wpList Tryd.prog ops Q (o :: rest) a w := by
  obtain ⟨j0, ji, jz0, jz1, jz2⟩ := info_parts (P := Tryd.prog) (e := 37) (z := .agg (Array.replicate 32 (.int .u8 0))) (size := 32) (bytes := 32) (by kernel_rfl)
  refine wpList_append_own w hg s x 102 ho base 37 j0 _ 32 32 Tryd.underlying102 ji jz0 jz1 jz2 (by simp [Value.cells]) (by decide) v n xs hs hown ⟨b, 0, none⟩ 1 1 (cs.map (Value.int .u8)) hx (by rw [List.length_map, hl]) (fun j u hj => ?_) (fun u hu => by obtain ⟨z, -, rfl⟩ := List.mem_map.1 hu; rfl) (by unfold maxLen; omega) (by omega) hb (fun v' w' h1 h2 _ => h v' w' h1 h2)
  have hj' : j < cs.length := by have := (List.getElem?_eq_some_iff.1 hj).1; simpa using this
  rw [List.getElem?_map, List.getElem?_eq_getElem hj'] at hj
  obtain rfl := Option.some.inj hj
  have := hA.c j hj'
  rw [add_pl, Nat.zero_add, this]
  simp [List.getD, hj']
def flatC (l : List (List Int)) : List Value := l.flatMap fun cs => cs.map (Value.int .u8)
theorem flatC_at : ∀ (l : List (List Int)) (i j : Nat), (∀ cs, cs ∈ l → cs.length = 32) → i < l.length → j < 32 → (flatC l)[i * 32 + j]? = some (.int .u8 ((l.getD i []).getD j 0))
  | [], i, j, _, hi, _ => by simp at hi
  | x :: l, 0, j, hl, _, hj => by
   have hx := hl x (.head _)
   rw [Nat.zero_mul, Nat.zero_add]
   unfold flatC
   rw [List.flatMap_cons, List.getElem?_append_left (by simpa [hx] using hj)]
   simp [List.getD, hx, hj]
  | x :: l, i + 1, j, hl, hi, hj => by
   have hx := hl x (.head _)
   have h := flatC_at l i j (fun cs hc => hl cs (.tail _ hc)) (by simpa using hi) hj
   unfold flatC at h ⊢
   rw [List.flatMap_cons, List.getElem?_append_right (by rw [List.length_map, hx]; omega), List.length_map, hx, show (i + 1) * 32 + j - 32 = i * 32 + j by omega, h]
   rfl
theorem flatC_len (l : List (List Int)) (hl : ∀ cs, cs ∈ l → cs.length = 32) : (flatC l).length = l.length * 32 := by
 induction l with
 | nil => rfl
 | cons x l ih =>
  unfold flatC at ih ⊢
  rw [List.flatMap_cons, List.length_append, List.length_map, hl x (.head _), ih fun cs hc => hl cs (.tail _ hc), List.length_cons]
  omega
theorem ShC.of_owned {w : World} {base : Nat} {e : TypeId} {v : Value} {n : Nat} {l : List (List Int)} (hl : ∀ cs, cs ∈ l → cs.length = 32) (h : w.ownsRow base e 32 v n (flatC l)) : ∃ a c, v = .slice a n c ∧ ShC w a n l := by
 have hlen := h.1
 rw [flatC_len l hl] at hlen
 rcases h.2 with ⟨rfl, h0⟩ | ⟨g, cap, cur, rfl, hb, hg, hn, _⟩
 · subst h0
   have : l = [] := List.eq_nil_of_length_eq_zero (by omega)
   subst this
   exact ⟨none, 0, rfl, ShC.nil w _⟩
 · refine ⟨_, _, rfl, .inr ⟨g, 0, rfl, by omega, (h.lt g rfl).2, fun i hi => ⟨?_, fun j hj => ?_⟩⟩⟩
   · exact hl _ (by simp [List.getD, hi])
   · have hc := h.cells (g := g) rfl (i * 32 + j) _ (flatC_at l i j hl hi hj)
     rw [add_pl] at hc
     rwa [show 0 + i * 32 + j = 0 + (i * 32 + j) by omega]
def Vt.cd (V : Vt) : List Int := (codeF V).2
theorem Vt.cd_len (V : Vt) : V.cd.length = 32 := codeF_len (er := (codeF V).1) rfl
def cds (l : List Vt) : List (List Int) := l.map Vt.cd
theorem cds_len {l : List Vt} : ∀ cs, cs ∈ cds l → cs.length = 32 := by
 intro cs h
 obtain ⟨V, -, rfl⟩ := List.mem_map.1 h
 exact V.cd_len
def goodV (P Q G y : Int) (n : Nat) (one : Bool) (V : Vt) : Prop := V.one = one ∧ validP P Q G y n V
structure Bo where
  a : Option Addr
  n : Nat
  c : Nat
  l : List Vt
  b : Option Addr
  m : Nat
  d : Nat
  l' : List Vt
  e : Option Addr
  k : Nat
  f : Nat
  rs : List Rv
def Bo.v (B : Bo) : Value := .agg #[.slice B.a B.n B.c, .slice B.b B.m B.d, .slice B.e B.k B.f]
structure BoIn (w : World) (B : Bo) : Prop where
  h1 : ShV w B.a B.n B.l
  k1 : B.a = none → B.c = 0
  h2 : ShV w B.b B.m B.l'
  k2 : B.b = none → B.d = 0
  h3 : ShR w B.e B.k B.rs
  k3 : B.e = none → B.f = 0
theorem BoIn.keep {w w' : World} {B : Bo} (h : BoIn w B) (hb : Below w.heap.size w w') : BoIn w' B := ⟨h.h1.keep hb, h.k1, h.h2.keep hb, h.k2, h.h3.keep hb, h.k3⟩
structure BoSm (B : Bo) : Prop where
  s1 : B.n + B.m ≤ 1000
  s2 : B.k ≤ 1000
  s3 : ∀ R, R ∈ B.rs → R.n ≤ 1000 ∧ R.m ≤ 1000
  s4 : ∀ V, V ∈ B.l ++ B.l' → V.n ≤ 1000 ∧ V.m ≤ 1000
structure boothP (P Q G y : Int) (n : Nat) (one : Bool) (B : Bo) : Prop where
  lr : B.k = B.m
  few : B.n + B.m ≤ 256
  good : ∀ V, V ∈ B.l ++ B.l' → goodV P Q G y n one V
  dist : (cds (B.l ++ B.l')).Nodup
  mat : ∀ (i : Nat) (R : Rv) (V : Vt), B.rs[i]? = some R → B.l'[i]? = some V → rangeP Q n R ∧ matchP P G y n V R
theorem take_snoc {α : Type} {l : List α} {i : Nat} {x : α} (h : l[i]? = some x) : l.take (i + 1) = l.take i ++ [x] := by
 obtain ⟨h1, rfl⟩ := List.getElem?_eq_some_iff.1 h
 exact List.take_succ_eq_append_getElem h1
theorem cds_snoc (l : List Vt) (V : Vt) : cds (l ++ [V]) = cds l ++ [V.cd] := by simp [cds]
theorem flatC_snoc (l : List (List Int)) (cs : List Int) : flatC (l ++ [cs]) = flatC l ++ cs.map (Value.int .u8) := by simp [flatC]
theorem nodup_snoc {l : List (List Int)} {cs : List Int} (h : l.Nodup) (hn : cs ∉ l) : (l ++ [cs]).Nodup := by
 rw [List.nodup_append]
 exact ⟨h, by simp, fun a ha b hb => by rw [List.mem_singleton] at hb; subst hb; rintro rfl; exact hn ha⟩
theorem nodup_prefix {l : List Vt} {i : Nat} (h : (cds l).Nodup) : (cds (l.take i)).Nodup := by
 have : cds l = cds (l.take i) ++ cds (l.drop i) := by unfold cds; rw [← List.map_append, List.take_append_drop]
 rw [this, List.nodup_append] at h
 exact h.1
theorem nodup_at {l : List Vt} {i : Nat} {V : Vt} (h : (cds l).Nodup) (hV : l[i]? = some V) : V.cd ∉ cds (l.take i) := by
 have h2 := nodup_prefix (i := i + 1) h
 rw [take_snoc hV, cds_snoc, List.nodup_append] at h2
 intro hm
 exact h2.2.2 _ hm _ (by simp) rfl
open Num
open Go.RowKit Num Sha
theorem resp_of' {P Q G a x k c s : Int} (g : Grp P Q G) (ha : Mem P Q a) (x0 : 0 ≤ x) (k0 : 0 ≤ k) (c0 : 0 ≤ c) (hs : (k + c * x % Q) % Q = s) : powm a s P = powm a k P * powm (powm a x P) c P % P := by
 have q2 := g.pQ.1
 rw [← powm_mul a P x0 c0, ← powm_add a P k0 (Int.mul_nonneg x0 c0)]
 have s0 : 0 ≤ s := by rw [← hs]; exact Int.emod_nonneg _ (by omega)
 refine g.period_cg ha s0 (Int.add_nonneg k0 (Int.mul_nonneg x0 c0)) ?_
 rw [← hs]
 refine (cg_emod Q _).trans ((Cg.refl Q k).add ?_)
 rw [Int.mul_comm x c]
 exact cg_emod Q _
theorem cancel {P w x y : Int} (e : x * y % P = 1) (w0 : 0 ≤ w) (wP : w < P) : w * x % P * y % P = w := by
 have h : Cg P (w * x % P * y) w := by
  refine (Cg.mul_right y (cg_emod P _)).trans ?_
  rw [Int.mul_assoc]
  refine (Cg.mul_left w ((cg_emod P (x * y)).symm.trans (Cg.of_eq e))).trans (Cg.of_eq (Int.mul_one w))
 rw [h.emod_eq, Int.emod_eq_of_lt w0 wP]
theorem neg_one {P Q G u c m : Int} (g : Grp P Q G) (hu : Mem P Q u) (c0 : 0 ≤ c) (hm : (0 - c) % Q = m) : powm u m P * powm u c P % P = 1 := by
 have q2 := g.pQ.1
 have p5 := g.five
 have m0 : 0 ≤ m := by rw [← hm]; exact Int.emod_nonneg _ (by omega)
 rw [← powm_add u P m0 c0, g.period_cg (y := 0) hu (by omega) (by omega) ?_, powm_zero, g.one]
 have h : Cg Q (m + c) ((0 - c) + c) := (Cg.trans (Cg.of_eq hm.symm) (cg_emod Q _)).add (Cg.refl Q c)
 exact h.trans (Cg.of_eq (by omega))
theorem bit_complete {P Q G y m r k c z a b r0 r1 s0 s1 c0 c1 z0 z1 : Int} {T : List Int} (g : Grp P Q G) (hy : Mem P Q y) (hm : m = 0 ∨ m = 1) (hr : 0 ≤ r) (hk : 0 ≤ k) (hc : 0 ≤ c) (hz : 0 ≤ z) (ha : powm G r P = a) (hb : powm G m P * powm y r P % P = b) (hZ : BitZ P Q G y m r k c z T r0 r1 s0 s1 c0 c1 z0 z1) :
    bvP P Q G y a b r0 r1 s0 s1 c0 c1 z0 z1 T := by
  obtain ⟨a', b', nn, pp, t1, mi, g1, g2, Rj, h1, h2, Sj, Rm, Sm, tot, Cm, Zm, e1, e2, e3, e4, e5, e6, e7, e8, e9, e10, e11, e12, e13, e14, e15, e16, e17, e18⟩ := hZ
  obtain rfl : a' = a := e1.symm.trans ha
  obtain rfl : b' = b := e2.symm.trans hb
  have q2 := g.pQ.1
  have p5 := g.five
  have ma : Mem P Q a' := by rw [← ha]; exact g.mem_pow g.mem_g r
  have mb : Mem P Q b' := by rw [← hb]; exact g.mem_mul (g.mem_pow g.mem_g m) (g.mem_pow hy r)
  have mt : Mem P Q t1 := by rw [← e5, ← e4]; exact g.mem_mul mb (g.mem_pow g.mem_g nn)
  have mRm : Mem P Q Rm := by rw [← e13]; exact g.mem_pow g.mem_g k
  have mSm : Mem P Q Sm := by rw [← e14]; exact g.mem_pow hy k
  have mRj : Mem P Q Rj := by rw [← e9, ← e7, ← e8]; exact g.mem_mul (g.mem_pow g.mem_g z) (g.mem_pow ma mi)
  have mg1 : 0 ≤ g1 ∧ g1 < P := by rw [← e7]; exact ⟨powm_nonneg (by omega), powm_lt (by omega)⟩
  have mh1 : 0 ≤ h1 ∧ h1 < P := by rw [← e10]; exact ⟨powm_nonneg (by omega), powm_lt (by omega)⟩
  have Cm0 : 0 ≤ Cm := by rw [← e16]; exact Int.emod_nonneg _ (by omega)
  have htot : 0 ≤ tot ∧ tot < Q := by rw [← e15]; exact chV_range (by omega) _ _
  have hsum : (Cm + c) % Q = tot := by
   rw [← e16, Int.emod_add_emod, show tot - c + c = tot by omega, Int.emod_eq_of_lt htot.1 htot.2]
  have hm1 : powm G Zm P = Rm * powm a' Cm P % P := by rw [← e13, ← e1]; exact resp_of' g g.mem_g hr hk Cm0 e17
  have hm2 : powm y Zm P = Sm * powm (powm y r P) Cm P % P := by rw [← e14]; exact resp_of' g hy hr hk Cm0 e17
  have hj1 : powm G z P = Rj * powm a' c P % P := by rw [← e9, ← e8, e7]; exact (cancel (neg_one g ma hc e6) mg1.1 mg1.2).symm
  have yr0 : 0 ≤ powm y r P := powm_nonneg (by omega)
  have yrP : powm y r P < P := powm_lt (by omega)
  have hG1 : powm G 1 P = G := powm_one (by have := g.g2; omega) g.gP
  have ht1 : t1 = b' * powm G ((0 - 1) % Q) P % P := by rw [e3, e4, e5]
  rcases hm with rfl | rfl
  · rw [if_pos rfl] at e11 e15 e18
    obtain ⟨rfl, rfl, rfl, rfl, rfl, rfl, rfl, rfl⟩ := e18
    have hbe : b' = powm y r P := by rw [← hb, powm_zero, g.one, Int.one_mul, Int.emod_eq_of_lt yr0 yrP]
    have mSj : Mem P Q s1 := by rw [← e12, ← e10, ← e11]; exact g.mem_mul (g.mem_pow hy _) (g.mem_pow mt mi)
    have hj2 : powm y z1 P = s1 * powm t1 c1 P % P := by rw [← e12, ← e11, e10]; exact (cancel (neg_one g mt hc e6) mh1.1 mh1.2).symm
    refine ⟨?_, ?_⟩
    · intro x hx
      simp at hx
      rcases hx with rfl | rfl | rfl | rfl | rfl | rfl | rfl <;> assumption
    · rw [e15]
      exact ⟨⟨hm1, by rw [hbe]; exact hm2⟩, ⟨hj1, by rw [← ht1]; exact hj2⟩, hsum⟩
  · rw [if_neg (by decide)] at e11 e15 e18
    obtain ⟨rfl, rfl, rfl, rfl, rfl, rfl, rfl, rfl⟩ := e18
    have hte : t1 = powm y r P := by
     rw [← e5, ← hb, Int.mul_comm (powm G 1 P)]
     refine cancel ?_ yr0 yrP
     rw [Int.mul_comm, ← e4]
     exact neg_one g g.mem_g (by omega) e3
    have mSj : Mem P Q s0 := by rw [← e12, ← e10, ← e11]; exact g.mem_mul (g.mem_pow hy _) (g.mem_pow mb mi)
    have hj2 : powm y z0 P = s0 * powm b' c0 P % P := by rw [← e12, ← e11, e10]; exact (cancel (neg_one g mb hc e6) mh1.1 mh1.2).symm
    refine ⟨?_, ?_⟩
    · intro x hx
      simp at hx
      rcases hx with rfl | rfl | rfl | rfl | rfl | rfl | rfl <;> assumption
    · rw [e15]
      exact ⟨⟨hj1, hj2⟩, ⟨hm1, by rw [← ht1, hte]; exact hm2⟩, by rw [Int.add_comm]; exact hsum⟩
theorem BitZ.other {P Q G y m r k c z r0 r1 s0 s1 c0 c1 z0 z1 : Int} {T : List Int} (h : BitZ P Q G y m r k c z T r0 r1 s0 s1 c0 c1 z0 z1) : (m = 0 → c1 = c ∧ z1 = z) ∧ (m ≠ 0 → c0 = c ∧ z0 = z) := by
 obtain ⟨_, _, _, _, _, _, _, _, _, _, _, _, _, _, _, _, _, _, _, _, _, _, _, _, _, _, _, _, _, _, _, _, _, _, e⟩ := h
 constructor
 · intro hm; rw [if_pos hm] at e; exact ⟨e.2.2.2.2.2.1, e.2.2.2.2.2.2.2⟩
 · intro hm; rw [if_neg hm] at e; exact ⟨e.2.2.2.2.1, e.2.2.2.2.2.2.1⟩
open Go Go.RowKit Num Sha
def BitZb (P Q G y m r k c z : Int) (T : List Int) (b : Bt) : Prop := BitZ P Q G y m r k c z T b.r0 b.r1 b.s0 b.s1 b.c0 b.c1 b.z0 b.z1
def sumE (Q : Int) (d : List Int) : Nat → Int
  | 0 => 0
  | k + 1 => (sumE Q d k + d.getD (4 * k) 0) % Q
structure SealV (P Q G y : Int) (n : Nat) (ms : List Int) (one : Bool) (d : List Int) (V : Vt) (R : Rv) : Prop where
  en : V.n = n
  em : V.m = n
  eo : V.one = one
  bl : V.bs.length = n
  eb : ∀ i, i < n → V.bs.getD i (0, 0) = encP P G y (msgS ms (i : Int)) (d.getD (4 * i) 0)
  ep : ∀ i, i < n → BitZb P Q G y (msgS ms (i : Int)) (d.getD (4 * i) 0) (d.getD (4 * i + 1) 0) (d.getD (4 * i + 2) 0) (d.getD (4 * i + 3) 0) [(i : Int)] (V.ps.getD i Bt.zero)
  ez : (one = true ∧ BitZb P Q G y (ms.length : Int) (sumE Q d n) (d.getD (4 * n) 0) (d.getD (4 * n + 1) 0) (d.getD (4 * n + 2) 0) [255] V.z) ∨ (one = false ∧ V.z = Bt.zero)
  ern : R.n = ms.length
  erms : R.ms = ms
  erm : R.m = n
  erns : R.ns = (List.range n).map fun i => d.getD (4 * i) 0
theorem encP_plus {P G y M R m r : Int} (M0 : 0 ≤ M) (R0 : 0 ≤ R) (m0 : 0 ≤ m) (r0 : 0 ≤ r) : plusP P (encP P G y M R) (encP P G y m r) = encP P G y (M + m) (R + r) := by
 unfold plusP encP
 rw [powm_add G P R0 r0, powm_add G P M0 m0, powm_add y P R0 r0]
 refine Prod.ext rfl ?_
 show powm G M P * powm y R P % P * (powm G m P * powm y r P % P) % P = powm G M P * powm G m P % P * (powm y R P * powm y r P % P) % P
 rw [← Int.mul_emod, ← Int.mul_emod]
 congr 1
 rw [Int.mul_assoc, Int.mul_assoc, Int.mul_left_comm (powm y R P)]
theorem encP_zero {P Q G y : Int} (g : Grp P Q G) : encP P G y 0 0 = (1, 1) := by
 simp [encP, powm_zero, g.one]
theorem encP_mem {P Q G y m x : Int} (g : Grp P Q G) (hy : Mem P Q y) : Mem P Q (encP P G y m x).1 ∧ Mem P Q (encP P G y m x).2 :=
  ⟨g.mem_pow g.mem_g x, g.mem_mul (g.mem_pow g.mem_g m) (g.mem_pow hy x)⟩
theorem encP_mod {P Q G y m x x' : Int} (g : Grp P Q G) (hy : Mem P Q y) (x0 : 0 ≤ x) (x0' : 0 ≤ x') (h : Cg Q x x') : encP P G y m x = encP P G y m x' := by
 unfold encP
 rw [g.period_cg g.mem_g x0 x0' h, g.period_cg hy x0 x0' h]
theorem allP_push' {P : Int} (ps : List (Int × Int)) (q : Int × Int) : allP P (ps ++ [q]) = plusP P (allP P ps) q := by simp [allP]
def msum (ms : List Int) : Nat → Int
  | 0 => 0
  | k + 1 => msum ms k + msgS ms (k : Int)
def dsum (d : List Int) : Nat → Int
  | 0 => 0
  | k + 1 => dsum d k + d.getD (4 * k) 0
theorem msgS_nn (ms : List Int) (i : Int) : 0 ≤ msgS ms i := by unfold msgS; split <;> omega
theorem msum_nn (ms : List Int) : ∀ k, 0 ≤ msum ms k
  | 0 => Int.le_refl _
  | k + 1 => by have := msum_nn ms k; have := msgS_nn ms (k : Int); simp only [msum]; omega
theorem dsum_nn {d : List Int} (hd : ∀ k, 0 ≤ d.getD k 0) : ∀ k, 0 ≤ dsum d k
  | 0 => Int.le_refl _
  | k + 1 => by have := dsum_nn hd k; have := hd (4 * k); simp only [dsum]; omega
theorem sumE_dsum {Q : Int} (hQ : 0 < Q) {d : List Int} : ∀ k, sumE Q d k = dsum d k % Q
  | 0 => by simp [sumE, dsum]
  | k + 1 => by rw [sumE, dsum, sumE_dsum hQ k, Int.emod_add_emod]
theorem sumE_range {Q : Int} (hQ : 0 < Q) {d : List Int} (k : Nat) : 0 ≤ sumE Q d k ∧ sumE Q d k < Q := by
 rw [sumE_dsum hQ]; exact ⟨Int.emod_nonneg _ (by omega), Int.emod_lt_of_pos _ hQ⟩
theorem msum_nil : ∀ k, msum [] k = 0
  | 0 => rfl
  | k + 1 => by rw [msum, msum_nil k]; simp [msgS]
theorem msum_one {j : Int} : ∀ k : Nat, 0 ≤ j → msum [j] k = if j < (k : Int) then 1 else 0
  | 0, h => by rw [if_neg (by omega)]; rfl
  | k + 1, h => by
   rw [msum, msum_one k h, msgS]
   by_cases h1 : (k : Int) = j
   · subst h1
     rw [if_neg (by omega), if_pos (by simp), if_pos (by omega)]; rfl
   · by_cases h2 : j < (k : Int)
     · rw [if_pos h2, if_neg (by simpa using h1), if_pos (by omega)]; rfl
     · rw [if_neg h2, if_neg (by simpa using h1), if_neg (by omega)]; rfl
theorem msum_few {n : Nat} {ms : List Int} (hm : markedS (n : Int) ms = true) (h1 : ms.length ≤ 1) : msum ms n = (ms.length : Int) := by
 match ms, h1 with
 | [], _ => rw [msum_nil]; rfl
 | [j], _ =>
  have hj : ¬ (j ≤ -1 ∨ (n : Int) ≤ j) := by
   intro hh
   unfold markedS markedFrom at hm
   rw [if_pos hh] at hm
   cases hm
  rw [msum_one n (by omega), if_pos (by omega)]; rfl
theorem getD_take {α : Type} (l : List α) (k : Nat) (x : α) (h : k < l.length) : l.take (k + 1) = l.take k ++ [l.getD k x] := by
 rw [List.take_succ_eq_append_getElem h, List.getD_eq_getElem?_getD, List.getElem?_eq_getElem h]; rfl
theorem allP_sealed {P Q G y : Int} {n : Nat} {ms : List Int} {d : List Int} {bs : List (Int × Int)} (g : Grp P Q G) (hl : bs.length = n) (hd : ∀ k, 0 ≤ d.getD k 0)
    (hb : ∀ i, i < n → bs.getD i (0, 0) = encP P G y (msgS ms (i : Int)) (d.getD (4 * i) 0)) : ∀ k, k ≤ n → allP P (bs.take k) = encP P G y (msum ms k) (dsum d k)
  | 0, _ => by rw [List.take_zero]; exact (encP_zero g).symm
  | k + 1, hk => by
   rw [getD_take bs k (0, 0) (by omega), allP_push', allP_sealed g hl hd hb k (by omega), hb k (by omega), encP_plus (msum_nn ms k) (dsum_nn hd k) (msgS_nn ms _) (hd _)]
   rfl
theorem bt_ask {P Q G y m r k c z a b : Int} {T : List Int} {x : Bt} (hH : Has P Q G) (hZ : BitZb P Q G y m r k c z T x) (yP : y < P) (aP : a < P) (bP : b < P) (c0 : 0 ≤ c) (cQ : c < Q) (z0 : 0 ≤ z) (zQ : z < Q) :
    askS P Q G [x.c0, x.c1, x.z0, x.z1] [y, a, b, x.r0, x.r1, x.s0, x.s1] = 0 := by
  obtain ⟨p5, p3, hQ', pq, g2, gP⟩ := id hH
  obtain ⟨⟨p00, p01⟩, ⟨p10, p11⟩, ⟨p20, p21⟩, ⟨p30, p31⟩, ⟨p40, p41⟩, ⟨p50, p51⟩, ⟨p60, p61⟩, ⟨p70, p71⟩⟩ := BitZ.rng hZ (by omega) (by omega) c0 cQ z0 zQ
  exact askS_ok hH (by simp; omega) (by simp; omega)
theorem bt_prov {P Q G y m r k c z a b : Int} {x : Int} {p : Bt} (g : Grp P Q G) (hH : Has P Q G) (hy : Mem P Q y) (hm : m = 0 ∨ m = 1) (ha : powm G r P = a) (hb : powm G m P * powm y r P % P = b)
    (hZ : BitZb P Q G y m r k c z [x] p) (r0 : 0 ≤ r) (k0 : 0 ≤ k) (c0 : 0 ≤ c) (cQ : c < Q) (z0 : 0 ≤ z) (zQ : z < Q) : provB P Q G y a b p x := by
  have hP : 0 < P := by have := g.five; omega
  exact ⟨bt_ask hH hZ hy.2.1 (by rw [← ha]; exact powm_lt hP) (by rw [← hb]; exact Int.emod_lt_of_pos _ hP) c0 cQ z0 zQ, bit_complete g hy hm r0 k0 c0 z0 ha hb hZ⟩
theorem seal_good {P Q G y : Int} {n : Nat} {ms : List Int} {one : Bool} {d : List Int} {V : Vt} {R : Rv} (g : Grp P Q G) (hH : Has P Q G) (hy : Mem P Q y) (hm : markedS (n : Int) ms = true) (h1 : one = true → ms.length ≤ 1)
    (hd : ∀ k, 0 ≤ d.getD k 0 ∧ d.getD k 0 < Q) (h : SealV P Q G y n ms one d V R) : validP P Q G y n V ∧ rangeP Q n R ∧ matchP P G y n V R := by
  have hQ0 : 0 < Q := by have := hd 0; omega
  have hP0 : 0 < P := by have := g.five; omega
  refine ⟨⟨h.en, h.em, ?_, ?_⟩, ⟨h.erm, ?_, by rw [h.erms]; exact hm⟩, h.en, ?_⟩
  · intro i hi
    rw [h.eb i hi]
    exact bt_prov g hH hy (msgS_01 _ _) rfl rfl (h.ep i hi) (hd _).1 (hd _).1 (hd _).1 (hd _).2 (hd _).1 (hd _).2
  · rcases h.ez with ⟨ho, hz⟩ | ⟨ho, hz⟩
    · have hs := sumE_range hQ0 (d := d) n
      have he : allP P V.bs = encP P G y (ms.length : Int) (sumE Q d n) := by
       have := allP_sealed g h.bl (fun k => (hd k).1) h.eb n (Nat.le_refl _)
       rw [List.take_of_length_le (by rw [h.bl]; exact Nat.le_refl _), msum_few hm (h1 ho)] at this
       rw [this]
       refine encP_mod g hy (dsum_nn (fun k => (hd k).1) n) hs.1 ?_
       rw [sumE_dsum hQ0]
       exact (cg_emod _ _).symm
      refine .inl ⟨by rw [h.eo]; exact ho, ?_, ?_⟩
      · unfold okS
        rw [List.all_eq_true]
        intro q hq
        obtain ⟨i, hi, rfl⟩ := List.getElem_of_mem hq
        have hb := h.eb i (by rw [← h.bl]; exact hi)
        rw [List.getD_eq_getElem?_getD, List.getElem?_eq_getElem hi] at hb
        have hb' : V.bs[i] = encP P G y (msgS ms (i : Int)) (d.getD (4 * i) 0) := hb
        have hq := encP_mem (m := msgS ms (i : Int)) (x := d.getD (4 * i) 0) g hy
        rw [hb', decide_eq_true hq.1.2.1, decide_eq_true hq.2.2.1]; rfl
      · rw [he]
        have hl := h1 ho
        exact bt_prov g hH hy (by omega) rfl rfl hz hs.1 (hd _).1 (hd _).1 (hd _).2 (hd _).1 (hd _).2
    · exact .inr ⟨by rw [h.eo]; exact ho, hz⟩
  · rintro ⟨x, hx, hxQ⟩
    rw [h.erns, List.mem_map] at hx
    obtain ⟨i, _, rfl⟩ := hx
    have := (hd (4 * i)).2
    omega
  · intro i hi
    rw [h.eb i hi, h.erms, h.erns]
    congr 1
    simp [List.getD_eq_getElem?_getD, hi]
end Go.Proofs.YtlbldpkgnonbpaaDoor
