/- schnorr: keys, responses, extraction. -/
import Derived.Test.YtlbldpkgnonbpaaGreatDoorQsB
import Derived.Test.YtlbldpkgnonbpaaGreatDoorQsC
import Derived.Test.YtlbldpkgnonbpaaGreatDoorQsF
import Derived.Laws.AppendOwnNone
import Derived.Laws.OwnMore
import Derived.Lib.SliceRun
import Derived.Deep.RegionLaw
set_option linter.unusedSimpArgs false
set_option linter.unusedVariables false
set_option maxRecDepth 100000
namespace Go.Proofs.YtlbldpkgnonbpaaGreatDoor
open Go.RowKit Num
def keyS (P Q G x : Int) : Int := if askS P Q G [x] [] = 0 then (if x = 0 then 2 else 0) else askS P Q G [x] []
set_option maxHeartbeats 4000000 in
theorem reven_any {P Q G base y r c s : Int} {v : Bool} (w : World) (hP1 : 1 ≤ P) (PM : P < 2147483648) (b0 : 0 ≤ base) (bP : base < P) (y0 : 0 ≤ y) (yP : y < P) (r0 : 0 ≤ r) (rP : r < P) (uc : U64 c) (us : U64 s) (hv : v = true ↔ powm base s P = r * powm y c P % P) :
 Calls Tryz.prog 163 #[.agg #[υ P, υ Q, υ G], υ base, υ y, υ r, υ c, υ s] w fun e w' => e = .returned (.bool v) ∧ Below w.heap.size w w' := by
 obtain ⟨a, ha⟩ : ∃ a, powm base s P = a := ⟨_, rfl⟩
 obtain ⟨b, hb⟩ : ∃ b, powm y c P = b := ⟨_, rfl⟩
 have q0 : 0 ≤ b := by rw [← hb]; exact powm_nonneg (by omega)
 have qP : b < P := by rw [← hb]; exact powm_lt (by omega)
 obtain ⟨k1, k2⟩ := mul_bound r0 (by omega) q0 (by omega)
 obtain ⟨t, ht⟩ : ∃ t, r * b % P = t := ⟨_, rfl⟩
 have t0 : 0 ≤ t := by rw [← ht]; exact Int.emod_nonneg _ (by omega)
 have tP : t < P := by rw [← ht]; exact Int.emod_lt_of_pos _ (by omega)
 have k3 := wrap_u k1 (by omega)
 have k4 : (r * b).tmod P = t := (tmod_u k1).trans ht
 have k5 := wrap_u t0 (by omega)
 have k8 : ¬ P = 0 := by omega
 have HZ := Lh (show (a == t) = v by rw [ha, hb, ht] at hv; rw [Bool.eq_iff_iff, hv]; simp)
 have HA := Lh ha
 have HB := Lh hb
 have UC := Lh uc
 have US := Lh us
 clear ha hb ht hv uc us
 have F_g := Lh (show Boxed (w.alloc (.cells #[υ P, υ Q, υ G] 24)) (w.heap.size) P Q G from Boxed.at _ P Q G _ (w.heap.size) (by simp))
 have HBW := Lh (show Below w.heap.size w (w.alloc (.cells #[υ P, υ Q, υ G] 24)) from (Below.refl _ _).alloc (by simp <;> omega) _)
 go_enter Tryz.func163, Tryz.ntmps163
 obtain ⟨x0a, x0b, x0c, -⟩ := id F_g.o
 go_wp2_with fail
 clear x0a x0b x0c
 replace F_g := Lh F_g.o.drew
 replace HBW := Lh HBW.o.drew
 have hS := F_g.o.s
 refine wp_region_stage 14 (fun w' => SBox w' w.heap.size P Q G) (by kernel_rfl) ?_
 refine tkL (i := 0) (some 13) (.load 24 (.tmp 6)) 24 [3, 8, 9, 12, 13, 14] (v := ?_) hS (fun w' hSw => ?_) ?_
 rotate_left
 · obtain ⟨s0, s1, s2⟩ := hSw
   unfold bareOp; go_simp; try with_reducible rfl
 simp only [sY]
 refine tkQ 1 (some 14) (.move (.tmp 1)) 22 ?_
 simp only [sY]
 refine tkQ 2 (some 15) (.move (.tmp 5)) 22 ?_
 simp only [sY]
 refine tkQ 4 (some 17) (.move (.tmp 3)) 22 ?_
 simp only [sY]
 refine tkL (i := 5) (some 18) (.load 24 (.tmp 6)) 24 [8, 9, 12, 13, 14] (v := ?_) hS (fun w' hSw => ?_) ?_
 rotate_left
 · obtain ⟨s0, s1, s2⟩ := hSw
   unfold bareOp; go_simp; try with_reducible rfl
 simp only [sY]
 refine tkQ 6 (some 19) (.move (.tmp 2)) 22 ?_
 simp only [sY]
 refine tkQ 7 (some 20) (.move (.tmp 4)) 22 ?_
 simp only [sY]
 refine tkQ 10 (some 23) (.fieldAddr 24 (.tmp 6) 0) 0 ?_
 simp only [sY]
 refine tkL (i := 11) (some 24) (.load 22 (.tmp 23)) 22 [12, 13, 14] (v := ?_) hS (fun w' hSw => ?_) ?_
 rotate_left
 · obtain ⟨s0, s1, s2⟩ := hSw
   unfold bareOp; go_simp; try with_reducible rfl
 simp only [sY]
 refine onl (i := 3) (some 16) (.call { callee := .value (.func 106), args := #[.tmp 13, .tmp 14, .tmp 15], argTypes := #[24, 22, 22] }) 22 (fun K hK => ?_)
 unfold bareOp
 go_wp2_with (go_at_call 106; refine (r31Power_any _ hP1 PM b0 (by omega) US.o HA.o).mono ?_; rintro e w1 ⟨rfl, hb1⟩)
 replace F_g := Lh (F_g.o.keep hb1)
 replace HBW := Kt HBW hb1
 replace hS := F_g.o.s
 clear hb1
 refine hK.o _ _ (fun _ => hS) ?_
 clear hK K
 try simp only [sY]
 refine onl (i := 8) (some 21) (.call { callee := .value (.func 106), args := #[.tmp 18, .tmp 19, .tmp 20], argTypes := #[24, 22, 22] }) 22 (fun K hK => ?_)
 unfold bareOp
 go_wp2_with (go_at_call 106; refine (r31Power_any _ hP1 PM y0 (by omega) UC.o HB.o).mono ?_; rintro e w2 ⟨rfl, hb2⟩)
 replace F_g := Lh (F_g.o.keep hb2)
 replace HBW := Kt HBW hb2
 replace hS := F_g.o.s
 clear hb2
 refine hK.o _ _ (fun _ => hS) ?_
 clear hK K
 try simp only [sY]
 refine tkQ 9 (some 22) (.binOp .mul 22 (.tmp 17) (.tmp 21) 22) 22 ?_
 simp only [sY]
 refine tkQ 12 (some 25) (.binOp .rem 22 (.tmp 22) (.tmp 24) 22) 22 ?_
 simp only [sY]
 refine tkQ 13 (some 26) (.binOp .eql 22 (.tmp 16) (.tmp 25) 22) 4 ?_
 simp only [sY]
 refine onl (i := 14) (some 12) (.assign (.tmp 26)) 4 (fun K hK => ?_)
 unfold bareOp
 go_wp2_with fail
 refine hK.o _ _ lt8 ?_
 clear hK K
 try simp only [sY]
 refine wpAnyB_done (by kernel_rfl) ?_ _
 obtain ⟨x0a, x0b, x0c, -⟩ := id F_g.o
 go_wp2_with fail
 go_ret
 exact ⟨ret_bool HZ.o, HBW.o⟩
def ExtS (P Q G c s d t v e : Int) : Prop := (askS P Q G [c, s, d, t] [] = 0 ∧ ∃ ok u, InvS Q ((c - d) % Q) ok u ∧ ((ok = true ∧ (s - t) % Q * u % Q = v ∧ e = 0) ∨ (ok = false ∧ v = 0 ∧ e = 6))) ∨ (askS P Q G [c, s, d, t] [] ≠ 0 ∧ v = 0 ∧ e = askS P Q G [c, s, d, t] [])
theorem ExtS.exists (P Q G c s d t : Int) : ∃ v e, ExtS P Q G c s d t v e := by
 by_cases h : askS P Q G [c, s, d, t] [] = 0
 · obtain ⟨hH, -⟩ := askS_zero h
   obtain ⟨ok, u, hi⟩ := InvS.exists Q ((c - d) % Q) (by obtain ⟨h1, h2, h3, h4, -⟩ := hH; omega)
   cases ok
   · exact ⟨_, _, .inl ⟨h, _, _, hi, .inr ⟨rfl, rfl, rfl⟩⟩⟩
   · exact ⟨_, _, .inl ⟨h, _, _, hi, .inl ⟨rfl, rfl, rfl⟩⟩⟩
 · exact ⟨_, _, .inr ⟨h, rfl, rfl⟩⟩
open Go.RowKit Num
structure Side (w : World) (b : Nat) (x y : Int) : Prop where
 c0 : w.cell? ⟨b, 0, none⟩ = some (υ x)
 c1 : w.cell? ⟨b, 1, none⟩ = some (.int .i64 y)
 f0 : w.frozen? ⟨b, 0, none⟩ = false
 f1 : w.frozen? ⟨b, 1, none⟩ = false
 lt : b < w.heap.size
theorem Side.new (w : World) (x y : Int) (T : TypeId) : Side (w.alloc (.cells #[υ x, .int .i64 y] T)) w.heap.size x y := by
 refine ⟨?_, ?_, ?_, ?_, by simp⟩
 · rw [World.cell?_alloc_new]; rfl
 · rw [World.cell?_alloc_new]; rfl
 · simp
 · simp
theorem Side.at (w : World) (x y : Int) (T : TypeId) (b : Nat) (hb : b = w.heap.size) : Side (w.alloc (.cells #[υ x, .int .i64 y] T)) b x y := by
 rw [hb]; exact Side.new w x y T
theorem Side.keep {w w' : World} {b : Nat} {x y : Int} (h : Side w b x y) (hb : Below w.heap.size w w') : Side w' b x y :=
 ⟨(hb.cell (p := ⟨b, 0, none⟩) h.lt).trans h.c0, (hb.cell (p := ⟨b, 1, none⟩) h.lt).trans h.c1, (hb.frozen (p := ⟨b, 0, none⟩) h.lt).trans h.f0, (hb.frozen (p := ⟨b, 1, none⟩) h.lt).trans h.f1, Nat.lt_of_lt_of_le h.lt hb.size⟩
theorem Side.drew {w : World} {b : Nat} {x y : Int} (h : Side w b x y) : Side w.drew b x y := h.keep (Below.refl _ _).drew
theorem Side.alloc {w : World} {b : Nat} {x y : Int} (h : Side w b x y) (o : Obj) : Side (w.alloc o) b x y := h.keep ((Below.refl _ _).alloc (Nat.le_refl _) o)
theorem Side.first {w : World} {b : Nat} {x y : Int} (h : Side w b x y) (x' : Int) : Side (w.setCell ⟨b, 0, none⟩ (υ x')) b x' y := by
 refine ⟨World.cell?_setCell_same _ _ _ h.c0, ?_, ?_, ?_, by simpa using h.lt⟩
 · rw [World.cell?_setCell_other _ _ _ _ (by simp)]; exact h.c1
 · rw [World.frozen?_setCell]; exact h.f0
 · rw [World.frozen?_setCell]; exact h.f1
theorem Side.second {w : World} {b : Nat} {x y : Int} (h : Side w b x y) (y' : Int) : Side (w.setCell ⟨b, 1, none⟩ (.int .i64 y')) b x y' := by
 refine ⟨?_, World.cell?_setCell_same _ _ _ h.c1, ?_, ?_, by simpa using h.lt⟩
 · rw [World.cell?_setCell_other _ _ _ _ (by simp)]; exact h.c0
 · rw [World.frozen?_setCell]; exact h.f0
 · rw [World.frozen?_setCell]; exact h.f1
theorem Side.stored {w : World} {b : Nat} {x y : Int} (h : Side w b x y) (x' y' : Int) : Side ((w.setCell ⟨b, 0, none⟩ (υ x')).setCell ⟨b, 1, none⟩ (.int .i64 y')) b x' y' := (h.first x').second y'
theorem Side.far {w : World} {b c o : Nat} {x y : Int} (h : Side w b x y) (hn : c ≠ b) (v : Value) : Side (w.setCell ⟨c, o, none⟩ v) b x y := by
 refine ⟨?_, ?_, ?_, ?_, by simpa using h.lt⟩
 · rw [World.cell?_setCell_other _ _ _ _ (fun e => hn (congrArg Addr.block e))]; exact h.c0
 · rw [World.cell?_setCell_other _ _ _ _ (fun e => hn (congrArg Addr.block e))]; exact h.c1
 · rw [World.frozen?_setCell]; exact h.f0
 · rw [World.frozen?_setCell]; exact h.f1
end Go.Proofs.YtlbldpkgnonbpaaGreatDoor
/- Numbers as bytes: schnorr.bytes, the reference's Eight; texts. -/
namespace Go.Proofs.YtlbldpkgnonbpaaGreatDoor
open Go Go.RowKit Sha
theorem OwnB.mono {w : World} {n₀ n₁ : Nat} {v : Value} {xs : List Int} (h : OwnB w n₁ v xs) (hn : n₀ ≤ n₁) : OwnB w n₀ v xs := by
 refine ⟨h.1, ?_⟩
 rcases h.2 with h0 | ⟨g, cap, cur, e, b, r⟩
 · exact .inl h0
 · exact .inr ⟨g, cap, cur, e, Nat.le_trans hn b, r⟩
set_option maxHeartbeats 1000000 in
theorem run_append_sh (w : World) (ty : TypeId) {base : Nat} {v : Value} {xs bs : List Int} {a : Option Addr} {n c : Nat} (hown : OwnB w base v xs) (hs : ShI .u8 w a n bs) (hn : n ≤ 100000) (hx : xs.length ≤ 200000) (hb : base ≤ w.heap.size) :
 ∃ v' w', (Builtin.append_ #[80, 80] ty #[v, .slice a n c]).run Tryz.prog w = .ok v' w' ∧ OwnB w' base v' (xs ++ bs) ∧ w.grownBy w' v.ownBlock := by
 obtain ⟨i0, hi, hz0, hz1, hz2⟩ := info_parts (P := Tryz.prog) (e := 5) (z := .int .u8 0) (size := 1) (bytes := 1) (by kernel_rfl)
 have hl := hs.len
 cases a with
 | some ad =>
  obtain ⟨v', w', hr, h1, h2, -⟩ := run_append_own (P := Tryz.prog) w base 80 ty 5 i0 (.int .u8 0) 1 1 Tryz.underlying80 hi hz0 hz1 hz2 rfl (by decide) v xs.length (xs.map (Value.int .u8)) hown ad n c (bs.map (Value.int .u8)) (by rw [List.length_map, ← hl, Nat.mul_one]) hs.cells (fun u hu => by obtain ⟨x, -, rfl⟩ := List.mem_map.1 hu; rfl) (by unfold maxLen; omega) (by omega) hb
  refine ⟨v', w', hr, ?_, h2⟩
  unfold OwnB
  rw [List.length_append, List.map_append, ← hl]
  exact h1
 | none =>
  obtain ⟨rfl, rfl⟩ : n = 0 ∧ bs = [] := by
   rcases hs with h | ⟨s, o, h, -⟩
   · exact h
   · cases h
  refine ⟨v, w, ?_, by simpa using hown, World.grownBy.refl w _⟩
  rcases hown.2 with ⟨rfl, h0⟩ | ⟨g, cap, cur, rfl, -, -, hnc, -⟩
  · simp [Builtin.append_, run_underlying Tryz.underlying80, sizeOf, typeInfo, hi, hz1, Builtin.lenOf, storeCells, Builtin.firstCells, h0]
  · simp [Builtin.append_, run_underlying Tryz.underlying80, sizeOf, typeInfo, hi, hz1, Builtin.lenOf, storeCells, Builtin.firstCells, hnc]
section
variable {w : World} {ops : Array Oper} {rest : List Oper} {o : Oper} {act : Act} {Q : Exit → Act → World → Prop}
theorem wpL_append_sh (hgd : o.guard = none) (s x : Operand) (ho : o.op = .call { callee := .builtin .append, args := #[s, x], argTypes := #[80, 80] })
 (base : Nat) (v : Value) (xs bs : List Int) (a : Option Addr) (n c : Nat) (hv : act.eval s = v) (hx : act.eval x = .slice a n c) (hown : OwnB w base v xs) (hs : ShI .u8 w a n bs) (hn : n ≤ 100000) (hxs : xs.length ≤ 200000) (hb : base ≤ w.heap.size)
 (h : ∀ v' w', OwnB w' base v' (xs ++ bs) → w.grownBy w' v.ownBlock → wpList Tryz.prog ops Q rest (act.put o.dst v') w') : wpList Tryz.prog ops Q (o :: rest) act w := by
 refine wpList_plain hgd fun K hK => ?_
 obtain ⟨v', w', hr, h2, h3⟩ := run_append_sh w o.type hown hs hn hxs hb (c := c)
 unfold Oper.wp execOp
 simp only [ho, resolve, invoke, builtin, Sem.run_bind, Sem.run_pure, Result.andThen_ok, List.map_toArray, List.map_cons, List.map_nil, hv, hx, hr]
 exact hK _ _ (h v' w' h2 h3)
theorem wp_append_sh {K : Act → World → Prop} (s x : Operand) (ho : o.op = .call { callee := .builtin .append, args := #[s, x], argTypes := #[80, 80] })
 (base : Nat) (v : Value) (xs bs : List Int) (a : Option Addr) (n c : Nat) (hv : act.eval s = v) (hx : act.eval x = .slice a n c) (hown : OwnB w base v xs) (hs : ShI .u8 w a n bs) (hn : n ≤ 100000) (hxs : xs.length ≤ 200000) (hb : base ≤ w.heap.size)
 (h : ∀ v' w', OwnB w' base v' (xs ++ bs) → w.grownBy w' v.ownBlock → K (act.put o.dst v') w') : o.wp Tryz.prog act w K Q := by
 obtain ⟨v', w', hr, h2, h3⟩ := run_append_sh w o.type hown hs hn hxs hb (c := c)
 unfold Oper.wp execOp
 simp only [ho, resolve, invoke, builtin, Sem.run_bind, Sem.run_pure, Result.andThen_ok, List.map_toArray, List.map_cons, List.map_nil, hv, hx, hr]
 exact h v' w' h2 h3
end
theorem Grew.app {w0 w w' : World} {n₀ : Nat} {v v' : Value} {xs ys : List Int} (h : Grew w0 w n₀ v xs) (hown : OwnB w' n₀ v' ys) (hg : w.grownBy w' v.ownBlock) : Grew w0 w' n₀ v' ys :=
 ⟨hown, OwnB.grow h.bel h.own hg h.le, Nat.le_trans h.le hg.size⟩
theorem Grew.alloc {w0 w : World} {n₀ : Nat} {v : Value} {xs : List Int} (h : Grew w0 w n₀ v xs) (ob : Obj) : Grew w0 (w.alloc ob) n₀ v xs :=
 ⟨h.own.keep ((Below.refl _ _).alloc (Nat.le_refl _) ob), h.bel.alloc h.le ob, h.leA ob⟩
theorem Grew.keep {w0 w w' : World} {n₀ : Nat} {v : Value} {xs : List Int} (h : Grew w0 w n₀ v xs) (hb : Below w.heap.size w w') : Grew w0 w' n₀ v xs :=
 ⟨h.own.keep hb, h.bel.trans (hb.mono h.le), Nat.le_trans h.le hb.size⟩
theorem Grew.nil (w : World) : Grew w w w.heap.size (.slice none 0 0) [] := ⟨World.ownsRow_nil _ _ _ _, Below.refl _ _, Nat.le_refl _⟩
def flat8 (ns : List Int) : List Int := ns.flatMap be8
theorem flat8_len : ∀ ns : List Int, (flat8 ns).length = 8 * ns.length
 | [] => rfl
 | n :: ns => by rw [flat8, List.flatMap_cons, List.length_append, be8_len, ← flat8, flat8_len ns, List.length_cons]; omega
theorem flat8_snoc (ns : List Int) (k : Nat) (hk : k < ns.length) {x : Int} (hx : ns.getD k 0 = x) : flat8 (ns.take k) ++ be8 x = flat8 (ns.take (k + 1)) := by
 subst hx
 rw [List.take_succ_eq_append_getElem hk, flat8, flat8, List.flatMap_append]
 simp [hk]
theorem be8_snoc (x : Int) (j : Nat) (hj : j < 8) {y : Int} (hy : y = x / 2 ^ (56 - 8 * j) % 256) : (be8 x).take j ++ [y] = (be8 x).take (j + 1) := by
 subst hy
 rw [List.take_succ_eq_append_getElem (by rw [be8_len]; exact hj)]
 simp [be8]
theorem be8_bytes (n : Int) : ByteL (be8 n) := by
 intro x hx
 simp only [be8, List.mem_map] at hx
 obtain ⟨i, -, rfl⟩ := hx
 omega
theorem flat8_bytes (ns : List Int) : ByteL (flat8 ns) := by
 intro x hx
 obtain ⟨n, -, h⟩ := List.mem_flatMap.1 hx
 exact be8_bytes n x h
theorem ByteL.append {xs ys : List Int} (h : ByteL xs) (k : ByteL ys) : ByteL (xs ++ ys) := fun x hx => (List.mem_append.1 hx).elim (h x) (k x)
theorem take_all8 (x : Int) : (be8 x).take 8 = be8 x := List.take_of_length_le (by rw [be8_len]; exact Nat.le_refl _)
set_option maxHeartbeats 4000000 in
theorem rEight_any {a : Option Addr} {n c : Nat} {bs : List Int} {x : Int} (w : World) (h : ShI .u8 w a n bs) (ux : U64 x) (hn : n ≤ 10000) :
 Calls Tryz.prog 128 #[.slice a n c, υ x] w fun e w' => ∃ v, e = .returned v ∧ OwnB w' w.heap.size v (bs ++ be8 x) ∧ Below w.heap.size w w' := by
 obtain ⟨i0, hi, hz0, hz1, hz2⟩ := info_parts (P := Tryz.prog) (e := 5) (z := .int .u8 0) (size := 1) (bytes := 1) (by kernel_rfl)
 have HS := Lh h
 have HL := Lh h.len
 have HUX := Lh ux
 have HG0 := Lh (show Grew w (w.alloc (.cells #[] 5)) w.heap.size (.slice (some ⟨w.heap.size, 0, none⟩) 0 0) [] from ⟨World.ownsRow_lit w #[] 0 (Nat.le_refl _) (by decide) rfl, (Below.refl _ _).alloc (Nat.le_refl _) _, by simp⟩)
 clear h ux
 go_enter Tryz.func128, Tryz.ntmps128
 go_wp2_with (at_builtin; refine wpL_append_sh rfl _ _ rfl w.heap.size _ [] bs a n c rfl rfl HG0.o.own (HS.o.keep HG0.o.bel) (by omega) (by simp) HG0.o.le ?_; intro v1 w1 hown hgr; have HG := Lh (HG0.o.app hown hgr); clear hown hgr; simp only [sY])
 replace HG := Lh (show Grew w w1 w.heap.size v1 bs from HG.o)
 clear HG0
 go_loopw [5, 6] (fun c5 c6 wr => ∃ j : Nat, j ≤ 8 ∧ c6 = .int .i64 j ∧ Hid (Grew w wr w.heap.size c5 (bs ++ (be8 x).take j))) (fun _ c6 _ => 8 - (intOf c6).toNat)
 case atStart => exact ⟨0, by omega, rfl, Lh (by simpa using HG.o)⟩
 case round =>
  clear HG
  obtain ⟨j, hj, rfl, HG⟩ := hrel
  by_cases hlt : j < 8
  case neg =>
   obtain rfl : j = 8 := by omega
   rw [take_all8] at HG
   simp only [Int.cast_ofNat_Int]
   go_wp2_with fail
   go_ret
   exact ⟨_, rfl, HG.o.own, HG.o.bel⟩
  case pos =>
   have hd : decide ((j : Int) < 8) = true := by simp; omega
   have j0 : (0 : Int) ≤ (j : Int) := by omega
   have p0 : (0 : Int) ≤ 56 - 8 * (j : Int) := by omega
   have e0 : (56 - 8 * (j : Int)).toNat = 56 - 8 * j := by omega
   have hm0 : min (56 - 8 * j) 64 = 56 - 8 * j := by omega
   have hw1 : IntKind.i64.wrap ((j : Int) + 1) = (j : Int) + 1 := IntWalk.i64_in _ (by omega)
   have hw2 : IntKind.i64.wrap (8 * (j : Int)) = 8 * (j : Int) := IntWalk.i64_in _ (by omega)
   have hw3 : IntKind.i64.wrap (56 - 8 * (j : Int)) = 56 - 8 * (j : Int) := IntWalk.i64_in _ (by omega)
   have x0 := HUX.o.1
   have hpl : (bs ++ (be8 x).take j).length ≤ 20000 := by have := HL.o; simp [be8_len]; omega
   have HXM := Lh (show (bs ++ (be8 x).take j).length + 1 ≤ maxLen by unfold maxLen; omega)
   have HXB := Lh (show ((bs ++ (be8 x).take j).length + 1) * 1 ≤ 140737488355328 by omega)
   clear hpl
   go_wp2_with (at_builtin; (refine wpList_append_own _ rfl _ _ 80 rfl w.heap.size 5 i0 (.int .u8 0) 1 1 Tryz.underlying80 hi hz0 hz1 hz2 rfl (by decide) _ (bs ++ (be8 x).take j).length ((bs ++ (be8 x).take j).map (Value.int .u8)) rfl (HG.o.own.keep ((Below.refl _ _).alloc (Nat.le_refl _) _)) _ 1 1 [.int .u8 (x / 2 ^ (56 - 8 * j) % 256)] rfl rfl (fun j u hj => by cases j with | zero => simp at hj; subst hj; simp [go_sem] | succ j => simp at hj) (fun u hu => by simp at hu; subst hu; rfl) HXM.o HXB.o (HG.o.leA _) ?_); intro v4 w4 hown hgr hnil; have HG4 := Lh (HG.o.snoc hown hgr); clear hown hgr hnil)
   go_roundw
   case rel => exact ⟨j + 1, by omega, by go_num, by rw [← be8_snoc x j hlt rfl, ← List.append_assoc]; exact HG4.o⟩
   case measure => simp [intOf]; omega
end Go.Proofs.YtlbldpkgnonbpaaGreatDoor
/- schnorr.Challenge, schnorr.nonce; the reference's Nonce. -/
namespace Go.Proofs.YtlbldpkgnonbpaaGreatDoor
open Go Go.RowKit Num Sha
structure Txt (w : World) (a : Option Addr) (n : Nat) (T : List Int) : Prop where
 tabs : Tabs w
 sh : ShI .u8 w a n T
 by8 : ByteL T
theorem Txt.keep {w w' : World} {a : Option Addr} {n : Nat} {T : List Int} (h : Txt w a n T) (hb : Below w.heap.size w w') : Txt w' a n T := ⟨h.tabs.below hb, h.sh.keep hb, h.by8⟩
theorem Boxed.under {w w' : World} {B n : Nat} {P Q G : Int} (h : Boxed w B P Q G) (hb : Below n w w') (hn : B < n) : Boxed w' B P Q G :=
 ⟨(hb.cell (p := ⟨B, 0, none⟩) hn).trans h.c0, (hb.cell (p := ⟨B, 1, none⟩) hn).trans h.c1, (hb.cell (p := ⟨B, 2, none⟩) hn).trans h.c2, Nat.lt_of_lt_of_le h.lt hb.size⟩
theorem Boxed.laid {w w' : World} {B b q : Nat} {k : IntKind} {ys : List Int} {P Q G : Int} (h : Boxed w B P Q G) (hL : Laid k w w' b q ys) (hn : B ≠ b) : Boxed w' B P Q G :=
 ⟨(hL.cell _ _ hn).trans h.c0, (hL.cell _ _ hn).trans h.c1, (hL.cell _ _ hn).trans h.c2, by rw [hL.size]; exact h.lt⟩
def lgS (a : Int) (n : Nat) : Int := if a = 0 then (if 8000 < n then 4 else 0) else a
theorem lgS_zero {a : Int} {n : Nat} (h : lgS a n = 0) : a = 0 ∧ n ≤ 8000 := by
 unfold lgS at h
 by_cases ha : a = 0
 · rw [if_pos ha] at h
   by_cases hn : 8000 < n
   · rw [if_pos hn] at h; omega
   · exact ⟨ha, by omega⟩
 · rw [if_neg ha] at h; exact absurd h ha
def chV (Q : Int) (ns T : List Int) : Int := beN ((shaS (flat8 ns ++ T)).take 8) % Q
theorem chV_range {Q : Int} (h : 0 < Q) (ns T : List Int) : 0 ≤ chV Q ns T ∧ chV Q ns T < Q := ⟨Int.emod_nonneg _ (by omega), Int.emod_lt_of_pos _ h⟩
def noV (Q x : Int) (T : List Int) : Int := beN ((shaS (flat8 [x] ++ T)).take 8) % (Q - 1) + 1
end Go.Proofs.YtlbldpkgnonbpaaGreatDoor
/- The reference's Of, Nonce, Challenge. -/
namespace Go.Proofs.YtlbldpkgnonbpaaGreatDoor
open Go Go.RowKit Num Sha
theorem OwnB.shs {w : World} {n₀ : Nat} {v : Value} {xs : List Int} (h : OwnB w n₀ v xs) (h1 : 1 ≤ xs.length) : ∃ g c, v = .slice (Option.some ⟨g, 0, none⟩) xs.length c ∧ ShI .u8 w (Option.some ⟨g, 0, none⟩) xs.length xs := by
 obtain ⟨g, cap, rfl, -, -⟩ := h.some h1
 obtain ⟨a, c, e, hs⟩ := h.shi
 injection e with e1 e2 e3
 subst e1
 exact ⟨g, cap, rfl, hs⟩
theorem lgS_ok {a : Int} {n : Nat} (h : a = 0) (hn : n ≤ 8000) : lgS a n = 0 := by unfold lgS; rw [if_pos h, if_neg (by omega)]
theorem lgS_long {a : Int} {n : Nat} (h : a = 0) (hn : lgS a n ≠ 0) : 8000 < n := by
 by_cases h8 : 8000 < n
 · exact h8
 · exact absurd (lgS_ok h (by omega)) hn
theorem lgS_four {a : Int} {n : Nat} (h : a = 0) (hn : 8000 < n) : lgS a n = 4 := by unfold lgS; rw [if_pos h, if_pos hn]
theorem lgS_ne {a : Int} {n : Nat} (h : a ≠ 0) : lgS a n = a := by unfold lgS; rw [if_neg h]
set_option maxHeartbeats 4000000 in
theorem rOf31_any {P Q G v : Int} {a tx : Option Addr} {m d n cp : Nat} {ns T : List Int} (w : World) (hT : Txt w tx n T) (hH : Has P Q G) (hs : ShL w a m d ns) (hu : ∀ x, x ∈ ns → U64 x) (hm : m ≤ 20) (hm1 : 1 ≤ m) (hn : n ≤ 8100) (hv : chV Q ns T = v) :
 Calls Tryz.prog 109 #[.agg #[υ P, υ Q, υ G], .slice a m d, .slice tx n cp] w fun e w' => e = .returned (υ v) ∧ Below w.heap.size w w' := by
 have HT := Lh hT
 have HTL := Lh hT.sh.len
 have HS := Lh hs
 have HL := Lh hs.len
 have HU := Lh hu
 clear hT hs hu
 obtain ⟨D, hD⟩ : ∃ D, shaS (flat8 ns ++ T) = D := ⟨_, rfl⟩
 have HLD := Lh (show D.length = 32 by rw [← hD, shaS_len])
 have HBD := Lh (show Bytes D by rw [← hD]; exact shaS_bytes _)
 have HD := Lh hD
 have HV := Lh (show beN (D.take 8) % Q = v by rw [← hv, chV, hD])
 clear hD hv
 obtain ⟨p5, p3, hQ', pq, g2, gP⟩ := id hH
 have hP1 : 1 ≤ P := by omega
 have hGM : G < 2147483648 := by omega
 have q3 : Q < 1073741824 := by omega
 have q2 : 2 ≤ Q := by omega
 have HH := Lh hH
 clear hH pq
 have F_g := Lh (show Boxed (w.alloc (.cells #[υ P, υ Q, υ G] 24)) (w.heap.size) P Q G from Boxed.at _ P Q G _ (w.heap.size) (by simp))
 have HBW := Lh (show Below w.heap.size w (w.alloc (.cells #[υ P, υ Q, υ G] 24)) from (Below.refl _ _).alloc (by simp <;> omega) _)
 go_enter Tryz.func109, Tryz.ntmps109
 obtain ⟨x0a, x0b, x0c, -⟩ := id F_g.o
 go_wp2_with fail
 clear x0a x0b x0c
 go_loopw [7, 8] (fun c7 c8 wr => ∃ k : Nat, k ≤ m ∧ c8 = .int .i64 k ∧ Hid (OwnB wr (w.heap.size + 1) c7 (flat8 (ns.take k))) ∧ Hid (Boxed wr w.heap.size P Q G) ∧ Hid (Below w.heap.size w wr)) (fun _ c8 _ => m - (intOf c8).toNat)
 case atStart => exact ⟨0, by omega, rfl, Lh (World.ownsRow_nil _ _ _ _), F_g.o, HBW.o⟩
 case round =>
  clear F_g HBW
  obtain ⟨k, hk, rfl, O7, F_g, HBW⟩ := hrel
  have hgl := F_g.o.lt
  have HLE := Lh (show w.heap.size + 1 ≤ wr.heap.size from hgl)
  have hll := HL.o
  by_cases hlt : k < m
  case pos =>
   have hd : decide ((k : Int) < (m : Int)) = true := by simp; omega
   have hdn : decide (k < m) = true := by simp; omega
   have k0 : (0 : Int) ≤ (k : Int) := by omega
   have hw1 : IntKind.i64.wrap ((k : Int) + 1) = (k : Int) + 1 := IntWalk.i64_in _ (by omega)
   obtain ⟨s, rfl, hc⟩ := (HS.o.keep HBW.o).at k hlt
   obtain ⟨x, hx⟩ : ∃ x, ns.getD k 0 = x := ⟨_, rfl⟩
   have HUX := Lh (show U64 x from HU.o x (by rw [← hx, List.getD_eq_getElem?_getD, List.getElem?_eq_getElem (by omega)]; exact List.getElem_mem _))
   have HFL := Lh (show flat8 (ns.take k) ++ be8 x = flat8 (ns.take (k + 1)) from flat8_snoc ns k (by omega) hx)
   obtain ⟨F, hF⟩ : ∃ F, flat8 (ns.take k) = F := ⟨_, rfl⟩
   have HF := Lh (show F.length ≤ 200 by rw [← hF, flat8_len, List.length_take]; omega)
   rw [hF] at O7 HFL
   rw [hx] at hc
   clear hF hx hll
   obtain ⟨a7, d7, rfl, S7⟩ := O7.o.shi
   have HS7 := Lh S7
   clear S7
   go_wp2_with (go_at_call 128; refine (rEight_any _ HS7.o HUX.o (by have := HF.o; omega)).mono ?_; rintro e w8 ⟨v8, rfl, O8, hb8⟩; replace O8 := Lh (O8.mono HLE.o); replace F_g := Lh (F_g.o.keep hb8); replace HBW := Kt HBW hb8; clear hb8)
   go_roundw
   case rel => exact ⟨k + 1, by omega, by go_num, by rw [← HFL.o]; exact O8, F_g, HBW⟩
   case measure => simp [intOf]; omega
  case neg =>
   obtain rfl : k = m := by omega
   have HKN := Lh (show k = ns.length from hll)
   rw [show ns.take k = ns by rw [hll, List.take_length]] at O7
   clear hlt hk hll
   go_wp2_with fail
   replace F_g := Lh F_g.o.drew
   replace HBW := Lh HBW.o.drew
   replace O7 := Lh (OwnB.keep O7.o (Below.refl _ _).drew)
   replace HLE := Lh (show w.heap.size + 1 ≤ wr.drew.heap.size from hgl)
   have hS := F_g.o.s
   refine wp_region_stage 5 (fun w' => SBox w' w.heap.size P Q G) (by kernel_rfl) ?_
   refine tkL (i := 0) (some 21) (.load 24 (.tmp 3)) 24 [5] (v := ?_) hS (fun w' hSw => ?_) ?_
   rotate_left
   · obtain ⟨s0, s1, s2⟩ := hSw
     unfold bareOp; go_simp; try with_reducible rfl
   simp only [sY]
   refine tkQ 1 (some 22) (.move (.tmp 7)) 80 ?_
   simp only [sY]
   refine tkQ 2 (some 23) (.move (.tmp 2)) 80 ?_
   simp only [sY]
   refine onl (i := 3) (some 24) (.call { callee := .builtin .append, args := #[.tmp 22, .tmp 23], argTypes := #[80, 80] }) 80 (fun K hK => ?_)
   unfold bareOp
   refine wp_append_sh _ _ rfl (w.heap.size + 1) _ (flat8 ns) T tx n cp rfl rfl O7.o (HT.o.keep HBW.o).sh (by omega) (by rw [flat8_len]; have := HKN.o; omega) HLE.o ?_
   intro v3 w3 hown hgr
   have hb3 := Below.grown (Below.refl (w.heap.size + 1) _) hgr HLE.o (fun k hk => (World.ownsRow.lt O7.o k hk).1)
   obtain ⟨g3, c3, rfl, S3⟩ := hown.shs (by rw [List.length_append, flat8_len]; have := HKN.o; omega)
   obtain ⟨N3, hN3⟩ : ∃ N3, (flat8 ns ++ T).length = N3 := ⟨_, rfl⟩
   rw [hN3] at S3 ⊢
   have HN3 := Lh (show N3 ≤ 100000 by have := HTL.o; have := HKN.o; rw [← hN3, List.length_append, flat8_len]; omega)
   clear hN3
   replace F_g := Lh (F_g.o.under hb3 (by omega))
   replace HBW := Lh (HBW.o.trans (hb3.mono (by omega)))
   replace hS := F_g.o.s
   clear hown hgr hb3
   refine hK.o _ _ (fun _ => hS) ?_
   clear hK K
   try simp only [sY]
   refine onl (i := 4) (some 25) (.call { callee := .value (.func 121), args := #[.tmp 24], argTypes := #[80] }) 26 (fun K hK => ?_)
   unfold bareOp
   go_wp2_with (go_at_call 121; refine (rOf5_any _ S3 HN3.o ((flat8_bytes _).append HT.o.by8)).mono ?_; rintro e w4 ⟨he, hb4⟩; rw [HD.o] at he; subst he)
   replace F_g := Lh (F_g.o.keep hb4)
   replace HBW := Kt HBW hb4
   replace hS := F_g.o.s
   clear hb4 S3
   refine hK.o _ _ (fun _ => hS) ?_
   clear hK K
   try simp only [sY]
   refine onl (i := 5) (some 26) (.call { callee := .value (.func 129), args := #[.tmp 21, .tmp 25], argTypes := #[24, 26] }) 22 (fun K hK => ?_)
   unfold bareOp
   go_wp2_with (go_at_call 129; refine (rOf_ok P Q G v D _ HH.o HLD.o HBD.o HV.o).mono ?_; rintro e w5 ⟨rfl, hb5⟩)
   replace F_g := Lh (F_g.o.keep hb5)
   replace HBW := Kt HBW hb5
   replace hS := F_g.o.s
   clear hb5
   refine hK.o _ _ lt8 ?_
   clear hK K
   try simp only [sY]
   refine tkP (i := 6) (some 6) (.assign (.tmp 26)) 22 lt8 ?_
   simp only [sY]
   refine wpAnyB_done (by kernel_rfl) ?_ _
   go_wp2_with fail
   go_ret
   exact ⟨rfl, HBW.o⟩
open Go Go.RowKit Num Sha
def Others (w w' : World) : Prop := ∀ (base : Nat) (e : TypeId) (sz n : Nat) (u : Value) (ys : List Value), e ≠ 5 → w.ownsRow base e sz u n ys → w'.ownsRow base e sz u n ys
theorem Others.refl (w : World) : Others w w := fun _ _ _ _ _ _ _ h => h
theorem Others.trans {a b c : World} (h : Others a b) (k : Others b c) : Others a c := fun p q r s t u hne hr => k p q r s t u hne (h p q r s t u hne hr)
theorem Others.below {w w' : World} (h : Below w.heap.size w w') : Others w w' := fun _ _ _ _ _ _ _ hr =>
 World.ownsRow.kept (row := none) hr ⟨h.os, h.tape, h.output, h.size, fun k hk _ => h.block k hk⟩ (by cases Value.ownBlock _ <;> simp)
theorem own_diffN {W : World} {n n' k k' sz sz' : Nat} {e e' : TypeId} {v v' : Value} {xs xs' : List Value} (h : W.ownsRow n e sz v k xs) (h' : W.ownsRow n' e' sz' v' k' xs') (hne : e ≠ e') : v'.ownBlock = none ∨ v'.ownBlock ≠ v.ownBlock := by
 rcases h'.2 with ⟨rfl, _⟩ | ⟨g', cap', cur', rfl, b', c', d'⟩
 · exact .inl rfl
 · refine .inr fun e0 => ?_
   rcases h.2 with ⟨rfl, _⟩ | ⟨g, cap, cur, rfl, b, c, d⟩
   · simp [Value.ownBlock] at e0
   · simp [Value.ownBlock] at e0
     subst e0
     rw [c'] at c
     cases c
     exact hne rfl
theorem Others.grown {w w' : World} {n₀ : Nat} {v : Value} {xs : List Int} (hv : OwnB w n₀ v xs) (hg : w.grownBy w' v.ownBlock) : Others w w' := fun _ _ _ _ _ _ hne hr =>
 World.ownsRow.kept hr hg (own_diffN hv hr (Ne.symm hne))
inductive Pt
 | box (a b : Int)
 | bit (z : Bt)
def Pt.v : Pt → Value
 | .box a b => .iface 186 (.agg #[υ a, υ b])
 | .bit z => .iface 187 (.agg #[υ z.r0, υ z.r1, υ z.s0, υ z.s1, υ z.c0, υ z.c1, υ z.z0, υ z.z1])
def Pt.ns : Pt → List Int
 | .box a b => [a, b]
 | .bit z => [z.r0, z.s0, z.r1, z.s1, z.c0, z.c1, z.z0, z.z1]
def Pt.u : Pt → Prop
 | .box a b => U64 a ∧ U64 b
 | .bit z => z.u
theorem Pt.us {p : Pt} (h : p.u) : ∀ x, x ∈ p.ns → U64 x := by
 cases p with
 | box a b =>
  intro x hx
  simp [Pt.ns] at hx
  rcases hx with rfl | rfl
  · exact h.1
  · exact h.2
 | bit z =>
  obtain ⟨h1, h2, h3, h4, h5, h6, h7, h8⟩ := h
  intro x hx
  simp [Pt.ns] at hx
  rcases hx with rfl | rfl | rfl | rfl | rfl | rfl | rfl | rfl <;> assumption
theorem Pt.len (p : Pt) : p.ns.length = 2 ∨ p.ns.length = 8 := by cases p <;> simp [Pt.ns]
structure OwnQ (w : World) (n₀ s n : Nat) (ns : List Int) : Prop where
 len : ns.length = n
 row : w.ownsRow n₀ 22 1 (.slice (some ⟨s, 0, none⟩) n n) n (ns.map (Value.int .u64))
theorem OwnQ.at {w : World} {n₀ s n k : Nat} {ns : List Int} (h : OwnQ w n₀ s n ns) (hk : k < n) : w.cell? ⟨s, k, none⟩ = some (υ (ns.getD k 0)) := by
 have hl := h.len
 rw [h.row.cellAt k (by omega), List.getElem?_map, List.getElem?_eq_getElem (by omega), List.getD_eq_getElem?_getD, List.getElem?_eq_getElem (by omega)]
 rfl
theorem OwnQ.lit (w : World) (xs : List Int) (b n₀ : Nat) (hb : b = w.heap.size) (hn : n₀ ≤ w.heap.size) (hx : xs.length ≤ 100) : OwnQ (w.alloc (.cells (xs.map (Value.int .u64)).toArray 22)) n₀ b xs.length xs := by
 subst hb
 refine ⟨rfl, ?_⟩
 have := World.ownsRow_lit (e := 22) (size := 1) w (xs.map (Value.int .u64)).toArray xs.length hn (by unfold maxLen; omega) (by simp)
 simpa using this
theorem OwnQ.keep {w w' : World} {n₀ s n : Nat} {ns : List Int} (h : OwnQ w n₀ s n ns) (hb : Below w.heap.size w w') : OwnQ w' n₀ s n ns :=
 ⟨h.len, World.ownsRow.kept (row := none) h.row ⟨hb.os, hb.tape, hb.output, hb.size, fun k hk _ => hb.block k hk⟩ (.inr (by simp [Value.ownBlock]))⟩
theorem OwnQ.others {w w' : World} {n₀ s n : Nat} {ns : List Int} (h : OwnQ w n₀ s n ns) (ho : Others w w') : OwnQ w' n₀ s n ns := ⟨h.len, ho _ _ _ _ _ _ (by decide) h.row⟩
set_option maxHeartbeats 8000000 in
theorem boxNums_any {a b : Int} (w : World) :
 Calls Tryz.prog 185 #[.agg #[υ a, υ b]] w fun e w' => ∃ s, e = .returned (.slice (some ⟨s, 0, none⟩) 2 2) ∧ OwnQ w' w.heap.size s 2 [a, b] ∧ Below w.heap.size w w' := by
 have F_s := Lh (show Pair (w.alloc (.cells #[υ a, υ b] 186)) w.heap.size a b from Pair.at _ a b _ w.heap.size rfl)
 have HBW := Lh (show Below w.heap.size w (w.alloc (.cells #[υ a, υ b] 186)) from (Below.refl _ _).alloc (Nat.le_refl _) _)
 obtain ⟨x0a, x0b, x0c, x0d, -⟩ := id F_s.o
 go_enter Tryz.func185, Tryz.ntmps185
 go_wp2_with fail
 go_ret
 exact ⟨_, rfl, OwnQ.lit _ [a, b] _ _ (by simp) (by simp) (by simp), HBW.o.alloc HBW.o.size _⟩
structure BBox (w : World) (B : Nat) (z : Bt) : Prop where
 lt : B < w.heap.size
 c0 : w.cell? ⟨B, 0, none⟩ = some (υ z.r0)
 c1 : w.cell? ⟨B, 1, none⟩ = some (υ z.r1)
 c2 : w.cell? ⟨B, 2, none⟩ = some (υ z.s0)
 c3 : w.cell? ⟨B, 3, none⟩ = some (υ z.s1)
 c4 : w.cell? ⟨B, 4, none⟩ = some (υ z.c0)
 c5 : w.cell? ⟨B, 5, none⟩ = some (υ z.c1)
 c6 : w.cell? ⟨B, 6, none⟩ = some (υ z.z0)
 c7 : w.cell? ⟨B, 7, none⟩ = some (υ z.z1)
theorem BBox.at (w : World) (z : Bt) (t : TypeId) (B : Nat) (hB : B = w.heap.size) : BBox (w.alloc (.cells #[υ z.r0, υ z.r1, υ z.s0, υ z.s1, υ z.c0, υ z.c1, υ z.z0, υ z.z1] t)) B z := by
 subst hB
 refine ⟨by simp, ?_, ?_, ?_, ?_, ?_, ?_, ?_, ?_⟩
 all_goals (rw [World.cell?_alloc_new]; rfl)
theorem BBox.keep {w w' : World} {B : Nat} {z : Bt} (h : BBox w B z) (hb : Below w.heap.size w w') : BBox w' B z :=
 ⟨Nat.lt_of_lt_of_le h.lt hb.size, (hb.cell (p := ⟨B, 0, none⟩) h.lt).trans h.c0, (hb.cell (p := ⟨B, 1, none⟩) h.lt).trans h.c1, (hb.cell (p := ⟨B, 2, none⟩) h.lt).trans h.c2, (hb.cell (p := ⟨B, 3, none⟩) h.lt).trans h.c3, (hb.cell (p := ⟨B, 4, none⟩) h.lt).trans h.c4, (hb.cell (p := ⟨B, 5, none⟩) h.lt).trans h.c5, (hb.cell (p := ⟨B, 6, none⟩) h.lt).trans h.c6, (hb.cell (p := ⟨B, 7, none⟩) h.lt).trans h.c7⟩
set_option maxHeartbeats 8000000 in
theorem bitNums_any {z : Bt} (w : World) :
 Calls Tryz.prog 186 #[.agg #[υ z.r0, υ z.r1, υ z.s0, υ z.s1, υ z.c0, υ z.c1, υ z.z0, υ z.z1]] w fun e w' => ∃ s, e = .returned (.slice (some ⟨s, 0, none⟩) 8 8) ∧ OwnQ w' w.heap.size s 8 [z.r0, z.s0, z.r1, z.s1, z.c0, z.c1, z.z0, z.z1] ∧ Below w.heap.size w w' := by
 have F_s := Lh (show BBox (w.alloc (.cells #[υ z.r0, υ z.r1, υ z.s0, υ z.s1, υ z.c0, υ z.c1, υ z.z0, υ z.z1] 187)) w.heap.size z from BBox.at _ z _ w.heap.size rfl)
 have HBW := Lh (show Below w.heap.size w (w.alloc (.cells #[υ z.r0, υ z.r1, υ z.s0, υ z.s1, υ z.c0, υ z.c1, υ z.z0, υ z.z1] 187)) from (Below.refl _ _).alloc (Nat.le_refl _) _)
 obtain ⟨-, b0, b1, b2, b3, b4, b5, b6, b7⟩ := id F_s.o
 go_enter Tryz.func186, Tryz.ntmps186
 go_wp2_with fail
 go_ret
 exact ⟨_, rfl, OwnQ.lit _ [z.r0, z.s0, z.r1, z.s1, z.c0, z.c1, z.z0, z.z1] _ _ (by simp) (by simp) (by simp), HBW.o.alloc HBW.o.size _⟩
structure GrewO (w0 w : World) (n₀ : Nat) (v : Value) (xs : List Int) : Prop where
 own : OwnB w n₀ v xs
 bel : Below n₀ w0 w
 le : n₀ ≤ w.heap.size
 oth : Others w0 w
theorem GrewO.leA {w0 w : World} {n₀ : Nat} {v : Value} {xs : List Int} (h : GrewO w0 w n₀ v xs) (ob : Obj) : n₀ ≤ (w.alloc ob).heap.size := Nat.le_trans h.le (by simp)
theorem GrewO.snoc {w0 w w' : World} {n₀ : Nat} {v v' : Value} {xs : List Int} {x : Int} {ob : Obj} (h : GrewO w0 w n₀ v xs) (hown : w'.ownsRow n₀ 5 1 v' (xs.length + 1) (xs.map (Value.int .u8) ++ [.int .u8 x])) (hg : (w.alloc ob).grownBy w' v.ownBlock) : GrewO w0 w' n₀ v' (xs ++ [x]) :=
 have ha : Below w.heap.size w (w.alloc ob) := (Below.refl _ _).alloc (Nat.le_refl _) ob
 have hb := OwnB.grow (h.bel.alloc h.le ob) (h.own.keep ha) hg (Nat.le_trans h.le (by simp))
 ⟨OwnB.snoc hown, hb, Nat.le_trans h.le (Nat.le_trans (by simp) hg.size), h.oth.trans ((Others.below ha).trans (Others.grown (h.own.keep ha) hg))⟩
theorem GrewO.below {w0 w w' : World} {n₀ : Nat} {v : Value} {xs : List Int} (h : GrewO w0 w n₀ v xs) (hb : Below w.heap.size w w') : GrewO w0 w' n₀ v xs :=
 ⟨h.own.keep hb, h.bel.trans (hb.mono h.le), Nat.le_trans h.le hb.size, h.oth.trans (Others.below hb)⟩
set_option maxHeartbeats 8000000 in
theorem write_any {p : Pt} {v : Value} {xs : List Int} {n₀ : Nat} (w : World) (hB : OwnB w n₀ v xs) (hn : n₀ ≤ w.heap.size) (hu : p.u) (hx : xs.length ≤ 100000) :
 Calls Tryz.prog 138 #[v, p.v] w fun e w' => ∃ v', e = .returned v' ∧ GrewO w w' n₀ v' (xs ++ flat8 p.ns) := by
 obtain ⟨i0, hi, hz0, hz1, hz2⟩ := info_parts (P := Tryz.prog) (e := 5) (z := .int .u8 0) (size := 1) (bytes := 1) (by kernel_rfl)
 have HB := Lh hB
 have HU := Lh (Pt.us hu)
 clear hB hu
 cases p with
 | box a b =>
  unfold Pt.v
  go_enter Tryz.func138, Tryz.ntmps138
  go_wp2_with fail
  refine (boxNums_any _).mono ?_
  rintro e w1 ⟨s, rfl, hs, hb1⟩
  have HNS := Lh (show OwnQ w1 w.heap.size s 2 [a, b] from hs)
  have HG := Lh (show GrewO w w1 n₀ v (xs ++ flat8 ([a, b].take 0)) from by
   have := GrewO.below (⟨HB.o, Below.refl _ _, hn, Others.refl _⟩ : GrewO w w n₀ v xs) hb1
   simpa [flat8] using this)
  clear hs hb1
  obtain ⟨ns, hns⟩ : ∃ ns, [a, b] = ns := ⟨_, rfl⟩
  rw [hns] at HNS HG
  have HFN := Lh (show (Pt.box a b).ns = ns from hns)
  rw [show (Pt.box a b).ns = ns from hns] at HU
  clear hns
  go_wp2_with fail
  go_loopw [0, 11] (fun c0 c11 wr => ∃ j : Nat, j ≤ 2 ∧ c11 = .int .i64 j ∧ Hid (GrewO w wr n₀ c0 (xs ++ flat8 (ns.take j))) ∧ Hid (OwnQ wr w.heap.size s 2 ns)) (fun _ c11 _ => 2 - (intOf c11).toNat)
  case atStart => exact ⟨0, by omega, rfl, HG.o, HNS.o⟩
  case round =>
   clear HG HNS
   obtain ⟨k, hk, rfl, HG, HNS⟩ := hrel
   by_cases hlt : k < 2
   case neg =>
    obtain rfl : k = 2 := by omega
    rw [List.take_of_length_le (by rw [HNS.o.len]; exact Nat.le_refl _)] at HG
    clear hlt
    simp only [Int.cast_ofNat_Int]
    go_wp2_with fail
    go_ret
    exact ⟨_, rfl, by rw [HFN.o]; exact HG.o⟩
   case pos =>
    have hd : decide ((k : Int) < 2) = true := by simp; omega
    have hdn : decide (k < 2) = true := by simp; omega
    have k0 : (0 : Int) ≤ (k : Int) := by omega
    have k1 : (k : Int) < 2 := by omega
    have hw1 : IntKind.i64.wrap ((k : Int) + 1) = (k : Int) + 1 := IntWalk.i64_in _ (by omega)
    have hc := HNS.o.at hlt
    obtain ⟨x, hx⟩ : ∃ x, ns.getD k 0 = x := ⟨_, rfl⟩
    have HUX := Lh (show U64 x from HU.o x (by rw [← hx, List.getD_eq_getElem?_getD, List.getElem?_eq_getElem (by have := HNS.o.len; omega)]; exact List.getElem_mem _))
    have HFL := Lh (show flat8 (ns.take k) ++ be8 x = flat8 (ns.take (k + 1)) from flat8_snoc ns k (by have := HNS.o.len; omega) hx)
    obtain ⟨F, hF⟩ : ∃ F, xs ++ flat8 (ns.take k) = F := ⟨_, rfl⟩
    have HF := Lh (show F.length ≤ 100100 by rw [← hF, List.length_append, flat8_len, List.length_take]; omega)
    have HFX := Lh (show F ++ be8 x = xs ++ flat8 (ns.take (k + 1)) by rw [← hF, List.append_assoc, HFL.o])
    rw [hF] at HG
    rw [hx] at hc
    clear hF hx
    go_wp2_with fail
    clear hc
    go_loopw [0, 7] (fun c0 c7 wq => ∃ j : Nat, j ≤ 8 ∧ c7 = .int .i64 (56 - 8 * (j : Int)) ∧ Hid (GrewO w wq n₀ c0 (F ++ (be8 x).take j)) ∧ Hid (OwnQ wq w.heap.size s 2 ns)) (fun _ c7 _ => ((intOf c7) + 8).toNat)
    case atStart => exact ⟨0, by omega, rfl, (show GrewO _ _ _ _ (F ++ (be8 x).take 0) by simpa using HG.o), HNS.o⟩
    case round =>
     clear HG HNS
     obtain ⟨j, hj, rfl, HG, HNS⟩ := hrel
     by_cases hlj : j < 8
     case neg =>
      obtain rfl : j = 8 := by omega
      rw [take_all8, HFX.o] at HG
      go_wp2_with fail
      go_roundw
      case rel => exact ⟨k + 1, by omega, by go_num, HG.o, HNS.o⟩
      case measure => simp [intOf]; omega
     case pos =>
      have hd3 : decide ((0 : Int) ≤ 56 - 8 * (j : Int)) = true := by simp; omega
      have hd2 : decide (8 * (j : Int) ≤ 56) = true := by simp; omega
      have hws : IntKind.i64.wrap (56 - 8 * (j : Int) - 8) = 56 - 8 * (j : Int) - 8 := IntWalk.i64_in _ (by omega)
      have p0 : (0 : Int) ≤ 56 - 8 * (j : Int) := by omega
      have e0 : (56 - 8 * (j : Int)).toNat = 56 - 8 * j := by omega
      have hm0 : min (56 - 8 * j) 64 = 56 - 8 * j := by omega
      have x0 := HUX.o.1
      have hpl : (F ++ (be8 x).take j).length ≤ 100200 := by have := HF.o; simp [be8_len]; omega
      have HXM := Lh (show (F ++ (be8 x).take j).length + 1 ≤ maxLen by unfold maxLen; omega)
      have HXB := Lh (show ((F ++ (be8 x).take j).length + 1) * 1 ≤ 140737488355328 by omega)
      clear hpl
      go_wp2_with (at_builtin; (refine wpList_append_own _ rfl _ _ 80 rfl n₀ 5 i0 (.int .u8 0) 1 1 Tryz.underlying80 hi hz0 hz1 hz2 rfl (by decide) _ (F ++ (be8 x).take j).length ((F ++ (be8 x).take j).map (Value.int .u8)) rfl (HG.o.own.keep ((Below.refl _ _).alloc (Nat.le_refl _) _)) _ 1 1 [.int .u8 (x / 2 ^ (56 - 8 * j) % 256)] rfl rfl (fun j u hj => by cases j with | zero => simp at hj; subst hj; simp [go_sem] | succ j => simp at hj) (fun u hu => by simp at hu; subst hu; rfl) HXM.o HXB.o (HG.o.leA _) ?_); intro v4 w4 hown hgr hnil; have HG4 := Lh (HG.o.snoc hown hgr); have HN4 := Lh (HNS.o.others ((Others.below ((Below.refl _ _).alloc (Nat.le_refl _) _)).trans (Others.grown (HG.o.own.keep ((Below.refl _ _).alloc (Nat.le_refl _) _)) hgr))); clear hown hgr hnil)
      go_roundw
      case rel => exact ⟨j + 1, by omega, by go_num, by rw [← be8_snoc x j hlj rfl, ← List.append_assoc]; exact HG4.o, HN4.o⟩
      case measure => simp [intOf]; omega
 | bit z =>
  unfold Pt.v
  go_enter Tryz.func138, Tryz.ntmps138
  go_wp2_with fail
  refine (bitNums_any _).mono ?_
  rintro e w1 ⟨s, rfl, hs, hb1⟩
  have HNS := Lh (show OwnQ w1 w.heap.size s 8 [z.r0, z.s0, z.r1, z.s1, z.c0, z.c1, z.z0, z.z1] from hs)
  have HG := Lh (show GrewO w w1 n₀ v (xs ++ flat8 ([z.r0, z.s0, z.r1, z.s1, z.c0, z.c1, z.z0, z.z1].take 0)) from by
   have := GrewO.below (⟨HB.o, Below.refl _ _, hn, Others.refl _⟩ : GrewO w w n₀ v xs) hb1
   simpa [flat8] using this)
  clear hs hb1
  obtain ⟨ns, hns⟩ : ∃ ns, [z.r0, z.s0, z.r1, z.s1, z.c0, z.c1, z.z0, z.z1] = ns := ⟨_, rfl⟩
  rw [hns] at HNS HG
  have HFN := Lh (show (Pt.bit z).ns = ns from hns)
  rw [show (Pt.bit z).ns = ns from hns] at HU
  clear hns
  go_wp2_with fail
  go_loopw [0, 11] (fun c0 c11 wr => ∃ j : Nat, j ≤ 8 ∧ c11 = .int .i64 j ∧ Hid (GrewO w wr n₀ c0 (xs ++ flat8 (ns.take j))) ∧ Hid (OwnQ wr w.heap.size s 8 ns)) (fun _ c11 _ => 8 - (intOf c11).toNat)
  case atStart => exact ⟨0, by omega, rfl, HG.o, HNS.o⟩
  case round =>
   clear HG HNS
   obtain ⟨k, hk, rfl, HG, HNS⟩ := hrel
   by_cases hlt : k < 8
   case neg =>
    obtain rfl : k = 8 := by omega
    rw [List.take_of_length_le (by rw [HNS.o.len]; exact Nat.le_refl _)] at HG
    clear hlt
    simp only [Int.cast_ofNat_Int]
    go_wp2_with fail
    go_ret
    exact ⟨_, rfl, by rw [HFN.o]; exact HG.o⟩
   case pos =>
    have hd : decide ((k : Int) < 8) = true := by simp; omega
    have hdn : decide (k < 8) = true := by simp; omega
    have k0 : (0 : Int) ≤ (k : Int) := by omega
    have k1 : (k : Int) < 8 := by omega
    have hw1 : IntKind.i64.wrap ((k : Int) + 1) = (k : Int) + 1 := IntWalk.i64_in _ (by omega)
    have hc := HNS.o.at hlt
    obtain ⟨x, hx⟩ : ∃ x, ns.getD k 0 = x := ⟨_, rfl⟩
    have HUX := Lh (show U64 x from HU.o x (by rw [← hx, List.getD_eq_getElem?_getD, List.getElem?_eq_getElem (by have := HNS.o.len; omega)]; exact List.getElem_mem _))
    have HFL := Lh (show flat8 (ns.take k) ++ be8 x = flat8 (ns.take (k + 1)) from flat8_snoc ns k (by have := HNS.o.len; omega) hx)
    obtain ⟨F, hF⟩ : ∃ F, xs ++ flat8 (ns.take k) = F := ⟨_, rfl⟩
    have HF := Lh (show F.length ≤ 100100 by rw [← hF, List.length_append, flat8_len, List.length_take]; omega)
    have HFX := Lh (show F ++ be8 x = xs ++ flat8 (ns.take (k + 1)) by rw [← hF, List.append_assoc, HFL.o])
    rw [hF] at HG
    rw [hx] at hc
    clear hF hx
    go_wp2_with fail
    clear hc
    go_loopw [0, 7] (fun c0 c7 wq => ∃ j : Nat, j ≤ 8 ∧ c7 = .int .i64 (56 - 8 * (j : Int)) ∧ Hid (GrewO w wq n₀ c0 (F ++ (be8 x).take j)) ∧ Hid (OwnQ wq w.heap.size s 8 ns)) (fun _ c7 _ => ((intOf c7) + 8).toNat)
    case atStart => exact ⟨0, by omega, rfl, (show GrewO _ _ _ _ (F ++ (be8 x).take 0) by simpa using HG.o), HNS.o⟩
    case round =>
     clear HG HNS
     obtain ⟨j, hj, rfl, HG, HNS⟩ := hrel
     by_cases hlj : j < 8
     case neg =>
      obtain rfl : j = 8 := by omega
      rw [take_all8, HFX.o] at HG
      go_wp2_with fail
      go_roundw
      case rel => exact ⟨k + 1, by omega, by go_num, HG.o, HNS.o⟩
      case measure => simp [intOf]; omega
     case pos =>
      have hd3 : decide ((0 : Int) ≤ 56 - 8 * (j : Int)) = true := by simp; omega
      have hd2 : decide (8 * (j : Int) ≤ 56) = true := by simp; omega
      have hws : IntKind.i64.wrap (56 - 8 * (j : Int) - 8) = 56 - 8 * (j : Int) - 8 := IntWalk.i64_in _ (by omega)
      have p0 : (0 : Int) ≤ 56 - 8 * (j : Int) := by omega
      have e0 : (56 - 8 * (j : Int)).toNat = 56 - 8 * j := by omega
      have hm0 : min (56 - 8 * j) 64 = 56 - 8 * j := by omega
      have x0 := HUX.o.1
      have hpl : (F ++ (be8 x).take j).length ≤ 100200 := by have := HF.o; simp [be8_len]; omega
      have HXM := Lh (show (F ++ (be8 x).take j).length + 1 ≤ maxLen by unfold maxLen; omega)
      have HXB := Lh (show ((F ++ (be8 x).take j).length + 1) * 1 ≤ 140737488355328 by omega)
      clear hpl
      go_wp2_with (at_builtin; (refine wpList_append_own _ rfl _ _ 80 rfl n₀ 5 i0 (.int .u8 0) 1 1 Tryz.underlying80 hi hz0 hz1 hz2 rfl (by decide) _ (F ++ (be8 x).take j).length ((F ++ (be8 x).take j).map (Value.int .u8)) rfl (HG.o.own.keep ((Below.refl _ _).alloc (Nat.le_refl _) _)) _ 1 1 [.int .u8 (x / 2 ^ (56 - 8 * j) % 256)] rfl rfl (fun j u hj => by cases j with | zero => simp at hj; subst hj; simp [go_sem] | succ j => simp at hj) (fun u hu => by simp at hu; subst hu; rfl) HXM.o HXB.o (HG.o.leA _) ?_); intro v4 w4 hown hgr hnil; have HG4 := Lh (HG.o.snoc hown hgr); have HN4 := Lh (HNS.o.others ((Others.below ((Below.refl _ _).alloc (Nat.le_refl _) _)).trans (Others.grown (HG.o.own.keep ((Below.refl _ _).alloc (Nat.le_refl _) _)) hgr))); clear hown hgr hnil)
      go_roundw
      case rel => exact ⟨j + 1, by omega, by go_num, by rw [← be8_snoc x j hlj rfl, ← List.append_assoc]; exact HG4.o, HN4.o⟩
      case measure => simp [intOf]; omega
open Go Go.RowKit Num Sha
def flatB (ps : List Bt) : List Value := ps.flatMap Bt.vs
theorem flatB_length (ps : List Bt) : (flatB ps).length = ps.length * 8 := by
 induction ps with
 | nil => rfl
 | cons p ps ih => rw [flatB, List.flatMap_cons, List.length_append, ← flatB, ih]; simp [Bt.vs]; omega
theorem flatB_append (ps qs : List Bt) : flatB (ps ++ qs) = flatB ps ++ flatB qs := by simp [flatB]
theorem flatB_at : ∀ (ps : List Bt) (i k : Nat) (u : Value), i < ps.length → (ps.getD i Bt.zero).vs[k]? = some u → (flatB ps)[i * 8 + k]? = some u
 | [], i, k, u, h, _ => by simp at h
 | p :: ps, 0, k, u, _, h => by
  have hk : k < 8 := by have := (List.getElem?_eq_some_iff.1 h).1; simpa [Bt.vs] using this
  rw [flatB, List.flatMap_cons, Nat.zero_mul, Nat.zero_add, List.getElem?_append_left (by simp [Bt.vs]; omega)]
  simpa using h
 | p :: ps, i + 1, k, u, hi, h => by
  have := flatB_at ps i k u (by simpa using hi) (by simpa using h)
  rw [flatB, List.flatMap_cons, List.getElem?_append_right (by simp [Bt.vs]; omega), ← flatB]
  rw [show (i + 1) * 8 + k - p.vs.length = i * 8 + k by simp [Bt.vs]; omega]
  exact this
theorem flatB_one (ps : List Bt) : ∀ u, u ∈ flatB ps → u.oneCell' = true := by
 intro u hu
 obtain ⟨p, -, h⟩ := List.mem_flatMap.1 hu
 simp [Bt.vs] at h
 rcases h with rfl | rfl | rfl | rfl | rfl | rfl | rfl | rfl <;> rfl
theorem ShB.cells {w : World} {ad : Addr} {n : Nat} {ps : List Bt} (h : ShB w (some ad) n ps) : ∀ j u, (flatB ps)[j]? = some u → w.cell? (ad.add j) = some u := by
 rcases h with ⟨_, h⟩ | ⟨s, o, h0, h1, h2, h3⟩
 · subst h; intro j u hj; simp [flatB] at hj
 · cases h0
   intro j u hj
   have hlt : j < ps.length * 8 := by
    rw [← flatB_length ps]
    exact (List.getElem?_eq_some_iff.1 hj).1
   have hi : j / 8 < ps.length := by omega
   obtain ⟨u', hu'⟩ : ∃ u', (ps.getD (j / 8) Bt.zero).vs[j % 8]? = some u' := ⟨_, List.getElem?_eq_getElem (by simp [Bt.vs]; omega)⟩
   have h4 := flatB_at ps (j / 8) (j % 8) u' hi hu'
   rw [show j / 8 * 8 + j % 8 = j by omega] at h4
   rw [hj] at h4
   cases h4
   have h5 := h3 (j / 8) hi (j % 8) u hu'
   rw [show o + j / 8 * 8 + j % 8 = o + j by omega] at h5
   rw [add_pl]; exact h5
theorem ShB.of_owned {w : World} {base : Nat} {e : TypeId} {v : Value} {n : Nat} {ps : List Bt} (h : w.ownsRow base e 8 v n (flatB ps)) : ∃ a c, v = .slice a n c ∧ ShB w a n ps := by
 have hl := h.1
 rw [flatB_length] at hl
 rcases h.2 with ⟨rfl, h0⟩ | ⟨g, cap, cur, rfl, hb, hg, _⟩
 · subst h0
   have : ps = [] := List.eq_nil_of_length_eq_zero (by omega)
   subst this
   exact ⟨none, 0, rfl, .inl ⟨rfl, rfl⟩⟩
 · refine ⟨_, _, rfl, .inr ⟨g, 0, rfl, by omega, (h.lt g rfl).2, fun i hi k u hu => ?_⟩⟩
   have hc := h.cells (g := g) rfl _ _ (flatB_at ps i k u hi hu)
   rw [add_pl] at hc
   rwa [← Nat.add_assoc] at hc
theorem cell_list_at (w : World) (cs : List Value) (t : TypeId) (s : Nat) (hs : s = w.heap.size) : ∀ j u, cs[j]? = some u → (w.alloc (.cells cs.toArray t)).cell? ((⟨s, 0, none⟩ : Addr).add j) = some u := by
 intro j u hj
 subst hs
 rw [add_pl, Nat.zero_add, World.cell?_alloc_new]
 simpa using hj
theorem owns_below2 {W W' : World} {n₀ : Nat} {e : TypeId} {sz n : Nat} {v : Value} {xs : List Value} (h : W.ownsRow n₀ e sz v n xs) (hb : Below W.heap.size W W') : W'.ownsRow n₀ e sz v n xs :=
 World.ownsRow.kept (row := none) h ⟨hb.os, hb.tape, hb.output, hb.size, fun k hk _ => hb.block k hk⟩ (by cases v.ownBlock <;> simp)
theorem owns_alloc2 {W : World} {n₀ : Nat} {e : TypeId} {sz n : Nat} {v : Value} {xs : List Value} (h : W.ownsRow n₀ e sz v n xs) (o : Obj) : (W.alloc o).ownsRow n₀ e sz v n xs := owns_below2 h ((Below.refl _ _).alloc (Nat.le_refl _) o)
theorem Below.rowT {n : Nat} {W W' : World} {r : Option Nat} (hg : W.grownBy W' r) (hr : ∀ k, r = some k → n ≤ k) (hn : n ≤ W.heap.size) : Below n W W' :=
 ⟨hg.os, hg.tape, hg.output, hg.size, fun k hk => hg.block k (Nat.lt_of_lt_of_le hk hn) (fun e => by have := hr k e.symm; omega)⟩
set_option maxHeartbeats 8000000 in
theorem bitClone_any {a : Option Addr} {n c : Nat} {ps : List Bt} (w : World) (h : ShB w a n ps) (hc : a = none → c = 0) (hn : n ≤ 10000) :
 Calls Tryz.prog 89 #[.slice a n c] w fun e w' => ∃ v, e = .returned v ∧ w'.ownsRow w.heap.size 31 8 v n (flatB ps) ∧ Below w.heap.size w w' := by
 obtain ⟨i0, hi, hz0, hz1, hz2⟩ := info_parts (P := Tryz.prog) (e := 31) (z := .agg #[υ 0, υ 0, υ 0, υ 0, υ 0, υ 0, υ 0, υ 0]) (size := 8) (bytes := 64) (by kernel_rfl)
 have HS := Lh h
 have HLN := Lh h.len
 have qT : ∀ (w : World) (a : Option Addr) (n c n' c' : Nat), (binOp .eql 28 (.slice a n c) (.slice none n' c')).run Tryz.prog w = .ok (.bool a.isNone) w := fun w a n c n' c' => Lib.run_eql_slice_nil w _ _ a n c n' c' Tryz.underlying28
 cases a with
 | none =>
  have hz : n = 0 ∧ ps = [] := by
   rcases h with ⟨h1, h2⟩ | ⟨s, o, h0, -⟩
   · exact ⟨h1, h2⟩
   · cases h0
  obtain ⟨rfl, rfl⟩ := hz
  obtain rfl : c = 0 := hc rfl
  go_enter Tryz.func89, Tryz.ntmps89
  go_wp2_with fail
  go_ret
  exact ⟨_, rfl, World.ownsRow_nil _ _ _ _, Below.refl _ _⟩
 | some ad =>
  have HL := Lh (show (flatB ps).length = n * 8 by rw [flatB_length, ← h.len])
  clear h
  go_enter Tryz.func89, Tryz.ntmps89
  go_wp2_with (at_builtin; refine wpList_append_own _ rfl _ _ 28 rfl w.heap.size 31 i0 _ 8 64 Tryz.underlying28 hi hz0 hz1 hz2 rfl (by decide) _ 0 [] rfl (World.ownsRow_lit w #[] 0 (Nat.le_refl _) (by decide) rfl) ad n c (flatB ps) rfl HL.o (HS.o.keep ((Below.refl _ _).alloc (Nat.le_refl _) _)).cells (flatB_one ps) (by unfold maxLen; omega) (by omega) (by simp) ?_; intro v' w1 hown hgr hnil; have HOWN := Lh hown; have HGR := Lh hgr; clear hown hgr hnil)
  go_ret
  have hb := Below.rowT (n := w.heap.size) HGR.o (fun j hj => by have e : some w.heap.size = some j := hj; injection e with e; omega) (by simp)
  refine ⟨_, rfl, ?_, ((Below.refl _ _).alloc (Nat.le_refl _) _).trans hb⟩
  have h9 := HOWN.o
  rw [Nat.zero_add, List.nil_append] at h9
  exact h9
end Go.Proofs.YtlbldpkgnonbpaaGreatDoor
