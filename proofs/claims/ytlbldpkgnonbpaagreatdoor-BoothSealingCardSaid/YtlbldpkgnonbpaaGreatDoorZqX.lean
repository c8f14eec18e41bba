/- The reference's sealed. -/
import Derived.Test.YtlbldpkgnonbpaaGreatDoorZqV
import Derived.Test.YtlbldpkgnonbpaaGreatDoorZqP
import Derived.Test.YtlbldpkgnonbpaaGreatDoorZqQ
import Derived.Test.YtlbldpkgnonbpaaGreatDoorZqW
set_option linter.unusedSimpArgs false
set_option linter.unusedVariables false
set_option maxRecDepth 100000
namespace Go.Proofs.YtlbldpkgnonbpaaGreatDoor
open Go Go.RowKit Num Sha
def HiV (n : Nat) (V : Vt) (R : Rv) : Prop := (∀ s o, V.a = some ⟨s, o, none⟩ → n ≤ s) ∧ (∀ s o, V.b = some ⟨s, o, none⟩ → n ≤ s) ∧ (∀ s o, R.a = some ⟨s, o, none⟩ → n ≤ s) ∧ (∀ s o, R.b = some ⟨s, o, none⟩ → n ≤ s)
theorem ShS.blocks {w w' : World} {a : Option Addr} {n : Nat} {xs : List (Int × Int)} (h : ShS w a n xs) (hb : ∀ s o, a = some ⟨s, o, none⟩ → s < w.heap.size → w'.heap[s]? = w.heap[s]? ∧ s < w'.heap.size) : ShS w' a n xs := by
 rcases h with h | ⟨s, o, rfl, h1, h2, h3⟩
 · exact .inl h
 · exact .inr ⟨s, o, rfl, h1, (hb s o rfl h2).2, fun i hi => ⟨(World.cell?_of_block (w := w) (a := ⟨s, o + i * 2, none⟩) (hb s o rfl h2).1).trans (h3 i hi).1, (World.cell?_of_block (w := w) (a := ⟨s, o + i * 2 + 1, none⟩) (hb s o rfl h2).1).trans (h3 i hi).2⟩⟩
theorem ShB.blocks {w w' : World} {a : Option Addr} {n : Nat} {xs : List Bt} (h : ShB w a n xs) (hb : ∀ s o, a = some ⟨s, o, none⟩ → s < w.heap.size → w'.heap[s]? = w.heap[s]? ∧ s < w'.heap.size) : ShB w' a n xs := by
 rcases h with h | ⟨s, o, rfl, h1, h2, h3⟩
 · exact .inl h
 · exact .inr ⟨s, o, rfl, h1, (hb s o rfl h2).2, fun i hi k u hu => (World.cell?_of_block (w := w) (a := ⟨s, o + i * 8 + k, none⟩) (hb s o rfl h2).1).trans (h3 i hi k u hu)⟩
theorem ShI.blocks2 {q : IntKind} {w w' : World} {a : Option Addr} {n : Nat} {xs : List Int} (h : ShI q w a n xs) (hb : ∀ s o, a = some ⟨s, o, none⟩ → s < w.heap.size → w'.heap[s]? = w.heap[s]? ∧ s < w'.heap.size) : ShI q w' a n xs := by
 rcases h with h | ⟨s, o, rfl, h1, h2, h3⟩
 · exact .inl h
 · exact .inr ⟨s, o, rfl, h1, (hb s o rfl h2).2, fun i hi => (World.cell?_of_block (w := w) (a := ⟨s, o + i, none⟩) (hb s o rfl h2).1).trans (h3 i hi)⟩
theorem HiV.keep {n : Nat} {w w' : World} {V : Vt} {R : Rv} (h : HiV n V R) (hV : VtIn w V) (hR : RvIn w R) (hm : ∀ j, n ≤ j → j < w.heap.size → w'.heap[j]? = w.heap[j]?) (hz : w.heap.size ≤ w'.heap.size) : VtIn w' V ∧ RvIn w' R :=
  ⟨⟨hV.h1.blocks fun s o e hl => ⟨hm s (h.1 s o e) hl, Nat.lt_of_lt_of_le hl hz⟩, hV.u1, hV.k1, hV.h2.blocks fun s o e hl => ⟨hm s (h.2.1 s o e) hl, Nat.lt_of_lt_of_le hl hz⟩, hV.u2, hV.k2, hV.uz⟩,
   ⟨hR.h1.blocks2 fun s o e hl => ⟨hm s (h.2.2.1 s o e) hl, Nat.lt_of_lt_of_le hl hz⟩, hR.u1, hR.k1, hR.h2.blocks2 fun s o e hl => ⟨hm s (h.2.2.2 s o e) hl, Nat.lt_of_lt_of_le hl hz⟩, hR.u2, hR.k2⟩⟩
def OwnI (w : World) (n₀ : Nat) (v : Value) (xs : List Int) : Prop := w.ownsRow n₀ 3 1 v xs.length (xs.map (Value.int .i64))
set_option maxHeartbeats 1000000 in
theorem run_append_ii (w : World) (ty : TypeId) {base : Nat} {v : Value} {xs bs : List Int} {a : Option Addr} {n c : Nat} (hown : OwnI w base v xs) (hs : ShI .i64 w a n bs) (hn : n ≤ 100000) (hx : xs.length ≤ 200000) (hb : base ≤ w.heap.size) :
    ∃ v' w', (Builtin.append_ #[25, 25] ty #[v, .slice a n c]).run Tryz.prog w = .ok v' w' ∧ OwnI w' base v' (xs ++ bs) ∧ w.grownBy w' v.ownBlock := by
  obtain ⟨i0, hi, hz0, hz1, hz2⟩ := info_parts (P := Tryz.prog) (e := 3) (z := .int .i64 0) (size := 1) (bytes := 8) (by kernel_rfl)
  have hl := hs.len
  cases a with
  | some ad =>
   obtain ⟨v', w', hr, h1, h2, -⟩ := run_append_own (P := Tryz.prog) w base 25 ty 3 i0 (.int .i64 0) 1 8 Tryz.underlying25 hi hz0 hz1 hz2 rfl (by decide) v xs.length (xs.map (Value.int .i64)) hown ad n c (bs.map (Value.int .i64)) (by rw [List.length_map, ← hl, Nat.mul_one]) hs.cells (fun u hu => by obtain ⟨x, -, rfl⟩ := List.mem_map.1 hu; rfl) (by unfold maxLen; omega) (by omega) hb
   refine ⟨v', w', hr, ?_, h2⟩
   unfold OwnI
   rw [List.length_append, List.map_append, ← hl]
   exact h1
  | none =>
   obtain ⟨rfl, rfl⟩ : n = 0 ∧ bs = [] := by
    rcases hs with h | ⟨s, o, h, -⟩
    · exact h
    · cases h
   refine ⟨v, w, ?_, by simpa using hown, World.grownBy.refl w _⟩
   rcases hown.2 with ⟨rfl, h0⟩ | ⟨g, cap, cur, rfl, -, -, hnc, -⟩
   · simp [Builtin.append_, run_underlying Tryz.underlying25, sizeOf, typeInfo, hi, hz1, Builtin.lenOf, storeCells, Builtin.firstCells, h0]
   · simp [Builtin.append_, run_underlying Tryz.underlying25, sizeOf, typeInfo, hi, hz1, Builtin.lenOf, storeCells, Builtin.firstCells, hnc]
section
variable {w : World} {ops : Array Oper} {rest : List Oper} {o : Oper} {act : Act} {Q : Exit → Act → World → Prop}
theorem wpL_append_ii (hgd : o.guard = none) (s x : Operand) (ho : o.op = .call { callee := .builtin .append, args := #[s, x], argTypes := #[25, 25] })
    (base : Nat) (v : Value) (xs bs : List Int) (a : Option Addr) (n c : Nat) (hv : act.eval s = v) (hx : act.eval x = .slice a n c) (hown : OwnI w base v xs) (hs : ShI .i64 w a n bs) (hn : n ≤ 100000) (hxs : xs.length ≤ 200000) (hb : base ≤ w.heap.size)
    (h : ∀ v' w', OwnI w' base v' (xs ++ bs) → w.grownBy w' v.ownBlock → wpList Tryz.prog ops Q rest (act.put o.dst v') w') : wpList Tryz.prog ops Q (o :: rest) act w := by
  refine wpList_plain hgd fun K hK => ?_
  obtain ⟨v', w', hr, h2, h3⟩ := run_append_ii w o.type hown hs hn hxs hb (c := c)
  unfold Oper.wp execOp
  simp only [ho, resolve, invoke, builtin, Sem.run_bind, Sem.run_pure, Result.andThen_ok, List.map_toArray, List.map_cons, List.map_nil, hv, hx, hr]
  exact hK _ _ (h v' w' h2 h3)
end
theorem res_sealed {w : World} {fn : Func} {c d : Tmp} {b b' : Nat} {a0 a1 a2 a3 : Option Addr} {n0 n1 c0 c1 n2 n3 c2 c3 : Nat} {o2 : Bool} {i3 i4 i5 i6 i7 i8 i9 i10 : Int} (h : fn.results = #[.cell c 33, .cell d 36])
    (hp : Cl w b [.slice a0 n0 c0, .slice a1 n1 c1, .bool o2, .int .u64 i3, .int .u64 i4, .int .u64 i5, .int .u64 i6, .int .u64 i7, .int .u64 i8, .int .u64 i9, .int .u64 i10]) (hq : Cl w b' [.slice a2 n2 c2, .slice a3 n3 c3]) (tmps : Array Value)
    (hc : tmps[c]?.getD undef = .pointer (some ⟨b, 0, none⟩)) (hd : tmps[d]?.getD undef = .pointer (some ⟨b', 0, none⟩)) : (results fn tmps).run Tryz.prog w = .ok (.tuple #[.agg #[.slice a0 n0 c0, .slice a1 n1 c1, .bool o2, .int .u64 i3, .int .u64 i4, .int .u64 i5, .int .u64 i6, .int .u64 i7, .int .u64 i8, .int .u64 i9, .int .u64 i10], .agg #[.slice a2 n2 c2, .slice a3 n3 c3]]) w := by
  obtain ⟨⟨q0, q1, q2, q3, q4, q5, q6, q7, q8, q9, q10⟩, -⟩ := hp.k11
  have r0 := hq.c 0 _ rfl
  have r1 := hq.c 1 _ rfl
  simp [results, h, hc, hd, go_sem, q0, q1, q2, q3, q4, q5, q6, q7, q8, q9, q10, r0, r1]
set_option maxHeartbeats 16000000 in
theorem rsealed_any {P Q G y : Int} {n m nd c2 cd : Nat} {a2 a5 : Option Addr} {ms d : List Int} {one : Bool} (w : World) (hT : Tabs w) (hH : Has P Q G) (y0 : 0 ≤ y) (yP : y < P) (hn : n ≤ 10) (hS : ShI .i64 w a2 m ms) (hm : m ≤ 10) (hum : ∀ x, x ∈ ms → -9223372036854775808 ≤ x ∧ x ≤ 9223372036854775807) (h5 : ShI .u64 w a5 nd d) (hd : ∀ t, 0 ≤ d.getD t 0 ∧ d.getD t 0 < Q) (hnd : 4 * n ≤ nd) (h1 : one = true → m ≤ 1 ∧ 4 * n + 3 ≤ nd) :
    Calls Tryz.prog 36 #[(.agg #[.int .u64 P, .int .u64 Q, .int .u64 G]), .int .u64 y, .int .i64 (n : Int), .slice a2 m c2, .bool one, .slice a5 nd cd] w fun e w' => (∃ V R, e = .returned (.tuple #[V.v, R.v]) ∧ SealV P Q G y n ms one d V R ∧ VtIn w' V ∧ RvIn w' R ∧ HiV w.heap.size V R) ∧ Below w.heap.size w w' := by
  have HT := Lh hT
  have HH := Lh hH
  have HS := Lh hS
  have HLM := Lh hS.len
  have HUM := Lh hum
  have H5 := Lh h5
  have HD := Lh hd
  have HND := Lh hnd
  have HO1 := Lh h1
  have HR := Lh (show 5 ≤ P ∧ P < 2147483648 ∧ 2 ≤ Q ∧ Q < 2147483648 ∧ 0 ≤ G by obtain ⟨p5, p3, hQ', pq, g2, gP⟩ := id hH; omega)
  have hP : 0 ≤ P := by have := HR.o; omega
  have hQ : 0 ≤ Q := by have := HR.o; omega
  have hG : 0 ≤ G := HR.o.2.2.2.2
  clear hT hH hS hum h5 hd hnd h1
  obtain ⟨wd, hwd⟩ : ∃ wd, wd = (((w.alloc (.cells #[.int .u64 P, .int .u64 Q, .int .u64 G] 24)).alloc (.cells #[.slice none 0 0, .slice none 0 0, .bool false, .int .u64 0, .int .u64 0, .int .u64 0, .int .u64 0, .int .u64 0, .int .u64 0, .int .u64 0, .int .u64 0] 33)).alloc (.cells #[.slice none 0 0, .slice none 0 0] 36)) := ⟨_, rfl⟩
  have HZD := Lh (show wd.heap.size = w.heap.size + 1 + 1 + 1 by rw [hwd]; simp)
  have F_g := Lh (show Cl wd w.heap.size [.int .u64 P, .int .u64 Q, .int .u64 G] from by rw [hwd]; exact ((Cl.at w [.int .u64 P, .int .u64 Q, .int .u64 G] 24 w.heap.size rfl).alloc _).alloc _)
  have F_o := Lh (show Cl wd (w.heap.size + 1) [.slice none 0 0, .slice none 0 0, .bool false, .int .u64 0, .int .u64 0, .int .u64 0, .int .u64 0, .int .u64 0, .int .u64 0, .int .u64 0, .int .u64 0] from by rw [hwd]; exact (Cl.at (w.alloc (.cells #[.int .u64 P, .int .u64 Q, .int .u64 G] 24)) [.slice none 0 0, .slice none 0 0, .bool false, .int .u64 0, .int .u64 0, .int .u64 0, .int .u64 0, .int .u64 0, .int .u64 0, .int .u64 0, .int .u64 0] 33 (w.heap.size + 1) (by simp)).alloc _)
  have F_q := Lh (show Cl wd (w.heap.size + 1 + 1) [.slice none 0 0, .slice none 0 0] from by rw [hwd]; exact Cl.at ((w.alloc (.cells #[.int .u64 P, .int .u64 Q, .int .u64 G] 24)).alloc (.cells #[.slice none 0 0, .slice none 0 0, .bool false, .int .u64 0, .int .u64 0, .int .u64 0, .int .u64 0, .int .u64 0, .int .u64 0, .int .u64 0, .int .u64 0] 33)) [.slice none 0 0, .slice none 0 0] 36 (w.heap.size + 1 + 1) (by simp))
  have HBD := Lh (show Below w.heap.size w wd from by rw [hwd]; exact (((Below.refl _ _).alloc (Nat.le_refl _) _).alloc (by simp) _).alloc (by simp; omega) _)
  have HW4 := Lh (show Cl (wd.alloc (.cells #[.slice none 0 0, .slice none 0 0, .bool one, .int .u64 0, .int .u64 0, .int .u64 0, .int .u64 0, .int .u64 0, .int .u64 0, .int .u64 0, .int .u64 0] 33)) wd.heap.size (vcell (.slice none 0 0) (.slice none 0 0) one) from Cl.at wd _ 33 wd.heap.size rfl)
  go_enter Tryz.func36, Tryz.ntmps36
  go_wp2_with (at_builtin; rw [← hwd]; refine wpL_append_ii rfl _ _ rfl (wd.alloc (.cells #[.slice none 0 0, .slice none 0 0, .bool one, .int .u64 0, .int .u64 0, .int .u64 0, .int .u64 0, .int .u64 0, .int .u64 0, .int .u64 0, .int .u64 0] 33)).heap.size (.slice none 0 0) [] ms a2 m c2 rfl rfl (World.ownsRow_nil _ _ _ _) (HS.o.keep (HBD.o.alloc HBD.o.size _)) (by omega) (by simp) (Nat.le_refl _) ?_; intro mv w5 hown hgr; obtain ⟨am, cm, rfl, hsm⟩ := ShI.of_owned (show w5.ownsRow (wd.alloc (.cells #[.slice none 0 0, .slice none 0 0, .bool one, .int .u64 0, .int .u64 0, .int .u64 0, .int .u64 0, .int .u64 0, .int .u64 0, .int .u64 0, .int .u64 0] 33)).heap.size 3 1 mv m (ms.map (Value.int .i64)) by have h := hown; unfold OwnI at h; rw [List.nil_append, ← HLM.o] at h; exact h); have HMV := Lh (show w5.ownsRow (wd.alloc (.cells #[.slice none 0 0, .slice none 0 0, .bool one, .int .u64 0, .int .u64 0, .int .u64 0, .int .u64 0, .int .u64 0, .int .u64 0, .int .u64 0, .int .u64 0] 33)).heap.size 3 1 (.slice am m cm) m (ms.map (Value.int .i64)) by have h := hown; unfold OwnI at h; rw [List.nil_append, ← HLM.o] at h; exact h); clear hsm; have HB5 := Lh (show Below (wd.alloc (.cells #[.slice none 0 0, .slice none 0 0, .bool one, .int .u64 0, .int .u64 0, .int .u64 0, .int .u64 0, .int .u64 0, .int .u64 0, .int .u64 0, .int .u64 0] 33)).heap.size (wd.alloc (.cells #[.slice none 0 0, .slice none 0 0, .bool one, .int .u64 0, .int .u64 0, .int .u64 0, .int .u64 0, .int .u64 0, .int .u64 0, .int .u64 0, .int .u64 0] 33)) w5 from Below.rowT hgr (fun k hk => by cases hk) (Nat.le_refl _)); clear hown hgr; simp only [sY])
  clear HW4
  have HZ5 := Lh (show wd.heap.size < w5.heap.size by have := HB5.o.size; simp at this; omega)
  have HB := Lh (show SlB wd w5 (w5.alloc (.cells #[.slice am m cm, .slice none 0 0] 36)) one (.slice am m cm) (.slice none 0 0) (.slice none 0 0) (.slice none 0 0) from
    ⟨(((Below.refl _ _).alloc (Nat.le_refl _) _).trans (HB5.o.mono (by simp))).alloc (Nat.le_of_lt HZ5.o) _, fun j h1 h2 => ((Below.refl w5.heap.size w5).alloc (Nat.le_refl _) _).block j h2, HZ5.o, by simp, ((Cl.at wd _ 33 wd.heap.size rfl).keepN HB5.o (by simp)).alloc _, Cl.at w5 _ 36 w5.heap.size rfl⟩)
  have HRW := Lh (SlR.nil w5 (w5.alloc (.cells #[.slice am m cm, .slice none 0 0] 36)))
  have HF := Lh (SlF.nil P Q G y ms d)
  rw [← HZD.o]
  clear hwd HB5
  go_loopw [16, 17] (fun c16 c17 wr => ∃ (i : Nat) (av bv rv : Value) (bs : List (Int × Int)) (ps : List Bt), i ≤ n ∧ c17 = .int .i64 i ∧ c16 = .int .u64 (sumE Q d i) ∧ Hid (SlB wd w5 wr one (.slice am m cm) av bv rv) ∧ Hid (SlR w5 wr av bv rv i bs ps (nsI d i)) ∧ Hid (SlF P Q G y ms d i bs ps)) (fun _ c17 _ => n - (intOf c17).toNat)
  case atStart => exact ⟨0, _, _, _, [], [], by omega, rfl, rfl, HB.o, HRW.o, HF.o⟩
  case round =>
   clear HB HRW HF
   obtain ⟨i, av, bv, rv, bs, ps, hi, rfl, rfl, HB, HRW, HF⟩ := hrel
   have hwi : IntKind.i64.wrap ((i : Int) + 1) = (i : Int) + 1 := IntWalk.i64_in _ (by omega)
   have hi0 : (0 : Int) ≤ (i : Int) := by omega
   by_cases hlt : i < n
   case pos =>
    have hi2 : (i : Int) < (n : Int) := by omega
    go_wp2_with fail
    refine (rbit_any _ (HS.o.keep (HBD.o.trans (HB.o.kd.mono HBD.o.size))) (by omega)).mono ?_
    rintro e w6 ⟨rfl, hw6⟩
    rw [hw6]
    clear hw6
    obtain ⟨aa, ca, rfl⟩ := own_slice HRW.o.ha
    obtain ⟨ab, cb, rfl⟩ := own_slice HRW.o.hb
    obtain ⟨ar, cr, rfl⟩ := own_slice HRW.o.hr
    have HRA := Lh HRW.o.ha
    have HRB := Lh HRW.o.hb
    have HRR := Lh HRW.o.hr
    clear HRW
    obtain ⟨mm, hmm⟩ : ∃ mm, msgS ms (i : Int) = mm := ⟨_, rfl⟩
    have HM01 := Lh (show mm = 0 ∨ mm = 1 by rw [← hmm]; exact msgS_01 _ _)
    rw [hmm]
    obtain ⟨s5, o5, hsa, hsl5, HC5⟩ : ∃ s o, a5 = some ⟨s, o, none⟩ ∧ s < w.heap.size ∧ Hid (∀ k, k < nd → w.cell? ⟨s, o + k, none⟩ = some (.int .u64 (d.getD k 0))) := by
     have hl := H5.o.len
     rcases H5.o with ⟨h1, _⟩ | ⟨s, o, h0, h1, h2, h3⟩
     · have := HND.o; omega
     · exact ⟨s, o, h0, h2, fun k hk => h3 k (by omega)⟩
    subst hsa
    obtain ⟨j0, hj0⟩ : ∃ j0 : Nat, j0 = 4 * i := ⟨_, rfl⟩
    obtain ⟨j1, hj1⟩ : ∃ j1 : Nat, j1 = j0 + 1 := ⟨_, rfl⟩
    obtain ⟨j2, hj2⟩ : ∃ j2 : Nat, j2 = j0 + 2 := ⟨_, rfl⟩
    obtain ⟨j3, hj3⟩ : ∃ j3 : Nat, j3 = j0 + 3 := ⟨_, rfl⟩
    have e0 : IntKind.i64.wrap (4 * (i : Int)) = (j0 : Int) := by rw [IntWalk.i64_in _ (by omega), hj0]; omega
    have e1 : IntKind.i64.wrap ((j0 : Int) + 1) = (j1 : Int) := by rw [IntWalk.i64_in _ (by omega)]; omega
    have e2 : IntKind.i64.wrap ((j0 : Int) + 2) = (j2 : Int) := by rw [IntWalk.i64_in _ (by omega)]; omega
    have e3 : IntKind.i64.wrap ((j0 : Int) + 3) = (j3 : Int) := by rw [IntWalk.i64_in _ (by omega)]; omega
    have b0 : (j0 : Int) < (nd : Int) := by have := HND.o; omega
    have b1 : (j1 : Int) < (nd : Int) := by have := HND.o; omega
    have b2 : (j2 : Int) < (nd : Int) := by have := HND.o; omega
    have b3 : (j3 : Int) < (nd : Int) := by have := HND.o; omega
    have n0 : (0 : Int) ≤ (j0 : Int) := by omega
    have n1 : (0 : Int) ≤ (j1 : Int) := by omega
    have n2 : (0 : Int) ≤ (j2 : Int) := by omega
    have n3 : (0 : Int) ≤ (j3 : Int) := by omega
    have hw8 : IntKind.u8.wrap (i : Int) = (i : Int) := IntWalk.u8_in _ (by omega)
    have hwm : IntKind.u64.wrap mm = mm := IntWalk.u64_in _ (by have := HM01.o; omega)
    obtain ⟨x0, hx0⟩ : ∃ x, d.getD j0 0 = x := ⟨_, rfl⟩
    obtain ⟨x1, hx1⟩ : ∃ x, d.getD j1 0 = x := ⟨_, rfl⟩
    obtain ⟨x2, hx2⟩ : ∃ x, d.getD j2 0 = x := ⟨_, rfl⟩
    obtain ⟨x3, hx3⟩ : ∃ x, d.getD j3 0 = x := ⟨_, rfl⟩
    have F_d := Lh (show w.cell? ⟨s5, o5 + j0, none⟩ = some (.int .u64 x0) ∧ w.cell? ⟨s5, o5 + j1, none⟩ = some (.int .u64 x1) ∧ w.cell? ⟨s5, o5 + j2, none⟩ = some (.int .u64 x2) ∧ w.cell? ⟨s5, o5 + j3, none⟩ = some (.int .u64 x3) from by
     rw [← hx0, ← hx1, ← hx2, ← hx3]
     exact ⟨HC5.o _ (by have := HND.o; omega), HC5.o _ (by have := HND.o; omega), HC5.o _ (by have := HND.o; omega), HC5.o _ (by have := HND.o; omega)⟩)
    have HX0 := Lh (show 0 ≤ x0 ∧ x0 < Q by rw [← hx0]; exact HD.o _)
    have HX1 := Lh (show 0 ≤ x1 ∧ x1 < Q by rw [← hx1]; exact HD.o _)
    have HX2 := Lh (show 0 ≤ x2 ∧ x2 < Q by rw [← hx2]; exact HD.o _)
    have HX3 := Lh (show 0 ≤ x3 ∧ x3 < Q by rw [← hx3]; exact HD.o _)
    obtain ⟨ea, hea⟩ : ∃ x, powm G x0 P = x := ⟨_, rfl⟩
    obtain ⟨eb, heb⟩ : ∃ x, powm G mm P * powm y x0 P % P = x := ⟨_, rfl⟩
    obtain ⟨z0, z1, z2, z3, z4, z5, z6, z7, hz⟩ := BitZ.exists P Q G y mm x0 x1 x2 x3 [(i : Int)]
    obtain ⟨z, hzz⟩ : ∃ z : Bt, z = ⟨z0, z1, z2, z3, z4, z5, z6, z7⟩ := ⟨_, rfl⟩
    have HEA := Lh hea
    have HEB := Lh heb
    have HZ := Lh (show BitZ P Q G y mm x0 x1 x2 x3 [(i : Int)] z.r0 z.r1 z.s0 z.s1 z.c0 z.c1 z.z0 z.z1 by rw [hzz]; exact hz)
    have HFN := Lh (show SlF P Q G y ms d (i + 1) (bs ++ [(ea, eb)]) (ps ++ [z]) from HF.o.snoc (by unfold encP; rw [hmm, ← hj0, hx0, hea, heb]) (by unfold BitZb; rw [hmm, ← hj0, ← hj1, ← hj2, ← hj3, hx0, hx1, hx2, hx3, hzz]; exact hz))
    have HSU := Lh (show sumE Q d (i + 1) = (sumE Q d i + x0) % Q by rw [← hx0, hj0]; rfl)
    have HSR := Lh (show 0 ≤ sumE Q d i ∧ sumE Q d i < Q from sumE_range (by have := HR.o; omega) i)
    have HNS := Lh (show nsI d (i + 1) = nsI d i ++ [x0] by rw [nsI_succ, ← hj0, hx0])
    generalize sumE Q d i = su at HSU HSR ⊢
    clear hmm hj0 hj1 hj2 hj3 hx0 hx1 hx2 hx3 hea heb hz hzz HC5 HF
    have HBW := Lh (HBD.o.trans (HB.o.kd.mono HBD.o.size))
    replace F_g := Lh (F_g.o.keep HB.o.kd)
    have HZW := Lh (show w5.heap.size < wr.heap.size from HB.o.zr)
    go_wp2_with fail
    replace HB := Lh (HB.o.keep ((Below.refl wr.heap.size wr).drew))
    replace F_g := Lh (F_g.o.keep ((Below.refl wr.heap.size wr).drew))
    replace HBW := Lh (HBW.o.trans (((Below.refl wr.heap.size wr).drew).mono HBW.o.size))
    replace HRA := Lh (owns_below2 HRA.o ((Below.refl wr.heap.size wr).drew))
    replace HRB := Lh (owns_below2 HRB.o ((Below.refl wr.heap.size wr).drew))
    replace HRR := Lh (owns_below2 HRR.o ((Below.refl wr.heap.size wr).drew))
    have hS0 := And.intro F_g.o (And.intro HB.o.v (And.intro HB.o.r HBW.o))
    refine wp_region_stage 13 (fun w' => Cl w' w.heap.size [.int .u64 P, .int .u64 Q, .int .u64 G] ∧ Cl w' wd.heap.size (vcell (.slice aa i ca) (.slice ab i cb) one) ∧ Cl w' w5.heap.size [.slice am m cm, (.slice ar i cr)] ∧ Below w.heap.size w w') (by kernel_rfl) ?_
    refine tkP (i := 0) (some 32) (.fieldAddr 33 (.tmp 14) 0) 0 (fun _ => hS0) ?_
    simp only [sY]
    refine tkL (i := 1) (some 33) (.load 27 (.tmp 32)) 27 [13] (v := ?_) hS0 (fun w' hSw => ?_) ?_
    rotate_left
    · obtain ⟨t1, t2, t3, t4⟩ := hSw; have g0 := t1.c 0 _ rfl; have g1 := t1.c 1 _ rfl; have g2 := t1.c 2 _ rfl; have v0 := t2.c 0 _ rfl; have v1 := t2.c 1 _ rfl; have r1 := t3.c 1 _ rfl; have q0 := (t4.cell (p := ⟨s5, o5 + j0, none⟩) hsl5).trans F_d.o.1; have q1 := (t4.cell (p := ⟨s5, o5 + j1, none⟩) hsl5).trans F_d.o.2.1; have q2 := (t4.cell (p := ⟨s5, o5 + j2, none⟩) hsl5).trans F_d.o.2.2.1; have q3 := (t4.cell (p := ⟨s5, o5 + j3, none⟩) hsl5).trans F_d.o.2.2.2
      unfold bareOp; go_simp; try with_reducible rfl
    simp only [sY]
    refine tkL (i := 2) (some 34) (.load 24 (.tmp 6)) 24 [11, 12, 13] (v := ?_) hS0 (fun w' hSw => ?_) ?_
    rotate_left
    · obtain ⟨t1, t2, t3, t4⟩ := hSw; have g0 := t1.c 0 _ rfl; have g1 := t1.c 1 _ rfl; have g2 := t1.c 2 _ rfl; have v0 := t2.c 0 _ rfl; have v1 := t2.c 1 _ rfl; have r1 := t3.c 1 _ rfl; have q0 := (t4.cell (p := ⟨s5, o5 + j0, none⟩) hsl5).trans F_d.o.1; have q1 := (t4.cell (p := ⟨s5, o5 + j1, none⟩) hsl5).trans F_d.o.2.1; have q2 := (t4.cell (p := ⟨s5, o5 + j2, none⟩) hsl5).trans F_d.o.2.2.1; have q3 := (t4.cell (p := ⟨s5, o5 + j3, none⟩) hsl5).trans F_d.o.2.2.2
      unfold bareOp; go_simp; try with_reducible rfl
    simp only [sY]
    refine tkP (i := 3) (some 35) (.move (.tmp 1)) 22 (fun _ => hS0) ?_
    simp only [sY]
    refine tkP (i := 4) (some 36) (.move (.tmp 18)) 3 (fun _ => hS0) ?_
    simp only [sY]
    refine tkP (i := 5) (some 37) (.convert 3 22 (.tmp 36)) 22 (fun _ => hS0) ?_
    simp only [sY]
    refine tkP (i := 6) (some 38) (.move (.tmp 5)) 34 (fun _ => hS0) ?_
    simp only [sY]
    refine tkP (i := 7) (some 39) (.move (.tmp 17)) 3 (fun _ => hS0) ?_
    simp only [sY]
    refine tkP (i := 8) (some 40) (.binOp .mul 3 (.const (.int .i64 4)) (.tmp 39) 3) 3 (fun _ => hS0) ?_
    simp only [sY]
    refine tkP (i := 9) (some 41) (.indexAddr 34 (.tmp 38) (.tmp 40)) 0 (fun _ => hS0) ?_
    simp only [sY]
    refine tkL (i := 10) (some 42) (.load 22 (.tmp 41)) 22 [11, 12, 13] (v := ?_) hS0 (fun w' hSw => ?_) ?_
    rotate_left
    · obtain ⟨t1, t2, t3, t4⟩ := hSw; have g0 := t1.c 0 _ rfl; have g1 := t1.c 1 _ rfl; have g2 := t1.c 2 _ rfl; have v0 := t2.c 0 _ rfl; have v1 := t2.c 1 _ rfl; have r1 := t3.c 1 _ rfl; have q0 := (t4.cell (p := ⟨s5, o5 + j0, none⟩) hsl5).trans F_d.o.1; have q1 := (t4.cell (p := ⟨s5, o5 + j1, none⟩) hsl5).trans F_d.o.2.1; have q2 := (t4.cell (p := ⟨s5, o5 + j2, none⟩) hsl5).trans F_d.o.2.2.1; have q3 := (t4.cell (p := ⟨s5, o5 + j3, none⟩) hsl5).trans F_d.o.2.2.2
      unfold bareOp; go_simp; try with_reducible rfl
    simp only [sY]
    refine onl (i := 11) (some 43) (.call { callee := .value (.func 78), args := #[.tmp 34, .tmp 35, .tmp 37, .tmp 42], argTypes := #[24, 22, 22, 22] }) 75 (fun K hK => ?_)
    unfold bareOp
    refine OpW.out (wp_of_enter (run_call _ _ _ _ 78 Tryz.func78 (vs := #[(.agg #[.int .u64 P, .int .u64 Q, .int .u64 G]), .int .u64 y, .int .u64 mm, .int .u64 x0]) (by simp only [List.map_toArray, List.map_cons, List.map_nil]; rfl) rfl (by kernel_rfl) (by kernel_rfl)) (rMake_any _ HH.o (by omega) yP (by have := HM01.o; omega) (by have := HM01.o; have := HR.o; omega) HX0.o.1 HX0.o.2 HEA.o HEB.o) ?_)
    rintro e w7 ⟨rfl, hb7⟩
    refine ⟨_, rfl, ?_⟩
    replace HB := Lh (HB.o.keep hb7)
    replace F_g := Lh (F_g.o.keep hb7)
    replace HBW := Lh (HBW.o.trans (hb7.mono HBW.o.size))
    replace HRA := Lh (owns_below2 HRA.o hb7)
    replace HRB := Lh (owns_below2 HRB.o hb7)
    replace HRR := Lh (owns_below2 HRR.o hb7)
    clear hS0
    have hS0 := And.intro F_g.o (And.intro HB.o.v (And.intro HB.o.r HBW.o))
    clear hb7
    refine hK.o _ _ (fun _ => hS0) ?_
    clear hK K
    try simp only [sY]
    refine onl (i := 12) (some 44) (.buildSlice 27 1 #[(0, .tmp 43)]) 27 (fun K hK => ?_)
    unfold bareOp
    refine OpW.out (wp_of_run (run_lit_sealed _ _ _ _ _ ea eb rfl) ?_)
    obtain ⟨bl, hbl⟩ : ∃ b, b = w7.heap.size := ⟨_, rfl⟩
    have HLT := Lh (cell_list_at w7 [.int .u64 ea, .int .u64 eb] 75 bl hbl)
    have HAL := Lh (show Below w7.heap.size w7 (w7.alloc (.cells ([.int .u64 ea, .int .u64 eb]).toArray 75)) from (Below.refl _ _).alloc (Nat.le_refl _) _)
    have HZL := Lh (show (w5.heap.size + 1) ≤ (w7.alloc (.cells ([.int .u64 ea, .int .u64 eb]).toArray 75)).heap.size by have := HB.o.zr; first | (simp; omega) | (simp at this ⊢; omega))
    rw [← hbl]
    replace HB := Lh (HB.o.keep HAL.o)
    replace F_g := Lh (F_g.o.keep HAL.o)
    replace HBW := Lh (HBW.o.trans (HAL.o.mono HBW.o.size))
    replace HRA := Lh (owns_below2 HRA.o HAL.o)
    replace HRB := Lh (owns_below2 HRB.o HAL.o)
    replace HRR := Lh (owns_below2 HRR.o HAL.o)
    clear hbl hS0
    have hS0 := And.intro F_g.o (And.intro HB.o.v (And.intro HB.o.r HBW.o))
    refine hK.o _ _ (fun _ => hS0) ?_
    clear hK K
    try simp only [sY]
    refine onl (i := 13) (some 45) (.call { callee := .builtin .append, args := #[.tmp 33, .tmp 44], argTypes := #[27, 27] }) 27 (fun K hK => ?_)
    unfold bareOp
    refine wp_push_s (.tmp 33) (.tmp 44) rfl (w5.heap.size + 1) i bl (.slice aa i ca) (flatS bs) ea eb rfl rfl HRA.o HLT.o (by omega) HZL.o ?_
    intro v9 w9 hown hgr
    obtain ⟨na, ka, rfl⟩ := own_slice hown
    have HNa := Lh hown
    have HKB := Lh (Below.rowT (n := (w5.heap.size + 1)) hgr (fun k hk => (World.ownsRow.lt HRA.o k hk).1) HZL.o)
    replace HRB := Lh (World.ownsRow.kept HRB.o hgr (own_diffN HRA.o HRB.o (by decide)))
    replace HRR := Lh (World.ownsRow.kept HRR.o hgr (own_diffN HRA.o HRR.o (by decide)))
    clear hown hgr hS0
    replace HB := Lh (HB.o.under HKB.o)
    replace F_g := Lh (F_g.o.keepN HKB.o (by have := HZD.o; have := HZ5.o; omega))
    replace HBW := Lh (HBW.o.trans (HKB.o.mono (by have := HZD.o; have := HZ5.o; omega)))
    refine hK.o _ _ lt8 ?_
    clear hK K
    try simp only [sY]
    refine tkP (i := 14) (some 46) (.fieldAddr 33 (.tmp 14) 0) 0 lt8 ?_
    simp only [sY]
    refine onl (i := 15) none (.store 27 (.tmp 46) (.tmp 45)) 0 (fun K hK => ?_)
    unfold bareOp
    have q9 := HB.o.v.c 0 _ rfl
    have f9 := HB.o.v.f 0
    go_wp2_with fail
    clear q9 f9
    replace F_g := Lh (F_g.o.far ⟨wd.heap.size, 0, none⟩ (.slice na (i + 1) ka) (by have := HZD.o; have := HZ5.o; simp <;> omega))
    replace HB := Lh (HB.o.set0 (.slice na (i + 1) ka))
    replace HBW := Lh (HBW.o.setCell (p := ⟨wd.heap.size, 0, none⟩) (by have := HZD.o; have := HZ5.o; simp <;> omega) (.slice na (i + 1) ka))
    clear HRA
    have HRA := HNa
    clear HNa
    replace HRA := Lh (own_far HRA.o ⟨wd.heap.size, 0, none⟩ (.slice na (i + 1) ka) (by have := HZD.o; have := HZ5.o; simp <;> omega))
    replace HRB := Lh (own_far HRB.o ⟨wd.heap.size, 0, none⟩ (.slice na (i + 1) ka) (by have := HZD.o; have := HZ5.o; simp <;> omega))
    replace HRR := Lh (own_far HRR.o ⟨wd.heap.size, 0, none⟩ (.slice na (i + 1) ka) (by have := HZD.o; have := HZ5.o; simp <;> omega))
    refine hK.o _ _ lt8 ?_
    clear hK K
    try simp only [sY]
    refine wpAnyB_done (by kernel_rfl) ?_ _
    go_wp2_with fail
    generalize hwx : World.setCell w9 ⟨wd.heap.size, 0, none⟩ (.slice na (i + 1) ka) = wx at HB F_g HBW HRA HRB HRR ⊢
    clear hwx
    replace HB := Lh (HB.o.keep ((Below.refl _ _).drew))
    replace F_g := Lh (F_g.o.keep ((Below.refl _ _).drew))
    replace HBW := Lh (HBW.o.trans (((Below.refl _ _).drew).mono HBW.o.size))
    replace HRA := Lh (owns_below2 HRA.o ((Below.refl _ _).drew))
    replace HRB := Lh (owns_below2 HRB.o ((Below.refl _ _).drew))
    replace HRR := Lh (owns_below2 HRR.o ((Below.refl _ _).drew))
    have hS0 := And.intro F_g.o (And.intro HB.o.v (And.intro HB.o.r HBW.o))
    refine wp_region_stage 33 (fun w' => Cl w' w.heap.size [.int .u64 P, .int .u64 Q, .int .u64 G] ∧ Cl w' wd.heap.size (vcell (.slice na (i + 1) ka) (.slice ab i cb) one) ∧ Cl w' w5.heap.size [.slice am m cm, (.slice ar i cr)] ∧ Below w.heap.size w w') (by kernel_rfl) ?_
    refine tkP (i := 0) (some 47) (.fieldAddr 33 (.tmp 14) 1) 0 (fun _ => hS0) ?_
    simp only [sY]
    refine tkL (i := 1) (some 48) (.load 28 (.tmp 47)) 28 [33] (v := ?_) hS0 (fun w' hSw => ?_) ?_
    rotate_left
    · obtain ⟨t1, t2, t3, t4⟩ := hSw; have g0 := t1.c 0 _ rfl; have g1 := t1.c 1 _ rfl; have g2 := t1.c 2 _ rfl; have v0 := t2.c 0 _ rfl; have v1 := t2.c 1 _ rfl; have r1 := t3.c 1 _ rfl; have q0 := (t4.cell (p := ⟨s5, o5 + j0, none⟩) hsl5).trans F_d.o.1; have q1 := (t4.cell (p := ⟨s5, o5 + j1, none⟩) hsl5).trans F_d.o.2.1; have q2 := (t4.cell (p := ⟨s5, o5 + j2, none⟩) hsl5).trans F_d.o.2.2.1; have q3 := (t4.cell (p := ⟨s5, o5 + j3, none⟩) hsl5).trans F_d.o.2.2.2
      unfold bareOp; go_simp; try with_reducible rfl
    simp only [sY]
    refine tkL (i := 2) (some 49) (.load 24 (.tmp 6)) 24 [31, 32, 33] (v := ?_) hS0 (fun w' hSw => ?_) ?_
    rotate_left
    · obtain ⟨t1, t2, t3, t4⟩ := hSw; have g0 := t1.c 0 _ rfl; have g1 := t1.c 1 _ rfl; have g2 := t1.c 2 _ rfl; have v0 := t2.c 0 _ rfl; have v1 := t2.c 1 _ rfl; have r1 := t3.c 1 _ rfl; have q0 := (t4.cell (p := ⟨s5, o5 + j0, none⟩) hsl5).trans F_d.o.1; have q1 := (t4.cell (p := ⟨s5, o5 + j1, none⟩) hsl5).trans F_d.o.2.1; have q2 := (t4.cell (p := ⟨s5, o5 + j2, none⟩) hsl5).trans F_d.o.2.2.1; have q3 := (t4.cell (p := ⟨s5, o5 + j3, none⟩) hsl5).trans F_d.o.2.2.2
      unfold bareOp; go_simp; try with_reducible rfl
    simp only [sY]
    refine tkP (i := 3) (some 50) (.move (.tmp 1)) 22 (fun _ => hS0) ?_
    simp only [sY]
    refine tkP (i := 4) (some 51) (.move (.tmp 18)) 3 (fun _ => hS0) ?_
    simp only [sY]
    refine tkP (i := 5) (some 52) (.move (.tmp 5)) 34 (fun _ => hS0) ?_
    simp only [sY]
    refine tkP (i := 6) (some 53) (.move (.tmp 17)) 3 (fun _ => hS0) ?_
    simp only [sY]
    refine tkP (i := 7) (some 54) (.binOp .mul 3 (.const (.int .i64 4)) (.tmp 53) 3) 3 (fun _ => hS0) ?_
    simp only [sY]
    refine tkP (i := 8) (some 55) (.indexAddr 34 (.tmp 52) (.tmp 54)) 0 (fun _ => hS0) ?_
    simp only [sY]
    refine tkL (i := 9) (some 56) (.load 22 (.tmp 55)) 22 [31, 32, 33] (v := ?_) hS0 (fun w' hSw => ?_) ?_
    rotate_left
    · obtain ⟨t1, t2, t3, t4⟩ := hSw; have g0 := t1.c 0 _ rfl; have g1 := t1.c 1 _ rfl; have g2 := t1.c 2 _ rfl; have v0 := t2.c 0 _ rfl; have v1 := t2.c 1 _ rfl; have r1 := t3.c 1 _ rfl; have q0 := (t4.cell (p := ⟨s5, o5 + j0, none⟩) hsl5).trans F_d.o.1; have q1 := (t4.cell (p := ⟨s5, o5 + j1, none⟩) hsl5).trans F_d.o.2.1; have q2 := (t4.cell (p := ⟨s5, o5 + j2, none⟩) hsl5).trans F_d.o.2.2.1; have q3 := (t4.cell (p := ⟨s5, o5 + j3, none⟩) hsl5).trans F_d.o.2.2.2
      unfold bareOp; go_simp; try with_reducible rfl
    simp only [sY]
    refine tkP (i := 10) (some 57) (.move (.tmp 5)) 34 (fun _ => hS0) ?_
    simp only [sY]
    refine tkP (i := 11) (some 58) (.move (.tmp 17)) 3 (fun _ => hS0) ?_
    simp only [sY]
    refine tkP (i := 12) (some 59) (.binOp .mul 3 (.const (.int .i64 4)) (.tmp 58) 3) 3 (fun _ => hS0) ?_
    simp only [sY]
    refine tkP (i := 13) (some 60) (.binOp .add 3 (.tmp 59) (.const (.int .i64 1)) 3) 3 (fun _ => hS0) ?_
    simp only [sY]
    refine tkP (i := 14) (some 61) (.indexAddr 34 (.tmp 57) (.tmp 60)) 0 (fun _ => hS0) ?_
    simp only [sY]
    refine tkL (i := 15) (some 62) (.load 22 (.tmp 61)) 22 [31, 32, 33] (v := ?_) hS0 (fun w' hSw => ?_) ?_
    rotate_left
    · obtain ⟨t1, t2, t3, t4⟩ := hSw; have g0 := t1.c 0 _ rfl; have g1 := t1.c 1 _ rfl; have g2 := t1.c 2 _ rfl; have v0 := t2.c 0 _ rfl; have v1 := t2.c 1 _ rfl; have r1 := t3.c 1 _ rfl; have q0 := (t4.cell (p := ⟨s5, o5 + j0, none⟩) hsl5).trans F_d.o.1; have q1 := (t4.cell (p := ⟨s5, o5 + j1, none⟩) hsl5).trans F_d.o.2.1; have q2 := (t4.cell (p := ⟨s5, o5 + j2, none⟩) hsl5).trans F_d.o.2.2.1; have q3 := (t4.cell (p := ⟨s5, o5 + j3, none⟩) hsl5).trans F_d.o.2.2.2
      unfold bareOp; go_simp; try with_reducible rfl
    simp only [sY]
    refine tkP (i := 16) (some 63) (.move (.tmp 5)) 34 (fun _ => hS0) ?_
    simp only [sY]
    refine tkP (i := 17) (some 64) (.move (.tmp 17)) 3 (fun _ => hS0) ?_
    simp only [sY]
    refine tkP (i := 18) (some 65) (.binOp .mul 3 (.const (.int .i64 4)) (.tmp 64) 3) 3 (fun _ => hS0) ?_
    simp only [sY]
    refine tkP (i := 19) (some 66) (.binOp .add 3 (.tmp 65) (.const (.int .i64 2)) 3) 3 (fun _ => hS0) ?_
    simp only [sY]
    refine tkP (i := 20) (some 67) (.indexAddr 34 (.tmp 63) (.tmp 66)) 0 (fun _ => hS0) ?_
    simp only [sY]
    refine tkL (i := 21) (some 68) (.load 22 (.tmp 67)) 22 [31, 32, 33] (v := ?_) hS0 (fun w' hSw => ?_) ?_
    rotate_left
    · obtain ⟨t1, t2, t3, t4⟩ := hSw; have g0 := t1.c 0 _ rfl; have g1 := t1.c 1 _ rfl; have g2 := t1.c 2 _ rfl; have v0 := t2.c 0 _ rfl; have v1 := t2.c 1 _ rfl; have r1 := t3.c 1 _ rfl; have q0 := (t4.cell (p := ⟨s5, o5 + j0, none⟩) hsl5).trans F_d.o.1; have q1 := (t4.cell (p := ⟨s5, o5 + j1, none⟩) hsl5).trans F_d.o.2.1; have q2 := (t4.cell (p := ⟨s5, o5 + j2, none⟩) hsl5).trans F_d.o.2.2.1; have q3 := (t4.cell (p := ⟨s5, o5 + j3, none⟩) hsl5).trans F_d.o.2.2.2
      unfold bareOp; go_simp; try with_reducible rfl
    simp only [sY]
    refine tkP (i := 22) (some 69) (.move (.tmp 5)) 34 (fun _ => hS0) ?_
    simp only [sY]
    refine tkP (i := 23) (some 70) (.move (.tmp 17)) 3 (fun _ => hS0) ?_
    simp only [sY]
    refine tkP (i := 24) (some 71) (.binOp .mul 3 (.const (.int .i64 4)) (.tmp 70) 3) 3 (fun _ => hS0) ?_
    simp only [sY]
    refine tkP (i := 25) (some 72) (.binOp .add 3 (.tmp 71) (.const (.int .i64 3)) 3) 3 (fun _ => hS0) ?_
    simp only [sY]
    refine tkP (i := 26) (some 73) (.indexAddr 34 (.tmp 69) (.tmp 72)) 0 (fun _ => hS0) ?_
    simp only [sY]
    refine tkL (i := 27) (some 74) (.load 22 (.tmp 73)) 22 [31, 32, 33] (v := ?_) hS0 (fun w' hSw => ?_) ?_
    rotate_left
    · obtain ⟨t1, t2, t3, t4⟩ := hSw; have g0 := t1.c 0 _ rfl; have g1 := t1.c 1 _ rfl; have g2 := t1.c 2 _ rfl; have v0 := t2.c 0 _ rfl; have v1 := t2.c 1 _ rfl; have r1 := t3.c 1 _ rfl; have q0 := (t4.cell (p := ⟨s5, o5 + j0, none⟩) hsl5).trans F_d.o.1; have q1 := (t4.cell (p := ⟨s5, o5 + j1, none⟩) hsl5).trans F_d.o.2.1; have q2 := (t4.cell (p := ⟨s5, o5 + j2, none⟩) hsl5).trans F_d.o.2.2.1; have q3 := (t4.cell (p := ⟨s5, o5 + j3, none⟩) hsl5).trans F_d.o.2.2.2
      unfold bareOp; go_simp; try with_reducible rfl
    simp only [sY]
    refine tkP (i := 28) (some 75) (.move (.tmp 17)) 3 (fun _ => hS0) ?_
    simp only [sY]
    refine tkP (i := 29) (some 76) (.convert 3 5 (.tmp 75)) 5 (fun _ => hS0) ?_
    simp only [sY]
    refine onl (i := 30) (some 77) (.buildSlice 80 1 #[(0, .tmp 76)]) 80 (fun K hK => ?_)
    unfold bareOp
    refine OpW.out (wp_of_run (run_lit_u8 _ _ _ _ _ (i : Int) rfl) ?_)
    obtain ⟨bl, hbl⟩ : ∃ b, b = wx.drew.heap.size := ⟨_, rfl⟩
    have HLT := Lh (cell_list_at wx.drew [.int .u8 (i : Int)] 5 bl hbl)
    have HAL := Lh (show Below wx.drew.heap.size wx.drew (wx.drew.alloc (.cells ([.int .u8 (i : Int)]).toArray 5)) from (Below.refl _ _).alloc (Nat.le_refl _) _)
    have HZL := Lh (show (w5.heap.size + 1) ≤ (wx.drew.alloc (.cells ([.int .u8 (i : Int)]).toArray 5)).heap.size by have := HB.o.zr; first | (simp; omega) | (simp at this ⊢; omega))
    have HBL := Lh (show bl < (wx.drew.alloc (.cells ([.int .u8 (i : Int)] : List Value).toArray 5)).heap.size by rw [hbl]; simp)
    rw [← hbl]
    replace HB := Lh (HB.o.keep HAL.o)
    replace F_g := Lh (F_g.o.keep HAL.o)
    replace HBW := Lh (HBW.o.trans (HAL.o.mono HBW.o.size))
    replace HRA := Lh (owns_below2 HRA.o HAL.o)
    replace HRB := Lh (owns_below2 HRB.o HAL.o)
    replace HRR := Lh (owns_below2 HRR.o HAL.o)
    clear hbl hS0
    have hS0 := And.intro F_g.o (And.intro HB.o.v (And.intro HB.o.r HBW.o))
    have HTX := Lh (show ShI .u8 _ (some ⟨bl, 0, none⟩) 1 [(i : Int)] from .inr ⟨bl, 0, rfl, rfl, HBL.o, fun j hj => by
     obtain rfl : j = 0 := by simpa using hj
     have h := HLT.o 0 _ rfl
     rw [add_pl] at h
     exact h⟩)
    refine hK.o _ _ (fun _ => hS0) ?_
    clear hK K
    try simp only [sY]
    refine onl (i := 31) (some 78) (.call { callee := .value (.func 79), args := #[.tmp 49, .tmp 50, .tmp 51, .tmp 56, .tmp 62, .tmp 68, .tmp 74, .tmp 77], argTypes := #[24, 22, 3, 22, 22, 22, 22, 80] }) 31 (fun K hK => ?_)
    unfold bareOp
    refine OpW.out (wp_of_enter (run_call _ _ _ _ 79 Tryz.func79 (vs := #[(.agg #[.int .u64 P, .int .u64 Q, .int .u64 G]), .int .u64 y, .int .i64 mm, .int .u64 x0, .int .u64 x1, .int .u64 x2, .int .u64 x3, .slice (some ⟨bl, 0, none⟩) 1 1]) (by simp only [List.map_toArray, List.map_cons, List.map_nil]; rfl) rfl (by kernel_rfl) (by kernel_rfl)) (rBitOf_any _ ⟨HT.o.below HBW.o, HTX.o, (by intro u hu; simp at hu; omega)⟩ HH.o (by omega) yP HX0.o.1 HX0.o.2 HX1.o.1 HX1.o.2 HX2.o.1 HX2.o.2 HX3.o.1 HX3.o.2 (by decide) HM01.o HZ.o) ?_)
    rintro e w8 ⟨rfl, hb8⟩
    refine ⟨_, rfl, ?_⟩
    replace HB := Lh (HB.o.keep hb8)
    replace F_g := Lh (F_g.o.keep hb8)
    replace HBW := Lh (HBW.o.trans (hb8.mono HBW.o.size))
    replace HRA := Lh (owns_below2 HRA.o hb8)
    replace HRB := Lh (owns_below2 HRB.o hb8)
    replace HRR := Lh (owns_below2 HRR.o hb8)
    clear hS0
    have hS0 := And.intro F_g.o (And.intro HB.o.v (And.intro HB.o.r HBW.o))
    clear hb8 HTX
    refine hK.o _ _ (fun _ => hS0) ?_
    clear hK K
    try simp only [sY]
    refine onl (i := 32) (some 79) (.buildSlice 28 1 #[(0, .tmp 78)]) 28 (fun K hK => ?_)
    unfold bareOp
    refine OpW.out (wp_of_run (run_lit_bit _ _ _ _ _ z rfl) ?_)
    obtain ⟨bl, hbl⟩ : ∃ b, b = w8.heap.size := ⟨_, rfl⟩
    have HLT := Lh (cell_list_at w8 z.vs 31 bl hbl)
    have HAL := Lh (show Below w8.heap.size w8 (w8.alloc (.cells (z.vs).toArray 31)) from (Below.refl _ _).alloc (Nat.le_refl _) _)
    have HZL := Lh (show (w5.heap.size + 1) ≤ (w8.alloc (.cells (z.vs).toArray 31)).heap.size by have := HB.o.zr; first | (simp; omega) | (simp at this ⊢; omega))
    rw [← hbl]
    replace HB := Lh (HB.o.keep HAL.o)
    replace F_g := Lh (F_g.o.keep HAL.o)
    replace HBW := Lh (HBW.o.trans (HAL.o.mono HBW.o.size))
    replace HRA := Lh (owns_below2 HRA.o HAL.o)
    replace HRB := Lh (owns_below2 HRB.o HAL.o)
    replace HRR := Lh (owns_below2 HRR.o HAL.o)
    clear hbl hS0
    have hS0 := And.intro F_g.o (And.intro HB.o.v (And.intro HB.o.r HBW.o))
    refine hK.o _ _ (fun _ => hS0) ?_
    clear hK K
    try simp only [sY]
    refine onl (i := 33) (some 80) (.call { callee := .builtin .append, args := #[.tmp 48, .tmp 79], argTypes := #[28, 28] }) 28 (fun K hK => ?_)
    unfold bareOp
    refine wp_push_bit (.tmp 48) (.tmp 79) rfl (w5.heap.size + 1) i bl (.slice ab i cb) (flatB ps) z rfl rfl HRB.o HLT.o (by omega) HZL.o ?_
    intro v9 w9 hown hgr
    obtain ⟨nb, kb, rfl⟩ := own_slice hown
    have HNb := Lh hown
    have HKB := Lh (Below.rowT (n := (w5.heap.size + 1)) hgr (fun k hk => (World.ownsRow.lt HRB.o k hk).1) HZL.o)
    replace HRA := Lh (World.ownsRow.kept HRA.o hgr (own_diffN HRB.o HRA.o (by decide)))
    replace HRR := Lh (World.ownsRow.kept HRR.o hgr (own_diffN HRB.o HRR.o (by decide)))
    clear hown hgr hS0
    replace HB := Lh (HB.o.under HKB.o)
    replace F_g := Lh (F_g.o.keepN HKB.o (by have := HZD.o; have := HZ5.o; omega))
    replace HBW := Lh (HBW.o.trans (HKB.o.mono (by have := HZD.o; have := HZ5.o; omega)))
    refine hK.o _ _ lt8 ?_
    clear hK K
    try simp only [sY]
    refine tkP (i := 34) (some 81) (.fieldAddr 33 (.tmp 14) 1) 0 lt8 ?_
    simp only [sY]
    refine onl (i := 35) none (.store 28 (.tmp 81) (.tmp 80)) 0 (fun K hK => ?_)
    unfold bareOp
    have q9 := HB.o.v.c 1 _ rfl
    have f9 := HB.o.v.f 1
    go_wp2_with fail
    clear q9 f9
    replace F_g := Lh (F_g.o.far ⟨wd.heap.size, 1, none⟩ (.slice nb (i + 1) kb) (by have := HZD.o; have := HZ5.o; simp <;> omega))
    replace HB := Lh (HB.o.set1 (.slice nb (i + 1) kb))
    replace HBW := Lh (HBW.o.setCell (p := ⟨wd.heap.size, 1, none⟩) (by have := HZD.o; have := HZ5.o; simp <;> omega) (.slice nb (i + 1) kb))
    clear HRB
    have HRB := HNb
    clear HNb
    replace HRA := Lh (own_far HRA.o ⟨wd.heap.size, 1, none⟩ (.slice nb (i + 1) kb) (by have := HZD.o; have := HZ5.o; simp <;> omega))
    replace HRB := Lh (own_far HRB.o ⟨wd.heap.size, 1, none⟩ (.slice nb (i + 1) kb) (by have := HZD.o; have := HZ5.o; simp <;> omega))
    replace HRR := Lh (own_far HRR.o ⟨wd.heap.size, 1, none⟩ (.slice nb (i + 1) kb) (by have := HZD.o; have := HZ5.o; simp <;> omega))
    refine hK.o _ _ lt8 ?_
    clear hK K
    try simp only [sY]
    refine wpAnyB_done (by kernel_rfl) ?_ _
    go_wp2_with fail
    generalize hwx : World.setCell w9 ⟨wd.heap.size, 1, none⟩ (.slice nb (i + 1) kb) = wy at HB F_g HBW HRA HRB HRR ⊢
    clear hwx
    replace HB := Lh (HB.o.keep ((Below.refl _ _).drew))
    replace F_g := Lh (F_g.o.keep ((Below.refl _ _).drew))
    replace HBW := Lh (HBW.o.trans (((Below.refl _ _).drew).mono HBW.o.size))
    replace HRA := Lh (owns_below2 HRA.o ((Below.refl _ _).drew))
    replace HRB := Lh (owns_below2 HRB.o ((Below.refl _ _).drew))
    replace HRR := Lh (owns_below2 HRR.o ((Below.refl _ _).drew))
    have hS0 := And.intro F_g.o (And.intro HB.o.v (And.intro HB.o.r HBW.o))
    refine wp_region_stage 8 (fun w' => Cl w' w.heap.size [.int .u64 P, .int .u64 Q, .int .u64 G] ∧ Cl w' wd.heap.size (vcell (.slice na (i + 1) ka) (.slice nb (i + 1) kb) one) ∧ Cl w' w5.heap.size [.slice am m cm, (.slice ar i cr)] ∧ Below w.heap.size w w') (by kernel_rfl) ?_
    refine tkP (i := 0) (some 82) (.fieldAddr 36 (.tmp 15) 1) 0 (fun _ => hS0) ?_
    simp only [sY]
    refine tkL (i := 1) (some 83) (.load 34 (.tmp 82)) 34 [8] (v := ?_) hS0 (fun w' hSw => ?_) ?_
    rotate_left
    · obtain ⟨t1, t2, t3, t4⟩ := hSw; have g0 := t1.c 0 _ rfl; have g1 := t1.c 1 _ rfl; have g2 := t1.c 2 _ rfl; have v0 := t2.c 0 _ rfl; have v1 := t2.c 1 _ rfl; have r1 := t3.c 1 _ rfl; have q0 := (t4.cell (p := ⟨s5, o5 + j0, none⟩) hsl5).trans F_d.o.1; have q1 := (t4.cell (p := ⟨s5, o5 + j1, none⟩) hsl5).trans F_d.o.2.1; have q2 := (t4.cell (p := ⟨s5, o5 + j2, none⟩) hsl5).trans F_d.o.2.2.1; have q3 := (t4.cell (p := ⟨s5, o5 + j3, none⟩) hsl5).trans F_d.o.2.2.2
      unfold bareOp; go_simp; try with_reducible rfl
    simp only [sY]
    refine tkP (i := 2) (some 84) (.move (.tmp 5)) 34 (fun _ => hS0) ?_
    simp only [sY]
    refine tkP (i := 3) (some 85) (.move (.tmp 17)) 3 (fun _ => hS0) ?_
    simp only [sY]
    refine tkP (i := 4) (some 86) (.binOp .mul 3 (.const (.int .i64 4)) (.tmp 85) 3) 3 (fun _ => hS0) ?_
    simp only [sY]
    refine tkP (i := 5) (some 87) (.indexAddr 34 (.tmp 84) (.tmp 86)) 0 (fun _ => hS0) ?_
    simp only [sY]
    refine tkL (i := 6) (some 88) (.load 22 (.tmp 87)) 22 [7, 8] (v := ?_) hS0 (fun w' hSw => ?_) ?_
    rotate_left
    · obtain ⟨t1, t2, t3, t4⟩ := hSw; have g0 := t1.c 0 _ rfl; have g1 := t1.c 1 _ rfl; have g2 := t1.c 2 _ rfl; have v0 := t2.c 0 _ rfl; have v1 := t2.c 1 _ rfl; have r1 := t3.c 1 _ rfl; have q0 := (t4.cell (p := ⟨s5, o5 + j0, none⟩) hsl5).trans F_d.o.1; have q1 := (t4.cell (p := ⟨s5, o5 + j1, none⟩) hsl5).trans F_d.o.2.1; have q2 := (t4.cell (p := ⟨s5, o5 + j2, none⟩) hsl5).trans F_d.o.2.2.1; have q3 := (t4.cell (p := ⟨s5, o5 + j3, none⟩) hsl5).trans F_d.o.2.2.2
      unfold bareOp; go_simp; try with_reducible rfl
    simp only [sY]
    refine onl (i := 7) (some 89) (.buildSlice 34 1 #[(0, .tmp 88)]) 34 (fun K hK => ?_)
    unfold bareOp
    refine OpW.out (wp_of_run (run_lit_u64 _ _ _ _ _ x0 rfl) ?_)
    obtain ⟨bl, hbl⟩ : ∃ b, b = wy.drew.heap.size := ⟨_, rfl⟩
    have HLT := Lh (cell_list_at wy.drew [.int .u64 x0] 22 bl hbl)
    have HAL := Lh (show Below wy.drew.heap.size wy.drew (wy.drew.alloc (.cells ([.int .u64 x0]).toArray 22)) from (Below.refl _ _).alloc (Nat.le_refl _) _)
    have HZL := Lh (show (w5.heap.size + 1) ≤ (wy.drew.alloc (.cells ([.int .u64 x0]).toArray 22)).heap.size by have := HB.o.zr; first | (simp; omega) | (simp at this ⊢; omega))
    rw [← hbl]
    replace HB := Lh (HB.o.keep HAL.o)
    replace F_g := Lh (F_g.o.keep HAL.o)
    replace HBW := Lh (HBW.o.trans (HAL.o.mono HBW.o.size))
    replace HRA := Lh (owns_below2 HRA.o HAL.o)
    replace HRB := Lh (owns_below2 HRB.o HAL.o)
    replace HRR := Lh (owns_below2 HRR.o HAL.o)
    clear hbl hS0
    have hS0 := And.intro F_g.o (And.intro HB.o.v (And.intro HB.o.r HBW.o))
    refine hK.o _ _ (fun _ => hS0) ?_
    clear hK K
    try simp only [sY]
    refine onl (i := 8) (some 90) (.call { callee := .builtin .append, args := #[.tmp 83, .tmp 89], argTypes := #[34, 34] }) 34 (fun K hK => ?_)
    unfold bareOp
    refine wp_push_u64 (.tmp 83) (.tmp 89) rfl (w5.heap.size + 1) i bl (.slice ar i cr) ((nsI d i).map (Value.int .u64)) x0 rfl rfl HRR.o HLT.o (by omega) HZL.o ?_
    intro v9 w9 hown hgr
    obtain ⟨nr, kr, rfl⟩ := own_slice hown
    have HNr := Lh hown
    have HKB := Lh (Below.rowT (n := (w5.heap.size + 1)) hgr (fun k hk => (World.ownsRow.lt HRR.o k hk).1) HZL.o)
    replace HRA := Lh (World.ownsRow.kept HRA.o hgr (own_diffN HRR.o HRA.o (by decide)))
    replace HRB := Lh (World.ownsRow.kept HRB.o hgr (own_diffN HRR.o HRB.o (by decide)))
    clear hown hgr hS0
    replace HB := Lh (HB.o.under HKB.o)
    replace F_g := Lh (F_g.o.keepN HKB.o (by have := HZD.o; have := HZ5.o; omega))
    replace HBW := Lh (HBW.o.trans (HKB.o.mono (by have := HZD.o; have := HZ5.o; omega)))
    refine hK.o _ _ lt8 ?_
    clear hK K
    try simp only [sY]
    refine tkP (i := 9) (some 91) (.fieldAddr 36 (.tmp 15) 1) 0 lt8 ?_
    simp only [sY]
    refine onl (i := 10) none (.store 34 (.tmp 91) (.tmp 90)) 0 (fun K hK => ?_)
    unfold bareOp
    have q9 := HB.o.r.c 1 _ rfl
    have f9 := HB.o.r.f 1
    go_wp2_with fail
    clear q9 f9
    replace F_g := Lh (F_g.o.far ⟨w5.heap.size, 1, none⟩ (.slice nr (i + 1) kr) (by have := HZD.o; have := HZ5.o; simp <;> omega))
    replace HB := Lh (HB.o.setR (.slice nr (i + 1) kr))
    replace HBW := Lh (HBW.o.setCell (p := ⟨w5.heap.size, 1, none⟩) (by have := HZD.o; have := HZ5.o; simp <;> omega) (.slice nr (i + 1) kr))
    clear HRR
    have HRR := HNr
    clear HNr
    replace HRA := Lh (own_far HRA.o ⟨w5.heap.size, 1, none⟩ (.slice nr (i + 1) kr) (by have := HZD.o; have := HZ5.o; simp <;> omega))
    replace HRB := Lh (own_far HRB.o ⟨w5.heap.size, 1, none⟩ (.slice nr (i + 1) kr) (by have := HZD.o; have := HZ5.o; simp <;> omega))
    replace HRR := Lh (own_far HRR.o ⟨w5.heap.size, 1, none⟩ (.slice nr (i + 1) kr) (by have := HZD.o; have := HZ5.o; simp <;> omega))
    refine hK.o _ _ lt8 ?_
    clear hK K
    try simp only [sY]
    refine wpAnyB_done (by kernel_rfl) ?_ _
    go_wp2_with fail
    replace HB := Lh (HB.o.keep ((Below.refl _ _).drew))
    replace F_g := Lh (F_g.o.keep ((Below.refl _ _).drew))
    replace HBW := Lh (HBW.o.trans (((Below.refl _ _).drew).mono HBW.o.size))
    replace HRA := Lh (owns_below2 HRA.o ((Below.refl _ _).drew))
    replace HRB := Lh (owns_below2 HRB.o ((Below.refl _ _).drew))
    replace HRR := Lh (owns_below2 HRR.o ((Below.refl _ _).drew))
    have hS0 := And.intro F_g.o (And.intro HB.o.v (And.intro HB.o.r HBW.o))
    refine wp_region_stage 7 (fun w' => Cl w' w.heap.size [.int .u64 P, .int .u64 Q, .int .u64 G] ∧ Cl w' wd.heap.size (vcell (.slice na (i + 1) ka) (.slice nb (i + 1) kb) one) ∧ Cl w' w5.heap.size [.slice am m cm, (.slice nr (i + 1) kr)] ∧ Below w.heap.size w w') (by kernel_rfl) ?_
    refine tkL (i := 0) (some 92) (.load 24 (.tmp 6)) 24 [7] (v := ?_) hS0 (fun w' hSw => ?_) ?_
    rotate_left
    · obtain ⟨t1, t2, t3, t4⟩ := hSw; have g0 := t1.c 0 _ rfl; have g1 := t1.c 1 _ rfl; have g2 := t1.c 2 _ rfl; have v0 := t2.c 0 _ rfl; have v1 := t2.c 1 _ rfl; have r1 := t3.c 1 _ rfl; have q0 := (t4.cell (p := ⟨s5, o5 + j0, none⟩) hsl5).trans F_d.o.1; have q1 := (t4.cell (p := ⟨s5, o5 + j1, none⟩) hsl5).trans F_d.o.2.1; have q2 := (t4.cell (p := ⟨s5, o5 + j2, none⟩) hsl5).trans F_d.o.2.2.1; have q3 := (t4.cell (p := ⟨s5, o5 + j3, none⟩) hsl5).trans F_d.o.2.2.2
      unfold bareOp; go_simp; try with_reducible rfl
    simp only [sY]
    refine tkP (i := 1) (some 93) (.move (.tmp 16)) 22 (fun _ => hS0) ?_
    simp only [sY]
    refine tkP (i := 2) (some 94) (.move (.tmp 5)) 34 (fun _ => hS0) ?_
    simp only [sY]
    refine tkP (i := 3) (some 95) (.move (.tmp 17)) 3 (fun _ => hS0) ?_
    simp only [sY]
    refine tkP (i := 4) (some 96) (.binOp .mul 3 (.const (.int .i64 4)) (.tmp 95) 3) 3 (fun _ => hS0) ?_
    simp only [sY]
    refine tkP (i := 5) (some 97) (.indexAddr 34 (.tmp 94) (.tmp 96)) 0 (fun _ => hS0) ?_
    simp only [sY]
    refine tkL (i := 6) (some 98) (.load 22 (.tmp 97)) 22 [7] (v := ?_) hS0 (fun w' hSw => ?_) ?_
    rotate_left
    · obtain ⟨t1, t2, t3, t4⟩ := hSw; have g0 := t1.c 0 _ rfl; have g1 := t1.c 1 _ rfl; have g2 := t1.c 2 _ rfl; have v0 := t2.c 0 _ rfl; have v1 := t2.c 1 _ rfl; have r1 := t3.c 1 _ rfl; have q0 := (t4.cell (p := ⟨s5, o5 + j0, none⟩) hsl5).trans F_d.o.1; have q1 := (t4.cell (p := ⟨s5, o5 + j1, none⟩) hsl5).trans F_d.o.2.1; have q2 := (t4.cell (p := ⟨s5, o5 + j2, none⟩) hsl5).trans F_d.o.2.2.1; have q3 := (t4.cell (p := ⟨s5, o5 + j3, none⟩) hsl5).trans F_d.o.2.2.2
      unfold bareOp; go_simp; try with_reducible rfl
    simp only [sY]
    refine onl (i := 7) (some 99) (.call { callee := .value (.func 80), args := #[.tmp 92, .tmp 93, .tmp 98], argTypes := #[24, 22, 22] }) 22 (fun K hK => ?_)
    unfold bareOp
    refine OpW.out (wp_of_enter (run_call _ _ _ _ 80 Tryz.func80 (vs := #[(.agg #[.int .u64 P, .int .u64 Q, .int .u64 G]), .int .u64 su, .int .u64 x0]) (by simp only [List.map_toArray, List.map_cons, List.map_nil]; rfl) rfl (by kernel_rfl) (by kernel_rfl)) (rSum_gen _ HH.o HSR.o.1 HSR.o.2 HX0.o.1 HX0.o.2 HSU.o.symm) ?_)
    rintro e w7 ⟨rfl, hb7⟩
    refine ⟨_, rfl, ?_⟩
    replace HB := Lh (HB.o.keep hb7)
    replace F_g := Lh (F_g.o.keep hb7)
    replace HBW := Lh (HBW.o.trans (hb7.mono HBW.o.size))
    replace HRA := Lh (owns_below2 HRA.o hb7)
    replace HRB := Lh (owns_below2 HRB.o hb7)
    replace HRR := Lh (owns_below2 HRR.o hb7)
    clear hS0
    have hS0 := And.intro F_g.o (And.intro HB.o.v (And.intro HB.o.r HBW.o))
    clear hb7
    refine hK.o _ _ lt8 ?_
    clear hK K
    try simp only [sY]
    refine tkP (i := 8) (some 16) (.assign (.tmp 99)) 22 lt8 ?_
    simp only [sY]
    refine wpAnyB_done (by kernel_rfl) ?_ _
    go_wp2_with fail
    go_roundw
    case rel => exact ⟨i + 1, _, _, _, _, _, by omega, by go_num, by rw [HSU.o], HB.o, ⟨by rw [flatS_append]; exact HRA.o, by rw [flatB_append]; exact HRB.o, by rw [HNS.o, List.map_append]; exact HRR.o⟩, HFN.o⟩
    case measure => simp [intOf] <;> omega
   case neg =>
    obtain rfl : i = n := by omega
    have hd : decide ((i : Int) < (i : Int)) = false := decide_eq_false (by omega)
    obtain ⟨a1, c1, rfl, -, hk1⟩ := ShS.of_owned2 HRW.o.ha
    obtain ⟨a2', c2', rfl, -, hk2⟩ := ShB.of_owned2 HRW.o.hb
    obtain ⟨a3, c3, rfl, -, hk3⟩ := ShI.of_owned2 HRW.o.hr
    have HK123 := Lh (And.intro hk1 (And.intro hk2 hk3))
    have HMC := Lh (show ShI .i64 w5 am m ms ∧ (am = none → cm = 0) ∧ ∀ s o, am = some ⟨s, o, none⟩ → wd.heap.size < s ∧ s < w5.heap.size by
     obtain ⟨_, _, e, hs, hk⟩ := ShI.of_owned2 HMV.o
     injection e with e1 _ e3
     subst e1 e3
     refine ⟨hs, hk, fun s o h => ?_⟩
     have hl := World.ownsRow.lt HMV.o s (by rw [h]; rfl)
     simp at hl
     omega)
    clear hk1 hk2 hk3
    have HYP := Lh yP
    cases one with
    | false =>
     obtain ⟨z, hzz⟩ : ∃ z : Bt, z = Bt.zero := ⟨_, rfl⟩
     have F_v := Lh (show Cl wr wd.heap.size [.slice a1 i c1, .slice a2' i c2', .bool false, .int .u64 z.r0, .int .u64 z.r1, .int .u64 z.s0, .int .u64 z.s1, .int .u64 z.c0, .int .u64 z.c1, .int .u64 z.z0, .int .u64 z.z1] by rw [hzz]; exact HB.o.v)
     have F_r := Lh HB.o.r
     have HKD := Lh HB.o.kd
     have HKM := Lh HB.o.km
     have HZR := Lh HB.o.zr
     have HZF := Lh (show sealZ P Q G y i ms d false z from .inr ⟨rfl, hzz⟩)
     clear HB hzz
     go_wp2_with fail
     replace F_o := Lh ((F_o.o.keep HKD.o).drew)
     replace F_q := Lh ((F_q.o.keep HKD.o).drew)
     have HMS := Lh (show ShI .i64 wr.drew am m ms ∧ ∀ s o, am = some ⟨s, o, none⟩ → wd.heap.size < s ∧ s < wr.drew.heap.size from ⟨(ShI.blocks (w' := wr) HMC.o.1 (fun s o h => ⟨HKM.o s (HMC.o.2.2 s o h).1 (HMC.o.2.2 s o h).2, Nat.lt_trans (HMC.o.2.2 s o h).2 HZR.o⟩)).keep (Below.refl _ _).drew, fun s o h => ⟨(HMC.o.2.2 s o h).1, Nat.lt_trans (HMC.o.2.2 s o h).2 (show w5.heap.size < _ from HZR.o)⟩⟩)
     have HBE := Lh ((HBD.o.trans (HKD.o.mono HBD.o.size)).drew)
     replace F_v := Lh F_v.o.drew
     replace F_r := Lh F_r.o.drew
     replace HRW := Lh (HRW.o.keep (Below.refl _ _).drew)
     clear HKD HKM
     have hS0 := And.intro F_v.o F_r.o
     refine wp_region_stage 3 (fun w' => Cl w' wd.heap.size [.slice a1 i c1, .slice a2' i c2', .bool false, .int .u64 z.r0, .int .u64 z.r1, .int .u64 z.s0, .int .u64 z.s1, .int .u64 z.c0, .int .u64 z.c1, .int .u64 z.z0, .int .u64 z.z1] ∧ Cl w' w5.heap.size [.slice am m cm, .slice a3 i c3]) (by kernel_rfl) ?_
     refine tkL (i := 0) (some 126) (.load 33 (.tmp 14)) 33 [2, 3] (v := ?_) hS0 (fun w' hSw => ?_) ?_
     rotate_left
     · obtain ⟨t1, t2⟩ := hSw; obtain ⟨⟨q0, q1, q2, q3, q4, q5, q6, q7, q8, q9, q10⟩, -⟩ := t1.k11
       unfold bareOp; go_simp; try with_reducible rfl
     simp only [sY]
     refine tkL (i := 1) (some 127) (.load 36 (.tmp 15)) 36 [3] (v := ?_) hS0 (fun w' hSw => ?_) ?_
     rotate_left
     · obtain ⟨t1, t2⟩ := hSw; have q0 := t2.c 0 _ rfl; have q1 := t2.c 1 _ rfl
       unfold bareOp; go_simp; try with_reducible rfl
     simp only [sY]
     refine onl (i := 2) none (.store 33 (.tmp 12) (.tmp 126)) 0 (fun K hK => ?_)
     unfold bareOp
     refine wp_storeCl 33 (.tmp 12) (.tmp 126) (w.heap.size + 1) 0 [.slice none 0 0, .slice none 0 0, .bool false, .int .u64 0, .int .u64 0, .int .u64 0, .int .u64 0, .int .u64 0, .int .u64 0, .int .u64 0, .int .u64 0] [.slice a1 i c1, .slice a2' i c2', .bool false, .int .u64 z.r0, .int .u64 z.r1, .int .u64 z.s0, .int .u64 z.s1, .int .u64 z.c0, .int .u64 z.c1, .int .u64 z.z0, .int .u64 z.z1] [.slice a1 i c1, .slice a2' i c2', .bool false, .int .u64 z.r0, .int .u64 z.r1, .int .u64 z.s0, .int .u64 z.s1, .int .u64 z.c0, .int .u64 z.c1, .int .u64 z.z0, .int .u64 z.z1] rfl rfl rfl (by kernel_rfl) (by intro u hu; simp at hu; rcases hu with rfl | rfl | rfl | rfl | rfl | rfl | rfl | rfl | rfl | rfl | rfl <;> rfl) F_o.o (by simp) rfl ?_
     intro wa2 hca hga hza
     replace F_o := Lh hca
     replace F_q := Lh (F_q.o.gro hga (by have := HZD.o; have := HZ5.o; omega))
     replace F_v := Lh (F_v.o.gro hga (by have := HZD.o; have := HZ5.o; omega))
     replace F_r := Lh (F_r.o.gro hga (by have := HZD.o; have := HZ5.o; omega))
     replace HBE := Lh (HBE.o.trans (hga.blw (n := w.heap.size) (by have := HZD.o; have := HZ5.o; omega) HBE.o.size))
     replace HMS := Lh (show ShI .i64 wa2 am m ms ∧ ∀ s o, am = some ⟨s, o, none⟩ → wd.heap.size < s ∧ s < wa2.heap.size from And.intro (HMS.o.1.blocks (fun s o h => ⟨hga.block s (HMS.o.2 s o h).2 (by have := (HMS.o.2 s o h).1; intro e; injection e with e; have := HZD.o; have := HZ5.o; omega), by rw [hza]; exact (HMS.o.2 s o h).2⟩)) (fun s o h => ⟨(HMS.o.2 s o h).1, by rw [hza]; exact (HMS.o.2 s o h).2⟩))
     replace HRW := Lh (show SlR w5 _ _ _ _ _ _ _ _ from ⟨own_gro HRW.o.ha hga (by have := HZD.o; have := HZ5.o; omega), own_gro HRW.o.hb hga (by have := HZD.o; have := HZ5.o; omega), own_gro HRW.o.hr hga (by have := HZD.o; have := HZ5.o; omega)⟩)
     clear hca hga hza hS0
     have hS0 := And.intro F_v.o F_r.o
     refine hK.o _ _ (fun _ => hS0) ?_
     clear hK K
     try simp only [sY]
     refine onl (i := 3) none (.store 36 (.tmp 13) (.tmp 127)) 0 (fun K hK => ?_)
     unfold bareOp
     refine wp_storeCl 36 (.tmp 13) (.tmp 127) (w.heap.size + 1 + 1) 0 [.slice none 0 0, .slice none 0 0] [.slice am m cm, .slice a3 i c3] [.slice am m cm, .slice a3 i c3] rfl rfl rfl (by kernel_rfl) (by intro u hu; simp at hu; rcases hu with rfl | rfl <;> rfl) F_q.o (by simp) rfl ?_
     intro wa3 hca hga hza
     replace F_q := Lh hca
     replace F_o := Lh (F_o.o.gro hga (by have := HZD.o; have := HZ5.o; omega))
     replace F_v := Lh (F_v.o.gro hga (by have := HZD.o; have := HZ5.o; omega))
     replace F_r := Lh (F_r.o.gro hga (by have := HZD.o; have := HZ5.o; omega))
     replace HBE := Lh (HBE.o.trans (hga.blw (n := w.heap.size) (by have := HZD.o; have := HZ5.o; omega) HBE.o.size))
     replace HMS := Lh (show ShI .i64 wa3 am m ms ∧ ∀ s o, am = some ⟨s, o, none⟩ → wd.heap.size < s ∧ s < wa3.heap.size from And.intro (HMS.o.1.blocks (fun s o h => ⟨hga.block s (HMS.o.2 s o h).2 (by have := (HMS.o.2 s o h).1; intro e; injection e with e; have := HZD.o; have := HZ5.o; omega), by rw [hza]; exact (HMS.o.2 s o h).2⟩)) (fun s o h => ⟨(HMS.o.2 s o h).1, by rw [hza]; exact (HMS.o.2 s o h).2⟩))
     replace HRW := Lh (show SlR w5 _ _ _ _ _ _ _ _ from ⟨own_gro HRW.o.ha hga (by have := HZD.o; have := HZ5.o; omega), own_gro HRW.o.hb hga (by have := HZD.o; have := HZ5.o; omega), own_gro HRW.o.hr hga (by have := HZD.o; have := HZ5.o; omega)⟩)
     clear hca hga hza hS0
     have hS0 := And.intro F_v.o F_r.o
     refine hK.o _ _ lt8 ?_
     clear hK K
     try simp only [sY]
     refine wpAnyB_done (by kernel_rfl) ?_ _
     go_wp2_with fail
     obtain ⟨_, _, e1, hs1, -⟩ := ShS.of_owned2 HRW.o.ha
     obtain ⟨_, _, e2, hs2, -⟩ := ShB.of_owned2 HRW.o.hb
     obtain ⟨_, _, e3, hs3, -⟩ := ShI.of_owned2 HRW.o.hr
     injection e1 with e1a _ _
     injection e2 with e2a _ _
     injection e3 with e3a _ _
     subst e1a e2a e3a
     refine bodyPost_ret (res_sealed rfl F_o.o F_q.o _ rfl rfl) rfl ?_
     obtain ⟨f1, f2, f3⟩ := seal_fin (one := false) (z := z) (c1 := c1) (c2 := c2') (c3 := c3) (mc := cm) HF.o HH.o (by omega) HYP.o HD.o hs1 HK123.o.1 hs2 HK123.o.2.1 HMS.o.1 HMC.o.2.1 HUM.o HLM.o hs3 HK123.o.2.2 HZF.o
     have HHI := Lh (show HiV w.heap.size ⟨a1, i, c1, bs, a2', i, c2', ps, false, z⟩ ⟨am, m, cm, ms, a3, i, c3, nsI d i⟩ from ⟨fun s o h => by have := (World.ownsRow.lt HRW.o.ha s (by rw [show a1 = some ⟨s, o, none⟩ from h]; rfl)).1; have := HZD.o; have := HZ5.o; omega, fun s o h => by have := (World.ownsRow.lt HRW.o.hb s (by rw [show a2' = some ⟨s, o, none⟩ from h]; rfl)).1; have := HZD.o; have := HZ5.o; omega, fun s o h => by have := (HMS.o.2 s o h).1; have := HZD.o; omega, fun s o h => by have := (World.ownsRow.lt HRW.o.hr s (by rw [show a3 = some ⟨s, o, none⟩ from h]; rfl)).1; have := HZD.o; have := HZ5.o; omega⟩)
     exact ⟨⟨_, _, rfl, f1, f2, f3, HHI.o⟩, HBE.o⟩
    | true =>
     have hq43 := (HO1.o rfl).2
     have hm1 := (HO1.o rfl).1
     obtain ⟨s5, o5, hsa, hsl5, HC5⟩ : ∃ s o, a5 = some ⟨s, o, none⟩ ∧ s < w.heap.size ∧ Hid (∀ k, k < nd → w.cell? ⟨s, o + k, none⟩ = some (.int .u64 (d.getD k 0))) := by
      have hl := H5.o.len
      rcases H5.o with ⟨h1, _⟩ | ⟨s, o, h0, h1, h2, h3⟩
      · omega
      · exact ⟨s, o, h0, h2, fun k hk => h3 k (by omega)⟩
     subst hsa
     obtain ⟨j0, hj0⟩ : ∃ j0 : Nat, j0 = 4 * i := ⟨_, rfl⟩
     obtain ⟨j1, hj1⟩ : ∃ j1 : Nat, j1 = j0 + 1 := ⟨_, rfl⟩
     obtain ⟨j2, hj2⟩ : ∃ j2 : Nat, j2 = j0 + 2 := ⟨_, rfl⟩
     have e0 : IntKind.i64.wrap (4 * (i : Int)) = (j0 : Int) := by rw [IntWalk.i64_in _ (by omega), hj0]; omega
     have e1 : IntKind.i64.wrap ((j0 : Int) + 1) = (j1 : Int) := by rw [IntWalk.i64_in _ (by omega)]; omega
     have e2 : IntKind.i64.wrap ((j0 : Int) + 2) = (j2 : Int) := by rw [IntWalk.i64_in _ (by omega)]; omega
     have b0 : (j0 : Int) < (nd : Int) := by omega
     have b1 : (j1 : Int) < (nd : Int) := by omega
     have b2 : (j2 : Int) < (nd : Int) := by omega
     have n0 : (0 : Int) ≤ (j0 : Int) := by omega
     have n1 : (0 : Int) ≤ (j1 : Int) := by omega
     have n2 : (0 : Int) ≤ (j2 : Int) := by omega
     obtain ⟨x0, hx0⟩ : ∃ x, d.getD j0 0 = x := ⟨_, rfl⟩
     obtain ⟨x1, hx1⟩ : ∃ x, d.getD j1 0 = x := ⟨_, rfl⟩
     obtain ⟨x2, hx2⟩ : ∃ x, d.getD j2 0 = x := ⟨_, rfl⟩
     have F_d := Lh (show w.cell? ⟨s5, o5 + j0, none⟩ = some (.int .u64 x0) ∧ w.cell? ⟨s5, o5 + j1, none⟩ = some (.int .u64 x1) ∧ w.cell? ⟨s5, o5 + j2, none⟩ = some (.int .u64 x2) from by
      rw [← hx0, ← hx1, ← hx2]
      exact ⟨HC5.o _ (by omega), HC5.o _ (by omega), HC5.o _ (by omega)⟩)
     have HX := Lh (show (0 ≤ x0 ∧ x0 < Q) ∧ (0 ≤ x1 ∧ x1 < Q) ∧ (0 ≤ x2 ∧ x2 < Q) by rw [← hx0, ← hx1, ← hx2]; exact ⟨HD.o _, HD.o _, HD.o _⟩)
     have HSU := Lh (sumE_range (Q := Q) (by have := HR.o; omega) (d := d) i)
     have hm01 : (m : Int) = 0 ∨ (m : Int) = 1 := by omega
     obtain ⟨z, hz⟩ : ∃ z : Bt, BitZb P Q G y (m : Int) (sumE Q d i) x0 x1 x2 [255] z := by
      obtain ⟨a0, a1, a2, a3, a4, a5, a6, a7, h⟩ := BitZ.exists P Q G y (m : Int) (sumE Q d i) x0 x1 x2 [255]
      exact ⟨⟨a0, a1, a2, a3, a4, a5, a6, a7⟩, h⟩
     have HBZ := Lh (show BitZ P Q G y (m : Int) (sumE Q d i) x0 x1 x2 [255] z.r0 z.r1 z.s0 z.s1 z.c0 z.c1 z.z0 z.z1 from hz)
     have HM01 := Lh hm01
     have HZF := Lh (show sealZ P Q G y i ms d true z from .inl ⟨rfl, by rw [← HLM.o, ← hj0, ← hj1, ← hj2, hx0, hx1, hx2]; exact hz⟩)
     clear hj0 hj1 hj2 hx0 hx1 hx2 hz hm01 HC5 hq43 hm1
     generalize sumE Q d i = su at HSU HBZ ⊢
     have F_g2 := Lh (F_g.o.keep HB.o.kd)
     have HBW := Lh (HBD.o.trans (HB.o.kd.mono HBD.o.size))
     go_wp2_with fail
     replace HB := Lh (HB.o.keep ((Below.refl wr.heap.size wr).drew))
     replace HRW := Lh (HRW.o.keep ((Below.refl wr.heap.size wr).drew))
     replace F_g2 := Lh (F_g2.o.keep ((Below.refl wr.heap.size wr).drew))
     replace HBW := Lh (HBW.o.trans (((Below.refl wr.heap.size wr).drew).mono HBW.o.size))
     have hS0 := And.intro F_g2.o HBW.o
     refine wp_region_stage 23 (fun w' => Cl w' w.heap.size [.int .u64 P, .int .u64 Q, .int .u64 G] ∧ Below w.heap.size w w') (by kernel_rfl) ?_
     refine tkL (i := 0) (some 101) (.load 24 (.tmp 6)) 24 [23] (v := ?_) hS0 (fun w' hSw => ?_) ?_
     rotate_left
     · obtain ⟨t1, t4⟩ := hSw; have g0 := t1.c 0 _ rfl; have g1 := t1.c 1 _ rfl; have g2 := t1.c 2 _ rfl; have q0 := (t4.cell (p := ⟨s5, o5 + j0, none⟩) hsl5).trans F_d.o.1; have q1 := (t4.cell (p := ⟨s5, o5 + j1, none⟩) hsl5).trans F_d.o.2.1; have q2 := (t4.cell (p := ⟨s5, o5 + j2, none⟩) hsl5).trans F_d.o.2.2
       unfold bareOp; go_simp; try with_reducible rfl
     simp only [sY]
     refine tkP (i := 1) (some 102) (.move (.tmp 1)) 22 (fun _ => hS0) ?_
     simp only [sY]
     refine tkP (i := 2) (some 103) (.move (.tmp 3)) 25 (fun _ => hS0) ?_
     simp only [sY]
     refine tkP (i := 3) (some 104) (.call { callee := .builtin .len, args := #[.tmp 103], argTypes := #[25] }) 3 (fun _ => hS0) ?_
     simp only [sY]
     refine tkP (i := 4) (some 105) (.move (.tmp 16)) 22 (fun _ => hS0) ?_
     simp only [sY]
     refine tkP (i := 5) (some 106) (.move (.tmp 5)) 34 (fun _ => hS0) ?_
     simp only [sY]
     refine tkP (i := 6) (some 107) (.move (.tmp 2)) 3 (fun _ => hS0) ?_
     simp only [sY]
     refine tkP (i := 7) (some 108) (.binOp .mul 3 (.const (.int .i64 4)) (.tmp 107) 3) 3 (fun _ => hS0) ?_
     simp only [sY]
     refine tkP (i := 8) (some 109) (.indexAddr 34 (.tmp 106) (.tmp 108)) 0 (fun _ => hS0) ?_
     simp only [sY]
     refine tkL (i := 9) (some 110) (.load 22 (.tmp 109)) 22 [23] (v := ?_) hS0 (fun w' hSw => ?_) ?_
     rotate_left
     · obtain ⟨t1, t4⟩ := hSw; have g0 := t1.c 0 _ rfl; have g1 := t1.c 1 _ rfl; have g2 := t1.c 2 _ rfl; have q0 := (t4.cell (p := ⟨s5, o5 + j0, none⟩) hsl5).trans F_d.o.1; have q1 := (t4.cell (p := ⟨s5, o5 + j1, none⟩) hsl5).trans F_d.o.2.1; have q2 := (t4.cell (p := ⟨s5, o5 + j2, none⟩) hsl5).trans F_d.o.2.2
       unfold bareOp; go_simp; try with_reducible rfl
     simp only [sY]
     refine tkP (i := 10) (some 111) (.move (.tmp 5)) 34 (fun _ => hS0) ?_
     simp only [sY]
     refine tkP (i := 11) (some 112) (.move (.tmp 2)) 3 (fun _ => hS0) ?_
     simp only [sY]
     refine tkP (i := 12) (some 113) (.binOp .mul 3 (.const (.int .i64 4)) (.tmp 112) 3) 3 (fun _ => hS0) ?_
     simp only [sY]
     refine tkP (i := 13) (some 114) (.binOp .add 3 (.tmp 113) (.const (.int .i64 1)) 3) 3 (fun _ => hS0) ?_
     simp only [sY]
     refine tkP (i := 14) (some 115) (.indexAddr 34 (.tmp 111) (.tmp 114)) 0 (fun _ => hS0) ?_
     simp only [sY]
     refine tkL (i := 15) (some 116) (.load 22 (.tmp 115)) 22 [23] (v := ?_) hS0 (fun w' hSw => ?_) ?_
     rotate_left
     · obtain ⟨t1, t4⟩ := hSw; have g0 := t1.c 0 _ rfl; have g1 := t1.c 1 _ rfl; have g2 := t1.c 2 _ rfl; have q0 := (t4.cell (p := ⟨s5, o5 + j0, none⟩) hsl5).trans F_d.o.1; have q1 := (t4.cell (p := ⟨s5, o5 + j1, none⟩) hsl5).trans F_d.o.2.1; have q2 := (t4.cell (p := ⟨s5, o5 + j2, none⟩) hsl5).trans F_d.o.2.2
       unfold bareOp; go_simp; try with_reducible rfl
     simp only [sY]
     refine tkP (i := 16) (some 117) (.move (.tmp 5)) 34 (fun _ => hS0) ?_
     simp only [sY]
     refine tkP (i := 17) (some 118) (.move (.tmp 2)) 3 (fun _ => hS0) ?_
     simp only [sY]
     refine tkP (i := 18) (some 119) (.binOp .mul 3 (.const (.int .i64 4)) (.tmp 118) 3) 3 (fun _ => hS0) ?_
     simp only [sY]
     refine tkP (i := 19) (some 120) (.binOp .add 3 (.tmp 119) (.const (.int .i64 2)) 3) 3 (fun _ => hS0) ?_
     simp only [sY]
     refine tkP (i := 20) (some 121) (.indexAddr 34 (.tmp 117) (.tmp 120)) 0 (fun _ => hS0) ?_
     simp only [sY]
     refine tkL (i := 21) (some 122) (.load 22 (.tmp 121)) 22 [23] (v := ?_) hS0 (fun w' hSw => ?_) ?_
     rotate_left
     · obtain ⟨t1, t4⟩ := hSw; have g0 := t1.c 0 _ rfl; have g1 := t1.c 1 _ rfl; have g2 := t1.c 2 _ rfl; have q0 := (t4.cell (p := ⟨s5, o5 + j0, none⟩) hsl5).trans F_d.o.1; have q1 := (t4.cell (p := ⟨s5, o5 + j1, none⟩) hsl5).trans F_d.o.2.1; have q2 := (t4.cell (p := ⟨s5, o5 + j2, none⟩) hsl5).trans F_d.o.2.2
       unfold bareOp; go_simp; try with_reducible rfl
     simp only [sY]
     refine onl (i := 22) (some 123) (.buildSlice 80 1 #[(0, .const (.int .u8 255))]) 80 (fun K hK => ?_)
     unfold bareOp
     refine OpW.out (wp_of_run (run_lit_u8 _ _ _ _ _ 255 rfl) ?_)
     have F_t := Lh (ShI.lit1 .u8 wr.drew 255 5 wr.drew.heap.size rfl)
     have HAL := Lh (show Below wr.drew.heap.size wr.drew (wr.drew.alloc (.cells #[.int .u8 255] 5)) from (Below.refl _ _).alloc (Nat.le_refl _) _)
     replace HB := Lh (HB.o.keep HAL.o)
     replace HRW := Lh (HRW.o.keep HAL.o)
     replace F_g2 := Lh (F_g2.o.keep HAL.o)
     replace HBW := Lh (HBW.o.trans (HAL.o.mono HBW.o.size))
     clear hS0
     have hS0 := And.intro F_g2.o HBW.o
     refine hK.o _ _ (fun _ => hS0) ?_
     clear hK K
     try simp only [sY]
     refine onl (i := 23) (some 124) (.call { callee := .value (.func 79), args := #[.tmp 101, .tmp 102, .tmp 104, .tmp 105, .tmp 110, .tmp 116, .tmp 122, .tmp 123], argTypes := #[24, 22, 3, 22, 22, 22, 22, 80] }) 31 (fun K hK => ?_)
     unfold bareOp
     refine OpW.out (wp_of_enter (run_call _ _ _ _ 79 Tryz.func79 (vs := #[(.agg #[.int .u64 P, .int .u64 Q, .int .u64 G]), .int .u64 y, .int .i64 (m : Int), .int .u64 su, .int .u64 x0, .int .u64 x1, .int .u64 x2, .slice (some ⟨wr.drew.heap.size, 0, none⟩) 1 1]) (by simp only [List.map_toArray, List.map_cons, List.map_nil]; rfl) rfl (by kernel_rfl) (by kernel_rfl)) (rBitOf_any _ ⟨HT.o.below HBW.o, F_t.o, (by intro u hu; simp at hu; omega)⟩ HH.o (by omega) HYP.o HSU.o.1 HSU.o.2 HX.o.1.1 HX.o.1.2 HX.o.2.1.1 HX.o.2.1.2 HX.o.2.2.1 HX.o.2.2.2 (by decide) HM01.o HBZ.o) ?_)
     rintro e wb ⟨rfl, hbb⟩
     refine ⟨_, rfl, ?_⟩
     replace HB := Lh (HB.o.keep hbb)
     replace HRW := Lh (HRW.o.keep hbb)
     replace F_g2 := Lh (F_g2.o.keep hbb)
     replace HBW := Lh (HBW.o.trans (hbb.mono HBW.o.size))
     clear hbb hS0 F_t
     have hS0 := And.intro F_g2.o HBW.o
     refine hK.o _ _ lt8 ?_
     clear hK K
     try simp only [sY]
     refine tkP (i := 24) (some 125) (.fieldAddr 33 (.tmp 14) 3) 0 lt8 ?_
     simp only [sY]
     refine onl (i := 25) none (.store 31 (.tmp 125) (.tmp 124)) 0 (fun K hK => ?_)
     unfold bareOp
     refine wp_storeCl 31 (.tmp 125) (.tmp 124) wd.heap.size 3 (vcell (.slice a1 i c1) (.slice a2' i c2') true) [.int .u64 z.r0, .int .u64 z.r1, .int .u64 z.s0, .int .u64 z.s1, .int .u64 z.c0, .int .u64 z.c1, .int .u64 z.z0, .int .u64 z.z1] [.slice a1 i c1, .slice a2' i c2', .bool true, .int .u64 z.r0, .int .u64 z.r1, .int .u64 z.s0, .int .u64 z.s1, .int .u64 z.c0, .int .u64 z.c1, .int .u64 z.z0, .int .u64 z.z1] rfl rfl rfl (by kernel_rfl) (by intro u hu; simp at hu; rcases hu with rfl | rfl | rfl | rfl | rfl | rfl | rfl | rfl <;> rfl) HB.o.v (by simp [vcell]) rfl ?_
     intro wa hca hga hza
     have F_v := Lh hca
     have F_r := Lh (HB.o.r.gro hga (by have := HB.o.zk; omega))
     have HKD := Lh (HB.o.kd.trans (hga.blw (n := wd.heap.size) (Nat.le_refl _) HB.o.kd.size))
     have HKM := Lh (show ∀ k, wd.heap.size < k → k < w5.heap.size → wa.heap[k]? = w5.heap[k]? from fun k h1 h2 => (hga.block k (by have := HB.o.zr; omega) (by intro e; injection e with e; omega)).trans (HB.o.km k h1 h2))
     have HZR := Lh (show w5.heap.size < wa.heap.size by rw [hza]; exact HB.o.zr)
     replace HRW := Lh (show SlR w5 wa _ _ _ _ _ _ _ from ⟨own_gro HRW.o.ha hga (by have := HZ5.o; omega), own_gro HRW.o.hb hga (by have := HZ5.o; omega), own_gro HRW.o.hr hga (by have := HZ5.o; omega)⟩)
     clear hca hga hza hS0 HB F_g2 HBW
     refine hK.o _ _ lt8 ?_
     clear hK K
     try simp only [sY]
     refine wpAnyB_done (by kernel_rfl) ?_ _
     go_wp2_with fail
     replace F_o := Lh ((F_o.o.keep HKD.o).drew)
     replace F_q := Lh ((F_q.o.keep HKD.o).drew)
     have HMS := Lh (show ShI .i64 wa.drew am m ms ∧ ∀ s o, am = some ⟨s, o, none⟩ → wd.heap.size < s ∧ s < wa.drew.heap.size from ⟨(ShI.blocks (w' := wa) HMC.o.1 (fun s o h => ⟨HKM.o s (HMC.o.2.2 s o h).1 (HMC.o.2.2 s o h).2, Nat.lt_trans (HMC.o.2.2 s o h).2 HZR.o⟩)).keep (Below.refl _ _).drew, fun s o h => ⟨(HMC.o.2.2 s o h).1, Nat.lt_trans (HMC.o.2.2 s o h).2 (show w5.heap.size < _ from HZR.o)⟩⟩)
     have HBE := Lh ((HBD.o.trans (HKD.o.mono HBD.o.size)).drew)
     replace F_v := Lh F_v.o.drew
     replace F_r := Lh F_r.o.drew
     replace HRW := Lh (HRW.o.keep (Below.refl _ _).drew)
     clear HKD HKM
     have hS0 := And.intro F_v.o F_r.o
     refine wp_region_stage 3 (fun w' => Cl w' wd.heap.size [.slice a1 i c1, .slice a2' i c2', .bool true, .int .u64 z.r0, .int .u64 z.r1, .int .u64 z.s0, .int .u64 z.s1, .int .u64 z.c0, .int .u64 z.c1, .int .u64 z.z0, .int .u64 z.z1] ∧ Cl w' w5.heap.size [.slice am m cm, .slice a3 i c3]) (by kernel_rfl) ?_
     refine tkL (i := 0) (some 126) (.load 33 (.tmp 14)) 33 [2, 3] (v := ?_) hS0 (fun w' hSw => ?_) ?_
     rotate_left
     · obtain ⟨t1, t2⟩ := hSw; obtain ⟨⟨q0, q1, q2, q3, q4, q5, q6, q7, q8, q9, q10⟩, -⟩ := t1.k11
       unfold bareOp; go_simp; try with_reducible rfl
     simp only [sY]
     refine tkL (i := 1) (some 127) (.load 36 (.tmp 15)) 36 [3] (v := ?_) hS0 (fun w' hSw => ?_) ?_
     rotate_left
     · obtain ⟨t1, t2⟩ := hSw; have q0 := t2.c 0 _ rfl; have q1 := t2.c 1 _ rfl
       unfold bareOp; go_simp; try with_reducible rfl
     simp only [sY]
     refine onl (i := 2) none (.store 33 (.tmp 12) (.tmp 126)) 0 (fun K hK => ?_)
     unfold bareOp
     refine wp_storeCl 33 (.tmp 12) (.tmp 126) (w.heap.size + 1) 0 [.slice none 0 0, .slice none 0 0, .bool false, .int .u64 0, .int .u64 0, .int .u64 0, .int .u64 0, .int .u64 0, .int .u64 0, .int .u64 0, .int .u64 0] [.slice a1 i c1, .slice a2' i c2', .bool true, .int .u64 z.r0, .int .u64 z.r1, .int .u64 z.s0, .int .u64 z.s1, .int .u64 z.c0, .int .u64 z.c1, .int .u64 z.z0, .int .u64 z.z1] [.slice a1 i c1, .slice a2' i c2', .bool true, .int .u64 z.r0, .int .u64 z.r1, .int .u64 z.s0, .int .u64 z.s1, .int .u64 z.c0, .int .u64 z.c1, .int .u64 z.z0, .int .u64 z.z1] rfl rfl rfl (by kernel_rfl) (by intro u hu; simp at hu; rcases hu with rfl | rfl | rfl | rfl | rfl | rfl | rfl | rfl | rfl | rfl | rfl <;> rfl) F_o.o (by simp) rfl ?_
     intro wa2 hca hga hza
     replace F_o := Lh hca
     replace F_q := Lh (F_q.o.gro hga (by have := HZD.o; have := HZ5.o; omega))
     replace F_v := Lh (F_v.o.gro hga (by have := HZD.o; have := HZ5.o; omega))
     replace F_r := Lh (F_r.o.gro hga (by have := HZD.o; have := HZ5.o; omega))
     replace HBE := Lh (HBE.o.trans (hga.blw (n := w.heap.size) (by have := HZD.o; have := HZ5.o; omega) HBE.o.size))
     replace HMS := Lh (show ShI .i64 wa2 am m ms ∧ ∀ s o, am = some ⟨s, o, none⟩ → wd.heap.size < s ∧ s < wa2.heap.size from And.intro (HMS.o.1.blocks (fun s o h => ⟨hga.block s (HMS.o.2 s o h).2 (by have := (HMS.o.2 s o h).1; intro e; injection e with e; have := HZD.o; have := HZ5.o; omega), by rw [hza]; exact (HMS.o.2 s o h).2⟩)) (fun s o h => ⟨(HMS.o.2 s o h).1, by rw [hza]; exact (HMS.o.2 s o h).2⟩))
     replace HRW := Lh (show SlR w5 _ _ _ _ _ _ _ _ from ⟨own_gro HRW.o.ha hga (by have := HZD.o; have := HZ5.o; omega), own_gro HRW.o.hb hga (by have := HZD.o; have := HZ5.o; omega), own_gro HRW.o.hr hga (by have := HZD.o; have := HZ5.o; omega)⟩)
     clear hca hga hza hS0
     have hS0 := And.intro F_v.o F_r.o
     refine hK.o _ _ (fun _ => hS0) ?_
     clear hK K
     try simp only [sY]
     refine onl (i := 3) none (.store 36 (.tmp 13) (.tmp 127)) 0 (fun K hK => ?_)
     unfold bareOp
     refine wp_storeCl 36 (.tmp 13) (.tmp 127) (w.heap.size + 1 + 1) 0 [.slice none 0 0, .slice none 0 0] [.slice am m cm, .slice a3 i c3] [.slice am m cm, .slice a3 i c3] rfl rfl rfl (by kernel_rfl) (by intro u hu; simp at hu; rcases hu with rfl | rfl <;> rfl) F_q.o (by simp) rfl ?_
     intro wa3 hca hga hza
     replace F_q := Lh hca
     replace F_o := Lh (F_o.o.gro hga (by have := HZD.o; have := HZ5.o; omega))
     replace F_v := Lh (F_v.o.gro hga (by have := HZD.o; have := HZ5.o; omega))
     replace F_r := Lh (F_r.o.gro hga (by have := HZD.o; have := HZ5.o; omega))
     replace HBE := Lh (HBE.o.trans (hga.blw (n := w.heap.size) (by have := HZD.o; have := HZ5.o; omega) HBE.o.size))
     replace HMS := Lh (show ShI .i64 wa3 am m ms ∧ ∀ s o, am = some ⟨s, o, none⟩ → wd.heap.size < s ∧ s < wa3.heap.size from And.intro (HMS.o.1.blocks (fun s o h => ⟨hga.block s (HMS.o.2 s o h).2 (by have := (HMS.o.2 s o h).1; intro e; injection e with e; have := HZD.o; have := HZ5.o; omega), by rw [hza]; exact (HMS.o.2 s o h).2⟩)) (fun s o h => ⟨(HMS.o.2 s o h).1, by rw [hza]; exact (HMS.o.2 s o h).2⟩))
     replace HRW := Lh (show SlR w5 _ _ _ _ _ _ _ _ from ⟨own_gro HRW.o.ha hga (by have := HZD.o; have := HZ5.o; omega), own_gro HRW.o.hb hga (by have := HZD.o; have := HZ5.o; omega), own_gro HRW.o.hr hga (by have := HZD.o; have := HZ5.o; omega)⟩)
     clear hca hga hza hS0
     have hS0 := And.intro F_v.o F_r.o
     refine hK.o _ _ lt8 ?_
     clear hK K
     try simp only [sY]
     refine wpAnyB_done (by kernel_rfl) ?_ _
     go_wp2_with fail
     obtain ⟨_, _, e1, hs1, -⟩ := ShS.of_owned2 HRW.o.ha
     obtain ⟨_, _, e2, hs2, -⟩ := ShB.of_owned2 HRW.o.hb
     obtain ⟨_, _, e3, hs3, -⟩ := ShI.of_owned2 HRW.o.hr
     injection e1 with e1a _ _
     injection e2 with e2a _ _
     injection e3 with e3a _ _
     subst e1a e2a e3a
     refine bodyPost_ret (res_sealed rfl F_o.o F_q.o _ rfl rfl) rfl ?_
     obtain ⟨f1, f2, f3⟩ := seal_fin (one := true) (z := z) (c1 := c1) (c2 := c2') (c3 := c3) (mc := cm) HF.o HH.o (by omega) HYP.o HD.o hs1 HK123.o.1 hs2 HK123.o.2.1 HMS.o.1 HMC.o.2.1 HUM.o HLM.o hs3 HK123.o.2.2 HZF.o
     have HHI := Lh (show HiV w.heap.size ⟨a1, i, c1, bs, a2', i, c2', ps, true, z⟩ ⟨am, m, cm, ms, a3, i, c3, nsI d i⟩ from ⟨fun s o h => by have := (World.ownsRow.lt HRW.o.ha s (by rw [show a1 = some ⟨s, o, none⟩ from h]; rfl)).1; have := HZD.o; have := HZ5.o; omega, fun s o h => by have := (World.ownsRow.lt HRW.o.hb s (by rw [show a2' = some ⟨s, o, none⟩ from h]; rfl)).1; have := HZD.o; have := HZ5.o; omega, fun s o h => by have := (HMS.o.2 s o h).1; have := HZD.o; omega, fun s o h => by have := (World.ownsRow.lt HRW.o.hr s (by rw [show a3 = some ⟨s, o, none⟩ from h]; rfl)).1; have := HZD.o; have := HZ5.o; omega⟩)
     exact ⟨⟨_, _, rfl, f1, f2, f3, HHI.o⟩, HBE.o⟩
end Go.Proofs.YtlbldpkgnonbpaaGreatDoor
