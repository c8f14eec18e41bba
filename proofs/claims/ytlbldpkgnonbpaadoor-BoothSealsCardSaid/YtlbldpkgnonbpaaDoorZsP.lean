/- booth.Read. -/
import Derived.Test.YtlbldpkgnonbpaaDoorZsM
import Derived.Deep.MidRow
import Derived.Laws.StructEq
import Derived.Test.YtlbldpkgnonbpaaDoorZsN
import Derived.Test.YtlbldpkgnonbpaaDoorZsO
import Derived.Deep.Cut
namespace Go.Proofs.YtlbldpkgnonbpaaDoor
open Go Go.RowKit Num Sha
set_option linter.unusedSimpArgs false
set_option linter.unusedVariables false

theorem Gro.puts {r : Nat} {a : World} (k : Nat) (vs : List Value) (p : Nat) (hp : p = r ∨ a.heap.size ≤ p) : ∀ (b : World) (o : Nat), Gro r a b → Gro r a (b.setCells p o vs) := by
  induction vs with
  | nil => intro b o h; exact h
  | cons v vs ih => intro b o h; exact ih _ _ (h.set ⟨p, o, none⟩ hp v)
theorem Cl.range {w : World} {B : Nat} {l : List Value} (h : Cl w B l) : w.rangeAt B 0 l := fun j v hv => by rw [Nat.zero_add]; exact h.c j v hv
theorem Cl.there {w : World} {B : Nat} {l : List Value} (h : Cl w B l) (k n : Nat) (hk : k + n ≤ l.length) : w.there B k n := fun j hj =>
  ⟨by rw [h.c (k + j) _ (List.getElem?_eq_getElem (by omega))]; rfl, h.f _⟩
theorem Cl.puts {w : World} {B : Nat} {l m : List Value} (h : Cl w B l) (k : Nat) (vs : List Value) (hk : k + vs.length ≤ l.length) (hm : l.take k ++ vs ++ l.drop (k + vs.length) = m) : Cl (w.setCells B k vs) B m := by
  subst hm
  have ht := h.there k vs.length hk
  refine ⟨fun i u hu => ?_, fun i => by rw [World.frozen?_setCells]; exact h.f i, ?_⟩
  · by_cases h1 : i < k
    · rw [List.append_assoc, List.getElem?_append_left (by rw [List.length_take]; omega), List.getElem?_take_of_lt h1] at hu
      rw [World.cell?_setCells_out B vs k w ⟨B, i, none⟩ (fun _ _ => .inl h1)]
      exact h.c i u hu
    · by_cases h2 : i < k + vs.length
      · rw [List.getElem?_append_left (by rw [List.length_append, List.length_take]; omega), List.getElem?_append_right (by rw [List.length_take]; omega), List.length_take, show min k l.length = k by omega] at hu
        obtain ⟨j, rfl⟩ : ∃ j, i = k + j := ⟨i - k, by omega⟩
        rw [show k + j - k = j by omega] at hu
        exact World.rangeAt_setCells_same w B k vs ht j u hu
      · rw [List.getElem?_append_right (by rw [List.length_append, List.length_take]; omega), List.length_append, List.length_take, show min k l.length = k by omega, List.getElem?_drop, show k + vs.length + (i - (k + vs.length)) = i by omega] at hu
        rw [World.cell?_setCells_out B vs k w ⟨B, i, none⟩ (fun _ _ => .inr (by show k + vs.length ≤ i; omega))]
        exact h.c i u hu
  · exact Nat.lt_of_lt_of_le h.lt ((Gro.puts (r := B) k vs B (.inl rfl) w k (Gro.refl _ _)).size)
theorem wpL_storeCl {P : Program} {w : World} {o : Oper} {ops : Array Oper} {rest : List Oper} {a : Act} {Q : Exit → Act → World → Prop} (hgd : o.guard = none) (t : TypeId) (p v : Operand) (b k : Nat) (l vs m : List Value) (ho : o.op = .store t p v) (hd : o.dst = none)
    (hp : a.eval p = .pointer (some ⟨b, k, none⟩)) (hv : a.eval v = .agg vs.toArray) (hi : (P.info? t).map (·.size) = some vs.length) (h1 : ∀ u, u ∈ vs → u.oneCell' = true) (hC : Cl w b l) (hk : k + vs.length ≤ l.length) (hm : l.take k ++ vs ++ l.drop (k + vs.length) = m)
    (h : ∀ w', Cl w' b m → Gro b w w' → w'.heap.size = w.heap.size → wpList P ops Q rest a w') : wpList P ops Q (o :: rest) a w := by
  refine wpList_store_mid hgd t p v ho b k vs.toArray hp hv (by simpa using hC.there k vs.length hk) (by simpa using hi) (all_oneCell_toArray h1) ?_
  have := h _ (hC.puts k vs hk hm) (Gro.puts k vs b (.inl rfl) w k (Gro.refl _ _)) (size_setCells b vs k w)
  rw [hd]
  exact this
theorem wpL_loadCl {P : Program} {w : World} {o : Oper} {ops : Array Oper} {rest : List Oper} {a : Act} {Q : Exit → Act → World → Prop} (hgd : o.guard = none) (t : TypeId) (p : Operand) (b : Nat) (l : List Value) (ho : o.op = .load t p)
    (hp : a.eval p = .pointer (some ⟨b, 0, none⟩)) (d : TypeDesc) (hu : P.underlying t = some d) (hd : d.isRow = true) (hi : (P.info? t).map (·.size) = some l.length) (hC : Cl w b l)
    (h : wpList P ops Q rest (a.put o.dst (.agg l.toArray)) w) : wpList P ops Q (o :: rest) a w :=
  wpList_load_mid hgd t p ho b 0 hp l d hC.range hu hd hi h
theorem ShS.of_owned2 {w : World} {base : Nat} {e : TypeId} {v : Value} {n : Nat} {ps : List (Int × Int)} (h : w.ownsRow base e 2 v n (flatS ps)) : ∃ a c, v = .slice a n c ∧ ShS w a n ps ∧ (a = none → c = 0) := by
  obtain ⟨a, c, rfl, h1⟩ := ShS.of_owned h
  refine ⟨a, c, rfl, h1, fun e => ?_⟩
  subst e
  rcases h.2 with ⟨h2, _⟩ | ⟨g, cap, cur, h2, _⟩
  · injection h2
  · injection h2 with h3; cases h3
theorem ShB.of_owned2 {w : World} {base : Nat} {e : TypeId} {v : Value} {n : Nat} {ps : List Bt} (h : w.ownsRow base e 8 v n (flatB ps)) : ∃ a c, v = .slice a n c ∧ ShB w a n ps ∧ (a = none → c = 0) := by
  obtain ⟨a, c, rfl, h1⟩ := ShB.of_owned h
  refine ⟨a, c, rfl, h1, fun e => ?_⟩
  subst e
  rcases h.2 with ⟨h2, _⟩ | ⟨g, cap, cur, h2, _⟩
  · injection h2
  · injection h2 with h3; cases h3
theorem Rd.start {w0 W : World} {B n c : Nat} {a : Option Addr} {xs : List Int} (hx : RBox W B (.slice a n c)) (hS : ShI .u8 w0 a n xs) (h : n ≤ c) : Rd w0 W B xs := by
  obtain rfl := hS.len
  exact ⟨a, c, hx, hS, h⟩
end Go.Proofs.YtlbldpkgnonbpaaDoor
namespace Go.Proofs.YtlbldpkgnonbpaaDoor
open Go Go.RowKit Num Sha
set_option linter.unusedSimpArgs false
set_option linter.unusedVariables false

end Go.Proofs.YtlbldpkgnonbpaaDoor
namespace Go.Proofs.YtlbldpkgnonbpaaDoor
open Go Go.RowKit Num Sha
set_option linter.unusedSimpArgs false
set_option linter.unusedVariables false

end Go.Proofs.YtlbldpkgnonbpaaDoor
namespace Go.Proofs.YtlbldpkgnonbpaaDoor
open Go Go.RowKit Num Sha
set_option linter.unusedSimpArgs false
set_option linter.unusedVariables false
theorem eq_p64d (n : Nat) (a b c d : Int) (w : World) : (Op.equalIn (n + 2) 25 (.agg #[.int .u64 a, .int .u64 b]) (.agg #[.int .u64 c, .int .u64 d])).run Tryd.prog w = .ok (a == c && b == d) w := by
  have u3 := Tryd.underlying24
  have a3 := Tryd.isAgg24
  have z3 := Tryd.sizeOf24
  rw [Op.equalIn]
  simp only [Sem.run_bind, run_underlying Tryd.underlying25, Result.andThen_ok]
  simp only [Std.Legacy.Range.forIn_eq_forIn_range', Std.Legacy.Range.size, Nat.sub_zero, Nat.add_sub_cancel, Nat.div_one, List.range'_succ, List.range'_zero, List.forIn_cons, List.forIn_nil]
  go_simp
  by_cases h1 : a = c <;> by_cases h2 : b = d <;> simp [h1, h2]
def greatV (V : Vt) : Bool := decide (20 < V.n) || decide (20 < V.m)

end Go.Proofs.YtlbldpkgnonbpaaDoor
namespace Go.Proofs.YtlbldpkgnonbpaaDoor
open Go Go.RowKit Num Sha
set_option linter.unusedSimpArgs false
set_option linter.unusedVariables false

theorem Bt.u.nn {z : Bt} (h : z.u) : 0 ≤ z.r0 ∧ 0 ≤ z.r1 ∧ 0 ≤ z.s0 ∧ 0 ≤ z.s1 ∧ 0 ≤ z.c0 ∧ 0 ≤ z.c1 ∧ 0 ≤ z.z0 ∧ 0 ≤ z.z1 := by
  obtain ⟨h0, h1, h2, h3, h4, h5, h6, h7⟩ := h
  exact ⟨h0.1, h1.1, h2.1, h3.1, h4.1, h5.1, h6.1, h7.1⟩
theorem ShI.lit1 (q : IntKind) (w : World) (x : Int) (T : TypeId) (s : Nat) (hs : s = w.heap.size) : ShI q (w.alloc (.cells #[.int q x] T)) (some ⟨s, 0, none⟩) 1 [x] :=
  .inr ⟨s, 0, rfl, rfl, by subst hs; simp, fun i hi => by rw [Nat.zero_add]; exact (Arr.new q w [x] T s hs).c i hi⟩
def provB (P Q G y a b : Int) (z : Bt) (x : Int) : Prop :=
  askS P Q G [z.c0, z.c1, z.z0, z.z1] [y, a, b, z.r0, z.r1, z.s0, z.s1] = 0 ∧ bvP P Q G y a b z.r0 z.r1 z.s0 z.s1 z.c0 z.c1 z.z0 z.z1 [x]

set_option maxRecDepth 100000 in
set_option maxHeartbeats 8000000 in
theorem proved_any {P Q G y a b x : Int} {z : Bt} {v : Bool} (w : World) (hT : Tabs w) (hP : 0 ≤ P) (hQ : 0 ≤ Q) (hG : 0 ≤ G) (hy : 0 ≤ y) (ha : 0 ≤ a) (hb : 0 ≤ b) (hz : z.u) (hx0 : 0 ≤ x) (hx1 : x < 256) (hv : v = true ↔ provB P Q G y a b z x) :
    Calls Tryd.prog 88 #[.agg #[.int .u64 P, .int .u64 Q, .int .u64 G], .int .u64 y, .agg #[.int .u64 a, .int .u64 b], .agg #[.int .u64 z.r0, .int .u64 z.r1, .int .u64 z.s0, .int .u64 z.s1, .int .u64 z.c0, .int .u64 z.c1, .int .u64 z.z0, .int .u64 z.z1], .int .u8 x] w fun e w' => e = .returned (.bool v) ∧ Below w.heap.size w w' := by
  have HT := Lib.hid hT
  obtain ⟨n0, n1, n2, n3, n4, n5, n6, n7⟩ := hz.nn
  have HV := Lib.hid hv
  have F_g := Lib.hid (show Cl (((w.alloc (.cells #[.int .u64 P, .int .u64 Q, .int .u64 G] 49)).alloc (.cells #[.int .u64 a, .int .u64 b] 78)).alloc (.cells #[.int .u64 z.r0, .int .u64 z.r1, .int .u64 z.s0, .int .u64 z.s1, .int .u64 z.c0, .int .u64 z.c1, .int .u64 z.z0, .int .u64 z.z1] 27)) w.heap.size [.int .u64 P, .int .u64 Q, .int .u64 G] from ((Cl.at w [.int .u64 P, .int .u64 Q, .int .u64 G] _ w.heap.size rfl).alloc _).alloc _)
  have F_s := Lib.hid (show Cl (((w.alloc (.cells #[.int .u64 P, .int .u64 Q, .int .u64 G] 49)).alloc (.cells #[.int .u64 a, .int .u64 b] 78)).alloc (.cells #[.int .u64 z.r0, .int .u64 z.r1, .int .u64 z.s0, .int .u64 z.s1, .int .u64 z.c0, .int .u64 z.c1, .int .u64 z.z0, .int .u64 z.z1] 27)) (w.heap.size + 1) [.int .u64 a, .int .u64 b] from (Cl.at (w.alloc (.cells #[.int .u64 P, .int .u64 Q, .int .u64 G] 49)) [.int .u64 a, .int .u64 b] _ (w.heap.size + 1) (by simp)).alloc _)
  have F_z := Lib.hid (show Cl (((w.alloc (.cells #[.int .u64 P, .int .u64 Q, .int .u64 G] 49)).alloc (.cells #[.int .u64 a, .int .u64 b] 78)).alloc (.cells #[.int .u64 z.r0, .int .u64 z.r1, .int .u64 z.s0, .int .u64 z.s1, .int .u64 z.c0, .int .u64 z.c1, .int .u64 z.z0, .int .u64 z.z1] 27)) (w.heap.size + 1 + 1) [.int .u64 z.r0, .int .u64 z.r1, .int .u64 z.s0, .int .u64 z.s1, .int .u64 z.c0, .int .u64 z.c1, .int .u64 z.z0, .int .u64 z.z1] from Cl.at ((w.alloc (.cells #[.int .u64 P, .int .u64 Q, .int .u64 G] 49)).alloc (.cells #[.int .u64 a, .int .u64 b] 78)) [.int .u64 z.r0, .int .u64 z.r1, .int .u64 z.s0, .int .u64 z.s1, .int .u64 z.c0, .int .u64 z.c1, .int .u64 z.z0, .int .u64 z.z1] _ (w.heap.size + 1 + 1) (by simp))
  have HBW := Lib.hid (show Below w.heap.size w (((w.alloc (.cells #[.int .u64 P, .int .u64 Q, .int .u64 G] 49)).alloc (.cells #[.int .u64 a, .int .u64 b] 78)).alloc (.cells #[.int .u64 z.r0, .int .u64 z.r1, .int .u64 z.s0, .int .u64 z.s1, .int .u64 z.c0, .int .u64 z.c1, .int .u64 z.z0, .int .u64 z.z1] 27)) from (((Below.refl _ _).alloc (Nat.le_refl _) _).alloc (by simp) _).alloc (by simp <;> omega) _)
  have HX := Lib.hid (show Txt ((((w.alloc (.cells #[.int .u64 P, .int .u64 Q, .int .u64 G] 49)).alloc (.cells #[.int .u64 a, .int .u64 b] 78)).alloc (.cells #[.int .u64 z.r0, .int .u64 z.r1, .int .u64 z.s0, .int .u64 z.s1, .int .u64 z.c0, .int .u64 z.c1, .int .u64 z.z0, .int .u64 z.z1] 27)).alloc (.cells #[.int .u8 x] 5)) (some ⟨w.heap.size + 1 + 1 + 1, 0, none⟩) 1 [x] from
    ⟨(HT.out.below HBW.out).below ((Below.refl _ _).alloc (Nat.le_refl _) _), ShI.lit1 .u8 _ x _ _ (by simp), fun u hu => by simp at hu; subst hu; exact ⟨hx0, hx1⟩⟩)
  obtain ⟨v', e', hR⟩ := RetB.exists (lgS (askS P Q G [z.c0, z.c1, z.z0, z.z1] [y, a, b, z.r0, z.r1, z.s0, z.s1]) 1) (bvP P Q G y a b z.r0 z.r1 z.s0 z.s1 z.c0 z.c1 z.z0 z.z1 [x])
  have HR := Lib.hid hR
  clear hT hz hv hR
  have g0 := F_g.out.c 0 _ rfl
  have g1 := F_g.out.c 1 _ rfl
  have g2 := F_g.out.c 2 _ rfl
  have s0 := F_s.out.c 0 _ rfl
  have s1 := F_s.out.c 1 _ rfl
  have z0 := F_z.out.c 0 _ rfl
  have z1 := F_z.out.c 1 _ rfl
  have z2 := F_z.out.c 2 _ rfl
  have z3 := F_z.out.c 3 _ rfl
  have z4 := F_z.out.c 4 _ rfl
  have z5 := F_z.out.c 5 _ rfl
  have z6 := F_z.out.c 6 _ rfl
  have z7 := F_z.out.c 7 _ rfl
  go_enter Tryd.func88, Tryd.ntmps88
  go_wp2_with fail
  clear g0 g1 g2 s0 s1 z0 z1 z2 z3 z4 z5 z6 z7
  refine (pbitVerify_any _ HX.out hP hQ hG hy ha hb n0 n1 n2 n3 n4 n5 n6 n7 (by decide) HR.out).mono ?_
  rintro e w5 ⟨rfl, hb5⟩
  have HB5 := Lib.hid ((HBW.out.alloc HBW.out.size (.cells #[.int .u8 x] 5)).trans (hb5.mono (by simp; omega)))
  clear hb5
  rcases HR.out with ⟨h1, h2, rfl⟩ | ⟨h1, rfl, rfl⟩
  · have HE := Lib.hid (show v' = v by
      have h3 : provB P Q G y a b z x ↔ v' = true := ⟨fun h => h2.2 h.2, fun h => ⟨(lgS_zero h1).1, h2.1 h⟩⟩
      have h4 := HV.out.trans h3
      cases v <;> cases v' <;> simp_all)
    clear h1 h2
    go_wp2_with fail
    go_ret
    exact ⟨by rw [HE.out]; rfl, HB5.out⟩
  · have HE := Lib.hid (show v = false by
      cases v with
      | false => rfl
      | true => exact absurd (show lgS (askS P Q G [z.c0, z.c1, z.z0, z.z1] [y, a, b, z.r0, z.r1, z.s0, z.s1]) 1 = 0 by unfold lgS; rw [if_pos (HV.out.1 rfl).1]; rfl) h1)
    go_wp2_with fail
    go_ret
    exact ⟨by rw [HE.out]; rfl, HB5.out⟩
end Go.Proofs.YtlbldpkgnonbpaaDoor
namespace Go.Proofs.YtlbldpkgnonbpaaDoor
open Go Go.RowKit Num Sha
set_option linter.unusedSimpArgs false
set_option linter.unusedVariables false

theorem fields_bit : (Tryd.prog.fieldsOf 27).toList.map (fun f => (f.name, f.type, f.offset)) = [("R", 25, 0), ("S", 25, 2), ("C", 25, 4), ("Z", 25, 6)] := by kernel_rfl
set_option maxRecDepth 100000 in
set_option maxHeartbeats 4000000 in
theorem eq_bit2 (z x : Bt) (b : Bool) (hb : b = true ↔ z = x) (w : World) : (Op.equalIn 10000 27 (.agg #[.int .u64 z.r0, .int .u64 z.r1, .int .u64 z.s0, .int .u64 z.s1, .int .u64 z.c0, .int .u64 z.c1, .int .u64 z.z0, .int .u64 z.z1]) (.agg #[.int .u64 x.r0, .int .u64 x.r1, .int .u64 x.s0, .int .u64 x.s1, .int .u64 x.c0, .int .u64 x.c1, .int .u64 x.z0, .int .u64 x.z1])).run Tryd.prog w = .ok b w := by
  have hu : Tryd.prog.underlying 27 = some (.struct (Tryd.prog.fieldsOf 27)) := by kernel_rfl
  rw [show (10000 : Nat) = 9999 + 1 from rfl, run_equalIn_struct w 9999 27 _ _ hu (by kernel_rfl)]
  have hf := fields_bit
  have ua := Tryd.isAgg25
  have za := Tryd.sizeOf25
  have hq : ∀ a b c d : Int, (Op.equalIn 9999 25 (.agg #[.int .u64 a, .int .u64 b]) (.agg #[.int .u64 c, .int .u64 d])).run Tryd.prog w = .ok (a == c && b == d) w := fun a b c d => eq_p64d 9997 a b c d w
  generalize (Tryd.prog.fieldsOf 27).toList = FF at hf ⊢
  have hl : FF.length = 4 := by have := congrArg List.length hf; simpa using this
  obtain ⟨f0, f1, f2, f3, rfl⟩ : ∃ f0 f1 f2 f3, FF = [f0, f1, f2, f3] := by
    match FF, hl with
    | [a, b, c, d], _ => exact ⟨a, b, c, d, rfl⟩
  simp only [List.map_cons, List.map_nil, List.cons.injEq, Prod.mk.injEq, and_true] at hf
  obtain ⟨⟨e0, e1, e2⟩, ⟨e3, e4, e5⟩, ⟨e6, e7, e8⟩, e9, e10, e11⟩ := hf
  have p0 : ∀ s : Bt, (part 25 #[.int .u64 s.r0, .int .u64 s.r1, .int .u64 s.s0, .int .u64 s.s1, .int .u64 s.c0, .int .u64 s.c1, .int .u64 s.z0, .int .u64 s.z1] 0).run Tryd.prog w = .ok (.agg #[.int .u64 s.r0, .int .u64 s.r1]) w := fun s => by go_simp
  have p2 : ∀ s : Bt, (part 25 #[.int .u64 s.r0, .int .u64 s.r1, .int .u64 s.s0, .int .u64 s.s1, .int .u64 s.c0, .int .u64 s.c1, .int .u64 s.z0, .int .u64 s.z1] 2).run Tryd.prog w = .ok (.agg #[.int .u64 s.s0, .int .u64 s.s1]) w := fun s => by go_simp
  have p4 : ∀ s : Bt, (part 25 #[.int .u64 s.r0, .int .u64 s.r1, .int .u64 s.s0, .int .u64 s.s1, .int .u64 s.c0, .int .u64 s.c1, .int .u64 s.z0, .int .u64 s.z1] 4).run Tryd.prog w = .ok (.agg #[.int .u64 s.c0, .int .u64 s.c1]) w := fun s => by go_simp
  have p6 : ∀ s : Bt, (part 25 #[.int .u64 s.r0, .int .u64 s.r1, .int .u64 s.s0, .int .u64 s.s1, .int .u64 s.c0, .int .u64 s.c1, .int .u64 s.z0, .int .u64 s.z1] 6).run Tryd.prog w = .ok (.agg #[.int .u64 s.z0, .int .u64 s.z1]) w := fun s => by go_simp
  have hb' : b = (((z.r0 == x.r0 && z.r1 == x.r1) && (z.s0 == x.s0 && z.s1 == x.s1)) && ((z.c0 == x.c0 && z.c1 == x.c1) && (z.z0 == x.z0 && z.z1 == x.z1))) := by
    rw [Bool.eq_iff_iff, hb]
    obtain ⟨z0, z1, z2, z3, z4, z5, z6, z7⟩ := z
    obtain ⟨x0, x1, x2, x3, x4, x5, x6, x7⟩ := x
    simp only [Bt.mk.injEq, Bool.and_eq_true, beq_iff_eq]
    constructor
    · rintro ⟨h0, h1, h2, h3, h4, h5, h6, h7⟩; exact ⟨⟨⟨h0, h1⟩, h2, h3⟩, ⟨h4, h5⟩, h6, h7⟩
    · rintro ⟨⟨⟨h0, h1⟩, h2, h3⟩, ⟨h4, h5⟩, h6, h7⟩; exact ⟨h0, h1, h2, h3, h4, h5, h6, h7⟩
  subst hb'
  simp only [Op.eqFields, e0, e1, e2, e3, e4, e5, e6, e7, e8, e9, e10, e11]
  rw [if_pos (by decide), if_pos (by decide), if_pos (by decide), if_pos (by decide)]
  simp only [Sem.run_bind, Sem.run_ite, Sem.run_pure, p0, p2, p4, p6, hq, Result.andThen_ok]
  generalize (z.r0 == x.r0 && z.r1 == x.r1) = b0
  generalize (z.s0 == x.s0 && z.s1 == x.s1) = b1
  generalize (z.c0 == x.c0 && z.c1 == x.c1) = b2
  generalize (z.z0 == x.z0 && z.z1 == x.z1) = b3
  cases b0 <;> cases b1 <;> cases b2 <;> cases b3 <;> simp
def validP (P Q G y : Int) (n : Nat) (V : Vt) : Prop := V.n = n ∧ V.m = n ∧ (∀ i, i < n → provB P Q G y (V.bs.getD i (0, 0)).1 (V.bs.getD i (0, 0)).2 (V.ps.getD i Bt.zero) (i : Int)) ∧
  ((V.one = true ∧ okS P V.bs = true ∧ provB P Q G y (allP P V.bs).1 (allP P V.bs).2 V.z 255) ∨ (V.one = false ∧ V.z = Bt.zero))
theorem boolP {v : Bool} {p : Prop} (hv : v = true ↔ p) (h : ¬ p) : v = false := by
  cases v with
  | false => rfl
  | true => exact absurd (hv.1 rfl) h
theorem Prop.bool (p : Prop) : ∃ v : Bool, v = true ↔ p := by
  by_cases h : p
  · exact ⟨true, by simp [h]⟩
  · exact ⟨false, by simp [h]⟩
theorem emod_nn {a P : Int} (ha : 0 ≤ a) (hP : 0 ≤ P) : 0 ≤ a % P := by
  by_cases h : P = 0
  · subst h; simpa using ha
  · exact Int.emod_nonneg _ h
theorem allP_nn {P : Int} (hP : 0 ≤ P) (ps : List (Int × Int)) (h : ∀ p, p ∈ ps → 0 ≤ p.1 ∧ 0 ≤ p.2) : 0 ≤ (allP P ps).1 ∧ 0 ≤ (allP P ps).2 := by
  suffices hs : ∀ (l : List (Int × Int)) (x : Int × Int), 0 ≤ x.1 → 0 ≤ x.2 → (∀ p, p ∈ l → 0 ≤ p.1 ∧ 0 ≤ p.2) → 0 ≤ (l.foldl (plusP P) x).1 ∧ 0 ≤ (l.foldl (plusP P) x).2 from hs ps (1, 1) (by decide) (by decide) h
  intro l
  induction l with
  | nil => intro x h1 h2 _; exact ⟨h1, h2⟩
  | cons p l ih =>
    intro x h1 h2 h3
    rw [List.foldl_cons]
    have h4 := h3 p (by simp)
    have e1 : 0 ≤ x.1 * p.1 := Int.mul_nonneg h1 h4.1
    have e2 : 0 ≤ x.2 * p.2 := Int.mul_nonneg h2 h4.2
    exact ih _ (by unfold plusP; exact emod_nn e1 hP) (by unfold plusP; exact emod_nn e2 hP) (fun q hq => h3 q (by simp [hq]))

set_option maxRecDepth 100000 in
set_option maxHeartbeats 8000000 in
theorem valid_aux {P Q G y : Int} {a b : Option Addr} {n c d : Nat} {bs : List (Int × Int)} {ps : List Bt} {one : Bool} {z : Bt} {v : Bool} (w : World) (hT : Tabs w) (hH : Has P Q G) (hy : 0 ≤ y) (hn : n ≤ 10) (hn1 : 1 ≤ n)
    (h1 : ShS w a n bs) (u1 : ∀ q, q ∈ bs → U64 q.1 ∧ U64 q.2) (h2 : ShB w b n ps) (u2 : ∀ q, q ∈ ps → q.u) (uz : z.u)
    (hv : v = true ↔ (∀ i, i < n → provB P Q G y (bs.getD i (0, 0)).1 (bs.getD i (0, 0)).2 (ps.getD i Bt.zero) (i : Int)) ∧ ((one = true ∧ okS P bs = true ∧ provB P Q G y (allP P bs).1 (allP P bs).2 z 255) ∨ (one = false ∧ z = Bt.zero))) :
    Calls Tryd.prog 57 #[.agg #[.int .u64 P, .int .u64 Q, .int .u64 G], .int .u64 y, .int .i64 (n : Int), .agg #[.slice a n c, .slice b n d, .bool one, .int .u64 z.r0, .int .u64 z.r1, .int .u64 z.s0, .int .u64 z.s1, .int .u64 z.c0, .int .u64 z.c1, .int .u64 z.z0, .int .u64 z.z1]] w fun e w' => e = .returned (.bool v) ∧ Below w.heap.size w w' := by
  have hP : 0 ≤ P := by obtain ⟨p5, p3, hQ, pq, g2, gP⟩ := id hH; omega
  have hG : 0 ≤ G := by obtain ⟨p5, p3, hQ, pq, g2, gP⟩ := id hH; omega
  have hQ : 0 ≤ Q := by obtain ⟨p5, p3, hQ, pq, g2, gP⟩ := id hH; omega
  obtain ⟨s, o, hsa, -⟩ := h1.at 0 (by omega)
  obtain ⟨s', o', -, hsb, -⟩ := h2.at 0 (by omega)
  subst hsa hsb
  have HH := Lib.hid hH
  have HT := Lib.hid hT
  have H1 := Lib.hid h1
  have H2 := Lib.hid h2
  have U1 := Lib.hid u1
  have U2 := Lib.hid u2
  have UZ := Lib.hid uz
  have HV := Lib.hid hv
  have F_g := Lib.hid (show Cl ((w.alloc (.cells #[.int .u64 P, .int .u64 Q, .int .u64 G] 49)).alloc (.cells #[.slice (some ⟨s, o, none⟩) n c, .slice (some ⟨s', o', none⟩) n d, .bool one, .int .u64 z.r0, .int .u64 z.r1, .int .u64 z.s0, .int .u64 z.s1, .int .u64 z.c0, .int .u64 z.c1, .int .u64 z.z0, .int .u64 z.z1] 29)) w.heap.size [.int .u64 P, .int .u64 Q, .int .u64 G] from (Cl.at w [.int .u64 P, .int .u64 Q, .int .u64 G] _ w.heap.size rfl).alloc _)
  have F_v := Lib.hid (show Cl ((w.alloc (.cells #[.int .u64 P, .int .u64 Q, .int .u64 G] 49)).alloc (.cells #[.slice (some ⟨s, o, none⟩) n c, .slice (some ⟨s', o', none⟩) n d, .bool one, .int .u64 z.r0, .int .u64 z.r1, .int .u64 z.s0, .int .u64 z.s1, .int .u64 z.c0, .int .u64 z.c1, .int .u64 z.z0, .int .u64 z.z1] 29)) (w.heap.size + 1) [.slice (some ⟨s, o, none⟩) n c, .slice (some ⟨s', o', none⟩) n d, .bool one, .int .u64 z.r0, .int .u64 z.r1, .int .u64 z.s0, .int .u64 z.s1, .int .u64 z.c0, .int .u64 z.c1, .int .u64 z.z0, .int .u64 z.z1] from Cl.at (w.alloc (.cells #[.int .u64 P, .int .u64 Q, .int .u64 G] 49)) [.slice (some ⟨s, o, none⟩) n c, .slice (some ⟨s', o', none⟩) n d, .bool one, .int .u64 z.r0, .int .u64 z.r1, .int .u64 z.s0, .int .u64 z.s1, .int .u64 z.c0, .int .u64 z.c1, .int .u64 z.z0, .int .u64 z.z1] _ (w.heap.size + 1) (by simp))
  have HBW := Lib.hid (show Below w.heap.size w ((w.alloc (.cells #[.int .u64 P, .int .u64 Q, .int .u64 G] 49)).alloc (.cells #[.slice (some ⟨s, o, none⟩) n c, .slice (some ⟨s', o', none⟩) n d, .bool one, .int .u64 z.r0, .int .u64 z.r1, .int .u64 z.s0, .int .u64 z.s1, .int .u64 z.c0, .int .u64 z.c1, .int .u64 z.z0, .int .u64 z.z1] 29)) from ((Below.refl _ _).alloc (Nat.le_refl _) _).alloc (by simp) _)
  clear hT h1 h2 u1 u2 uz hv hH
  go_enter Tryd.func57, Tryd.ntmps57
  obtain ⟨⟨q0, q1, q2, q3, q4, q5, q6, q7, q8, q9, q10⟩, -⟩ := F_v.out.k11
  go_wp2_with fail
  clear q0 q1 q2 q3 q4 q5 q6 q7 q8 q9 q10
  go_loopw [28] (fun c28 wr => ∃ i : Nat, i ≤ n ∧ c28 = .int .i64 i ∧ Hid (∀ j, j < i → provB P Q G y (bs.getD j (0, 0)).1 (bs.getD j (0, 0)).2 (ps.getD j Bt.zero) (j : Int)) ∧ Hid (Cl wr w.heap.size [.int .u64 P, .int .u64 Q, .int .u64 G]) ∧ Hid (Cl wr (w.heap.size + 1) [.slice (some ⟨s, o, none⟩) n c, .slice (some ⟨s', o', none⟩) n d, .bool one, .int .u64 z.r0, .int .u64 z.r1, .int .u64 z.s0, .int .u64 z.s1, .int .u64 z.c0, .int .u64 z.c1, .int .u64 z.z0, .int .u64 z.z1]) ∧ Hid (Below w.heap.size w wr)) (fun c28 _ => n - (intOf c28).toNat)
  case atStart => exact ⟨0, by omega, rfl, Lib.hid (fun j hj => by omega), F_g.out, F_v.out, HBW.out⟩
  case round =>
    clear F_g F_v HBW
    obtain ⟨i, hi, rfl, HPR, F_g, F_v, HBW⟩ := hrel
    by_cases hlt : i < n
    case pos =>
      have hd : decide ((i : Int) < (n : Int)) = true := decide_eq_true (by omega)
      have hi0 : (0 : Int) ≤ (i : Int) := by omega
      have hi2 : (i : Int) < (n : Int) := by omega
      have hwi : IntKind.i64.wrap ((i : Int) + 1) = (i : Int) + 1 := IntWalk.i64_in _ (by omega)
      have hw8 : IntKind.u8.wrap (i : Int) = (i : Int) := by simp [IntKind.wrap, IntKind.bits, IntKind.signed]; omega
      have cS : Tryd.prog.cellsOf 78 = 2 := by kernel_rfl
      have cB : Tryd.prog.cellsOf 27 = 8 := by kernel_rfl
      obtain ⟨s1, o1, hsa, hsl, e0, e1⟩ := (H1.out.keep HBW.out).at i hlt
      injection hsa with hsa; injection hsa with ea eb _; subst ea eb
      obtain ⟨x, x2, hxy⟩ : ∃ x y, bs.getD i (0, 0) = (x, y) := ⟨_, _, rfl⟩
      rw [hxy] at e0 e1
      simp only at e0 e1
      have hxm : (x, x2) ∈ bs := by
        have hl : i < bs.length := by rw [← H1.out.len]; exact hlt
        rw [← hxy, List.getD_eq_getElem?_getD, List.getElem?_eq_getElem hl]; exact List.getElem_mem hl
      have x0 := (U1.out _ hxm).1.1
      have y0 := (U1.out _ hxm).2.1
      have HBW6 := Lib.hid (HBW.out.alloc HBW.out.size (.cells #[.int .u64 x, .int .u64 x2] 78))
      obtain ⟨s2, o2, zi, hsb, hz_, hbc⟩ := (H2.out.keep HBW6.out).at i hlt
      injection hsb with hsb; injection hsb with ea eb _; subst ea eb
      have HZI := Lib.hid (show zi.u from U2.out zi (List.mem_of_getElem? hz_))
      obtain ⟨-, b0, b1, b2, b3, b4, b5, b6, b7⟩ := hbc
      have HPI := Lib.hid (show provB P Q G y (bs.getD i (0, 0)).1 (bs.getD i (0, 0)).2 (ps.getD i Bt.zero) (i : Int) ↔ provB P Q G y x x2 zi (i : Int) by rw [hxy, List.getD_eq_getElem?_getD, hz_]; rfl)
      clear hxy hxm hsl hz_
      have F_s := Lib.hid (Cl.at wr [.int .u64 x, .int .u64 x2] 78 wr.heap.size rfl)
      have F_g6 := Lib.hid (F_g.out.alloc (.cells #[.int .u64 x, .int .u64 x2] 78))
      have F_v6 := Lib.hid (F_v.out.alloc (.cells #[.int .u64 x, .int .u64 x2] 78))
      obtain ⟨v', hv'⟩ := Prop.bool (provB P Q G y x x2 zi (i : Int))
      have HV' := Lib.hid hv'
      clear hv'
      go_wp2_with fail
      have g0 := F_g6.out.c 0 _ rfl
      have g1 := F_g6.out.c 1 _ rfl
      have g2' := F_g6.out.c 2 _ rfl
      have s0 := F_s.out.c 0 _ rfl
      have s1 := F_s.out.c 1 _ rfl
      have v1 := F_v6.out.c 1 _ rfl
      go_cut [28, 44] from 28 to 45 (fun c28 c44 wx => c28 = .int .i64 i ∧ c44 = .bool (!v') ∧ Hid (Cl wx w.heap.size [.int .u64 P, .int .u64 Q, .int .u64 G]) ∧ Hid (Cl wx (w.heap.size + 1) [.slice (some ⟨s, o, none⟩) n c, .slice (some ⟨s', o', none⟩) n d, .bool one, .int .u64 z.r0, .int .u64 z.r1, .int .u64 z.s0, .int .u64 z.s1, .int .u64 z.c0, .int .u64 z.c1, .int .u64 z.z0, .int .u64 z.z1]) ∧ Hid (Below w.heap.size w wx))
      case first =>
        go_region_law (first
          | (go_simp
             go_at_call 88
             refine (proved_any (v := v') _ ((HT.out.below HBW6.out).below (Below.refl _ _).drew) hP hQ hG hy x0 y0 HZI.out hi0 (by omega) HV'.out).mono ?_
             rintro e w5 ⟨rfl, hb5⟩
             have HB5 := Lib.hid ((Below.refl _ _).drew.trans hb5)
             clear hb5))
        all_goals (go_wp2_with fail; go_meet)
        all_goals exact ⟨rfl, by simp, F_g6.out.keep HB5.out, F_v6.out.keep HB5.out, HBW6.out.trans (HB5.out.mono HBW6.out.size)⟩
      case rest =>
        clear F_g F_v HBW F_g6 F_v6 F_s HBW6 g0 g1 g2' s0 s1 v1 b0 b1 b2 b3 b4 b5 b6 b7 e0 e1
        obtain ⟨rfl, rfl, F_g, F_v, HBW⟩ := hcut
        cases v' with
        | true =>
          simp only [Bool.not_true]
          go_wp2_with fail
          go_roundw
          case rel => exact ⟨i + 1, by omega, by go_num, Lib.hid (fun j hj => by
            by_cases hj' : j < i
            · exact HPR.out j hj'
            · obtain rfl : j = i := by omega
              exact HPI.out.2 (HV'.out.1 rfl)), F_g.out, F_v.out, HBW.out⟩
          case measure => simp [intOf] <;> omega
        | false =>
          have HVF := Lib.hid (show v = false from boolP HV.out (fun h => by have := HV'.out.2 (HPI.out.1 (h.1 i hlt)); cases this))
          simp only [Bool.not_false]
          go_wp2_with fail
          go_ret
          exact ⟨by rw [HVF.out]; rfl, HBW.out⟩
    case neg =>
      obtain rfl : i = n := by omega
      have hd : decide ((i : Int) < (i : Int)) = false := decide_eq_false (by omega)
      obtain ⟨⟨q0, q1, q2, q3, q4, q5, q6, q7, q8, q9, q10⟩, -⟩ := F_v.out.k11
      cases one with
      | false =>
        obtain ⟨e, he⟩ := Prop.bool (z = Bt.zero)
        have HE := Lib.hid (show v = e by
          have h1 : v = true ↔ z = Bt.zero := HV.out.trans ⟨fun h => by rcases h.2 with ⟨h2, -⟩ | ⟨-, h2⟩; cases h2; exact h2, fun h => ⟨HPR.out, .inr ⟨rfl, h⟩⟩⟩
          rw [Bool.eq_iff_iff, h1, he])
        have heq := eq_bit2 z Bt.zero e he
        simp only [Bt.zero] at heq
        clear he
        go_wp2_with fail
        go_ret
        exact ⟨by rw [HE.out]; rfl, HBW.out⟩
      | true =>
        obtain ⟨sx, sy, se, hS⟩ := SumS.exists P Q G bs
        have HS := Lib.hid hS
        clear hS
        have HNN := Lib.hid (show ∀ p, p ∈ bs → 0 ≤ p.1 ∧ 0 ≤ p.2 from fun p hp => ⟨(U1.out p hp).1.1, (U1.out p hp).2.1⟩)
        have g0 := F_g.out.c 0 _ rfl
        have g1 := F_g.out.c 1 _ rfl
        have g2' := F_g.out.c 2 _ rfl
        have HEB := Lib.hid (show v = true ↔ okS P bs = true ∧ provB P Q G y (allP P bs).1 (allP P bs).2 z 255 from
          HV.out.trans ⟨fun h => (h.2.resolve_right (fun h3 => by cases h3.1)).2, fun h => ⟨HPR.out, .inl ⟨rfl, h⟩⟩⟩)
        go_wp2_with fail
        clear g0 g1 g2' q0 q1 q2 q3 q4 q5 q6 q7 q8 q9 q10
        refine (esum_any _ hP hQ hG (H1.out.keep HBW.out) HNN.out HS.out).mono ?_
        rintro e w6 ⟨rfl, hb6⟩
        have F_g6 := Lib.hid ((F_g.out.keep hb6).alloc (.cells #[.int .u64 sx, .int .u64 sy] 78))
        have F_v6 := Lib.hid ((F_v.out.keep hb6).alloc (.cells #[.int .u64 sx, .int .u64 sy] 78))
        have HB6' := HBW.out.trans (hb6.mono HBW.out.size)
        have HB6 := Lib.hid (HB6'.alloc HB6'.size (.cells #[.int .u64 sx, .int .u64 sy] 78))
        have F_s := Lib.hid (Cl.at w6 [.int .u64 sx, .int .u64 sy] 78 w6.heap.size rfl)
        clear hb6 HB6'
        have g0 := F_g6.out.c 0 _ rfl
        have g1 := F_g6.out.c 1 _ rfl
        have g2' := F_g6.out.c 2 _ rfl
        have s0 := F_s.out.c 0 _ rfl
        have s1 := F_s.out.c 1 _ rfl
        obtain ⟨⟨q0, q1, q2, q3, q4, q5, q6, q7, q8, q9, q10⟩, -⟩ := F_v6.out.k11
        have hlen : bs.length ≤ 4096 := by rw [← H1.out.len]; omega
        rcases HS.out with ⟨h, -⟩ | ⟨-, h, -⟩ | ⟨-, -, h, rfl, rfl, rfl⟩ | ⟨-, -, h, h2, rfl⟩
        · exact absurd HH.out h
        · omega
        · have HVF := Lib.hid (show v = false from boolP HEB.out (fun hh => by rw [h] at hh; cases hh.1))
          clear hlen h
          go_wp2_with fail
          go_ret
          exact ⟨by rw [HVF.out]; rfl, HB6.out⟩
        · have hnn := allP_nn hP bs HNN.out
          rw [h2] at hnn
          have sx0 : 0 ≤ sx := hnn.1
          have sy0 : 0 ≤ sy := hnn.2
          have HE := Lib.hid (show v = true ↔ provB P Q G y sx sy z 255 by rw [HEB.out, h2]; exact ⟨fun hh => hh.2, fun hh => ⟨h, hh⟩⟩)
          clear hlen h h2 hnn
          go_wp2_with fail
          refine (proved_any (v := v) _ (HT.out.below HB6.out) hP hQ hG hy sx0 sy0 UZ.out (by decide) (by decide) HE.out).mono ?_
          rintro e w7 ⟨rfl, hb7⟩
          have HB7 := Lib.hid (HB6.out.trans (hb7.mono HB6.out.size))
          clear hb7 g0 g1 g2' s0 s1 q0 q1 q2 q3 q4 q5 q6 q7 q8 q9 q10
          go_wp2_with fail
          go_ret
          exact ⟨rfl, HB7.out⟩
end Go.Proofs.YtlbldpkgnonbpaaDoor
namespace Go.Proofs.YtlbldpkgnonbpaaDoor
open Go Go.RowKit Num Sha
set_option linter.unusedSimpArgs false
set_option linter.unusedVariables false

set_option maxRecDepth 100000 in
set_option maxHeartbeats 8000000 in
theorem valid_any {P Q G y : Int} {n : Nat} {V : Vt} {v : Bool} (w : World) (hT : Tabs w) (hH : Has P Q G) (hy : 0 ≤ y) (hn : n ≤ 10) (hn1 : 1 ≤ n) (hV : VtIn w V) (hv : v = true ↔ validP P Q G y n V) :
    Calls Tryd.prog 57 #[.agg #[.int .u64 P, .int .u64 Q, .int .u64 G], .int .u64 y, .int .i64 (n : Int), V.v] w fun e w' => e = .returned (.bool v) ∧ Below w.heap.size w w' := by
  by_cases h1 : V.n = n
  case neg =>
    have HVF := Lib.hid (show v = false from boolP hv (fun h => h1 h.1))
    have hne : ¬ ((V.n : Int) = (n : Int)) := by omega
    have F_v := Lib.hid (VBox.at (w.alloc (.cells #[.int .u64 P, .int .u64 Q, .int .u64 G] 49)) V 29 (w.heap.size + 1) (by simp))
    have HBW := Lib.hid (show Below w.heap.size w ((w.alloc (.cells #[.int .u64 P, .int .u64 Q, .int .u64 G] 49)).alloc (.cells #[.slice V.a V.n V.c, .slice V.b V.m V.d, .bool V.one, .int .u64 V.z.r0, .int .u64 V.z.r1, .int .u64 V.z.s0, .int .u64 V.z.s1, .int .u64 V.z.c0, .int .u64 V.z.c1, .int .u64 V.z.z0, .int .u64 V.z.z1] 29)) from ((Below.refl _ _).alloc (Nat.le_refl _) _).alloc (by simp) _)
    clear hT hH hV hv h1
    obtain ⟨-, v0, v1, -⟩ := id F_v.out
    unfold Vt.v
    go_enter Tryd.func57, Tryd.ntmps57
    go_wp2_with fail
    go_ret
    exact ⟨by rw [HVF.out]; rfl, HBW.out⟩
  case pos =>
  by_cases h2 : V.m = n
  case neg =>
    have HVF := Lib.hid (show v = false from boolP hv (fun h => h2 h.2.1))
    have hne : ¬ ((V.m : Int) = (n : Int)) := by omega
    have F_v := Lib.hid (VBox.at (w.alloc (.cells #[.int .u64 P, .int .u64 Q, .int .u64 G] 49)) V 29 (w.heap.size + 1) (by simp))
    have HBW := Lib.hid (show Below w.heap.size w ((w.alloc (.cells #[.int .u64 P, .int .u64 Q, .int .u64 G] 49)).alloc (.cells #[.slice V.a V.n V.c, .slice V.b V.m V.d, .bool V.one, .int .u64 V.z.r0, .int .u64 V.z.r1, .int .u64 V.z.s0, .int .u64 V.z.s1, .int .u64 V.z.c0, .int .u64 V.z.c1, .int .u64 V.z.z0, .int .u64 V.z.z1] 29)) from ((Below.refl _ _).alloc (Nat.le_refl _) _).alloc (by simp) _)
    subst h1
    clear hT hH hV hv h2
    obtain ⟨-, v0, v1, -⟩ := id F_v.out
    unfold Vt.v
    go_enter Tryd.func57, Tryd.ntmps57
    go_wp2_with fail
    go_ret
    exact ⟨by rw [HVF.out]; rfl, HBW.out⟩
  case pos =>
  obtain ⟨g1, g2, g3, g4, g5, g6, g7⟩ := hV
  obtain ⟨a, k, c, bs, b, m, d, ps, one, z⟩ := V
  simp only at *
  subst h1 h2
  exact valid_aux w hT hH hy hn hn1 g1 g2 g4 g5 g7 (hv.trans ⟨fun h => ⟨h.2.2.1, h.2.2.2⟩, fun h => ⟨rfl, rfl, h.1, h.2⟩⟩)
def checkP (P Q G y n : Int) (V : Vt) (e : Int) : Prop := (chkB P Q G y n ≠ 0 ∧ e = chkB P Q G y n) ∨ (chkB P Q G y n = 0 ∧ ((validP P Q G y n.toNat V ∧ e = 0) ∨ (¬ validP P Q G y n.toNat V ∧ e = 360)))
theorem checkP.exists (P Q G y n : Int) (V : Vt) : ∃ e, checkP P Q G y n V e := by
  by_cases h : chkB P Q G y n = 0
  · by_cases hp : validP P Q G y n.toNat V
    · exact ⟨0, .inr ⟨h, .inl ⟨hp, rfl⟩⟩⟩
    · exact ⟨360, .inr ⟨h, .inr ⟨hp, rfl⟩⟩⟩
  · exact ⟨_, .inl ⟨h, rfl⟩⟩

set_option maxRecDepth 100000 in
set_option maxHeartbeats 8000000 in
theorem check_any {P Q G y n e' : Int} {V : Vt} (w : World) (hT : Tabs w) (hP : 0 ≤ P) (hQ : 0 ≤ Q) (hG : 0 ≤ G) (hy : 0 ≤ y) (hV : VtIn w V) (hc : checkP P Q G y n V e') :
    Calls Tryd.prog 27 #[.agg #[.int .u64 P, .int .u64 Q, .int .u64 G], .int .u64 y, .int .i64 n, V.v] w fun e w' => e = .returned (.int .i64 e') ∧ Below w.heap.size w w' := by
  have HT := Lib.hid hT
  have HV := Lib.hid hV
  have HC := Lib.hid hc
  have F_g := Lib.hid (show Cl ((w.alloc (.cells #[.int .u64 P, .int .u64 Q, .int .u64 G] 49)).alloc (.cells #[.slice V.a V.n V.c, .slice V.b V.m V.d, .bool V.one, .int .u64 V.z.r0, .int .u64 V.z.r1, .int .u64 V.z.s0, .int .u64 V.z.s1, .int .u64 V.z.c0, .int .u64 V.z.c1, .int .u64 V.z.z0, .int .u64 V.z.z1] 29)) w.heap.size [.int .u64 P, .int .u64 Q, .int .u64 G] from (Cl.at w [.int .u64 P, .int .u64 Q, .int .u64 G] _ w.heap.size rfl).alloc _)
  have F_v := Lib.hid (VBox.at (w.alloc (.cells #[.int .u64 P, .int .u64 Q, .int .u64 G] 49)) V 29 (w.heap.size + 1) (by simp))
  have HBW := Lib.hid (show Below w.heap.size w ((w.alloc (.cells #[.int .u64 P, .int .u64 Q, .int .u64 G] 49)).alloc (.cells #[.slice V.a V.n V.c, .slice V.b V.m V.d, .bool V.one, .int .u64 V.z.r0, .int .u64 V.z.r1, .int .u64 V.z.s0, .int .u64 V.z.s1, .int .u64 V.z.c0, .int .u64 V.z.c1, .int .u64 V.z.z0, .int .u64 V.z.z1] 29)) from ((Below.refl _ _).alloc (Nat.le_refl _) _).alloc (by simp) _)
  have g0 := F_g.out.c 0 _ rfl
  have g1 := F_g.out.c 1 _ rfl
  have g2 := F_g.out.c 2 _ rfl
  clear hT hV hc
  unfold Vt.v
  go_enter Tryd.func27, Tryd.ntmps27
  go_wp2_with fail
  clear g0 g1 g2
  refine (bcheck_any _ hP hQ hG hy).mono ?_
  rintro e w1 ⟨rfl, hb1⟩
  replace F_g := Lib.hid (F_g.out.keep hb1)
  replace F_v := Lib.hid (F_v.out.keep hb1)
  replace HBW := Lib.hid (HBW.out.trans (hb1.mono HBW.out.size))
  clear hb1
  obtain ⟨k, hk⟩ : ∃ k, chkB P Q G y n = k := ⟨_, rfl⟩
  have HK := Lib.hid hk
  have hC := HC.out
  unfold checkP at hC
  rw [hk] at hC ⊢
  clear hk HC
  rcases hC with ⟨h1, rfl⟩ | ⟨rfl, h1⟩
  · go_wp2_with fail
    go_ret
    exact ⟨rfl, HBW.out⟩
  · obtain ⟨hH, -, hn1, hn2⟩ := chkB_ok HK.out
    have HH := Lib.hid hH
    clear hH
    obtain ⟨j, rfl⟩ : ∃ j : Nat, n = (j : Int) := ⟨n.toNat, by omega⟩
    simp only [Int.toNat_natCast] at h1
    have g0 := F_g.out.c 0 _ rfl
    have g1 := F_g.out.c 1 _ rfl
    have g2 := F_g.out.c 2 _ rfl
    obtain ⟨-, v0, v1, v2, v3, v4, v5, v6, v7, v8, v9, v10, vf⟩ := id F_v.out
    go_wp2_with fail
    clear g0 g1 g2 v0 v1 v2 v3 v4 v5 v6 v7 v8 v9 v10 vf
    obtain ⟨b, hb⟩ := Prop.bool (validP P Q G y j V)
    refine (valid_any (V := V) _ (HT.out.below HBW.out) HH.out hy (by omega) (by omega) (HV.out.keep HBW.out) hb).mono ?_
    rintro e w2 ⟨rfl, hb2⟩
    replace HBW := Lib.hid (HBW.out.trans (hb2.mono HBW.out.size))
    clear hb2
    rcases h1 with ⟨h1, rfl⟩ | ⟨h1, rfl⟩
    · obtain rfl : b = true := hb.2 h1
      clear hb
      go_wp2_with fail
      go_ret
      exact ⟨rfl, HBW.out⟩
    · obtain rfl : b = false := boolP hb h1
      clear hb
      go_wp2_with fail
      go_ret
      exact ⟨rfl, HBW.out⟩
end Go.Proofs.YtlbldpkgnonbpaaDoor
namespace Go.Proofs.YtlbldpkgnonbpaaDoor
open Go Go.RowKit Num Sha
set_option linter.unusedSimpArgs false
set_option linter.unusedVariables false

structure Rv where
  a : Option Addr
  n : Nat
  c : Nat
  ms : List Int
  b : Option Addr
  m : Nat
  d : Nat
  ns : List Int
def Rv.v (R : Rv) : Value := .agg #[.slice R.a R.n R.c, .slice R.b R.m R.d]
structure RvIn (w : World) (R : Rv) : Prop where
  h1 : ShI .i64 w R.a R.n R.ms
  u1 : ∀ x, x ∈ R.ms → -9223372036854775808 ≤ x ∧ x ≤ 9223372036854775807
  k1 : R.a = none → R.c = 0
  h2 : ShI .u64 w R.b R.m R.ns
  u2 : ∀ x, x ∈ R.ns → U64 x
  k2 : R.b = none → R.d = 0
theorem RvIn.keep {w w' : World} {R : Rv} (h : RvIn w R) (hb : Below w.heap.size w w') : RvIn w' R := ⟨h.h1.keep hb, h.u1, h.k1, h.h2.keep hb, h.u2, h.k2⟩

set_option maxRecDepth 100000 in
set_option maxHeartbeats 8000000 in
theorem great_any {Q x : Int} {Bg : Nat} (w : World) (hc : w.cell? ⟨Bg, 1, none⟩ = some (.int .u64 Q)) :
    Calls Tryd.prog 55 #[.int .u64 x, .pointer (some ⟨Bg, 0, none⟩)] w fun e w' => e = .returned (.bool (decide (Q ≤ x))) ∧ w' = w := by
  go_enter Tryd.func55, Tryd.ntmps55
  go_wp2_with fail
  go_ret
  exact ⟨rfl, rfl⟩
theorem indexF_any {Q : Int} {Bg : Nat} {a : Option Addr} {m c : Nat} {l : List Int} (w : World) (hc : w.cell? ⟨Bg, 1, none⟩ = some (.int .u64 Q)) (hS : ShI .u64 w a m l) (hm : m ≤ 100000) :
    Calls Tryd.prog 87 #[.slice a m c, .func (.func 55) #[] #[.pointer (some ⟨Bg, 0, none⟩)]] w fun e w' => (∃ r : Int, e = .returned (.int .i64 r) ∧ (0 ≤ r ↔ ∃ x, x ∈ l ∧ Q ≤ x)) ∧ w' = w := by
  have HL := Lib.hid hS.len
  have HS := Lib.hid hS
  have HC := Lib.hid hc
  clear hS hc
  go_enter Tryd.func87, Tryd.ntmps87
  go_wp2_with fail
  go_loop [5, 8] (fun _ c8 => ∃ (k : Nat), k ≤ m ∧ c8 = .int .i64 k ∧ Hid (∀ x, x ∈ l.take k → x < Q)) (fun _ c8 => m - (intOf c8).toNat)
  case atStart => exact ⟨0, by omega, rfl, Lib.hid (by rw [List.take_zero]; intro x hx; cases hx)⟩
  case round =>
    obtain ⟨k, hk, rfl, HR⟩ := hrel
    by_cases hlt : k < m
    case neg =>
      obtain rfl : k = m := by omega
      have hd : decide ((k : Int) < (k : Int)) = false := decide_eq_false (by omega)
      go_wp2_with fail
      go_ret
      have h := HR.out
      rw [List.take_of_length_le (by rw [← HL.out]; exact Nat.le_refl _)] at h
      exact ⟨⟨_, rfl, fun h' => absurd h' (by simp), fun ⟨x, h1, h2⟩ => absurd h2 (Int.not_le.2 (h x h1))⟩, rfl⟩
    case pos =>
      have hd : decide ((k : Int) < (m : Int)) = true := decide_eq_true (by omega)
      have i0 : (0 : Int) ≤ (k : Int) := by omega
      have i1 : (k : Int) < (m : Int) := by omega
      have w1 : IntKind.i64.wrap ((k : Int) + 1) = (k : Int) + 1 := IntWalk.i64_in _ (by omega)
      obtain ⟨s, o, rfl, hcc⟩ : ∃ s o, a = some ⟨s, o, none⟩ ∧ w.cell? ⟨s, o + k, none⟩ = some (.int .u64 (l.getD k 0)) := by
        rcases HS.out with ⟨h1, _⟩ | ⟨s, o, h0, h1, h2, h3⟩
        · omega
        · exact ⟨s, o, h0, h3 k (by omega)⟩
      have HD := Lib.hid (show l.take (k + 1) = l.take k ++ [l.getD k 0] ∧ l.getD k 0 ∈ l by
        have hl : k < l.length := by rw [← HL.out]; exact hlt
        rw [List.take_succ_eq_append_getElem hl, List.getD_eq_getElem?_getD, List.getElem?_eq_getElem hl]; exact ⟨rfl, List.getElem_mem hl⟩)
      generalize l.getD k 0 = x at hcc HD
      go_wp2_with fail
      refine (great_any _ HC.out).mono ?_
      rintro e w1 ⟨rfl, rfl⟩
      by_cases h1 : Q ≤ x
      case pos =>
        rw [decide_eq_true h1]
        go_wp2_with fail
        go_ret
        exact ⟨⟨_, rfl, fun _ => ⟨x, HD.out.2, h1⟩, fun _ => by simp⟩, rfl⟩
      case neg =>
        rw [decide_eq_false h1]
        go_wp2_with fail
        go_round
        case rel => exact ⟨k + 1, by omega, by go_num, Lib.hid (by rw [HD.out.1]; intro z h; rcases List.mem_append.1 h with h | h; exact HR.out z h; simp at h; subst h; omega)⟩
        case measure => simp [intOf]; omega
theorem containsF_any {Q : Int} {Bg : Nat} {a : Option Addr} {m c : Nat} {l : List Int} {v : Bool} (w : World) (hc : w.cell? ⟨Bg, 1, none⟩ = some (.int .u64 Q)) (hS : ShI .u64 w a m l) (hm : m ≤ 100000) (hv : v = true ↔ ∃ x, x ∈ l ∧ Q ≤ x) :
    Calls Tryd.prog 56 #[.slice a m c, .func (.func 55) #[] #[.pointer (some ⟨Bg, 0, none⟩)]] w fun e w' => e = .returned (.bool v) ∧ w' = w := by
  have HS := Lib.hid hS
  have HC := Lib.hid hc
  have HV := Lib.hid hv
  clear hS hc hv
  go_enter Tryd.func56, Tryd.ntmps56
  go_wp2_with fail
  refine (indexF_any _ HC.out HS.out hm).mono ?_
  rintro e w1 ⟨⟨r, rfl, hr⟩, rfl⟩
  have HR := Lib.hid (show decide (0 ≤ r) = v by rw [Bool.eq_iff_iff, decide_eq_true_iff, hr, HV.out])
  clear hr
  go_wp2_with fail
  go_ret
  exact ⟨by rw [← HR.out]; rfl, rfl⟩
end Go.Proofs.YtlbldpkgnonbpaaDoor
namespace Go.Proofs.YtlbldpkgnonbpaaDoor
open Go Go.RowKit Num Sha
set_option linter.unusedSimpArgs false
set_option linter.unusedVariables false

def encP (P G y m x : Int) : Int × Int := (powm G x P, powm G m P * powm y x P % P)
def rangeP (Q : Int) (n : Nat) (R : Rv) : Prop := R.m = n ∧ (¬ ∃ x, x ∈ R.ns ∧ Q ≤ x) ∧ markedS (n : Int) R.ms = true
def matchP (P G y : Int) (n : Nat) (V : Vt) (R : Rv) : Prop := V.n = n ∧ ∀ i, i < n → V.bs.getD i (0, 0) = encP P G y (msgS R.ms (i : Int)) (R.ns.getD i 0)
theorem msgS_01 (l : List Int) (i : Int) : msgS l i = 0 ∨ msgS l i = 1 := by
  unfold msgS; split
  · exact .inr rfl
  · exact .inl rfl

set_option maxRecDepth 100000 in
set_option maxHeartbeats 8000000 in
theorem matches_A {P Q G y : Int} {a b ra rb : Option Addr} {n c m d rn rc rm rd : Nat} {bs : List (Int × Int)} {one : Bool} {z : Bt} {ms ns : List Int} {j k : Int} (w : World) (hT : Tabs w) (hP : 0 ≤ P) (hQ : 0 ≤ Q) (hG : 0 ≤ G) (hy : 0 ≤ y) (hk : chkB P Q G y j = k) (hk0 : k ≠ 0) :
    Calls Tryd.prog 26 #[.agg #[.int .u64 P, .int .u64 Q, .int .u64 G], .int .u64 y, .int .i64 j, .agg #[.slice a n c, .slice b m d, .bool one, .int .u64 z.r0, .int .u64 z.r1, .int .u64 z.s0, .int .u64 z.s1, .int .u64 z.c0, .int .u64 z.c1, .int .u64 z.z0, .int .u64 z.z1], .agg #[.slice ra rn rc, .slice rb rm rd]] w fun e w' => e = .returned (.tuple #[.bool false, .int .i64 k]) ∧ Below w.heap.size w w' := by
  have HK := Lib.hid hk
  clear hk
  have F_g := Lib.hid (show Cl (((w.alloc (.cells #[.int .u64 P, .int .u64 Q, .int .u64 G] 49)).alloc (.cells #[.slice a n c, .slice b m d, .bool one, .int .u64 z.r0, .int .u64 z.r1, .int .u64 z.s0, .int .u64 z.s1, .int .u64 z.c0, .int .u64 z.c1, .int .u64 z.z0, .int .u64 z.z1] 29)).alloc (.cells #[.slice ra rn rc, .slice rb rm rd] 57)) w.heap.size [.int .u64 P, .int .u64 Q, .int .u64 G] from ((Cl.at w [.int .u64 P, .int .u64 Q, .int .u64 G] _ w.heap.size rfl).alloc _).alloc _)
  have F_v := Lib.hid (show Cl (((w.alloc (.cells #[.int .u64 P, .int .u64 Q, .int .u64 G] 49)).alloc (.cells #[.slice a n c, .slice b m d, .bool one, .int .u64 z.r0, .int .u64 z.r1, .int .u64 z.s0, .int .u64 z.s1, .int .u64 z.c0, .int .u64 z.c1, .int .u64 z.z0, .int .u64 z.z1] 29)).alloc (.cells #[.slice ra rn rc, .slice rb rm rd] 57)) (w.heap.size + 1) [.slice a n c, .slice b m d, .bool one, .int .u64 z.r0, .int .u64 z.r1, .int .u64 z.s0, .int .u64 z.s1, .int .u64 z.c0, .int .u64 z.c1, .int .u64 z.z0, .int .u64 z.z1] from (Cl.at (w.alloc (.cells #[.int .u64 P, .int .u64 Q, .int .u64 G] 49)) [.slice a n c, .slice b m d, .bool one, .int .u64 z.r0, .int .u64 z.r1, .int .u64 z.s0, .int .u64 z.s1, .int .u64 z.c0, .int .u64 z.c1, .int .u64 z.z0, .int .u64 z.z1] _ (w.heap.size + 1) (by simp)).alloc _)
  have F_r := Lib.hid (show Cl (((w.alloc (.cells #[.int .u64 P, .int .u64 Q, .int .u64 G] 49)).alloc (.cells #[.slice a n c, .slice b m d, .bool one, .int .u64 z.r0, .int .u64 z.r1, .int .u64 z.s0, .int .u64 z.s1, .int .u64 z.c0, .int .u64 z.c1, .int .u64 z.z0, .int .u64 z.z1] 29)).alloc (.cells #[.slice ra rn rc, .slice rb rm rd] 57)) (w.heap.size + 1 + 1) [.slice ra rn rc, .slice rb rm rd] from Cl.at ((w.alloc (.cells #[.int .u64 P, .int .u64 Q, .int .u64 G] 49)).alloc (.cells #[.slice a n c, .slice b m d, .bool one, .int .u64 z.r0, .int .u64 z.r1, .int .u64 z.s0, .int .u64 z.s1, .int .u64 z.c0, .int .u64 z.c1, .int .u64 z.z0, .int .u64 z.z1] 29)) [.slice ra rn rc, .slice rb rm rd] _ (w.heap.size + 1 + 1) (by simp))
  have HBW := Lib.hid (show Below w.heap.size w (((w.alloc (.cells #[.int .u64 P, .int .u64 Q, .int .u64 G] 49)).alloc (.cells #[.slice a n c, .slice b m d, .bool one, .int .u64 z.r0, .int .u64 z.r1, .int .u64 z.s0, .int .u64 z.s1, .int .u64 z.c0, .int .u64 z.c1, .int .u64 z.z0, .int .u64 z.z1] 29)).alloc (.cells #[.slice ra rn rc, .slice rb rm rd] 57)) from (((Below.refl _ _).alloc (Nat.le_refl _) _).alloc (by simp) _).alloc (by simp <;> omega) _)
  have g0 := F_g.out.c 0 _ rfl
  have g1 := F_g.out.c 1 _ rfl
  have g2 := F_g.out.c 2 _ rfl
  go_enter Tryd.func26, Tryd.ntmps26
  go_wp2_with fail
  clear g0 g1 g2
  refine (bcheck_any _ hP hQ hG hy).mono ?_
  rintro e w1 ⟨rfl, hb1⟩
  replace F_g := Lib.hid (F_g.out.keep hb1)
  replace F_v := Lib.hid (F_v.out.keep hb1)
  replace F_r := Lib.hid (F_r.out.keep hb1)
  replace HBW := Lib.hid (HBW.out.trans (hb1.mono HBW.out.size))
  clear hb1
  rw [HK.out]
  go_wp2_with fail
  go_ret2
  exact ⟨rfl, HBW.out⟩

set_option maxRecDepth 100000 in
set_option maxHeartbeats 8000000 in
theorem matches_B {P Q G y : Int} {a b ra rb : Option Addr} {n c m d rn rc rm rd : Nat} {bs : List (Int × Int)} {one : Bool} {z : Bt} {ms ns : List Int} {j : Nat} (w : World) (hT : Tabs w) (hP : 0 ≤ P) (hQ : 0 ≤ Q) (hG : 0 ≤ G) (hy : 0 ≤ y) (hk : chkB P Q G y (j : Int) = 0) (hm : rm ≠ j) :
    Calls Tryd.prog 26 #[.agg #[.int .u64 P, .int .u64 Q, .int .u64 G], .int .u64 y, .int .i64 (j : Int), .agg #[.slice a n c, .slice b m d, .bool one, .int .u64 z.r0, .int .u64 z.r1, .int .u64 z.s0, .int .u64 z.s1, .int .u64 z.c0, .int .u64 z.c1, .int .u64 z.z0, .int .u64 z.z1], .agg #[.slice ra rn rc, .slice rb rm rd]] w fun e w' => e = .returned (.tuple #[.bool false, .int .i64 2]) ∧ Below w.heap.size w w' := by
  have HK := Lib.hid hk
  have hne : ¬ ((rm : Int) = (j : Int)) := by omega
  clear hk hm
  have F_g := Lib.hid (show Cl (((w.alloc (.cells #[.int .u64 P, .int .u64 Q, .int .u64 G] 49)).alloc (.cells #[.slice a n c, .slice b m d, .bool one, .int .u64 z.r0, .int .u64 z.r1, .int .u64 z.s0, .int .u64 z.s1, .int .u64 z.c0, .int .u64 z.c1, .int .u64 z.z0, .int .u64 z.z1] 29)).alloc (.cells #[.slice ra rn rc, .slice rb rm rd] 57)) w.heap.size [.int .u64 P, .int .u64 Q, .int .u64 G] from ((Cl.at w [.int .u64 P, .int .u64 Q, .int .u64 G] _ w.heap.size rfl).alloc _).alloc _)
  have F_v := Lib.hid (show Cl (((w.alloc (.cells #[.int .u64 P, .int .u64 Q, .int .u64 G] 49)).alloc (.cells #[.slice a n c, .slice b m d, .bool one, .int .u64 z.r0, .int .u64 z.r1, .int .u64 z.s0, .int .u64 z.s1, .int .u64 z.c0, .int .u64 z.c1, .int .u64 z.z0, .int .u64 z.z1] 29)).alloc (.cells #[.slice ra rn rc, .slice rb rm rd] 57)) (w.heap.size + 1) [.slice a n c, .slice b m d, .bool one, .int .u64 z.r0, .int .u64 z.r1, .int .u64 z.s0, .int .u64 z.s1, .int .u64 z.c0, .int .u64 z.c1, .int .u64 z.z0, .int .u64 z.z1] from (Cl.at (w.alloc (.cells #[.int .u64 P, .int .u64 Q, .int .u64 G] 49)) [.slice a n c, .slice b m d, .bool one, .int .u64 z.r0, .int .u64 z.r1, .int .u64 z.s0, .int .u64 z.s1, .int .u64 z.c0, .int .u64 z.c1, .int .u64 z.z0, .int .u64 z.z1] _ (w.heap.size + 1) (by simp)).alloc _)
  have F_r := Lib.hid (show Cl (((w.alloc (.cells #[.int .u64 P, .int .u64 Q, .int .u64 G] 49)).alloc (.cells #[.slice a n c, .slice b m d, .bool one, .int .u64 z.r0, .int .u64 z.r1, .int .u64 z.s0, .int .u64 z.s1, .int .u64 z.c0, .int .u64 z.c1, .int .u64 z.z0, .int .u64 z.z1] 29)).alloc (.cells #[.slice ra rn rc, .slice rb rm rd] 57)) (w.heap.size + 1 + 1) [.slice ra rn rc, .slice rb rm rd] from Cl.at ((w.alloc (.cells #[.int .u64 P, .int .u64 Q, .int .u64 G] 49)).alloc (.cells #[.slice a n c, .slice b m d, .bool one, .int .u64 z.r0, .int .u64 z.r1, .int .u64 z.s0, .int .u64 z.s1, .int .u64 z.c0, .int .u64 z.c1, .int .u64 z.z0, .int .u64 z.z1] 29)) [.slice ra rn rc, .slice rb rm rd] _ (w.heap.size + 1 + 1) (by simp))
  have HBW := Lib.hid (show Below w.heap.size w (((w.alloc (.cells #[.int .u64 P, .int .u64 Q, .int .u64 G] 49)).alloc (.cells #[.slice a n c, .slice b m d, .bool one, .int .u64 z.r0, .int .u64 z.r1, .int .u64 z.s0, .int .u64 z.s1, .int .u64 z.c0, .int .u64 z.c1, .int .u64 z.z0, .int .u64 z.z1] 29)).alloc (.cells #[.slice ra rn rc, .slice rb rm rd] 57)) from (((Below.refl _ _).alloc (Nat.le_refl _) _).alloc (by simp) _).alloc (by simp <;> omega) _)
  have g0 := F_g.out.c 0 _ rfl
  have g1 := F_g.out.c 1 _ rfl
  have g2 := F_g.out.c 2 _ rfl
  go_enter Tryd.func26, Tryd.ntmps26
  go_wp2_with fail
  clear g0 g1 g2
  refine (bcheck_any _ hP hQ hG hy).mono ?_
  rintro e w1 ⟨rfl, hb1⟩
  replace F_g := Lib.hid (F_g.out.keep hb1)
  replace F_v := Lib.hid (F_v.out.keep hb1)
  replace F_r := Lib.hid (F_r.out.keep hb1)
  replace HBW := Lib.hid (HBW.out.trans (hb1.mono HBW.out.size))
  clear hb1
  rw [HK.out]
  have r0 := F_r.out.c 0 _ rfl
  have r1 := F_r.out.c 1 _ rfl
  go_wp2_with fail
  go_ret2
  exact ⟨rfl, HBW.out⟩
def MatJ (w : World) (P Q G y : Int) (j n : Nat) (bs : List (Int × Int)) (ms ns : List Int) (e : Ending) (w' : World) : Prop :=
  ∃ W : World, ((¬ ((¬ ∃ x, x ∈ ns ∧ Q ≤ x) ∧ markedS (j : Int) ms = true) ∧ e = .returned (.tuple #[.bool false, .int .i64 2])) ∨
    (((¬ ∃ x, x ∈ ns ∧ Q ≤ x) ∧ markedS (j : Int) ms = true) ∧ ∃ v : Bool, e = .returned (.tuple #[.bool v, .int .i64 0]) ∧ (v = true ↔ n = j ∧ ∀ i, i < j → bs.getD i (0, 0) = encP P G y (msgS ms (i : Int)) (ns.getD i 0)))) ∧ Below w.heap.size w w'

set_option maxRecDepth 100000 in
set_option maxHeartbeats 8000000 in
theorem matches_C {P Q G y : Int} {a b ra rb : Option Addr} {n c m d rn rc rm rd : Nat} {bs : List (Int × Int)} {one : Bool} {z : Bt} {ms ns : List Int} {j : Nat} (w : World) (hT : Tabs w) (hP : 0 ≤ P) (hQ : 0 ≤ Q) (hG : 0 ≤ G) (hy : 0 ≤ y) (hk : chkB P Q G y (j : Int) = 0) (hn : n ≠ j) (hr1 : ShI .i64 w ra rn ms) (hr2 : ShI .u64 w rb j ns) (hrn : rn ≤ 1000) (hj : j ≤ 10) :
    Calls Tryd.prog 26 #[.agg #[.int .u64 P, .int .u64 Q, .int .u64 G], .int .u64 y, .int .i64 (j : Int), .agg #[.slice a n c, .slice b m d, .bool one, .int .u64 z.r0, .int .u64 z.r1, .int .u64 z.s0, .int .u64 z.s1, .int .u64 z.c0, .int .u64 z.c1, .int .u64 z.z0, .int .u64 z.z1], .agg #[.slice ra rn rc, .slice rb j rd]] w (MatJ w P Q G y j n bs ms ns) := by
  have hne : ¬ ((n : Int) = (j : Int)) := by omega
  have HK := Lib.hid hk
  have HR1 := Lib.hid hr1
  have HR2 := Lib.hid hr2
  clear hk hr1 hr2
  have F_g := Lib.hid (show Cl (((w.alloc (.cells #[.int .u64 P, .int .u64 Q, .int .u64 G] 49)).alloc (.cells #[.slice a n c, .slice b m d, .bool one, .int .u64 z.r0, .int .u64 z.r1, .int .u64 z.s0, .int .u64 z.s1, .int .u64 z.c0, .int .u64 z.c1, .int .u64 z.z0, .int .u64 z.z1] 29)).alloc (.cells #[.slice ra rn rc, .slice rb j rd] 57)) w.heap.size [.int .u64 P, .int .u64 Q, .int .u64 G] from ((Cl.at w [.int .u64 P, .int .u64 Q, .int .u64 G] _ w.heap.size rfl).alloc _).alloc _)
  have F_v := Lib.hid (show Cl (((w.alloc (.cells #[.int .u64 P, .int .u64 Q, .int .u64 G] 49)).alloc (.cells #[.slice a n c, .slice b m d, .bool one, .int .u64 z.r0, .int .u64 z.r1, .int .u64 z.s0, .int .u64 z.s1, .int .u64 z.c0, .int .u64 z.c1, .int .u64 z.z0, .int .u64 z.z1] 29)).alloc (.cells #[.slice ra rn rc, .slice rb j rd] 57)) (w.heap.size + 1) [.slice a n c, .slice b m d, .bool one, .int .u64 z.r0, .int .u64 z.r1, .int .u64 z.s0, .int .u64 z.s1, .int .u64 z.c0, .int .u64 z.c1, .int .u64 z.z0, .int .u64 z.z1] from (Cl.at (w.alloc (.cells #[.int .u64 P, .int .u64 Q, .int .u64 G] 49)) [.slice a n c, .slice b m d, .bool one, .int .u64 z.r0, .int .u64 z.r1, .int .u64 z.s0, .int .u64 z.s1, .int .u64 z.c0, .int .u64 z.c1, .int .u64 z.z0, .int .u64 z.z1] _ (w.heap.size + 1) (by simp)).alloc _)
  have F_r := Lib.hid (show Cl (((w.alloc (.cells #[.int .u64 P, .int .u64 Q, .int .u64 G] 49)).alloc (.cells #[.slice a n c, .slice b m d, .bool one, .int .u64 z.r0, .int .u64 z.r1, .int .u64 z.s0, .int .u64 z.s1, .int .u64 z.c0, .int .u64 z.c1, .int .u64 z.z0, .int .u64 z.z1] 29)).alloc (.cells #[.slice ra rn rc, .slice rb j rd] 57)) (w.heap.size + 1 + 1) [.slice ra rn rc, .slice rb j rd] from Cl.at ((w.alloc (.cells #[.int .u64 P, .int .u64 Q, .int .u64 G] 49)).alloc (.cells #[.slice a n c, .slice b m d, .bool one, .int .u64 z.r0, .int .u64 z.r1, .int .u64 z.s0, .int .u64 z.s1, .int .u64 z.c0, .int .u64 z.c1, .int .u64 z.z0, .int .u64 z.z1] 29)) [.slice ra rn rc, .slice rb j rd] _ (w.heap.size + 1 + 1) (by simp))
  have HBW := Lib.hid (show Below w.heap.size w (((w.alloc (.cells #[.int .u64 P, .int .u64 Q, .int .u64 G] 49)).alloc (.cells #[.slice a n c, .slice b m d, .bool one, .int .u64 z.r0, .int .u64 z.r1, .int .u64 z.s0, .int .u64 z.s1, .int .u64 z.c0, .int .u64 z.c1, .int .u64 z.z0, .int .u64 z.z1] 29)).alloc (.cells #[.slice ra rn rc, .slice rb j rd] 57)) from (((Below.refl _ _).alloc (Nat.le_refl _) _).alloc (by simp) _).alloc (by simp <;> omega) _)
  have g0 := F_g.out.c 0 _ rfl
  have g1 := F_g.out.c 1 _ rfl
  have g2 := F_g.out.c 2 _ rfl
  go_enter Tryd.func26, Tryd.ntmps26
  go_wp2_with fail
  clear g0 g1 g2
  refine (bcheck_any _ hP hQ hG hy).mono ?_
  rintro e w1 ⟨rfl, hb1⟩
  replace F_g := Lib.hid (F_g.out.keep hb1)
  replace F_v := Lib.hid (F_v.out.keep hb1)
  replace F_r := Lib.hid (F_r.out.keep hb1)
  replace HBW := Lib.hid (HBW.out.trans (hb1.mono HBW.out.size))
  clear hb1
  rw [HK.out]
  have g1 := F_g.out.c 1 _ rfl
  have r0 := F_r.out.c 0 _ rfl
  have r1 := F_r.out.c 1 _ rfl
  have HC1 := Lib.hid g1
  clear g1
  obtain ⟨gr, hgr⟩ := Prop.bool (∃ x, x ∈ ns ∧ Q ≤ x)
  have HGR := Lib.hid hgr
  clear hgr
  go_wp2_with fail
  refine (containsF_any (v := gr) _ HC1.out (HR2.out.keep HBW.out) (by omega) HGR.out).mono ?_
  rintro e w2 ⟨rfl, rfl⟩
  cases gr with
  | true =>
    go_wp2_with fail
    go_ret2
    exact ⟨w2, .inl ⟨fun h => h.1 (HGR.out.1 (by simp)), rfl⟩, HBW.out⟩
  | false =>
  go_wp2_with fail
  refine (marked_any _ (HR1.out.keep HBW.out) (by omega)).mono ?_
  rintro e w3 ⟨rfl, rfl⟩
  obtain ⟨mk, hmk⟩ : ∃ mk, markedS (j : Int) ms = mk := ⟨_, rfl⟩
  have HMK := Lib.hid hmk
  rw [hmk]
  clear hmk
  cases mk with
  | false =>
    go_wp2_with fail
    go_ret2
    exact ⟨w3, .inl ⟨(fun h => (by have h2 := HMK.out.symm.trans h.2; simp at h2)), rfl⟩, HBW.out⟩
  | true =>
  obtain ⟨⟨q0, q1, q2, q3, q4, q5, q6, q7, q8, q9, q10⟩, -⟩ := F_v.out.k11
  go_wp2_with fail
  go_ret2
  exact ⟨w3, .inr ⟨⟨(fun h => (by have h2 := HGR.out.2 h; simp at h2)), HMK.out⟩, false, rfl, ⟨(fun h => (by simp at h)), (fun h => absurd h.1 hn)⟩⟩, HBW.out⟩
end Go.Proofs.YtlbldpkgnonbpaaDoor
