/- Rows of copies. -/
import Derived.Test.YtlbldpkgnonbpaaDoorOzU
import Derived.Test.YtlbldpkgnonbpaaDoorOzT
set_option linter.unusedSimpArgs false
set_option linter.unusedVariables false
set_option maxRecDepth 100000
namespace Go.Proofs.YtlbldpkgnonbpaaDoor
open Go Go.RowKit Num Sha
def lowB (a : Option Addr) (n N : Nat) : Prop := 0 < n → ∀ s o, a = some ⟨s, o, none⟩ → s < N
theorem lowB.off {a : Option Addr} {n N : Nat} {ob : Option Nat} (h : lowB a n N) (ho : ∀ g, ob = some g → N ≤ g) : offB a n ob := fun hn s o ha e => by
 have h1 := h hn s o ha
 have h2 := ho s e
 omega
theorem ShS.low {w : World} {a : Option Addr} {n : Nat} {l : List (Int × Int)} (h : ShS w a n l) : lowB a n w.heap.size := by
 intro hn s o ha
 rcases h with ⟨h, -⟩ | ⟨s', o', h0, h1, h2, h3⟩
 · omega
 · rw [h0] at ha; cases ha; exact h2
theorem ShB.low {w : World} {a : Option Addr} {n : Nat} {l : List Bt} (h : ShB w a n l) : lowB a n w.heap.size := by
 intro hn s o ha
 rcases h with ⟨h, -⟩ | ⟨s', o', h0, h1, h2, h3⟩
 · omega
 · rw [h0] at ha; cases ha; exact h2
theorem ShI.low {q : IntKind} {w : World} {a : Option Addr} {n : Nat} {l : List Int} (h : ShI q w a n l) : lowB a n w.heap.size := by
 intro hn s o ha
 rcases h with ⟨h, -⟩ | ⟨s', o', h0, h1, h2, h3⟩
 · omega
 · rw [h0] at ha; cases ha; exact h2
def RowV (base : Nat) (v : Value) (k : Nat) (L : List Vt) (wr : World) : Prop := ∃ Us : List Vt, wr.ownsRow base 29 11 v k (Us.flatMap Vt.vs) ∧ (∀ U, U ∈ Us → VtOff wr U v.ownBlock) ∧ Us.map Vt.key = L.map Vt.key
def FullV (base : Nat) (v : Value) (k : Nat) (L : List Vt) (N : Nat) (wr : World) : Prop := ∃ Us : List Vt, wr.ownsRow base 29 11 v k (Us.flatMap Vt.vs) ∧ (∀ g, v.ownBlock = some g → g < N) ∧ (∀ U, U ∈ Us → VtIn wr U ∧ lowB U.a U.n N ∧ lowB U.b U.m N) ∧ Us.map Vt.key = L.map Vt.key
theorem RowV.start (base : Nat) (wr : World) : RowV base (.slice none 0 0) 0 [] wr := ⟨[], World.ownsRow_nil _ _ _ _, (fun U h => by cases h), rfl⟩
theorem RowV.keep {base : Nat} {v : Value} {k : Nat} {L : List Vt} {w w' : World} (h : RowV base v k L w) (hb : Below w.heap.size w w') : RowV base v k L w' := by
 obtain ⟨Us, h1, h2, h3⟩ := h
 exact ⟨Us, owns_below2 h1 hb, fun U hU => (h2 U hU).keep hb, h3⟩
theorem RowV.full {base : Nat} {v : Value} {k : Nat} {L : List Vt} {w : World} (h : RowV base v k L w) : FullV base v k L w.heap.size w := by
 obtain ⟨Us, h1, h2, h3⟩ := h
 exact ⟨Us, h1, fun g hg => (h1.lt g hg).2, fun U hU => ⟨(h2 U hU).1, (h2 U hU).1.h1.low, (h2 U hU).1.h2.low⟩, h3⟩
theorem FullV.keep {base N : Nat} {v : Value} {k : Nat} {L : List Vt} {w w' : World} (h : FullV base v k L N w) (hb : Below w.heap.size w w') : FullV base v k L N w' := by
 obtain ⟨Us, h1, h2, h3, h4⟩ := h
 exact ⟨Us, owns_below2 h1 hb, h2, fun U hU => ⟨(h3 U hU).1.keep hb, (h3 U hU).2⟩, h4⟩
theorem FullV.grown {base N : Nat} {v : Value} {k : Nat} {L : List Vt} {w w' : World} {ob : Option Nat} (h : FullV base v k L N w) (hg : w.grownBy w' ob) (ho : ∀ g, ob = some g → N ≤ g) : FullV base v k L N w' := by
 obtain ⟨Us, h1, h2, h3, h4⟩ := h
 refine ⟨Us, h1.kept hg ?_, h2, fun U hU => ⟨?_, (h3 U hU).2⟩, h4⟩
 · cases hv : v.ownBlock with
   | none => exact .inl rfl
   | some g =>
    refine .inr fun e => ?_
    have := ho g e.symm
    have := h2 g hv
    omega
 · exact (VtOff.grown (ob' := ob) ⟨(h3 U hU).1, (h3 U hU).2.1.off ho, (h3 U hU).2.2.off ho⟩ hg (.inl rfl)).1
theorem RowV.push {base : Nat} {v v' : Value} {k : Nat} {L : List Vt} {w w' : World} {U V : Vt} {i : Nat} {Us : List Vt} (hk : k = i) (ho : w'.ownsRow base 29 11 v' (k + 1) (Us.flatMap Vt.vs ++ U.vs)) (hg : w.grownBy w' v.ownBlock) (hw : v'.ownBlock = v.ownBlock ∨ v'.ownBlock = some w.heap.size)
    (hoff : ∀ U, U ∈ Us → VtOff w U v.ownBlock) (hU : VtOff w U v.ownBlock) (hkey : Us.map Vt.key = (L.take i).map Vt.key) (hV : L[i]? = some V) (hUV : U.key = V.key) : RowV base v' (k + 1) (L.take (i + 1)) w' := by
  refine ⟨Us ++ [U], by rw [List.flatMap_append, List.flatMap_singleton]; exact ho, fun X hX => ?_, keys_snoc _ hkey hV hUV⟩
  rcases List.mem_append.1 hX with hX | hX
  · exact (hoff X hX).grown hg hw
  · rw [List.mem_singleton] at hX
    subst hX
    exact hU.grown hg hw
theorem RowV.box {base : Nat} {v : Value} {k : Nat} {L : List Vt} {w : World} {p : Addr} {u : Value} {a0 : Option Addr} {n0 c0 : Nat} (h : RowV base v k L w) (hb : p.block < base) (hp : w.cell? p = some (.slice a0 n0 c0)) : RowV base v k L (w.setCell p u) := by
 obtain ⟨Us, h1, h2, h3⟩ := h
 exact ⟨Us, ownsRow_setCell_below h1 hb u, fun U hU => (h2 U hU).slc hp, h3⟩
theorem FullV.box {base N : Nat} {v : Value} {k : Nat} {L : List Vt} {w : World} {p : Addr} {u : Value} {a0 : Option Addr} {n0 c0 : Nat} (h : FullV base v k L N w) (hb : p.block < base) (hp : w.cell? p = some (.slice a0 n0 c0)) : FullV base v k L N (w.setCell p u) := by
 obtain ⟨Us, h1, h2, h3, h4⟩ := h
 exact ⟨Us, ownsRow_setCell_below h1 hb u, h2, fun U hU => ⟨(h3 U hU).1.slc hp, (h3 U hU).2⟩, h4⟩
def RowR (base : Nat) (v : Value) (k : Nat) (L : List Rv) (wr : World) : Prop := ∃ Us : List Rv, wr.ownsRow base 57 2 v k (Us.flatMap Rv.vs) ∧ (∀ U, U ∈ Us → RvOff wr U v.ownBlock) ∧ Us.map Rv.key = L.map Rv.key
def FullR (base : Nat) (v : Value) (k : Nat) (L : List Rv) (N : Nat) (wr : World) : Prop := ∃ Us : List Rv, wr.ownsRow base 57 2 v k (Us.flatMap Rv.vs) ∧ (∀ g, v.ownBlock = some g → g < N) ∧ (∀ U, U ∈ Us → RvIn wr U ∧ lowB U.a U.n N ∧ lowB U.b U.m N) ∧ Us.map Rv.key = L.map Rv.key
theorem RowR.start (base : Nat) (wr : World) : RowR base (.slice none 0 0) 0 [] wr := ⟨[], World.ownsRow_nil _ _ _ _, (fun U h => by cases h), rfl⟩
theorem RowR.keep {base : Nat} {v : Value} {k : Nat} {L : List Rv} {w w' : World} (h : RowR base v k L w) (hb : Below w.heap.size w w') : RowR base v k L w' := by
 obtain ⟨Us, h1, h2, h3⟩ := h
 exact ⟨Us, owns_below2 h1 hb, fun U hU => (h2 U hU).keep hb, h3⟩
theorem RowR.full {base : Nat} {v : Value} {k : Nat} {L : List Rv} {w : World} (h : RowR base v k L w) : FullR base v k L w.heap.size w := by
 obtain ⟨Us, h1, h2, h3⟩ := h
 exact ⟨Us, h1, fun g hg => (h1.lt g hg).2, fun U hU => ⟨(h2 U hU).1, (h2 U hU).1.h1.low, (h2 U hU).1.h2.low⟩, h3⟩
theorem FullR.keep {base N : Nat} {v : Value} {k : Nat} {L : List Rv} {w w' : World} (h : FullR base v k L N w) (hb : Below w.heap.size w w') : FullR base v k L N w' := by
 obtain ⟨Us, h1, h2, h3, h4⟩ := h
 exact ⟨Us, owns_below2 h1 hb, h2, fun U hU => ⟨(h3 U hU).1.keep hb, (h3 U hU).2⟩, h4⟩
theorem FullR.grown {base N : Nat} {v : Value} {k : Nat} {L : List Rv} {w w' : World} {ob : Option Nat} (h : FullR base v k L N w) (hg : w.grownBy w' ob) (ho : ∀ g, ob = some g → N ≤ g) : FullR base v k L N w' := by
 obtain ⟨Us, h1, h2, h3, h4⟩ := h
 refine ⟨Us, h1.kept hg ?_, h2, fun U hU => ⟨?_, (h3 U hU).2⟩, h4⟩
 · cases hv : v.ownBlock with
   | none => exact .inl rfl
   | some g =>
    refine .inr fun e => ?_
    have := ho g e.symm
    have := h2 g hv
    omega
 · exact (RvOff.grown (ob' := ob) ⟨(h3 U hU).1, (h3 U hU).2.1.off ho, (h3 U hU).2.2.off ho⟩ hg (.inl rfl)).1
theorem RowR.push {base : Nat} {v v' : Value} {k : Nat} {L : List Rv} {w w' : World} {U V : Rv} {i : Nat} {Us : List Rv} (hk : k = i) (ho : w'.ownsRow base 57 2 v' (k + 1) (Us.flatMap Rv.vs ++ U.vs)) (hg : w.grownBy w' v.ownBlock) (hw : v'.ownBlock = v.ownBlock ∨ v'.ownBlock = some w.heap.size)
    (hoff : ∀ U, U ∈ Us → RvOff w U v.ownBlock) (hU : RvOff w U v.ownBlock) (hkey : Us.map Rv.key = (L.take i).map Rv.key) (hV : L[i]? = some V) (hUV : U.key = V.key) : RowR base v' (k + 1) (L.take (i + 1)) w' := by
  refine ⟨Us ++ [U], by rw [List.flatMap_append, List.flatMap_singleton]; exact ho, fun X hX => ?_, keys_snoc _ hkey hV hUV⟩
  rcases List.mem_append.1 hX with hX | hX
  · exact (hoff X hX).grown hg hw
  · rw [List.mem_singleton] at hX
    subst hX
    exact hU.grown hg hw
theorem RowR.box {base : Nat} {v : Value} {k : Nat} {L : List Rv} {w : World} {p : Addr} {u : Value} {a0 : Option Addr} {n0 c0 : Nat} (h : RowR base v k L w) (hb : p.block < base) (hp : w.cell? p = some (.slice a0 n0 c0)) : RowR base v k L (w.setCell p u) := by
 obtain ⟨Us, h1, h2, h3⟩ := h
 exact ⟨Us, ownsRow_setCell_below h1 hb u, fun U hU => (h2 U hU).slc hp, h3⟩
theorem FullR.box {base N : Nat} {v : Value} {k : Nat} {L : List Rv} {w : World} {p : Addr} {u : Value} {a0 : Option Addr} {n0 c0 : Nat} (h : FullR base v k L N w) (hb : p.block < base) (hp : w.cell? p = some (.slice a0 n0 c0)) : FullR base v k L N (w.setCell p u) := by
 obtain ⟨Us, h1, h2, h3, h4⟩ := h
 exact ⟨Us, ownsRow_setCell_below h1 hb u, h2, fun U hU => ⟨(h3 U hU).1.slc hp, (h3 U hU).2⟩, h4⟩
open Go Go.RowKit Num Sha
theorem run_ld_votes (ρ : Operand → Value) (w : World) (dst : Option Tmp) (ty : TypeId) (x : Operand) {b o : Nat} {a : Option Addr} {n c : Nat} (h : ρ x = .pointer (some ⟨b, o, none⟩)) (hc : w.cell? ⟨b, o, none⟩ = some (.slice a n c)) : (execOp ρ (bareOp dst (.load 50 x) ty)).run Tryd.prog w = .ok (.value (.slice a n c)) w := by
 unfold bareOp
 go_simp
theorem run_ld_revs (ρ : Operand → Value) (w : World) (dst : Option Tmp) (ty : TypeId) (x : Operand) {b o : Nat} {a : Option Addr} {n c : Nat} (h : ρ x = .pointer (some ⟨b, o, none⟩)) (hc : w.cell? ⟨b, o, none⟩ = some (.slice a n c)) : (execOp ρ (bareOp dst (.load 51 x) ty)).run Tryd.prog w = .ok (.value (.slice a n c)) w := by
 unfold bareOp
 go_simp
open Go Go.RowKit Num Sha
def highB (a : Option Addr) (n N : Nat) : Prop := 0 < n → ∀ s o, a = some ⟨s, o, none⟩ → N ≤ s
theorem highB.off {a : Option Addr} {n N : Nat} {ob : Option Nat} (h : highB a n N) (ho : ∀ g, ob = some g → g < N) : offB a n ob := fun hn s o ha e => by
 have h1 := h hn s o ha
 have h2 := ho s e
 omega
theorem high_own {w : World} {base N : Nat} {e : TypeId} {sz n k c : Nat} {a : Option Addr} {xs : List Value} (h : w.ownsRow base e sz (.slice a n c) k xs) (hb : N ≤ base) : highB a n N := by
 intro hn s o ha
 rcases h.2 with ⟨h1, -⟩ | ⟨g, cap, cur, h1, h2, -⟩
 · injection h1 with h1 h3 h4; omega
 · injection h1 with h1 h3 h4
   rw [h1] at ha
   cases ha
   omega
set_option maxHeartbeats 8000000 in
theorem twinVote_new {V : Vt} (w : World) (hV : VtIn w V) (hn : V.n ≤ 10000) (hm : V.m ≤ 10000) :
    Calls Tryd.prog 41 #[V.v] w fun e w' => ∃ U : Vt, e = .returned U.v ∧ VtIn w' U ∧ SameV U V ∧ highB U.a U.n w.heap.size ∧ highB U.b U.m w.heap.size ∧ Below w.heap.size w w' := by
  have HV := Lh hV
  have F_v := Lh (show Cl ((w.alloc (.cells V.ca 29)).alloc (.cells #[.slice none 0 0, .slice none 0 0, .bool false, .int .u64 0, .int .u64 0, .int .u64 0, .int .u64 0, .int .u64 0, .int .u64 0, .int .u64 0, .int .u64 0] 29)) w.heap.size V.cl from (Cl.at w V.cl _ w.heap.size rfl).alloc _)
  have F_o := Lh (show Cl ((w.alloc (.cells V.ca 29)).alloc (.cells #[.slice none 0 0, .slice none 0 0, .bool false, .int .u64 0, .int .u64 0, .int .u64 0, .int .u64 0, .int .u64 0, .int .u64 0, .int .u64 0, .int .u64 0] 29)) (w.heap.size + 1) [.slice none 0 0, .slice none 0 0, .bool false, .int .u64 0, .int .u64 0, .int .u64 0, .int .u64 0, .int .u64 0, .int .u64 0, .int .u64 0, .int .u64 0] from Cl.at (w.alloc (.cells V.ca 29)) [.slice none 0 0, .slice none 0 0, .bool false, .int .u64 0, .int .u64 0, .int .u64 0, .int .u64 0, .int .u64 0, .int .u64 0, .int .u64 0, .int .u64 0] _ (w.heap.size + 1) (by simp))
  have HBW := Lh (show Below w.heap.size w ((w.alloc (.cells V.ca 29)).alloc (.cells #[.slice none 0 0, .slice none 0 0, .bool false, .int .u64 0, .int .u64 0, .int .u64 0, .int .u64 0, .int .u64 0, .int .u64 0, .int .u64 0, .int .u64 0] 29)) from ((Below.refl _ _).alloc (Nat.le_refl _) _).alloc (by simp) _)
  have v0 := F_v.o.c 0 _ rfl
  have v1 := F_v.o.c 1 _ rfl
  clear hV
  unfold Vt.v
  go_enter Tryd.func41, Tryd.ntmps41
  go_wp2_with fail
  go_region_law (first
    | (go_simp
       go_at_call 65
       refine (sealedClone_any _ (HV.o.h1.keep HBW.o.drew) HV.o.k1 hn).mono ?_
       rintro e w5 ⟨v5, rfl, ho5, hb5⟩
       obtain ⟨a5, c5, rfl, -, hk5⟩ := ShS.of_owned2 ho5
       have HO5 := Lh (owns_mono ho5 (n₀ := w.heap.size + 2) (by simp))
       have HK5 := Lh hk5
       have F_v5 := Lh (F_v.o.drew.keep hb5)
       have F_o5 := Lh (F_o.o.drew.keep hb5)
       have HBW5 := Lh (HBW.o.drew.trans (hb5.mono HBW.o.drew.size))
       have hz5 : w.heap.size + 2 ≤ w5.heap.size := by have := hb5.size; simp only [World.size_drew, World.size_alloc] at this; omega
       have y0 := F_v5.o.c 0 _ rfl
       have y1 := F_v5.o.c 1 _ rfl
       clear ho5 hb5 hk5)
    | (go_simp
       go_at_call 29
       refine (bitClone_any _ (HV.o.h2.keep HBW5.o) HV.o.k2 hm).mono ?_
       rintro e w6 ⟨v6, rfl, ho6, hb6⟩
       obtain ⟨a6, c6, rfl, -, hk6⟩ := ShB.of_owned2 ho6
       have HO6 := Lh (owns_below2 HO5.o hb6)
       have HP6 := Lh (owns_mono ho6 (n₀ := w.heap.size + 2) hz5)
       have HK6 := Lh hk6
       have F_v6 := Lh (F_v5.o.keep hb6)
       have F_o6 := Lh (F_o5.o.keep hb6)
       have HBW6 := Lh (HBW5.o.trans (hb6.mono HBW5.o.size))
       have x0 := F_v6.o.c 0 _ rfl
       have x1 := F_v6.o.c 1 _ rfl
       have xf0 := F_v6.o.f 0
       have xf1 := F_v6.o.f 1
       clear ho6 hb6 hk6))
  all_goals
    have F_x := Lh ((F_v6.o.set (m := [.slice a5 V.n c5, .slice V.b V.m V.d, .bool V.one, .int .u64 V.z.r0, .int .u64 V.z.r1, .int .u64 V.z.s0, .int .u64 V.z.s1, .int .u64 V.z.c0, .int .u64 V.z.c1, .int .u64 V.z.z0, .int .u64 V.z.z1]) 0 (.slice a5 V.n c5) (by simp) rfl).set (m := [.slice a5 V.n c5, .slice a6 V.m c6, .bool V.one, .int .u64 V.z.r0, .int .u64 V.z.r1, .int .u64 V.z.s0, .int .u64 V.z.s1, .int .u64 V.z.c0, .int .u64 V.z.c1, .int .u64 V.z.z0, .int .u64 V.z.z1]) 1 (.slice a6 V.m c6) (by simp) rfl)
    have F_p := Lh ((F_o6.o.far ⟨w.heap.size, 0, none⟩ (.slice a5 V.n c5) (by simp)).far ⟨w.heap.size, 1, none⟩ (.slice a6 V.m c6) (by simp))
    clear v0 v1 y0 y1 x0 x1 xf0 xf1
    go_wp2_with (first
      | (refine wpL_loadCl rfl 29 (.tmp 1) w.heap.size _ rfl rfl _ Tryd.underlying29 rfl (by kernel_rfl) F_x.o ?_)
      | (refine wpL_storeCl rfl 29 (.tmp 2) (.tmp 11) (w.heap.size + 1) 0 _ [.slice a5 V.n c5, .slice a6 V.m c6, .bool V.one, .int .u64 V.z.r0, .int .u64 V.z.r1, .int .u64 V.z.s0, .int .u64 V.z.s1, .int .u64 V.z.c0, .int .u64 V.z.c1, .int .u64 V.z.z0, .int .u64 V.z.z1] [.slice a5 V.n c5, .slice a6 V.m c6, .bool V.one, .int .u64 V.z.r0, .int .u64 V.z.r1, .int .u64 V.z.s0, .int .u64 V.z.s1, .int .u64 V.z.c0, .int .u64 V.z.c1, .int .u64 V.z.z0, .int .u64 V.z.z1] rfl rfl rfl rfl (by kernel_rfl) (by intro u hu; simp at hu; rcases hu with rfl | rfl | rfl | rfl | rfl | rfl | rfl | rfl | rfl | rfl | rfl <;> rfl) F_p.o (by simp) rfl ?_
         intro w8 hc8 hg8 hz8
         have F_q := Lh hc8
         have HG8 := Lh hg8
         clear hc8 hg8 hz8))
    obtain ⟨x1, y1, ex1, hS1, -⟩ := ShS.of_owned2 (own_gro (own_far (own_far HO6.o ⟨w.heap.size, 0, none⟩ (.slice a5 V.n c5) (by simp)) ⟨w.heap.size, 1, none⟩ (.slice a6 V.m c6) (by simp)) HG8.o (by omega))
    obtain ⟨x2, y2, ex2, hS2, -⟩ := ShB.of_owned2 (own_gro (own_far (own_far HP6.o ⟨w.heap.size, 0, none⟩ (.slice a5 V.n c5) (by simp)) ⟨w.heap.size, 1, none⟩ (.slice a6 V.m c6) (by simp)) HG8.o (by omega))
    injection ex1 with f1 f2 f3
    injection ex2 with f4 f5 f6
    subst f1 f4
    refine bodyPost_ret (res_vote1 rfl F_q.o _ rfl) rfl ?_
    refine ⟨⟨a5, V.n, c5, V.bs, a6, V.m, c6, V.ps, V.one, V.z⟩, rfl, ⟨hS1, HV.o.u1, HK5.o, hS2, HV.o.u2, HK6.o, HV.o.uz⟩, ⟨rfl, rfl, rfl, rfl, rfl, rfl⟩, high_own HO6.o (by omega), high_own HP6.o (by omega), ?_⟩
    exact ((HBW6.o.setCell (by simp) _).setCell (by simp) _).trans (HG8.o.blw (n := w.heap.size) (by omega) (by have := HBW6.o.size; simpa using this))
set_option maxHeartbeats 8000000 in
theorem twinReveal_new {R : Rv} (w : World) (hR : RvIn w R) (hn : R.n ≤ 10000) (hm : R.m ≤ 10000) :
    Calls Tryd.prog 42 #[R.v] w fun e w' => ∃ U : Rv, e = .returned U.v ∧ RvIn w' U ∧ SameR U R ∧ highB U.a U.n w.heap.size ∧ highB U.b U.m w.heap.size ∧ Below w.heap.size w w' := by
  have HR := Lh hR
  have F_v := Lh (show Cl ((w.alloc (.cells #[.slice R.a R.n R.c, .slice R.b R.m R.d] 57)).alloc (.cells #[.slice none 0 0, .slice none 0 0] 57)) w.heap.size [.slice R.a R.n R.c, .slice R.b R.m R.d] from (Cl.at w [.slice R.a R.n R.c, .slice R.b R.m R.d] _ w.heap.size rfl).alloc _)
  have F_o := Lh (show Cl ((w.alloc (.cells #[.slice R.a R.n R.c, .slice R.b R.m R.d] 57)).alloc (.cells #[.slice none 0 0, .slice none 0 0] 57)) (w.heap.size + 1) [.slice none 0 0, .slice none 0 0] from Cl.at (w.alloc (.cells #[.slice R.a R.n R.c, .slice R.b R.m R.d] 57)) [.slice none 0 0, .slice none 0 0] _ (w.heap.size + 1) (by simp))
  have HBW := Lh (show Below w.heap.size w ((w.alloc (.cells #[.slice R.a R.n R.c, .slice R.b R.m R.d] 57)).alloc (.cells #[.slice none 0 0, .slice none 0 0] 57)) from ((Below.refl _ _).alloc (Nat.le_refl _) _).alloc (by simp) _)
  have v0 := F_v.o.c 0 _ rfl
  have v1 := F_v.o.c 1 _ rfl
  clear hR
  unfold Rv.v
  go_enter Tryd.func42, Tryd.ntmps42
  go_wp2_with fail
  go_region_law (first
    | (go_simp
       go_at_call 48
       refine (intClone_any _ (HR.o.h1.keep HBW.o.drew) HR.o.k1 hn).mono ?_
       rintro e w5 ⟨v5, rfl, ho5, hb5⟩
       obtain ⟨a5, c5, rfl, -, hk5⟩ := ShI.of_owned2 ho5
       have HO5 := Lh (owns_mono ho5 (n₀ := w.heap.size + 2) (by simp))
       have HK5 := Lh hk5
       have F_v5 := Lh (F_v.o.drew.keep hb5)
       have F_o5 := Lh (F_o.o.drew.keep hb5)
       have HBW5 := Lh (HBW.o.drew.trans (hb5.mono HBW.o.drew.size))
       have hz5 : w.heap.size + 2 ≤ w5.heap.size := by have := hb5.size; simp only [World.size_drew, World.size_alloc] at this; omega
       have y0 := F_v5.o.c 0 _ rfl
       have y1 := F_v5.o.c 1 _ rfl
       clear ho5 hb5 hk5)
    | (go_simp
       go_at_call 66
       refine (u64Clone_any _ (HR.o.h2.keep HBW5.o) HR.o.k2 hm).mono ?_
       rintro e w6 ⟨v6, rfl, ho6, hb6⟩
       obtain ⟨a6, c6, rfl, -, hk6⟩ := ShI.of_owned2 ho6
       have HO6 := Lh (owns_below2 HO5.o hb6)
       have HP6 := Lh (owns_mono ho6 (n₀ := w.heap.size + 2) hz5)
       have HK6 := Lh hk6
       have F_o6 := Lh (F_o5.o.keep hb6)
       have HBW6 := Lh (HBW5.o.trans (hb6.mono HBW5.o.size))
       have x0 := F_o6.o.c 0 _ rfl
       have x1 := F_o6.o.c 1 _ rfl
       have xf0 := F_o6.o.f 0
       have xf1 := F_o6.o.f 1
       clear ho6 hb6 hk6))
  all_goals
    have F_q := Lh ((F_o6.o.set (m := [.slice a5 R.n c5, .slice none 0 0]) 0 (.slice a5 R.n c5) (by simp) rfl).set (m := [.slice a5 R.n c5, .slice a6 R.m c6]) 1 (.slice a6 R.m c6) (by simp) rfl)
    clear v0 v1 y0 y1 x0 x1 xf0 xf1
    go_wp2_with fail
    obtain ⟨x1, y1, ex1, hS1, -⟩ := ShI.of_owned2 (own_far (own_far HO6.o ⟨w.heap.size + 1, 0, none⟩ (.slice a5 R.n c5) (by simp)) ⟨w.heap.size + 1, 1, none⟩ (.slice a6 R.m c6) (by simp))
    obtain ⟨x2, y2, ex2, hS2, -⟩ := ShI.of_owned2 (own_far (own_far HP6.o ⟨w.heap.size + 1, 0, none⟩ (.slice a5 R.n c5) (by simp)) ⟨w.heap.size + 1, 1, none⟩ (.slice a6 R.m c6) (by simp))
    injection ex1 with f1 f2 f3
    injection ex2 with f4 f5 f6
    subst f1 f4
    refine bodyPost_ret (res_rev1 rfl F_q.o _ rfl) rfl ?_
    refine ⟨⟨a5, R.n, c5, R.ms, a6, R.m, c6, R.ns⟩, rfl, ⟨hS1, HR.o.u1, HK5.o, hS2, HR.o.u2, HK6.o⟩, ⟨rfl, rfl, rfl, rfl⟩, high_own HO6.o (by omega), high_own HP6.o (by omega), ?_⟩
    exact (HBW6.o.setCell (by simp) _).setCell (by simp) _
open Go Go.RowKit Num Sha
def RbV (lo : Nat) (v : Value) (k : Nat) (L : List Vt) (wr : World) : Prop := ∃ Us : List Vt, wr.ownsRow lo 29 11 v k (Us.flatMap Vt.vs) ∧ (∀ U, U ∈ Us → VtOff wr U v.ownBlock ∧ highB U.a U.n lo ∧ highB U.b U.m lo) ∧ Us.map Vt.key = L.map Vt.key
def RdV (lo N : Nat) (v : Value) (k : Nat) (L : List Vt) (wr : World) : Prop := ∃ Us : List Vt, wr.ownsRow lo 29 11 v k (Us.flatMap Vt.vs) ∧ (∀ g, v.ownBlock = some g → g < N) ∧ (∀ U, U ∈ Us → VtOff wr U v.ownBlock ∧ (highB U.a U.n lo ∧ highB U.b U.m lo) ∧ lowB U.a U.n N ∧ lowB U.b U.m N) ∧ Us.map Vt.key = L.map Vt.key
theorem RbV.start (lo : Nat) (wr : World) : RbV lo (.slice none 0 0) 0 [] wr := ⟨[], World.ownsRow_nil _ _ _ _, (fun U h => by cases h), rfl⟩
theorem RbV.keep {lo : Nat} {v : Value} {k : Nat} {L : List Vt} {w w' : World} (h : RbV lo v k L w) (hb : Below w.heap.size w w') : RbV lo v k L w' := by
 obtain ⟨Us, h1, h2, h3⟩ := h
 exact ⟨Us, owns_below2 h1 hb, fun U hU => ⟨(h2 U hU).1.keep hb, (h2 U hU).2⟩, h3⟩
theorem RbV.box {lo : Nat} {v : Value} {k : Nat} {L : List Vt} {w : World} {p : Addr} {u : Value} {a0 : Option Addr} {n0 c0 : Nat} (h : RbV lo v k L w) (hb : p.block < lo) (hp : w.cell? p = some (.slice a0 n0 c0)) : RbV lo v k L (w.setCell p u) := by
 obtain ⟨Us, h1, h2, h3⟩ := h
 exact ⟨Us, ownsRow_setCell_below h1 hb u, fun U hU => ⟨(h2 U hU).1.slc hp, (h2 U hU).2⟩, h3⟩
theorem RbV.full {lo : Nat} {v : Value} {k : Nat} {L : List Vt} {w : World} (h : RbV lo v k L w) : RdV lo w.heap.size v k L w := by
 obtain ⟨Us, h1, h2, h3⟩ := h
 exact ⟨Us, h1, fun g hg => (h1.lt g hg).2, fun U hU => ⟨(h2 U hU).1, (h2 U hU).2, (h2 U hU).1.1.h1.low, (h2 U hU).1.1.h2.low⟩, h3⟩
theorem RdV.row {lo N : Nat} {v : Value} {k : Nat} {L : List Vt} {w : World} (h : RdV lo N v k L w) : RbV lo v k L w := by
 obtain ⟨Us, h1, h2, h3, h4⟩ := h
 exact ⟨Us, h1, fun U hU => ⟨(h3 U hU).1, (h3 U hU).2.1⟩, h4⟩
theorem RdV.keep {lo N : Nat} {v : Value} {k : Nat} {L : List Vt} {w w' : World} (h : RdV lo N v k L w) (hb : Below w.heap.size w w') : RdV lo N v k L w' := by
 obtain ⟨Us, h1, h2, h3, h4⟩ := h
 exact ⟨Us, owns_below2 h1 hb, h2, fun U hU => ⟨(h3 U hU).1.keep hb, (h3 U hU).2⟩, h4⟩
theorem RdV.box {lo N : Nat} {v : Value} {k : Nat} {L : List Vt} {w : World} {p : Addr} {u : Value} {a0 : Option Addr} {n0 c0 : Nat} (h : RdV lo N v k L w) (hb : p.block < lo) (hp : w.cell? p = some (.slice a0 n0 c0)) : RdV lo N v k L (w.setCell p u) := by
 obtain ⟨Us, h1, h2, h3, h4⟩ := h
 exact ⟨Us, ownsRow_setCell_below h1 hb u, h2, fun U hU => ⟨(h3 U hU).1.slc hp, (h3 U hU).2⟩, h4⟩
theorem RdV.grown {lo N : Nat} {v : Value} {k : Nat} {L : List Vt} {w w' : World} {ob : Option Nat} (h : RdV lo N v k L w) (hg : w.grownBy w' ob) (ho : ∀ g, ob = some g → g < lo ∨ N ≤ g) : RdV lo N v k L w' := by
 obtain ⟨Us, h1, h2, h3, h4⟩ := h
 have hne : v.ownBlock = none ∨ v.ownBlock ≠ ob := by
  cases hv : v.ownBlock with
  | none => exact .inl rfl
  | some g =>
   refine .inr fun e => ?_
   have := ho g e.symm
   have := h2 g hv
   have := (h1.lt g hv).1
   omega
 have off : ∀ (a : Option Addr) (n : Nat), highB a n lo → lowB a n N → offB a n ob := fun a n hh hl hn s o ha e => by
  have := hh hn s o ha
  have := hl hn s o ha
  have := ho s e
  omega
 refine ⟨Us, h1.kept hg hne, h2, fun U hU => ?_, h4⟩
 obtain ⟨g1, ⟨g2, g3⟩, g4, g5⟩ := h3 U hU
 exact ⟨⟨(VtOff.grown (ob' := ob) ⟨g1.1, off _ _ g2 g4, off _ _ g3 g5⟩ hg (.inl rfl)).1, g1.2⟩, ⟨g2, g3⟩, g4, g5⟩
theorem RbV.push {lo k i : Nat} {v v' : Value} {L : List Vt} {w w' : World} {U V : Vt} {Us : List Vt} (ho : w'.ownsRow lo 29 11 v' (k + 1) (Us.flatMap Vt.vs ++ U.vs)) (hg : w.grownBy w' v.ownBlock) (hw : v'.ownBlock = v.ownBlock ∨ v'.ownBlock = some w.heap.size)
    (hoff : ∀ U, U ∈ Us → VtOff w U v.ownBlock ∧ highB U.a U.n lo ∧ highB U.b U.m lo) (hU : VtOff w U v.ownBlock) (ha : highB U.a U.n lo) (hb : highB U.b U.m lo) (hkey : Us.map Vt.key = (L.take i).map Vt.key) (hV : L[i]? = some V) (hUV : U.key = V.key) : RbV lo v' (k + 1) (L.take (i + 1)) w' := by
  refine ⟨Us ++ [U], by rw [List.flatMap_append, List.flatMap_singleton]; exact ho, fun X hX => ?_, keys_snoc _ hkey hV hUV⟩
  rcases List.mem_append.1 hX with hX | hX
  · exact ⟨(hoff X hX).1.grown hg hw, (hoff X hX).2⟩
  · rw [List.mem_singleton] at hX
    subst hX
    exact ⟨hU.grown hg hw, ha, hb⟩
def RbR (lo : Nat) (v : Value) (k : Nat) (L : List Rv) (wr : World) : Prop := ∃ Us : List Rv, wr.ownsRow lo 57 2 v k (Us.flatMap Rv.vs) ∧ (∀ U, U ∈ Us → RvOff wr U v.ownBlock ∧ highB U.a U.n lo ∧ highB U.b U.m lo) ∧ Us.map Rv.key = L.map Rv.key
def RdR (lo N : Nat) (v : Value) (k : Nat) (L : List Rv) (wr : World) : Prop := ∃ Us : List Rv, wr.ownsRow lo 57 2 v k (Us.flatMap Rv.vs) ∧ (∀ g, v.ownBlock = some g → g < N) ∧ (∀ U, U ∈ Us → RvOff wr U v.ownBlock ∧ (highB U.a U.n lo ∧ highB U.b U.m lo) ∧ lowB U.a U.n N ∧ lowB U.b U.m N) ∧ Us.map Rv.key = L.map Rv.key
theorem RbR.start (lo : Nat) (wr : World) : RbR lo (.slice none 0 0) 0 [] wr := ⟨[], World.ownsRow_nil _ _ _ _, (fun U h => by cases h), rfl⟩
theorem RbR.keep {lo : Nat} {v : Value} {k : Nat} {L : List Rv} {w w' : World} (h : RbR lo v k L w) (hb : Below w.heap.size w w') : RbR lo v k L w' := by
 obtain ⟨Us, h1, h2, h3⟩ := h
 exact ⟨Us, owns_below2 h1 hb, fun U hU => ⟨(h2 U hU).1.keep hb, (h2 U hU).2⟩, h3⟩
theorem RbR.box {lo : Nat} {v : Value} {k : Nat} {L : List Rv} {w : World} {p : Addr} {u : Value} {a0 : Option Addr} {n0 c0 : Nat} (h : RbR lo v k L w) (hb : p.block < lo) (hp : w.cell? p = some (.slice a0 n0 c0)) : RbR lo v k L (w.setCell p u) := by
 obtain ⟨Us, h1, h2, h3⟩ := h
 exact ⟨Us, ownsRow_setCell_below h1 hb u, fun U hU => ⟨(h2 U hU).1.slc hp, (h2 U hU).2⟩, h3⟩
theorem RbR.full {lo : Nat} {v : Value} {k : Nat} {L : List Rv} {w : World} (h : RbR lo v k L w) : RdR lo w.heap.size v k L w := by
 obtain ⟨Us, h1, h2, h3⟩ := h
 exact ⟨Us, h1, fun g hg => (h1.lt g hg).2, fun U hU => ⟨(h2 U hU).1, (h2 U hU).2, (h2 U hU).1.1.h1.low, (h2 U hU).1.1.h2.low⟩, h3⟩
theorem RdR.row {lo N : Nat} {v : Value} {k : Nat} {L : List Rv} {w : World} (h : RdR lo N v k L w) : RbR lo v k L w := by
 obtain ⟨Us, h1, h2, h3, h4⟩ := h
 exact ⟨Us, h1, fun U hU => ⟨(h3 U hU).1, (h3 U hU).2.1⟩, h4⟩
theorem RdR.keep {lo N : Nat} {v : Value} {k : Nat} {L : List Rv} {w w' : World} (h : RdR lo N v k L w) (hb : Below w.heap.size w w') : RdR lo N v k L w' := by
 obtain ⟨Us, h1, h2, h3, h4⟩ := h
 exact ⟨Us, owns_below2 h1 hb, h2, fun U hU => ⟨(h3 U hU).1.keep hb, (h3 U hU).2⟩, h4⟩
theorem RdR.box {lo N : Nat} {v : Value} {k : Nat} {L : List Rv} {w : World} {p : Addr} {u : Value} {a0 : Option Addr} {n0 c0 : Nat} (h : RdR lo N v k L w) (hb : p.block < lo) (hp : w.cell? p = some (.slice a0 n0 c0)) : RdR lo N v k L (w.setCell p u) := by
 obtain ⟨Us, h1, h2, h3, h4⟩ := h
 exact ⟨Us, ownsRow_setCell_below h1 hb u, h2, fun U hU => ⟨(h3 U hU).1.slc hp, (h3 U hU).2⟩, h4⟩
theorem RdR.grown {lo N : Nat} {v : Value} {k : Nat} {L : List Rv} {w w' : World} {ob : Option Nat} (h : RdR lo N v k L w) (hg : w.grownBy w' ob) (ho : ∀ g, ob = some g → g < lo ∨ N ≤ g) : RdR lo N v k L w' := by
 obtain ⟨Us, h1, h2, h3, h4⟩ := h
 have hne : v.ownBlock = none ∨ v.ownBlock ≠ ob := by
  cases hv : v.ownBlock with
  | none => exact .inl rfl
  | some g =>
   refine .inr fun e => ?_
   have := ho g e.symm
   have := h2 g hv
   have := (h1.lt g hv).1
   omega
 have off : ∀ (a : Option Addr) (n : Nat), highB a n lo → lowB a n N → offB a n ob := fun a n hh hl hn s o ha e => by
  have := hh hn s o ha
  have := hl hn s o ha
  have := ho s e
  omega
 refine ⟨Us, h1.kept hg hne, h2, fun U hU => ?_, h4⟩
 obtain ⟨g1, ⟨g2, g3⟩, g4, g5⟩ := h3 U hU
 exact ⟨⟨(RvOff.grown (ob' := ob) ⟨g1.1, off _ _ g2 g4, off _ _ g3 g5⟩ hg (.inl rfl)).1, g1.2⟩, ⟨g2, g3⟩, g4, g5⟩
theorem RbR.push {lo k i : Nat} {v v' : Value} {L : List Rv} {w w' : World} {U V : Rv} {Us : List Rv} (ho : w'.ownsRow lo 57 2 v' (k + 1) (Us.flatMap Rv.vs ++ U.vs)) (hg : w.grownBy w' v.ownBlock) (hw : v'.ownBlock = v.ownBlock ∨ v'.ownBlock = some w.heap.size)
    (hoff : ∀ U, U ∈ Us → RvOff w U v.ownBlock ∧ highB U.a U.n lo ∧ highB U.b U.m lo) (hU : RvOff w U v.ownBlock) (ha : highB U.a U.n lo) (hb : highB U.b U.m lo) (hkey : Us.map Rv.key = (L.take i).map Rv.key) (hV : L[i]? = some V) (hUV : U.key = V.key) : RbR lo v' (k + 1) (L.take (i + 1)) w' := by
  refine ⟨Us ++ [U], by rw [List.flatMap_append, List.flatMap_singleton]; exact ho, fun X hX => ?_, keys_snoc _ hkey hV hUV⟩
  rcases List.mem_append.1 hX with hX | hX
  · exact ⟨(hoff X hX).1.grown hg hw, (hoff X hX).2⟩
  · rw [List.mem_singleton] at hX
    subst hX
    exact ⟨hU.grown hg hw, ha, hb⟩
end Go.Proofs.YtlbldpkgnonbpaaDoor
