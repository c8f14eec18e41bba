/- Where an append lays its row; votes and reveals kept over it. -/
import Derived.Test.YtlbldpkgnonbpaaGreatDoorQsW
import Derived.Test.YtlbldpkgnonbpaaGreatDoorQsT
set_option linter.unusedSimpArgs false
set_option linter.unusedVariables false
set_option maxRecDepth 100000
namespace Go.Proofs.YtlbldpkgnonbpaaGreatDoor
open Go Go.RowKit Num Sha
theorem run_append_where {P : Program} (w : World) (base : Nat) (t ty e : TypeId) (i : TypeInfo) (z : Value) (size bytes : Nat) (ht : P.underlying t = some (.slice e)) (hi : P.info? e = some i) (hz : i.zero = some z)
 (hsize : i.size = size) (hby : i.bytes = bytes) (v : Value) (n : Nat) (xs : List Value) (hown : w.ownsRow base e size v n xs)
 (a : Addr) (m c : Nat) (news : List Value) (hm : 0 < m) (hl : news.length = m * size) (hnews : ∀ j u, news[j]? = some u → w.cell? (a.add j) = some u) (h1 : ∀ u ∈ news, u.oneCell' = true)
 (h63 : n + m ≤ maxLen) (hbytes : (n + m) * bytes ≤ 140737488355328) {v' : Value} {w' : World} (hr : (Builtin.append_ #[t, t] ty #[v, .slice (some a) m c]).run P w = .ok v' w') :
 v'.ownBlock = v.ownBlock ∨ v'.ownBlock = some w.heap.size := by
 subst hsize hby
 have hsmall : n + m ≤ 9223372036854775807 := by simp only [maxLen] at h63; omega
 rcases hown.2 with ⟨rfl, rfl⟩ | ⟨g, cap, cur, rfl, hbg, hg, hnc, hcm, hcs, htake⟩
 · rw [run_append_nil (P := P) w t ty e i z ht hi hz a m c news hl hnews hm (by omega) (by simp only [Nat.zero_add] at hbytes; omega)] at hr
   cases hr
   exact .inr rfl
 · by_cases hroom : n + m ≤ cap
   · have hfit : n * i.size + news.length ≤ cur.size := by rw [hl, hcs, ← Nat.add_mul]; exact Nat.mul_le_mul_right _ hroom
     rw [run_append_room (P := P) w t ty e i ht hi g n cap cur hg a m c news hl hnews h1 hroom hfit] at hr
     cases hr
     exact .inl rfl
   · have holds : ∀ j u, xs[j]? = some u → w.cell? ((⟨g, 0, none⟩ : Addr).add j) = some u := hown.cells (g := g) rfl
     rw [run_append_grow (P := P) w t ty e i z ht hi hz ⟨g, 0, none⟩ n cap xs hown.1 holds a m c news hl hnews (by omega) (by omega) (growslice_fits (by omega) hbytes)] at hr
     cases hr
     exact .inr rfl
def offB (a : Option Addr) (n : Nat) (ob : Option Nat) : Prop := 0 < n → ∀ s o, a = some ⟨s, o, none⟩ → ob ≠ some s
theorem cell_same {w w' : World} {s : Nat} (h : w'.heap[s]? = w.heap[s]?) (o : Nat) : w'.cell? ⟨s, o, none⟩ = w.cell? ⟨s, o, none⟩ := by
 unfold World.cell?
 simp only [h]
theorem ShS.grown {w w' : World} {a : Option Addr} {n : Nat} {l : List (Int × Int)} {ob : Option Nat} (h : ShS w a n l) (hg : w.grownBy w' ob) (ho : offB a n ob) : ShS w' a n l := by
 rcases h with h | ⟨s, o, h0, h1, h2, h3⟩
 · exact .inl h
 · by_cases hn : n = 0
   · exact .inl ⟨hn, List.eq_nil_of_length_eq_zero (by omega)⟩
   · have hs := hg.block s h2 (fun e => ho (by omega) s o h0 e.symm)
     exact .inr ⟨s, o, h0, h1, Nat.lt_of_lt_of_le h2 hg.size, fun i hi => by rw [cell_same hs, cell_same hs]; exact h3 i hi⟩
theorem ShB.grown {w w' : World} {a : Option Addr} {n : Nat} {l : List Bt} {ob : Option Nat} (h : ShB w a n l) (hg : w.grownBy w' ob) (ho : offB a n ob) : ShB w' a n l := by
 rcases h with h | ⟨s, o, h0, h1, h2, h3⟩
 · exact .inl h
 · by_cases hn : n = 0
   · exact .inl ⟨hn, List.eq_nil_of_length_eq_zero (by omega)⟩
   · have hs := hg.block s h2 (fun e => ho (by omega) s o h0 e.symm)
     exact .inr ⟨s, o, h0, h1, Nat.lt_of_lt_of_le h2 hg.size, fun i hi k u hu => by rw [cell_same hs]; exact h3 i hi k u hu⟩
theorem ShI.grown {q : IntKind} {w w' : World} {a : Option Addr} {n : Nat} {l : List Int} {ob : Option Nat} (h : ShI q w a n l) (hg : w.grownBy w' ob) (ho : offB a n ob) : ShI q w' a n l := by
 rcases h with h | ⟨s, o, h0, h1, h2, h3⟩
 · exact .inl h
 · by_cases hn : n = 0
   · exact .inl ⟨hn, List.eq_nil_of_length_eq_zero (by omega)⟩
   · have hs := hg.block s h2 (fun e => ho (by omega) s o h0 e.symm)
     exact .inr ⟨s, o, h0, h1, Nat.lt_of_lt_of_le h2 hg.size, fun i hi => by rw [cell_same hs]; exact h3 i hi⟩
theorem ShS.fresh {w : World} {a : Option Addr} {n : Nat} {l : List (Int × Int)} (h : ShS w a n l) : offB a n (some w.heap.size) := by
 intro hn s o ha e
 rcases h with ⟨h, -⟩ | ⟨s', o', h0, h1, h2, h3⟩
 · omega
 · rw [h0] at ha; cases ha; cases e; exact absurd h2 (Nat.lt_irrefl _)
theorem ShB.fresh {w : World} {a : Option Addr} {n : Nat} {l : List Bt} (h : ShB w a n l) : offB a n (some w.heap.size) := by
 intro hn s o ha e
 rcases h with ⟨h, -⟩ | ⟨s', o', h0, h1, h2, h3⟩
 · omega
 · rw [h0] at ha; cases ha; cases e; exact absurd h2 (Nat.lt_irrefl _)
theorem ShI.fresh {q : IntKind} {w : World} {a : Option Addr} {n : Nat} {l : List Int} (h : ShI q w a n l) : offB a n (some w.heap.size) := by
 intro hn s o ha e
 rcases h with ⟨h, -⟩ | ⟨s', o', h0, h1, h2, h3⟩
 · omega
 · rw [h0] at ha; cases ha; cases e; exact absurd h2 (Nat.lt_irrefl _)
def VtOff (w : World) (U : Vt) (ob : Option Nat) : Prop := VtIn w U ∧ offB U.a U.n ob ∧ offB U.b U.m ob
def RvOff (w : World) (U : Rv) (ob : Option Nat) : Prop := RvIn w U ∧ offB U.a U.n ob ∧ offB U.b U.m ob
theorem VtOff.keep {w w' : World} {U : Vt} {ob : Option Nat} (h : VtOff w U ob) (hb : Below w.heap.size w w') : VtOff w' U ob := ⟨h.1.keep hb, h.2⟩
theorem RvOff.keep {w w' : World} {U : Rv} {ob : Option Nat} (h : RvOff w U ob) (hb : Below w.heap.size w w') : RvOff w' U ob := ⟨h.1.keep hb, h.2⟩
theorem VtOff.slc {w : World} {U : Vt} {ob : Option Nat} {p : Addr} {u : Value} {a0 : Option Addr} {n0 c0 : Nat} (h : VtOff w U ob) (hp : w.cell? p = some (.slice a0 n0 c0)) : VtOff (w.setCell p u) U ob := ⟨h.1.slc hp, h.2⟩
theorem ShI.slc {q : IntKind} {w : World} {a : Option Addr} {n : Nat} {l : List Int} {p : Addr} {u : Value} {a0 : Option Addr} {n0 c0 : Nat} (h : ShI q w a n l) (hp : w.cell? p = some (.slice a0 n0 c0)) : ShI q (w.setCell p u) a n l := by
 rcases h with h | ⟨s, o, h0, h1, h2, h3⟩
 · exact .inl h
 · refine .inr ⟨s, o, h0, h1, by simpa using h2, fun i hi => ?_⟩
   rw [World.cell?_setCell_other _ _ _ _ (by intro e; rw [e, h3 i hi] at hp; cases hp)]
   exact h3 i hi
theorem RvIn.slc {w : World} {R : Rv} {p : Addr} {u : Value} {a0 : Option Addr} {n0 c0 : Nat} (h : RvIn w R) (hp : w.cell? p = some (.slice a0 n0 c0)) : RvIn (w.setCell p u) R := ⟨h.h1.slc hp, h.u1, h.k1, h.h2.slc hp, h.u2, h.k2⟩
theorem RvOff.slc {w : World} {U : Rv} {ob : Option Nat} {p : Addr} {u : Value} {a0 : Option Addr} {n0 c0 : Nat} (h : RvOff w U ob) (hp : w.cell? p = some (.slice a0 n0 c0)) : RvOff (w.setCell p u) U ob := ⟨h.1.slc hp, h.2⟩
theorem VtOff.grown {w w' : World} {U : Vt} {ob ob' : Option Nat} (h : VtOff w U ob) (hg : w.grownBy w' ob) (hw : ob' = ob ∨ ob' = some w.heap.size) : VtOff w' U ob' := by
 obtain ⟨h1, h2, h3⟩ := h
 refine ⟨⟨h1.h1.grown hg h2, h1.u1, h1.k1, h1.h2.grown hg h3, h1.u2, h1.k2, h1.uz⟩, ?_⟩
 rcases hw with rfl | rfl
 · exact ⟨h2, h3⟩
 · exact ⟨h1.h1.fresh, h1.h2.fresh⟩
theorem RvOff.grown {w w' : World} {U : Rv} {ob ob' : Option Nat} (h : RvOff w U ob) (hg : w.grownBy w' ob) (hw : ob' = ob ∨ ob' = some w.heap.size) : RvOff w' U ob' := by
 obtain ⟨h1, h2, h3⟩ := h
 refine ⟨⟨h1.h1.grown hg h2, h1.u1, h1.k1, h1.h2.grown hg h3, h1.u2, h1.k2⟩, ?_⟩
 rcases hw with rfl | rfl
 · exact ⟨h2, h3⟩
 · exact ⟨h1.h1.fresh, h1.h2.fresh⟩
open Go Go.RowKit Num Sha
theorem wp_push_v2 {w : World} {o : Oper} {a : Act} {K : Act → World → Prop} {Q : Exit → Act → World → Prop} (s x : Operand) (ho : o.op = .call { callee := .builtin .append, args := #[s, x], argTypes := #[52, 52] })
 (base n b : Nat) (v : Value) (xs : List Value) (U : Vt) (hs : a.eval s = v) (hx : a.eval x = .slice (some ⟨b, 0, none⟩) 1 1) (hown : w.ownsRow base 33 11 v n xs) (hc : ∀ j u, U.vs[j]? = some u → w.cell? ((⟨b, 0, none⟩ : Addr).add j) = some u) (hn : n ≤ 100000) (hb : base ≤ w.heap.size)
 (h : ∀ v' w', w'.ownsRow base 33 11 v' (n + 1) (xs ++ U.vs) → w.grownBy w' v.ownBlock → (v'.ownBlock = v.ownBlock ∨ v'.ownBlock = some w.heap.size) → K (a.put o.dst v') w') : o.wp Tryz.prog a w K Q := by
 obtain ⟨j0, ji, jz0, jz1, jz2⟩ := info_parts (P := Tryz.prog) (e := 33) (z := .agg #[.slice none 0 0, .slice none 0 0, .bool false, υ 0, υ 0, υ 0, υ 0, υ 0, υ 0, υ 0, υ 0]) (size := 11) (bytes := 120) (by kernel_rfl)
 obtain ⟨v', w', hr, h2, h3, -⟩ := run_append_own (P := Tryz.prog) w base 52 o.type 33 j0 _ 11 120 Tryz.underlying52 ji jz0 jz1 jz2 rfl (by decide) v n xs hown ⟨b, 0, none⟩ 1 1 U.vs (by rw [U.vs_len]) hc U.vs_one (by unfold maxLen; omega) (by omega) hb
 have h4 := run_append_where (P := Tryz.prog) w base 52 o.type 33 j0 _ 11 120 Tryz.underlying52 ji jz0 jz1 jz2 v n xs hown ⟨b, 0, none⟩ 1 1 U.vs (by decide) (by rw [U.vs_len]) hc U.vs_one (by unfold maxLen; omega) (by omega) hr
 unfold Oper.wp execOp
 simp only [ho, resolve, invoke, builtin, Sem.run_bind, Sem.run_pure, Result.andThen_ok, List.map_toArray, List.map_cons, List.map_nil, hs, hx, hr]
 exact h v' w' h2 h3 h4
theorem wp_push_r2 {w : World} {o : Oper} {a : Act} {K : Act → World → Prop} {Q : Exit → Act → World → Prop} (s x : Operand) (ho : o.op = .call { callee := .builtin .append, args := #[s, x], argTypes := #[53, 53] })
 (base n b : Nat) (v : Value) (xs : List Value) (U : Rv) (hs : a.eval s = v) (hx : a.eval x = .slice (some ⟨b, 0, none⟩) 1 1) (hown : w.ownsRow base 36 2 v n xs) (hc : ∀ j u, U.vs[j]? = some u → w.cell? ((⟨b, 0, none⟩ : Addr).add j) = some u) (hn : n ≤ 100000) (hb : base ≤ w.heap.size)
 (h : ∀ v' w', w'.ownsRow base 36 2 v' (n + 1) (xs ++ U.vs) → w.grownBy w' v.ownBlock → (v'.ownBlock = v.ownBlock ∨ v'.ownBlock = some w.heap.size) → K (a.put o.dst v') w') : o.wp Tryz.prog a w K Q := by
 obtain ⟨j0, ji, jz0, jz1, jz2⟩ := info_parts (P := Tryz.prog) (e := 36) (z := .agg #[.slice none 0 0, .slice none 0 0]) (size := 2) (bytes := 48) (by kernel_rfl)
 obtain ⟨v', w', hr, h2, h3, -⟩ := run_append_own (P := Tryz.prog) w base 53 o.type 36 j0 _ 2 48 Tryz.underlying53 ji jz0 jz1 jz2 rfl (by decide) v n xs hown ⟨b, 0, none⟩ 1 1 U.vs (by rw [U.vs_len]) hc U.vs_one (by unfold maxLen; omega) (by omega) hb
 have h4 := run_append_where (P := Tryz.prog) w base 53 o.type 36 j0 _ 2 48 Tryz.underlying53 ji jz0 jz1 jz2 v n xs hown ⟨b, 0, none⟩ 1 1 U.vs (by decide) (by rw [U.vs_len]) hc U.vs_one (by unfold maxLen; omega) (by omega) hr
 unfold Oper.wp execOp
 simp only [ho, resolve, invoke, builtin, Sem.run_bind, Sem.run_pure, Result.andThen_ok, List.map_toArray, List.map_cons, List.map_nil, hs, hx, hr]
 exact h v' w' h2 h3 h4
open Go Go.RowKit Num Sha
def lowB (a : Option Addr) (n N : Nat) : Prop := 0 < n → ∀ s o, a = some ⟨s, o, none⟩ → s < N
theorem lowB.off {a : Option Addr} {n N : Nat} {ob : Option Nat} (h : lowB a n N) (ho : ∀ g, ob = some g → N ≤ g) : offB a n ob := fun hn s o ha e => by
 have h1 := h hn s o ha
 have h2 := ho s e
 omega
theorem ShS.low {w : World} {a : Option Addr} {n : Nat} {l : List (Int × Int)} (h : ShS w a n l) : lowB a n w.heap.size := by
 intro hn s o ha
 rcases h with ⟨h, -⟩ | ⟨s', o', h0, h1, h2, h3⟩
 · omega
 · rw [h0] at ha; cases ha; exact h2
theorem ShB.low {w : World} {a : Option Addr} {n : Nat} {l : List Bt} (h : ShB w a n l) : lowB a n w.heap.size := by
 intro hn s o ha
 rcases h with ⟨h, -⟩ | ⟨s', o', h0, h1, h2, h3⟩
 · omega
 · rw [h0] at ha; cases ha; exact h2
theorem ShI.low {q : IntKind} {w : World} {a : Option Addr} {n : Nat} {l : List Int} (h : ShI q w a n l) : lowB a n w.heap.size := by
 intro hn s o ha
 rcases h with ⟨h, -⟩ | ⟨s', o', h0, h1, h2, h3⟩
 · omega
 · rw [h0] at ha; cases ha; exact h2
def RowV (base : Nat) (v : Value) (k : Nat) (L : List Vt) (wr : World) : Prop := ∃ Us : List Vt, wr.ownsRow base 33 11 v k (Us.flatMap Vt.vs) ∧ (∀ U, U ∈ Us → VtOff wr U v.ownBlock) ∧ Us.map Vt.key = L.map Vt.key
def FullV (base : Nat) (v : Value) (k : Nat) (L : List Vt) (N : Nat) (wr : World) : Prop := ∃ Us : List Vt, wr.ownsRow base 33 11 v k (Us.flatMap Vt.vs) ∧ (∀ g, v.ownBlock = some g → g < N) ∧ (∀ U, U ∈ Us → VtIn wr U ∧ lowB U.a U.n N ∧ lowB U.b U.m N) ∧ Us.map Vt.key = L.map Vt.key
theorem RowV.start (base : Nat) (wr : World) : RowV base (.slice none 0 0) 0 [] wr := ⟨[], World.ownsRow_nil _ _ _ _, (fun U h => by cases h), rfl⟩
theorem RowV.keep {base : Nat} {v : Value} {k : Nat} {L : List Vt} {w w' : World} (h : RowV base v k L w) (hb : Below w.heap.size w w') : RowV base v k L w' := by
 obtain ⟨Us, h1, h2, h3⟩ := h
 exact ⟨Us, owns_below2 h1 hb, fun U hU => (h2 U hU).keep hb, h3⟩
theorem RowV.full {base : Nat} {v : Value} {k : Nat} {L : List Vt} {w : World} (h : RowV base v k L w) : FullV base v k L w.heap.size w := by
 obtain ⟨Us, h1, h2, h3⟩ := h
 exact ⟨Us, h1, fun g hg => (h1.lt g hg).2, fun U hU => ⟨(h2 U hU).1, (h2 U hU).1.h1.low, (h2 U hU).1.h2.low⟩, h3⟩
theorem FullV.keep {base N : Nat} {v : Value} {k : Nat} {L : List Vt} {w w' : World} (h : FullV base v k L N w) (hb : Below w.heap.size w w') : FullV base v k L N w' := by
 obtain ⟨Us, h1, h2, h3, h4⟩ := h
 exact ⟨Us, owns_below2 h1 hb, h2, fun U hU => ⟨(h3 U hU).1.keep hb, (h3 U hU).2⟩, h4⟩
theorem FullV.grown {base N : Nat} {v : Value} {k : Nat} {L : List Vt} {w w' : World} {ob : Option Nat} (h : FullV base v k L N w) (hg : w.grownBy w' ob) (ho : ∀ g, ob = some g → N ≤ g) : FullV base v k L N w' := by
 obtain ⟨Us, h1, h2, h3, h4⟩ := h
 refine ⟨Us, h1.kept hg ?_, h2, fun U hU => ⟨?_, (h3 U hU).2⟩, h4⟩
 · cases hv : v.ownBlock with
   | none => exact .inl rfl
   | some g =>
    refine .inr fun e => ?_
    have := ho g e.symm
    have := h2 g hv
    omega
 · exact (VtOff.grown (ob' := ob) ⟨(h3 U hU).1, (h3 U hU).2.1.off ho, (h3 U hU).2.2.off ho⟩ hg (.inl rfl)).1
theorem RowV.push {base : Nat} {v v' : Value} {k : Nat} {L : List Vt} {w w' : World} {U V : Vt} {i : Nat} {Us : List Vt} (hk : k = i) (ho : w'.ownsRow base 33 11 v' (k + 1) (Us.flatMap Vt.vs ++ U.vs)) (hg : w.grownBy w' v.ownBlock) (hw : v'.ownBlock = v.ownBlock ∨ v'.ownBlock = some w.heap.size)
 (hoff : ∀ U, U ∈ Us → VtOff w U v.ownBlock) (hU : VtOff w U v.ownBlock) (hkey : Us.map Vt.key = (L.take i).map Vt.key) (hV : L[i]? = some V) (hUV : U.key = V.key) : RowV base v' (k + 1) (L.take (i + 1)) w' := by
 refine ⟨Us ++ [U], by rw [List.flatMap_append, List.flatMap_singleton]; exact ho, fun X hX => ?_, keys_snoc _ hkey hV hUV⟩
 rcases List.mem_append.1 hX with hX | hX
 · exact (hoff X hX).grown hg hw
 · rw [List.mem_singleton] at hX
   subst hX
   exact hU.grown hg hw
theorem RowV.box {base : Nat} {v : Value} {k : Nat} {L : List Vt} {w : World} {p : Addr} {u : Value} {a0 : Option Addr} {n0 c0 : Nat} (h : RowV base v k L w) (hb : p.block < base) (hp : w.cell? p = some (.slice a0 n0 c0)) : RowV base v k L (w.setCell p u) := by
 obtain ⟨Us, h1, h2, h3⟩ := h
 exact ⟨Us, ownsRow_setCell_below h1 hb u, fun U hU => (h2 U hU).slc hp, h3⟩
theorem FullV.box {base N : Nat} {v : Value} {k : Nat} {L : List Vt} {w : World} {p : Addr} {u : Value} {a0 : Option Addr} {n0 c0 : Nat} (h : FullV base v k L N w) (hb : p.block < base) (hp : w.cell? p = some (.slice a0 n0 c0)) : FullV base v k L N (w.setCell p u) := by
 obtain ⟨Us, h1, h2, h3, h4⟩ := h
 exact ⟨Us, ownsRow_setCell_below h1 hb u, h2, fun U hU => ⟨(h3 U hU).1.slc hp, (h3 U hU).2⟩, h4⟩
def RowR (base : Nat) (v : Value) (k : Nat) (L : List Rv) (wr : World) : Prop := ∃ Us : List Rv, wr.ownsRow base 36 2 v k (Us.flatMap Rv.vs) ∧ (∀ U, U ∈ Us → RvOff wr U v.ownBlock) ∧ Us.map Rv.key = L.map Rv.key
def FullR (base : Nat) (v : Value) (k : Nat) (L : List Rv) (N : Nat) (wr : World) : Prop := ∃ Us : List Rv, wr.ownsRow base 36 2 v k (Us.flatMap Rv.vs) ∧ (∀ g, v.ownBlock = some g → g < N) ∧ (∀ U, U ∈ Us → RvIn wr U ∧ lowB U.a U.n N ∧ lowB U.b U.m N) ∧ Us.map Rv.key = L.map Rv.key
theorem RowR.start (base : Nat) (wr : World) : RowR base (.slice none 0 0) 0 [] wr := ⟨[], World.ownsRow_nil _ _ _ _, (fun U h => by cases h), rfl⟩
theorem RowR.keep {base : Nat} {v : Value} {k : Nat} {L : List Rv} {w w' : World} (h : RowR base v k L w) (hb : Below w.heap.size w w') : RowR base v k L w' := by
 obtain ⟨Us, h1, h2, h3⟩ := h
 exact ⟨Us, owns_below2 h1 hb, fun U hU => (h2 U hU).keep hb, h3⟩
theorem RowR.full {base : Nat} {v : Value} {k : Nat} {L : List Rv} {w : World} (h : RowR base v k L w) : FullR base v k L w.heap.size w := by
 obtain ⟨Us, h1, h2, h3⟩ := h
 exact ⟨Us, h1, fun g hg => (h1.lt g hg).2, fun U hU => ⟨(h2 U hU).1, (h2 U hU).1.h1.low, (h2 U hU).1.h2.low⟩, h3⟩
theorem FullR.keep {base N : Nat} {v : Value} {k : Nat} {L : List Rv} {w w' : World} (h : FullR base v k L N w) (hb : Below w.heap.size w w') : FullR base v k L N w' := by
 obtain ⟨Us, h1, h2, h3, h4⟩ := h
 exact ⟨Us, owns_below2 h1 hb, h2, fun U hU => ⟨(h3 U hU).1.keep hb, (h3 U hU).2⟩, h4⟩
theorem FullR.grown {base N : Nat} {v : Value} {k : Nat} {L : List Rv} {w w' : World} {ob : Option Nat} (h : FullR base v k L N w) (hg : w.grownBy w' ob) (ho : ∀ g, ob = some g → N ≤ g) : FullR base v k L N w' := by
 obtain ⟨Us, h1, h2, h3, h4⟩ := h
 refine ⟨Us, h1.kept hg ?_, h2, fun U hU => ⟨?_, (h3 U hU).2⟩, h4⟩
 · cases hv : v.ownBlock with
   | none => exact .inl rfl
   | some g =>
    refine .inr fun e => ?_
    have := ho g e.symm
    have := h2 g hv
    omega
 · exact (RvOff.grown (ob' := ob) ⟨(h3 U hU).1, (h3 U hU).2.1.off ho, (h3 U hU).2.2.off ho⟩ hg (.inl rfl)).1
theorem RowR.push {base : Nat} {v v' : Value} {k : Nat} {L : List Rv} {w w' : World} {U V : Rv} {i : Nat} {Us : List Rv} (hk : k = i) (ho : w'.ownsRow base 36 2 v' (k + 1) (Us.flatMap Rv.vs ++ U.vs)) (hg : w.grownBy w' v.ownBlock) (hw : v'.ownBlock = v.ownBlock ∨ v'.ownBlock = some w.heap.size)
 (hoff : ∀ U, U ∈ Us → RvOff w U v.ownBlock) (hU : RvOff w U v.ownBlock) (hkey : Us.map Rv.key = (L.take i).map Rv.key) (hV : L[i]? = some V) (hUV : U.key = V.key) : RowR base v' (k + 1) (L.take (i + 1)) w' := by
 refine ⟨Us ++ [U], by rw [List.flatMap_append, List.flatMap_singleton]; exact ho, fun X hX => ?_, keys_snoc _ hkey hV hUV⟩
 rcases List.mem_append.1 hX with hX | hX
 · exact (hoff X hX).grown hg hw
 · rw [List.mem_singleton] at hX
   subst hX
   exact hU.grown hg hw
theorem RowR.box {base : Nat} {v : Value} {k : Nat} {L : List Rv} {w : World} {p : Addr} {u : Value} {a0 : Option Addr} {n0 c0 : Nat} (h : RowR base v k L w) (hb : p.block < base) (hp : w.cell? p = some (.slice a0 n0 c0)) : RowR base v k L (w.setCell p u) := by
 obtain ⟨Us, h1, h2, h3⟩ := h
 exact ⟨Us, ownsRow_setCell_below h1 hb u, fun U hU => (h2 U hU).slc hp, h3⟩
theorem FullR.box {base N : Nat} {v : Value} {k : Nat} {L : List Rv} {w : World} {p : Addr} {u : Value} {a0 : Option Addr} {n0 c0 : Nat} (h : FullR base v k L N w) (hb : p.block < base) (hp : w.cell? p = some (.slice a0 n0 c0)) : FullR base v k L N (w.setCell p u) := by
 obtain ⟨Us, h1, h2, h3, h4⟩ := h
 exact ⟨Us, ownsRow_setCell_below h1 hb u, h2, fun U hU => ⟨(h3 U hU).1.slc hp, (h3 U hU).2⟩, h4⟩
open Go Go.RowKit Num Sha
theorem run_ld_votes (ρ : Operand → Value) (w : World) (dst : Option Tmp) (ty : TypeId) (x : Operand) {b o : Nat} {a : Option Addr} {n c : Nat} (h : ρ x = .pointer (some ⟨b, o, none⟩)) (hc : w.cell? ⟨b, o, none⟩ = some (.slice a n c)) : (execOp ρ (bareOp dst (.load 52 x) ty)).run Tryz.prog w = .ok (.value (.slice a n c)) w := by
 unfold bareOp
 go_simp
theorem run_ld_revs (ρ : Operand → Value) (w : World) (dst : Option Tmp) (ty : TypeId) (x : Operand) {b o : Nat} {a : Option Addr} {n c : Nat} (h : ρ x = .pointer (some ⟨b, o, none⟩)) (hc : w.cell? ⟨b, o, none⟩ = some (.slice a n c)) : (execOp ρ (bareOp dst (.load 53 x) ty)).run Tryz.prog w = .ok (.value (.slice a n c)) w := by
 unfold bareOp
 go_simp
open Go Go.RowKit Num Sha
def highB (a : Option Addr) (n N : Nat) : Prop := 0 < n → ∀ s o, a = some ⟨s, o, none⟩ → N ≤ s
theorem highB.off {a : Option Addr} {n N : Nat} {ob : Option Nat} (h : highB a n N) (ho : ∀ g, ob = some g → g < N) : offB a n ob := fun hn s o ha e => by
 have h1 := h hn s o ha
 have h2 := ho s e
 omega
theorem high_own {w : World} {base N : Nat} {e : TypeId} {sz n k c : Nat} {a : Option Addr} {xs : List Value} (h : w.ownsRow base e sz (.slice a n c) k xs) (hb : N ≤ base) : highB a n N := by
 intro hn s o ha
 rcases h.2 with ⟨h1, -⟩ | ⟨g, cap, cur, h1, h2, -⟩
 · injection h1 with h1 h3 h4; omega
 · injection h1 with h1 h3 h4
   rw [h1] at ha
   cases ha
   omega
set_option maxHeartbeats 8000000 in
theorem twinVote_new {V : Vt} (w : World) (hV : VtIn w V) (hn : V.n ≤ 10000) (hm : V.m ≤ 10000) :
 Calls Tryz.prog 48 #[V.v] w fun e w' => ∃ U : Vt, e = .returned U.v ∧ VtIn w' U ∧ SameV U V ∧ highB U.a U.n w.heap.size ∧ highB U.b U.m w.heap.size ∧ Below w.heap.size w w' := by
 have HV := Lh hV
 obtain ⟨F_v, F_o, HBW⟩ := bx2 w V.cl 33 [.slice none 0 0, .slice none 0 0, .bool false, υ 0, υ 0, υ 0, υ 0, υ 0, υ 0, υ 0, υ 0] 33
 have v0 := F_v.o.c 0 _ rfl
 have v1 := F_v.o.c 1 _ rfl
 clear hV
 unfold Vt.v
 go_enter Tryz.func48, Tryz.ntmps48
 go_wp2_with fail
 go_region_law (first
  | (go_simp
     go_at_call 88
     refine (sealedClone_any _ (HV.o.h1.keep HBW.o.drew) HV.o.k1 hn).mono ?_
     rintro e w5 ⟨v5, rfl, ho5, hb5⟩
     obtain ⟨a5, c5, rfl, -, hk5⟩ := ShS.of_owned2 ho5
     have HO5 := Lh (owns_mono ho5 (n₀ := w.heap.size + 2) (by simp))
     have HK5 := Lh hk5
     have F_v5 := Lh (F_v.o.drew.keep hb5)
     have F_o5 := Lh (F_o.o.drew.keep hb5)
     have HBW5 := Lh (HBW.o.drew.trans (hb5.mono HBW.o.drew.size))
     have hz5 : w.heap.size + 2 ≤ w5.heap.size := by have := hb5.size; simp only [World.size_drew, World.size_alloc] at this; omega
     have y0 := F_v5.o.c 0 _ rfl
     have y1 := F_v5.o.c 1 _ rfl
     clear ho5 hb5 hk5)
  | (go_simp
     go_at_call 89
     refine (bitClone_any _ (HV.o.h2.keep HBW5.o) HV.o.k2 hm).mono ?_
     rintro e w6 ⟨v6, rfl, ho6, hb6⟩
     obtain ⟨a6, c6, rfl, -, hk6⟩ := ShB.of_owned2 ho6
     have HO6 := Lh (owns_below2 HO5.o hb6)
     have HP6 := Lh (owns_mono ho6 (n₀ := w.heap.size + 2) hz5)
     have HK6 := Lh hk6
     have F_v6 := Lh (F_v5.o.keep hb6)
     have F_o6 := Lh (F_o5.o.keep hb6)
     have HBW6 := Lh (HBW5.o.trans (hb6.mono HBW5.o.size))
     have x0 := F_v6.o.c 0 _ rfl
     have x1 := F_v6.o.c 1 _ rfl
     have xf0 := F_v6.o.f 0
     have xf1 := F_v6.o.f 1
     clear ho6 hb6 hk6))
 all_goals
  have F_x := Lh ((F_v6.o.set (m := [.slice a5 V.n c5, .slice V.b V.m V.d, .bool V.one, υ V.z.r0, υ V.z.r1, υ V.z.s0, υ V.z.s1, υ V.z.c0, υ V.z.c1, υ V.z.z0, υ V.z.z1]) 0 (.slice a5 V.n c5) (by simp) rfl).set (m := [.slice a5 V.n c5, .slice a6 V.m c6, .bool V.one, υ V.z.r0, υ V.z.r1, υ V.z.s0, υ V.z.s1, υ V.z.c0, υ V.z.c1, υ V.z.z0, υ V.z.z1]) 1 (.slice a6 V.m c6) (by simp) rfl)
  have F_p := Lh ((F_o6.o.far ⟨w.heap.size, 0, none⟩ (.slice a5 V.n c5) (by simp)).far ⟨w.heap.size, 1, none⟩ (.slice a6 V.m c6) (by simp))
  clear v0 v1 y0 y1 x0 x1 xf0 xf1
  go_wp2_with (first
   | (refine wpL_loadCl rfl 33 (.tmp 1) w.heap.size _ rfl rfl _ Tryz.underlying33 rfl (by kernel_rfl) F_x.o ?_)
   | (refine wpL_storeCl rfl 33 (.tmp 2) (.tmp 11) (w.heap.size + 1) 0 _ [.slice a5 V.n c5, .slice a6 V.m c6, .bool V.one, υ V.z.r0, υ V.z.r1, υ V.z.s0, υ V.z.s1, υ V.z.c0, υ V.z.c1, υ V.z.z0, υ V.z.z1] [.slice a5 V.n c5, .slice a6 V.m c6, .bool V.one, υ V.z.r0, υ V.z.r1, υ V.z.s0, υ V.z.s1, υ V.z.c0, υ V.z.c1, υ V.z.z0, υ V.z.z1] rfl rfl rfl rfl (by kernel_rfl) (by intro u hu; simp at hu; rcases hu with rfl | rfl | rfl | rfl | rfl | rfl | rfl | rfl | rfl | rfl | rfl <;> rfl) F_p.o (by simp) rfl ?_
      intro w8 hc8 hg8 hz8
      have F_q := Lh hc8
      have HG8 := Lh hg8
      clear hc8 hg8 hz8))
  obtain ⟨x1, y1, ex1, hS1, -⟩ := ShS.of_owned2 (own_gro (own_far (own_far HO6.o ⟨w.heap.size, 0, none⟩ (.slice a5 V.n c5) (by simp)) ⟨w.heap.size, 1, none⟩ (.slice a6 V.m c6) (by simp)) HG8.o (by omega))
  obtain ⟨x2, y2, ex2, hS2, -⟩ := ShB.of_owned2 (own_gro (own_far (own_far HP6.o ⟨w.heap.size, 0, none⟩ (.slice a5 V.n c5) (by simp)) ⟨w.heap.size, 1, none⟩ (.slice a6 V.m c6) (by simp)) HG8.o (by omega))
  injection ex1 with f1 f2 f3
  injection ex2 with f4 f5 f6
  subst f1 f4
  refine bodyPost_ret (res_vote1 rfl F_q.o _ rfl) rfl ?_
  refine ⟨⟨a5, V.n, c5, V.bs, a6, V.m, c6, V.ps, V.one, V.z⟩, rfl, ⟨hS1, HV.o.u1, HK5.o, hS2, HV.o.u2, HK6.o, HV.o.uz⟩, ⟨rfl, rfl, rfl, rfl, rfl, rfl⟩, high_own HO6.o (by omega), high_own HP6.o (by omega), ?_⟩
  exact ((HBW6.o.setCell (by simp) _).setCell (by simp) _).trans (HG8.o.blw (n := w.heap.size) (by omega) (by have := HBW6.o.size; simpa using this))
set_option maxHeartbeats 8000000 in
theorem twinReveal_new {R : Rv} (w : World) (hR : RvIn w R) (hn : R.n ≤ 10000) (hm : R.m ≤ 10000) :
 Calls Tryz.prog 50 #[R.v] w fun e w' => ∃ U : Rv, e = .returned U.v ∧ RvIn w' U ∧ SameR U R ∧ highB U.a U.n w.heap.size ∧ highB U.b U.m w.heap.size ∧ Below w.heap.size w w' := by
 have HR := Lh hR
 obtain ⟨F_v, F_o, HBW⟩ := bx2 w [.slice R.a R.n R.c, .slice R.b R.m R.d] 36 [.slice none 0 0, .slice none 0 0] 36
 have v0 := F_v.o.c 0 _ rfl
 have v1 := F_v.o.c 1 _ rfl
 clear hR
 unfold Rv.v
 go_enter Tryz.func50, Tryz.ntmps50
 go_wp2_with fail
 go_region_law (first
  | (go_simp
     go_at_call 27
     refine (intClone_any _ (HR.o.h1.keep HBW.o.drew) HR.o.k1 hn).mono ?_
     rintro e w5 ⟨v5, rfl, ho5, hb5⟩
     obtain ⟨a5, c5, rfl, -, hk5⟩ := ShI.of_owned2 ho5
     have HO5 := Lh (owns_mono ho5 (n₀ := w.heap.size + 2) (by simp))
     have HK5 := Lh hk5
     have F_v5 := Lh (F_v.o.drew.keep hb5)
     have F_o5 := Lh (F_o.o.drew.keep hb5)
     have HBW5 := Lh (HBW.o.drew.trans (hb5.mono HBW.o.drew.size))
     have hz5 : w.heap.size + 2 ≤ w5.heap.size := by have := hb5.size; simp only [World.size_drew, World.size_alloc] at this; omega
     have y0 := F_v5.o.c 0 _ rfl
     have y1 := F_v5.o.c 1 _ rfl
     clear ho5 hb5 hk5)
  | (go_simp
     go_at_call 91
     refine (u64Clone_any _ (HR.o.h2.keep HBW5.o) HR.o.k2 hm).mono ?_
     rintro e w6 ⟨v6, rfl, ho6, hb6⟩
     obtain ⟨a6, c6, rfl, -, hk6⟩ := ShI.of_owned2 ho6
     have HO6 := Lh (owns_below2 HO5.o hb6)
     have HP6 := Lh (owns_mono ho6 (n₀ := w.heap.size + 2) hz5)
     have HK6 := Lh hk6
     have F_o6 := Lh (F_o5.o.keep hb6)
     have HBW6 := Lh (HBW5.o.trans (hb6.mono HBW5.o.size))
     have x0 := F_o6.o.c 0 _ rfl
     have x1 := F_o6.o.c 1 _ rfl
     have xf0 := F_o6.o.f 0
     have xf1 := F_o6.o.f 1
     clear ho6 hb6 hk6))
 all_goals
  have F_q := Lh ((F_o6.o.set (m := [.slice a5 R.n c5, .slice none 0 0]) 0 (.slice a5 R.n c5) (by simp) rfl).set (m := [.slice a5 R.n c5, .slice a6 R.m c6]) 1 (.slice a6 R.m c6) (by simp) rfl)
  clear v0 v1 y0 y1 x0 x1 xf0 xf1
  go_wp2_with fail
  obtain ⟨x1, y1, ex1, hS1, -⟩ := ShI.of_owned2 (own_far (own_far HO6.o ⟨w.heap.size + 1, 0, none⟩ (.slice a5 R.n c5) (by simp)) ⟨w.heap.size + 1, 1, none⟩ (.slice a6 R.m c6) (by simp))
  obtain ⟨x2, y2, ex2, hS2, -⟩ := ShI.of_owned2 (own_far (own_far HP6.o ⟨w.heap.size + 1, 0, none⟩ (.slice a5 R.n c5) (by simp)) ⟨w.heap.size + 1, 1, none⟩ (.slice a6 R.m c6) (by simp))
  injection ex1 with f1 f2 f3
  injection ex2 with f4 f5 f6
  subst f1 f4
  refine bodyPost_ret (res_rev1 rfl F_q.o _ rfl) rfl ?_
  refine ⟨⟨a5, R.n, c5, R.ms, a6, R.m, c6, R.ns⟩, rfl, ⟨hS1, HR.o.u1, HK5.o, hS2, HR.o.u2, HK6.o⟩, ⟨rfl, rfl, rfl, rfl⟩, high_own HO6.o (by omega), high_own HP6.o (by omega), ?_⟩
  exact (HBW6.o.setCell (by simp) _).setCell (by simp) _
open Go Go.RowKit Num Sha
def RbV (lo : Nat) (v : Value) (k : Nat) (L : List Vt) (wr : World) : Prop := ∃ Us : List Vt, wr.ownsRow lo 33 11 v k (Us.flatMap Vt.vs) ∧ (∀ U, U ∈ Us → VtOff wr U v.ownBlock ∧ highB U.a U.n lo ∧ highB U.b U.m lo) ∧ Us.map Vt.key = L.map Vt.key
def RdV (lo N : Nat) (v : Value) (k : Nat) (L : List Vt) (wr : World) : Prop := ∃ Us : List Vt, wr.ownsRow lo 33 11 v k (Us.flatMap Vt.vs) ∧ (∀ g, v.ownBlock = some g → g < N) ∧ (∀ U, U ∈ Us → VtOff wr U v.ownBlock ∧ (highB U.a U.n lo ∧ highB U.b U.m lo) ∧ lowB U.a U.n N ∧ lowB U.b U.m N) ∧ Us.map Vt.key = L.map Vt.key
theorem RbV.start (lo : Nat) (wr : World) : RbV lo (.slice none 0 0) 0 [] wr := ⟨[], World.ownsRow_nil _ _ _ _, (fun U h => by cases h), rfl⟩
theorem RbV.keep {lo : Nat} {v : Value} {k : Nat} {L : List Vt} {w w' : World} (h : RbV lo v k L w) (hb : Below w.heap.size w w') : RbV lo v k L w' := by
 obtain ⟨Us, h1, h2, h3⟩ := h
 exact ⟨Us, owns_below2 h1 hb, fun U hU => ⟨(h2 U hU).1.keep hb, (h2 U hU).2⟩, h3⟩
theorem RbV.box {lo : Nat} {v : Value} {k : Nat} {L : List Vt} {w : World} {p : Addr} {u : Value} {a0 : Option Addr} {n0 c0 : Nat} (h : RbV lo v k L w) (hb : p.block < lo) (hp : w.cell? p = some (.slice a0 n0 c0)) : RbV lo v k L (w.setCell p u) := by
 obtain ⟨Us, h1, h2, h3⟩ := h
 exact ⟨Us, ownsRow_setCell_below h1 hb u, fun U hU => ⟨(h2 U hU).1.slc hp, (h2 U hU).2⟩, h3⟩
theorem RbV.full {lo : Nat} {v : Value} {k : Nat} {L : List Vt} {w : World} (h : RbV lo v k L w) : RdV lo w.heap.size v k L w := by
 obtain ⟨Us, h1, h2, h3⟩ := h
 exact ⟨Us, h1, fun g hg => (h1.lt g hg).2, fun U hU => ⟨(h2 U hU).1, (h2 U hU).2, (h2 U hU).1.1.h1.low, (h2 U hU).1.1.h2.low⟩, h3⟩
theorem RdV.row {lo N : Nat} {v : Value} {k : Nat} {L : List Vt} {w : World} (h : RdV lo N v k L w) : RbV lo v k L w := by
 obtain ⟨Us, h1, h2, h3, h4⟩ := h
 exact ⟨Us, h1, fun U hU => ⟨(h3 U hU).1, (h3 U hU).2.1⟩, h4⟩
theorem RdV.keep {lo N : Nat} {v : Value} {k : Nat} {L : List Vt} {w w' : World} (h : RdV lo N v k L w) (hb : Below w.heap.size w w') : RdV lo N v k L w' := by
 obtain ⟨Us, h1, h2, h3, h4⟩ := h
 exact ⟨Us, owns_below2 h1 hb, h2, fun U hU => ⟨(h3 U hU).1.keep hb, (h3 U hU).2⟩, h4⟩
theorem RdV.box {lo N : Nat} {v : Value} {k : Nat} {L : List Vt} {w : World} {p : Addr} {u : Value} {a0 : Option Addr} {n0 c0 : Nat} (h : RdV lo N v k L w) (hb : p.block < lo) (hp : w.cell? p = some (.slice a0 n0 c0)) : RdV lo N v k L (w.setCell p u) := by
 obtain ⟨Us, h1, h2, h3, h4⟩ := h
 exact ⟨Us, ownsRow_setCell_below h1 hb u, h2, fun U hU => ⟨(h3 U hU).1.slc hp, (h3 U hU).2⟩, h4⟩
theorem RdV.grown {lo N : Nat} {v : Value} {k : Nat} {L : List Vt} {w w' : World} {ob : Option Nat} (h : RdV lo N v k L w) (hg : w.grownBy w' ob) (ho : ∀ g, ob = some g → g < lo ∨ N ≤ g) : RdV lo N v k L w' := by
 obtain ⟨Us, h1, h2, h3, h4⟩ := h
 have hne : v.ownBlock = none ∨ v.ownBlock ≠ ob := by
  cases hv : v.ownBlock with
  | none => exact .inl rfl
  | some g =>
   refine .inr fun e => ?_
   have := ho g e.symm
   have := h2 g hv
   have := (h1.lt g hv).1
   omega
 have off : ∀ (a : Option Addr) (n : Nat), highB a n lo → lowB a n N → offB a n ob := fun a n hh hl hn s o ha e => by
  have := hh hn s o ha
  have := hl hn s o ha
  have := ho s e
  omega
 refine ⟨Us, h1.kept hg hne, h2, fun U hU => ?_, h4⟩
 obtain ⟨g1, ⟨g2, g3⟩, g4, g5⟩ := h3 U hU
 exact ⟨⟨(VtOff.grown (ob' := ob) ⟨g1.1, off _ _ g2 g4, off _ _ g3 g5⟩ hg (.inl rfl)).1, g1.2⟩, ⟨g2, g3⟩, g4, g5⟩
theorem RbV.push {lo k i : Nat} {v v' : Value} {L : List Vt} {w w' : World} {U V : Vt} {Us : List Vt} (ho : w'.ownsRow lo 33 11 v' (k + 1) (Us.flatMap Vt.vs ++ U.vs)) (hg : w.grownBy w' v.ownBlock) (hw : v'.ownBlock = v.ownBlock ∨ v'.ownBlock = some w.heap.size)
 (hoff : ∀ U, U ∈ Us → VtOff w U v.ownBlock ∧ highB U.a U.n lo ∧ highB U.b U.m lo) (hU : VtOff w U v.ownBlock) (ha : highB U.a U.n lo) (hb : highB U.b U.m lo) (hkey : Us.map Vt.key = (L.take i).map Vt.key) (hV : L[i]? = some V) (hUV : U.key = V.key) : RbV lo v' (k + 1) (L.take (i + 1)) w' := by
 refine ⟨Us ++ [U], by rw [List.flatMap_append, List.flatMap_singleton]; exact ho, fun X hX => ?_, keys_snoc _ hkey hV hUV⟩
 rcases List.mem_append.1 hX with hX | hX
 · exact ⟨(hoff X hX).1.grown hg hw, (hoff X hX).2⟩
 · rw [List.mem_singleton] at hX
   subst hX
   exact ⟨hU.grown hg hw, ha, hb⟩
def RbR (lo : Nat) (v : Value) (k : Nat) (L : List Rv) (wr : World) : Prop := ∃ Us : List Rv, wr.ownsRow lo 36 2 v k (Us.flatMap Rv.vs) ∧ (∀ U, U ∈ Us → RvOff wr U v.ownBlock ∧ highB U.a U.n lo ∧ highB U.b U.m lo) ∧ Us.map Rv.key = L.map Rv.key
def RdR (lo N : Nat) (v : Value) (k : Nat) (L : List Rv) (wr : World) : Prop := ∃ Us : List Rv, wr.ownsRow lo 36 2 v k (Us.flatMap Rv.vs) ∧ (∀ g, v.ownBlock = some g → g < N) ∧ (∀ U, U ∈ Us → RvOff wr U v.ownBlock ∧ (highB U.a U.n lo ∧ highB U.b U.m lo) ∧ lowB U.a U.n N ∧ lowB U.b U.m N) ∧ Us.map Rv.key = L.map Rv.key
theorem RbR.start (lo : Nat) (wr : World) : RbR lo (.slice none 0 0) 0 [] wr := ⟨[], World.ownsRow_nil _ _ _ _, (fun U h => by cases h), rfl⟩
theorem RbR.keep {lo : Nat} {v : Value} {k : Nat} {L : List Rv} {w w' : World} (h : RbR lo v k L w) (hb : Below w.heap.size w w') : RbR lo v k L w' := by
 obtain ⟨Us, h1, h2, h3⟩ := h
 exact ⟨Us, owns_below2 h1 hb, fun U hU => ⟨(h2 U hU).1.keep hb, (h2 U hU).2⟩, h3⟩
theorem RbR.box {lo : Nat} {v : Value} {k : Nat} {L : List Rv} {w : World} {p : Addr} {u : Value} {a0 : Option Addr} {n0 c0 : Nat} (h : RbR lo v k L w) (hb : p.block < lo) (hp : w.cell? p = some (.slice a0 n0 c0)) : RbR lo v k L (w.setCell p u) := by
 obtain ⟨Us, h1, h2, h3⟩ := h
 exact ⟨Us, ownsRow_setCell_below h1 hb u, fun U hU => ⟨(h2 U hU).1.slc hp, (h2 U hU).2⟩, h3⟩
theorem RbR.full {lo : Nat} {v : Value} {k : Nat} {L : List Rv} {w : World} (h : RbR lo v k L w) : RdR lo w.heap.size v k L w := by
 obtain ⟨Us, h1, h2, h3⟩ := h
 exact ⟨Us, h1, fun g hg => (h1.lt g hg).2, fun U hU => ⟨(h2 U hU).1, (h2 U hU).2, (h2 U hU).1.1.h1.low, (h2 U hU).1.1.h2.low⟩, h3⟩
theorem RdR.row {lo N : Nat} {v : Value} {k : Nat} {L : List Rv} {w : World} (h : RdR lo N v k L w) : RbR lo v k L w := by
 obtain ⟨Us, h1, h2, h3, h4⟩ := h
 exact ⟨Us, h1, fun U hU => ⟨(h3 U hU).1, (h3 U hU).2.1⟩, h4⟩
theorem RdR.keep {lo N : Nat} {v : Value} {k : Nat} {L : List Rv} {w w' : World} (h : RdR lo N v k L w) (hb : Below w.heap.size w w') : RdR lo N v k L w' := by
 obtain ⟨Us, h1, h2, h3, h4⟩ := h
 exact ⟨Us, owns_below2 h1 hb, h2, fun U hU => ⟨(h3 U hU).1.keep hb, (h3 U hU).2⟩, h4⟩
theorem RdR.box {lo N : Nat} {v : Value} {k : Nat} {L : List Rv} {w : World} {p : Addr} {u : Value} {a0 : Option Addr} {n0 c0 : Nat} (h : RdR lo N v k L w) (hb : p.block < lo) (hp : w.cell? p = some (.slice a0 n0 c0)) : RdR lo N v k L (w.setCell p u) := by
 obtain ⟨Us, h1, h2, h3, h4⟩ := h
 exact ⟨Us, ownsRow_setCell_below h1 hb u, h2, fun U hU => ⟨(h3 U hU).1.slc hp, (h3 U hU).2⟩, h4⟩
theorem RdR.grown {lo N : Nat} {v : Value} {k : Nat} {L : List Rv} {w w' : World} {ob : Option Nat} (h : RdR lo N v k L w) (hg : w.grownBy w' ob) (ho : ∀ g, ob = some g → g < lo ∨ N ≤ g) : RdR lo N v k L w' := by
 obtain ⟨Us, h1, h2, h3, h4⟩ := h
 have hne : v.ownBlock = none ∨ v.ownBlock ≠ ob := by
  cases hv : v.ownBlock with
  | none => exact .inl rfl
  | some g =>
   refine .inr fun e => ?_
   have := ho g e.symm
   have := h2 g hv
   have := (h1.lt g hv).1
   omega
 have off : ∀ (a : Option Addr) (n : Nat), highB a n lo → lowB a n N → offB a n ob := fun a n hh hl hn s o ha e => by
  have := hh hn s o ha
  have := hl hn s o ha
  have := ho s e
  omega
 refine ⟨Us, h1.kept hg hne, h2, fun U hU => ?_, h4⟩
 obtain ⟨g1, ⟨g2, g3⟩, g4, g5⟩ := h3 U hU
 exact ⟨⟨(RvOff.grown (ob' := ob) ⟨g1.1, off _ _ g2 g4, off _ _ g3 g5⟩ hg (.inl rfl)).1, g1.2⟩, ⟨g2, g3⟩, g4, g5⟩
theorem RbR.push {lo k i : Nat} {v v' : Value} {L : List Rv} {w w' : World} {U V : Rv} {Us : List Rv} (ho : w'.ownsRow lo 36 2 v' (k + 1) (Us.flatMap Rv.vs ++ U.vs)) (hg : w.grownBy w' v.ownBlock) (hw : v'.ownBlock = v.ownBlock ∨ v'.ownBlock = some w.heap.size)
 (hoff : ∀ U, U ∈ Us → RvOff w U v.ownBlock ∧ highB U.a U.n lo ∧ highB U.b U.m lo) (hU : RvOff w U v.ownBlock) (ha : highB U.a U.n lo) (hb : highB U.b U.m lo) (hkey : Us.map Rv.key = (L.take i).map Rv.key) (hV : L[i]? = some V) (hUV : U.key = V.key) : RbR lo v' (k + 1) (L.take (i + 1)) w' := by
 refine ⟨Us ++ [U], by rw [List.flatMap_append, List.flatMap_singleton]; exact ho, fun X hX => ?_, keys_snoc _ hkey hV hUV⟩
 rcases List.mem_append.1 hX with hX | hX
 · exact ⟨(hoff X hX).1.grown hg hw, (hoff X hX).2⟩
 · rw [List.mem_singleton] at hX
   subst hX
   exact ⟨hU.grown hg hw, ha, hb⟩
end Go.Proofs.YtlbldpkgnonbpaaGreatDoor
