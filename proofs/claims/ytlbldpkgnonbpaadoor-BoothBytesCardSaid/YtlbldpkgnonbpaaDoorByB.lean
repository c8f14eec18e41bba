/- The bytes of a vote. -/
import Derived.Test.YtlbldpkgnonbpaaDoorByA
import Derived.Laws.AppendOwnNone
import Derived.Laws.OwnMore
import Derived.Lib.SliceRun
import Derived.Deep.RegionLaw
namespace Go.Proofs.YtlbldpkgnonbpaaDoor
open Go Go.RowKit Num Sha
set_option linter.unusedSimpArgs false
set_option linter.unusedVariables false

/-- The cells of proofs. -/
def flatB (ps : List Bt) : List Value := ps.flatMap Bt.vs
theorem flatB_length (ps : List Bt) : (flatB ps).length = ps.length * 8 := by
  induction ps with
  | nil => rfl
  | cons p ps ih => rw [flatB, List.flatMap_cons, List.length_append, ← flatB, ih]; simp [Bt.vs]; omega
theorem flatB_append (ps qs : List Bt) : flatB (ps ++ qs) = flatB ps ++ flatB qs := by simp [flatB]
theorem flatB_at : ∀ (ps : List Bt) (i k : Nat) (u : Value), i < ps.length → (ps.getD i Bt.zero).vs[k]? = some u → (flatB ps)[i * 8 + k]? = some u
  | [], i, k, u, h, _ => by simp at h
  | p :: ps, 0, k, u, _, h => by
    have hk : k < 8 := by have := (List.getElem?_eq_some_iff.1 h).1; simpa [Bt.vs] using this
    rw [flatB, List.flatMap_cons, Nat.zero_mul, Nat.zero_add, List.getElem?_append_left (by simp [Bt.vs]; omega)]
    simpa using h
  | p :: ps, i + 1, k, u, hi, h => by
    have := flatB_at ps i k u (by simpa using hi) (by simpa using h)
    rw [flatB, List.flatMap_cons, List.getElem?_append_right (by simp [Bt.vs]; omega), ← flatB]
    rw [show (i + 1) * 8 + k - p.vs.length = i * 8 + k by simp [Bt.vs]; omega]
    exact this
theorem flatB_one (ps : List Bt) : ∀ u, u ∈ flatB ps → u.oneCell' = true := by
  intro u hu
  obtain ⟨p, -, h⟩ := List.mem_flatMap.1 hu
  simp [Bt.vs] at h
  rcases h with rfl | rfl | rfl | rfl | rfl | rfl | rfl | rfl <;> rfl
/-- The cells of a slice of proofs, as append wants them. -/
theorem ShB.cells {w : World} {ad : Addr} {n : Nat} {ps : List Bt} (h : ShB w (some ad) n ps) : ∀ j u, (flatB ps)[j]? = some u → w.cell? (ad.add j) = some u := by
  rcases h with ⟨_, h⟩ | ⟨s, o, h0, h1, h2, h3⟩
  · subst h; intro j u hj; simp [flatB] at hj
  · cases h0
    intro j u hj
    have hlt : j < ps.length * 8 := by
      rw [← flatB_length ps]
      exact (List.getElem?_eq_some_iff.1 hj).1
    have hi : j / 8 < ps.length := by omega
    obtain ⟨u', hu'⟩ : ∃ u', (ps.getD (j / 8) Bt.zero).vs[j % 8]? = some u' := ⟨_, List.getElem?_eq_getElem (by simp [Bt.vs]; omega)⟩
    have h4 := flatB_at ps (j / 8) (j % 8) u' hi hu'
    rw [show j / 8 * 8 + j % 8 = j by omega] at h4
    rw [hj] at h4
    cases h4
    have h5 := h3 (j / 8) hi (j % 8) u hu'
    rw [show o + j / 8 * 8 + j % 8 = o + j by omega] at h5
    rw [add_pl]; exact h5
/-- An owned row of proofs is such a slice. -/
theorem ShB.of_owned {w : World} {base : Nat} {e : TypeId} {v : Value} {n : Nat} {ps : List Bt} (h : w.ownsRow base e 8 v n (flatB ps)) : ∃ a c, v = .slice a n c ∧ ShB w a n ps := by
  have hl := h.1
  rw [flatB_length] at hl
  rcases h.2 with ⟨rfl, h0⟩ | ⟨g, cap, cur, rfl, hb, hg, _⟩
  · subst h0
    have : ps = [] := List.eq_nil_of_length_eq_zero (by omega)
    subst this
    exact ⟨none, 0, rfl, .inl ⟨rfl, rfl⟩⟩
  · refine ⟨_, _, rfl, .inr ⟨g, 0, rfl, by omega, (h.lt g rfl).2, fun i hi k u hu => ?_⟩⟩
    have hc := h.cells (g := g) rfl _ _ (flatB_at ps i k u hi hu)
    rw [add_pl] at hc
    rwa [← Nat.add_assoc] at hc
theorem cell_list_at (w : World) (cs : List Value) (t : TypeId) (s : Nat) (hs : s = w.heap.size) : ∀ j u, cs[j]? = some u → (w.alloc (.cells cs.toArray t)).cell? ((⟨s, 0, none⟩ : Addr).add j) = some u := by
  intro j u hj
  subst hs
  rw [add_pl, Nat.zero_add, World.cell?_alloc_new]
  simpa using hj
theorem owns_below2 {W W' : World} {n₀ : Nat} {e : TypeId} {sz n : Nat} {v : Value} {xs : List Value} (h : W.ownsRow n₀ e sz v n xs) (hb : Below W.heap.size W W') : W'.ownsRow n₀ e sz v n xs :=
  World.ownsRow.kept (row := none) h ⟨hb.os, hb.tape, hb.output, hb.size, fun k hk _ => hb.block k hk⟩ (by cases v.ownBlock <;> simp)
theorem owns_alloc2 {W : World} {n₀ : Nat} {e : TypeId} {sz n : Nat} {v : Value} {xs : List Value} (h : W.ownsRow n₀ e sz v n xs) (o : Obj) : (W.alloc o).ownsRow n₀ e sz v n xs := owns_below2 h ((Below.refl _ _).alloc (Nat.le_refl _) o)
theorem Below.rowT {n : Nat} {W W' : World} {r : Option Nat} (hg : W.grownBy W' r) (hr : ∀ k, r = some k → n ≤ k) (hn : n ≤ W.heap.size) : Below n W W' :=
  ⟨hg.os, hg.tape, hg.output, hg.size, fun k hk => hg.block k (Nat.lt_of_lt_of_le hk hn) (fun e => by have := hr k e.symm; omega)⟩

set_option maxRecDepth 100000 in
set_option maxHeartbeats 8000000 in
theorem bitClone_any {a : Option Addr} {n c : Nat} {ps : List Bt} (w : World) (h : ShB w a n ps) (hc : a = none → c = 0) (hn : n ≤ 10000) :
    Calls Tryd.prog 29 #[.slice a n c] w fun e w' => ∃ v, e = .returned v ∧ w'.ownsRow w.heap.size 27 8 v n (flatB ps) ∧ Below w.heap.size w w' := by
  obtain ⟨i0, hi, hz0, hz1, hz2⟩ := info_parts (P := Tryd.prog) (e := 27) (z := .agg #[.int .u64 0, .int .u64 0, .int .u64 0, .int .u64 0, .int .u64 0, .int .u64 0, .int .u64 0, .int .u64 0]) (size := 8) (bytes := 64) (by kernel_rfl)
  have HS := Lib.hid h
  have HLN := Lib.hid h.len
  have qT : ∀ (w : World) (a : Option Addr) (n c n' c' : Nat), (binOp .eql 23 (.slice a n c) (.slice none n' c')).run Tryd.prog w = .ok (.bool a.isNone) w := fun w a n c n' c' => Lib.run_eql_slice_nil w _ _ a n c n' c' Tryd.underlying23
  cases a with
  | none =>
    have hz : n = 0 ∧ ps = [] := by
      rcases h with ⟨h1, h2⟩ | ⟨s, o, h0, -⟩
      · exact ⟨h1, h2⟩
      · cases h0
    obtain ⟨rfl, rfl⟩ := hz
    obtain rfl : c = 0 := hc rfl
    go_enter Tryd.func29, Tryd.ntmps29
    go_wp2_with fail
    go_ret
    exact ⟨_, rfl, World.ownsRow_nil _ _ _ _, Below.refl _ _⟩
  | some ad =>
    have HL := Lib.hid (show (flatB ps).length = n * 8 by rw [flatB_length, ← h.len])
    clear h
    go_enter Tryd.func29, Tryd.ntmps29
    go_wp2_with (at_builtin; refine wpList_append_own _ rfl _ _ 23 rfl w.heap.size 27 i0 _ 8 64 Tryd.underlying23 hi hz0 hz1 hz2 rfl (by decide) _ 0 [] rfl (World.ownsRow_lit w #[] 0 (Nat.le_refl _) (by decide) rfl) ad n c (flatB ps) rfl HL.out (HS.out.keep ((Below.refl _ _).alloc (Nat.le_refl _) _)).cells (flatB_one ps) (by unfold maxLen; omega) (by omega) (by simp) ?_; intro v' w1 hown hgr hnil; have HOWN := Lib.hid hown; have HGR := Lib.hid hgr; clear hown hgr hnil)
    go_ret
    have hb := Below.rowT (n := w.heap.size) HGR.out (fun j hj => by have e : some w.heap.size = some j := hj; injection e with e; omega) (by simp)
    refine ⟨_, rfl, ?_, ((Below.refl _ _).alloc (Nat.le_refl _) _).trans hb⟩
    have h9 := HOWN.out
    rw [Nat.zero_add, List.nil_append] at h9
    exact h9
end Go.Proofs.YtlbldpkgnonbpaaDoor
