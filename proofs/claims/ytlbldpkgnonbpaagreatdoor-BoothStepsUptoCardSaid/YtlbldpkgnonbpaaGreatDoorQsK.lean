/- proof.targets and bitCheck; a bit proof in memory. -/
import Derived.Test.YtlbldpkgnonbpaaGreatDoorQsJ
import Derived.Test.YtlbldpkgnonbpaaGreatDoorQsD
import Derived.Laws.AppendOwn
import Derived.OwnWalk
set_option linter.unusedSimpArgs false
set_option linter.unusedVariables false
set_option maxRecDepth 100000
namespace Go.Proofs.YtlbldpkgnonbpaaGreatDoor
open Go.RowKit Num
theorem res_two {w : World} {fn : Func} {c : Tmp} {b : Nat} {x y : Int} (h : fn.results = #[.cell c 29]) (hp : Pair w b x y) (tmps : Array Value)
 (hc : tmps[c]?.getD undef = .pointer (some ⟨b, 0, none⟩)) : (results fn tmps).run Tryz.prog w = .ok (.agg #[υ x, υ y]) w := by
 have h0 := hp.c0
 have h1 := hp.c1
 simp [results, h, hc, go_sem, h0, h1]
structure Eight (w : World) (b : Nat) (r0 r1 s0 s1 c0 c1 z0 z1 : Int) : Prop where
 k0 : w.cell? ⟨b, 0, none⟩ = some (υ r0)
 k1 : w.cell? ⟨b, 1, none⟩ = some (υ r1)
 k2 : w.cell? ⟨b, 2, none⟩ = some (υ s0)
 k3 : w.cell? ⟨b, 3, none⟩ = some (υ s1)
 k4 : w.cell? ⟨b, 4, none⟩ = some (υ c0)
 k5 : w.cell? ⟨b, 5, none⟩ = some (υ c1)
 k6 : w.cell? ⟨b, 6, none⟩ = some (υ z0)
 k7 : w.cell? ⟨b, 7, none⟩ = some (υ z1)
 lt : b < w.heap.size
section
variable {w w' : World} {b : Nat} {r0 r1 s0 s1 c0 c1 z0 z1 : Int}
theorem Eight.at (w : World) (r0 r1 s0 s1 c0 c1 z0 z1 : Int) (T : TypeId) (b : Nat) (hb : b = w.heap.size) : Eight (w.alloc (.cells #[υ r0, υ r1, υ s0, υ s1, υ c0, υ c1, υ z0, υ z1] T)) b r0 r1 s0 s1 c0 c1 z0 z1 := by
 subst hb
 refine ⟨?_, ?_, ?_, ?_, ?_, ?_, ?_, ?_, by simp⟩ <;> (rw [World.cell?_alloc_new]; rfl)
theorem Eight.keep (h : Eight w b r0 r1 s0 s1 c0 c1 z0 z1) (hb : Below w.heap.size w w') : Eight w' b r0 r1 s0 s1 c0 c1 z0 z1 :=
 ⟨(hb.cell (p := ⟨b, 0, none⟩) h.lt).trans h.k0, (hb.cell (p := ⟨b, 1, none⟩) h.lt).trans h.k1, (hb.cell (p := ⟨b, 2, none⟩) h.lt).trans h.k2, (hb.cell (p := ⟨b, 3, none⟩) h.lt).trans h.k3, (hb.cell (p := ⟨b, 4, none⟩) h.lt).trans h.k4, (hb.cell (p := ⟨b, 5, none⟩) h.lt).trans h.k5, (hb.cell (p := ⟨b, 6, none⟩) h.lt).trans h.k6, (hb.cell (p := ⟨b, 7, none⟩) h.lt).trans h.k7, Nat.lt_of_lt_of_le h.lt hb.size⟩
theorem Eight.drew (h : Eight w b r0 r1 s0 s1 c0 c1 z0 z1) : Eight w.drew b r0 r1 s0 s1 c0 c1 z0 z1 := h.keep (Below.refl _ _).drew
theorem Eight.alloc (h : Eight w b r0 r1 s0 s1 c0 c1 z0 z1) (o : Obj) : Eight (w.alloc o) b r0 r1 s0 s1 c0 c1 z0 z1 := h.keep ((Below.refl _ _).alloc (Nat.le_refl _) o)
theorem cell_grown {row : Option Nat} (hg : w.grownBy w' row) {p : Addr} (hlt : p.block < w.heap.size) (hne : some p.block ≠ row) : w'.cell? p = w.cell? p := World.cell?_of_block (hg.block p.block hlt hne)
theorem Eight.grown {row : Option Nat} (h : Eight w b r0 r1 s0 s1 c0 c1 z0 z1) (hg : w.grownBy w' row) (hne : some b ≠ row) : Eight w' b r0 r1 s0 s1 c0 c1 z0 z1 :=
 ⟨(cell_grown hg (p := ⟨b, 0, none⟩) h.lt hne).trans h.k0, (cell_grown hg (p := ⟨b, 1, none⟩) h.lt hne).trans h.k1, (cell_grown hg (p := ⟨b, 2, none⟩) h.lt hne).trans h.k2, (cell_grown hg (p := ⟨b, 3, none⟩) h.lt hne).trans h.k3, (cell_grown hg (p := ⟨b, 4, none⟩) h.lt hne).trans h.k4, (cell_grown hg (p := ⟨b, 5, none⟩) h.lt hne).trans h.k5, (cell_grown hg (p := ⟨b, 6, none⟩) h.lt hne).trans h.k6, (cell_grown hg (p := ⟨b, 7, none⟩) h.lt hne).trans h.k7, Nat.lt_of_lt_of_le h.lt hg.size⟩
theorem pair_grown {row : Option Nat} {x y : Int} (h : w.cell? ⟨b, 0, none⟩ = some (υ x) ∧ w.cell? ⟨b, 1, none⟩ = some (υ y)) (hl : b < w.heap.size) (hg : w.grownBy w' row) (hne : some b ≠ row) : w'.cell? ⟨b, 0, none⟩ = some (υ x) ∧ w'.cell? ⟨b, 1, none⟩ = some (υ y) :=
 ⟨(cell_grown hg (p := ⟨b, 0, none⟩) hl hne).trans h.1, (cell_grown hg (p := ⟨b, 1, none⟩) hl hne).trans h.2⟩
theorem boxed_grown {row : Option Nat} {P Q G : Int} (h : Boxed w b P Q G) (hg : w.grownBy w' row) (hne : some b ≠ row) : Boxed w' b P Q G :=
 ⟨(cell_grown hg (p := ⟨b, 0, none⟩) h.lt hne).trans h.c0, (cell_grown hg (p := ⟨b, 1, none⟩) h.lt hne).trans h.c1, (cell_grown hg (p := ⟨b, 2, none⟩) h.lt hne).trans h.c2, Nat.lt_of_lt_of_le h.lt hg.size⟩
theorem shl_grown {row : Option Nat} {n c : Nat} {xs : List Int} (h : ShL w (some ⟨b, 0, none⟩) n c xs) (hg : w.grownBy w' row) (hne : some b ≠ row) : ShL w' (some ⟨b, 0, none⟩) n c xs := by
 rcases h with ⟨h, _⟩ | ⟨s, h0, h1, h2, h3⟩
 · cases h
 · cases h0
   exact .inr ⟨b, rfl, h1, Nat.lt_of_lt_of_le h2 hg.size, fun i hi => (cell_grown hg (p := ⟨b, i, none⟩) h2 hne).trans (h3 i hi)⟩
theorem ShL.cells {a : Nat} {n c : Nat} {xs : List Int} (h : ShL w (some ⟨a, 0, none⟩) n c xs) : ∀ j u, (xs.map (Value.int IntKind.u64))[j]? = some u → w.cell? ((⟨a, 0, none⟩ : Addr).add j) = some u := by
 rcases h with ⟨h, _⟩ | ⟨s, h0, h1, h2, h3⟩
 · cases h
 · cases h0
   intro j u hj
   have hl : j < xs.length := by simpa using (List.getElem?_eq_some_iff.1 hj).1
   have e : (⟨a, 0, none⟩ : Addr).add j = ⟨a, j, none⟩ := by unfold Addr.add; split <;> simp_all
   rw [e, h3 j hl]
   rw [List.getElem?_map, List.getElem?_eq_getElem hl] at hj
   rw [List.getD_eq_getElem?_getD, List.getElem?_eq_getElem hl]
   simpa using hj
theorem ShL.of_owned {base : Nat} {e : TypeId} {v : Value} {n : Nat} {xs : List Int} (h : w.ownsRow base e 1 v n (xs.map (Value.int IntKind.u64))) : ∃ a c, v = .slice a n c ∧ ShL w a n c xs := by
 have hl := h.1
 rw [List.length_map, Nat.mul_one] at hl
 rcases h.2 with ⟨rfl, h0⟩ | ⟨g, cap, cur, rfl, hb, hg, _⟩
 · subst h0
   have : xs = [] := List.eq_nil_of_length_eq_zero hl
   subst this
   exact ⟨none, 0, rfl, ShL.nil w⟩
 · refine ⟨_, _, rfl, .inr ⟨g, rfl, hl.symm, (h.lt g rfl).2, fun i hi => ?_⟩⟩
   have hc := h.cells (g := g) rfl i (υ (xs.getD i 0)) (by
    rw [List.getElem?_map, List.getElem?_eq_getElem hi, List.getD_eq_getElem?_getD, List.getElem?_eq_getElem hi]; rfl)
   have e : (⟨g, 0, none⟩ : Addr).add i = ⟨g, i, none⟩ := by unfold Addr.add; split <;> simp_all
   rwa [e] at hc
end
def S8 (w : World) (b : Nat) (r0 r1 s0 s1 c0 c1 z0 z1 : Int) : Prop := w.cell? ⟨b, 0, none⟩ = some (.int .u64 r0) ∧ w.cell? ⟨b, 1, none⟩ = some (.int .u64 r1) ∧ w.cell? ⟨b, 2, none⟩ = some (.int .u64 s0) ∧ w.cell? ⟨b, 3, none⟩ = some (.int .u64 s1) ∧ w.cell? ⟨b, 4, none⟩ = some (.int .u64 c0) ∧ w.cell? ⟨b, 5, none⟩ = some (.int .u64 c1) ∧ w.cell? ⟨b, 6, none⟩ = some (.int .u64 z0) ∧ w.cell? ⟨b, 7, none⟩ = some (.int .u64 z1)
theorem Eight.s {w : World} {b : Nat} {r0 r1 s0 s1 c0 c1 z0 z1 : Int} (h : Eight w b r0 r1 s0 s1 c0 c1 z0 z1) : S8 w b r0 r1 s0 s1 c0 c1 z0 z1 := ⟨h.k0, h.k1, h.k2, h.k3, h.k4, h.k5, h.k6, h.k7⟩
set_option maxHeartbeats 4000000 in
theorem targets_any {P Q G a b n pp t : Int} (w : World) (hH : Has P Q G) (b0 : 0 ≤ b) (bP : b < P) (hn : (0 - 1) % Q = n) (hp : powm G n P = pp) (ht : b * pp % P = t) :
 Calls Tryz.prog 69 #[.agg #[υ P, υ Q, υ G], .agg #[υ a, υ b]] w fun e w' => e = .returned (.agg #[υ b, υ t]) ∧ Below w.heap.size w w' := by
 obtain ⟨p5, p3, hQ', pq, g2, gP⟩ := id hH
 have q1 : (1 : Int) < Q := by omega
 have hG : 0 ≤ G := by omega
 have n0 : 0 ≤ n := by rw [← hn]; exact Int.emod_nonneg _ (by omega)
 have nQ : n < Q := by rw [← hn]; exact Int.emod_lt_of_pos _ (by omega)
 have pp0 : 0 ≤ pp := by rw [← hp]; exact powm_nonneg (by omega)
 have ppP : pp < P := by rw [← hp]; exact powm_lt (by omega)
 have UN := Lh (U64.of_lt n0 (by omega))
 have HN := Lh hn
 have HP := Lh hp
 have HT := Lh ht
 have HH := Lh hH
 clear hn hp ht hH pq
 have F_g := Lh (show Boxed (((w.alloc (.cells #[υ P, υ Q, υ G] 24)).alloc (.cells #[υ a, υ b] 75)).alloc (.cells #[υ 0, υ 0] 29)) (w.heap.size) P Q G from ((Boxed.at _ P Q G _ (w.heap.size) (by simp)).alloc _).alloc _)
 have F_s := Lh (show Pair (((w.alloc (.cells #[υ P, υ Q, υ G] 24)).alloc (.cells #[υ a, υ b] 75)).alloc (.cells #[υ 0, υ 0] 29)) (w.heap.size + 1) a b from (Pair.at _ a b _ (w.heap.size + 1) (by simp)).alloc _)
 have F_r := Lh (show Pair (((w.alloc (.cells #[υ P, υ Q, υ G] 24)).alloc (.cells #[υ a, υ b] 75)).alloc (.cells #[υ 0, υ 0] 29)) (w.heap.size + 1 + 1) 0 0 from Pair.at _ 0 0 _ (w.heap.size + 1 + 1) (by simp))
 have HBW := Lh (show Below w.heap.size w (((w.alloc (.cells #[υ P, υ Q, υ G] 24)).alloc (.cells #[υ a, υ b] 75)).alloc (.cells #[υ 0, υ 0] 29)) from (((Below.refl _ _).alloc (by simp <;> omega) _).alloc (by simp <;> omega) _).alloc (by simp <;> omega) _)
 go_enter Tryz.func69, Tryz.ntmps69
 go_wp2_with fail
 replace F_g := Lh F_g.o.drew
 replace F_s := Lh F_s.o.drew
 replace F_r := Lh F_r.o.drew
 replace HBW := Lh HBW.o.drew
 have hS := And.intro F_g.o.s F_s.o.s
 refine wp_region_stage 13 (fun w' => SBox w' w.heap.size P Q G ∧ SPair w' (w.heap.size + 1) a b) (by kernel_rfl) ?_
 refine tkQ 0 (some 5) (.fieldAddr 75 (.tmp 3) 1) 0 ?_
 simp only [sY]
 refine tkL (i := 1) (some 6) (.load 22 (.tmp 5)) 22 [12, 13] (v := ?_) hS (fun w' hSw => ?_) ?_
 rotate_left
 · obtain ⟨⟨s0, s1, s2⟩, ⟨s3, s4⟩⟩ := hSw
   unfold bareOp; go_simp; try with_reducible rfl
 simp only [sY]
 refine tkL (i := 2) (some 7) (.load 24 (.tmp 2)) 24 [11, 12, 13] (v := ?_) hS (fun w' hSw => ?_) ?_
 rotate_left
 · obtain ⟨⟨s0, s1, s2⟩, ⟨s3, s4⟩⟩ := hSw
   unfold bareOp; go_simp; try with_reducible rfl
 simp only [sY]
 refine tkQ 3 (some 8) (.fieldAddr 75 (.tmp 3) 1) 0 ?_
 simp only [sY]
 refine tkL (i := 4) (some 9) (.load 22 (.tmp 8)) 22 [11, 12, 13] (v := ?_) hS (fun w' hSw => ?_) ?_
 rotate_left
 · obtain ⟨⟨s0, s1, s2⟩, ⟨s3, s4⟩⟩ := hSw
   unfold bareOp; go_simp; try with_reducible rfl
 simp only [sY]
 refine tkL (i := 5) (some 10) (.load 24 (.tmp 2)) 24 [10, 11, 12, 13] (v := ?_) hS (fun w' hSw => ?_) ?_
 rotate_left
 · obtain ⟨⟨s0, s1, s2⟩, ⟨s3, s4⟩⟩ := hSw
   unfold bareOp; go_simp; try with_reducible rfl
 simp only [sY]
 refine tkQ 6 (some 11) (.fieldAddr 24 (.tmp 2) 2) 0 ?_
 simp only [sY]
 refine tkL (i := 7) (some 12) (.load 22 (.tmp 11)) 22 [10, 11, 12, 13] (v := ?_) hS (fun w' hSw => ?_) ?_
 rotate_left
 · obtain ⟨⟨s0, s1, s2⟩, ⟨s3, s4⟩⟩ := hSw
   unfold bareOp; go_simp; try with_reducible rfl
 simp only [sY]
 refine tkL (i := 8) (some 13) (.load 24 (.tmp 2)) 24 [9, 10, 11, 12, 13] (v := ?_) hS (fun w' hSw => ?_) ?_
 rotate_left
 · obtain ⟨⟨s0, s1, s2⟩, ⟨s3, s4⟩⟩ := hSw
   unfold bareOp; go_simp; try with_reducible rfl
 simp only [sY]
 refine onl (i := 9) (some 14) (.call { callee := .value (.func 66), args := #[.tmp 13, .const (υ 1)], argTypes := #[24, 22] }) 22 (fun K hK => ?_)
 unfold bareOp
 go_wp2_with (go_at_call 66; refine (pneg_ok _ HH.o (by omega) q1 HN.o).mono ?_; rintro e w1 ⟨rfl, hb1⟩)
 replace F_g := Lh (F_g.o.keep hb1)
 replace F_s := Lh (F_s.o.keep hb1)
 replace F_r := Lh (F_r.o.keep hb1)
 replace HBW := Kt HBW hb1
 replace hS := And.intro F_g.o.s F_s.o.s
 clear hb1
 refine hK.o _ _ (fun _ => hS) ?_
 clear hK K
 try simp only [sY]
 refine onl (i := 10) (some 15) (.call { callee := .value (.func 68), args := #[.tmp 10, .tmp 12, .tmp 14], argTypes := #[24, 22, 22] }) 22 (fun K hK => ?_)
 unfold bareOp
 go_wp2_with (go_at_call 68; refine (ppow_ok _ HH.o hG gP UN.o HP.o).mono ?_; rintro e w2 ⟨rfl, hb2⟩)
 replace F_g := Lh (F_g.o.keep hb2)
 replace F_s := Lh (F_s.o.keep hb2)
 replace F_r := Lh (F_r.o.keep hb2)
 replace HBW := Kt HBW hb2
 replace hS := And.intro F_g.o.s F_s.o.s
 clear hb2
 refine hK.o _ _ (fun _ => hS) ?_
 clear hK K
 try simp only [sY]
 refine onl (i := 11) (some 16) (.call { callee := .value (.func 67), args := #[.tmp 7, .tmp 9, .tmp 15], argTypes := #[24, 22, 22] }) 22 (fun K hK => ?_)
 unfold bareOp
 go_wp2_with (go_at_call 67; refine (pmul_ok _ HH.o b0 bP pp0 ppP HT.o).mono ?_; rintro e w3 ⟨rfl, hb3⟩)
 replace F_g := Lh (F_g.o.keep hb3)
 replace F_s := Lh (F_s.o.keep hb3)
 replace F_r := Lh (F_r.o.keep hb3)
 replace HBW := Kt HBW hb3
 replace hS := And.intro F_g.o.s F_s.o.s
 clear hb3
 obtain ⟨za, zb, zc, zd, -⟩ := id F_r.o
 refine hK.o _ _ (fun _ => hS) ?_
 clear hK K
 try simp only [sY]
 refine tkQ 12 (some 17) (.build 29 #[(0, .tmp 6), (1, .tmp 16)]) 29 ?_
 simp only [sY]
 refine onl (i := 13) none (.store 29 (.tmp 4) (.tmp 17)) 0 (fun K hK => ?_)
 unfold bareOp
 go_wp2_with fail
 refine hK.o _ _ lt8 ?_
 clear hK K
 try simp only [sY]
 refine wpAnyB_done (by kernel_rfl) ?_ _
 go_wp2_with fail
 exact bodyPost_ret (res_two rfl (F_r.o.stored b t) _ rfl) rfl ⟨rfl, (HBW.o.setCell (by simp <;> omega) _).setCell (by simp <;> omega) _⟩
set_option maxHeartbeats 8000000 in
theorem bitCheck_any {P Q G y a b c r r0 r1 s0 s1 c0 c1 z0 z1 : Int} {k : Nat} (w : World) (hP : 0 ≤ P) (hQ : 0 ≤ Q) (hG : 0 ≤ G) (hk : k < w.heap.size) (hown : w.ownsRow k 22 1 (.slice (some ⟨k, 0, none⟩) 1 1) 1 [υ c]) (hr : askS P Q G [c, c0, c1, z0, z1] [y, a, b, r0, r1, s0, s1] = r) :
 Calls Tryz.prog 131 #[.agg #[υ P, υ Q, υ G], υ y, .agg #[υ a, υ b], .agg #[υ r0, υ r1, υ s0, υ s1, υ c0, υ c1, υ z0, υ z1], .slice (some ⟨k, 0, none⟩) 1 1] w fun e w' => e = .returned (.int .i64 r) ∧ Below k w w' := by
 obtain ⟨i0, hi, hz0, hz1, hz2⟩ := info_parts (P := Tryz.prog) (e := 22) (z := υ 0) (size := 1) (bytes := 8) (by kernel_rfl)
 have HR := Lh hr
 have HOW := Lh (show World.ownsRow (((w.alloc (.cells #[υ P, υ Q, υ G] 24)).alloc (.cells #[υ a, υ b] 75)).alloc (.cells #[υ r0, υ r1, υ s0, υ s1, υ c0, υ c1, υ z0, υ z1] 31)) k 22 1 (.slice (some ⟨k, 0, none⟩) 1 1) 1 [υ c] from ((hown.alloc _).alloc _).alloc _)
 have F_g := Lh (show Boxed (((w.alloc (.cells #[υ P, υ Q, υ G] 24)).alloc (.cells #[υ a, υ b] 75)).alloc (.cells #[υ r0, υ r1, υ s0, υ s1, υ c0, υ c1, υ z0, υ z1] 31)) w.heap.size P Q G from ((Boxed.at _ P Q G _ w.heap.size rfl).alloc _).alloc _)
 have F_s := Lh (show Pair (((w.alloc (.cells #[υ P, υ Q, υ G] 24)).alloc (.cells #[υ a, υ b] 75)).alloc (.cells #[υ r0, υ r1, υ s0, υ s1, υ c0, υ c1, υ z0, υ z1] 31)) (w.heap.size + 1) a b from (Pair.at _ a b _ (w.heap.size + 1) (by simp)).alloc _)
 have F_p := Lh (show Eight (((w.alloc (.cells #[υ P, υ Q, υ G] 24)).alloc (.cells #[υ a, υ b] 75)).alloc (.cells #[υ r0, υ r1, υ s0, υ s1, υ c0, υ c1, υ z0, υ z1] 31)) (w.heap.size + 1 + 1) r0 r1 s0 s1 c0 c1 z0 z1 from Eight.at _ r0 r1 s0 s1 c0 c1 z0 z1 _ (w.heap.size + 1 + 1) (by simp))
 have HBW := Lh (show Below k w (((w.alloc (.cells #[υ P, υ Q, υ G] 24)).alloc (.cells #[υ a, υ b] 75)).alloc (.cells #[υ r0, υ r1, υ s0, υ s1, υ c0, υ c1, υ z0, υ z1] 31)) from (((Below.refl _ _).alloc (by omega) _).alloc (by simp <;> omega) _).alloc (by simp <;> omega) _)
 clear hr hown
 go_enter Tryz.func131, Tryz.ntmps131
 go_wp2_with fail
 have hS := And.intro (F_g.o.drew).s (And.intro (F_s.o.drew).s (F_p.o.drew).s)
 refine wp_region_stage 34 (fun w' => SBox w' w.heap.size P Q G ∧ SPair w' (w.heap.size + 1) a b ∧ S8 w' (w.heap.size + 1 + 1) r0 r1 s0 s1 c0 c1 z0 z1) (by kernel_rfl) ?_
 refine tk8 0 (some 11) (.load 24 (.tmp 5)) 24 [34] ?_
 simp only [sY]
 refine tkQ 1 (some 12) (.move (.tmp 4)) 34 ?_
 simp only [sY]
 refine tkQ 2 (some 13) (.fieldAddr 31 (.tmp 8) 2) 0 ?_
 simp only [sY]
 refine tkQ 3 (some 14) (.indexAddr 29 (.tmp 13) (.const (.int .i64 0))) 0 ?_
 simp only [sY]
 refine tk8 4 (some 15) (.load 22 (.tmp 14)) 22 [14, 15, 34] ?_
 simp only [sY]
 refine tkQ 5 (some 16) (.fieldAddr 31 (.tmp 8) 2) 0 ?_
 simp only [sY]
 refine tkQ 6 (some 17) (.indexAddr 29 (.tmp 16) (.const (.int .i64 1))) 0 ?_
 simp only [sY]
 refine tk8 7 (some 18) (.load 22 (.tmp 17)) 22 [14, 15, 34] ?_
 simp only [sY]
 refine tkQ 8 (some 19) (.fieldAddr 31 (.tmp 8) 3) 0 ?_
 simp only [sY]
 refine tkQ 9 (some 20) (.indexAddr 29 (.tmp 19) (.const (.int .i64 0))) 0 ?_
 simp only [sY]
 refine tk8 10 (some 21) (.load 22 (.tmp 20)) 22 [14, 15, 34] ?_
 simp only [sY]
 refine tkQ 11 (some 22) (.fieldAddr 31 (.tmp 8) 3) 0 ?_
 simp only [sY]
 refine tkQ 12 (some 23) (.indexAddr 29 (.tmp 22) (.const (.int .i64 1))) 0 ?_
 simp only [sY]
 refine tk8 13 (some 24) (.load 22 (.tmp 23)) 22 [14, 15, 34] ?_
 simp only [sY]
 refine tkQ 16 (some 27) (.move (.tmp 1)) 22 ?_
 simp only [sY]
 refine tkQ 17 (some 28) (.fieldAddr 75 (.tmp 7) 0) 0 ?_
 simp only [sY]
 refine tk8 18 (some 29) (.load 22 (.tmp 28)) 22 [33, 34] ?_
 simp only [sY]
 refine tkQ 19 (some 30) (.fieldAddr 75 (.tmp 7) 1) 0 ?_
 simp only [sY]
 refine tk8 20 (some 31) (.load 22 (.tmp 30)) 22 [33, 34] ?_
 simp only [sY]
 refine tkQ 21 (some 32) (.fieldAddr 31 (.tmp 8) 0) 0 ?_
 simp only [sY]
 refine tkQ 22 (some 33) (.indexAddr 29 (.tmp 32) (.const (.int .i64 0))) 0 ?_
 simp only [sY]
 refine tk8 23 (some 34) (.load 22 (.tmp 33)) 22 [33, 34] ?_
 simp only [sY]
 refine tkQ 24 (some 35) (.fieldAddr 31 (.tmp 8) 0) 0 ?_
 simp only [sY]
 refine tkQ 25 (some 36) (.indexAddr 29 (.tmp 35) (.const (.int .i64 1))) 0 ?_
 simp only [sY]
 refine tk8 26 (some 37) (.load 22 (.tmp 36)) 22 [33, 34] ?_
 simp only [sY]
 refine tkQ 27 (some 38) (.fieldAddr 31 (.tmp 8) 1) 0 ?_
 simp only [sY]
 refine tkQ 28 (some 39) (.indexAddr 29 (.tmp 38) (.const (.int .i64 0))) 0 ?_
 simp only [sY]
 refine tk8 29 (some 40) (.load 22 (.tmp 39)) 22 [33, 34] ?_
 simp only [sY]
 refine tkQ 30 (some 41) (.fieldAddr 31 (.tmp 8) 1) 0 ?_
 simp only [sY]
 refine tkQ 31 (some 42) (.indexAddr 29 (.tmp 41) (.const (.int .i64 1))) 0 ?_
 simp only [sY]
 refine tk8 32 (some 43) (.load 22 (.tmp 42)) 22 [33, 34] ?_
 simp only [sY]
 refine wpAnyB_two (i := 14) (j := 33) (some 25) (Op.buildSlice 34 4 #[(0, Operand.tmp 15), (1, Operand.tmp 18), (2, Operand.tmp 21), (3, Operand.tmp 24)]) 34 (some 44) (Op.buildSlice 34 7 #[(0, Operand.tmp 27), (1, Operand.tmp 29), (2, Operand.tmp 31), (3, Operand.tmp 34), (4, Operand.tmp 37), (5, Operand.tmp 40), (6, Operand.tmp 43)]) 34 ⟨_, rfl, rfl, rfl, rfl, rfl⟩ ⟨_, rfl, rfl, rfl, rfl, rfl⟩ (by kernel_rfl) (fun K hK => ?_) (fun K hK => ?_)
 · skip
   unfold bareOp
   go_wp2_with fail
   replace F_g := Lh (F_g.o.alloc (.cells #[υ c0, υ c1, υ z0, υ z1] 22))
   replace F_s := Lh (F_s.o.alloc (.cells #[υ c0, υ c1, υ z0, υ z1] 22))
   replace F_p := Lh (F_p.o.alloc (.cells #[υ c0, υ c1, υ z0, υ z1] 22))
   replace HOW := Lh (HOW.o.alloc (.cells #[υ c0, υ c1, υ z0, υ z1] 22))
   have F_X := Lh (ShL.laid (((w.alloc (.cells #[υ P, υ Q, υ G] 24)).alloc (.cells #[υ a, υ b] 75)).alloc (.cells #[υ r0, υ r1, υ s0, υ s1, υ c0, υ c1, υ z0, υ z1] 31)) [c0, c1, z0, z1] _ 22 (w.heap.size + 1 + 1 + 1) 4 4 (by simp) rfl rfl)
   replace HBW := Lh (HBW.o.alloc (by have h := HBW.o.size; omega) (.cells #[υ c0, υ c1, υ z0, υ z1] 22))
   replace hS := And.intro (F_g.o.drew).s (And.intro (F_s.o.drew).s (F_p.o.drew).s)
   refine hK.o _ _ (fun _ => hS) ?_
   clear hK K
   try simp only [sY]
   refine wpAnyB_two (i := 15) (j := 33) (some 26) (Op.call { callee := Callee.builtin Builtin.append, args := #[Operand.tmp 12, Operand.tmp 25], argTypes := #[34, 34] }) 34 (some 44) (Op.buildSlice 34 7 #[(0, Operand.tmp 27), (1, Operand.tmp 29), (2, Operand.tmp 31), (3, Operand.tmp 34), (4, Operand.tmp 37), (5, Operand.tmp 40), (6, Operand.tmp 43)]) 34 ⟨_, rfl, rfl, rfl, rfl, rfl⟩ ⟨_, rfl, rfl, rfl, rfl, rfl⟩ (by kernel_rfl) (fun K hK => ?_) (fun K hK => ?_)
   · skip
     unfold bareOp
     refine wp_append_own _ _ _ 34 rfl k 22 i0 (υ 0) 1 8 Tryz.underlying34 hi hz0 hz1 hz2 rfl (by decide) _ _ _ rfl (HOW.o.drew) _ 4 4 [υ c0, υ c1, υ z0, υ z1] rfl rfl ((F_X.o.drew).cells) (fun z hz => by simp at hz; rcases hz with rfl | rfl | rfl | rfl <;> rfl) (by unfold maxLen; omega) (by omega) (by have h := HBW.o.size; simp at h ⊢; omega) ?_
     intro v' w5 hown hgr hnil
     have hnk : ∀ q : Nat, w.heap.size ≤ q → some q ≠ some k := fun q hq h => by cases h; omega
     replace F_g := Lh (boxed_grown (F_g.o.drew) hgr (hnk _ (by omega)))
     have hsp_ := pair_grown (F_s.o.drew).s (F_s.o.drew).lt hgr (hnk _ (by omega))
     replace F_p := Lh ((F_p.o.drew).grown hgr (hnk _ (by omega)))
     obtain ⟨ea, ec, hv5, he5⟩ := ShL.of_owned (xs := [c, c0, c1, z0, z1]) hown
     subst hv5
     have F_E := Lh he5
     replace HBW := Lh (Below.grown (HBW.o.drew) hgr (by have h := HBW.o.size; simp at h ⊢; omega) (fun j hj => by cases hj; exact Nat.le_refl _))
     replace hS := And.intro F_g.o.s (And.intro (show SPair w5 (w.heap.size + 1) a b from hsp_) F_p.o.s)
     clear hown hgr hnil he5 F_s F_X HOW hnk
     refine hK.o _ _ (fun _ => hS) ?_
     clear hK K
     try simp only [sY]
     refine onl (i := 33) (some 44) (.buildSlice 34 7 #[(0, .tmp 27), (1, .tmp 29), (2, .tmp 31), (3, .tmp 34), (4, .tmp 37), (5, .tmp 40), (6, .tmp 43)]) 34 (fun K hK => ?_)
     have hl1 : w.heap.size + 1 < w5.heap.size := by have h := F_p.o.lt; omega
     unfold bareOp
     go_wp2_with fail
     replace F_E := Lh (F_E.o.alloc (.cells #[υ y, υ a, υ b, υ r0, υ r1, υ s0, υ s1] 22))
     have F_Y := Lh (ShL.laid w5 [y, a, b, r0, r1, s0, s1] _ 22 w5.heap.size 7 7 rfl rfl rfl)
     replace HBW := Lh (HBW.o.alloc (by have h := HBW.o.size; omega) (.cells #[υ y, υ a, υ b, υ r0, υ r1, υ s0, υ s1] 22))
     replace hS := And.intro (F_g.o.alloc (.cells #[υ y, υ a, υ b, υ r0, υ r1, υ s0, υ s1] 22)).s (And.intro (show SPair (w5.alloc (.cells #[υ y, υ a, υ b, υ r0, υ r1, υ s0, υ s1] 22)) (w.heap.size + 1) a b from ⟨(World.cell?_alloc_past _ _ _ hl1).trans hS.2.1.1, (World.cell?_alloc_past _ _ _ hl1).trans hS.2.1.2⟩) (F_p.o.alloc (.cells #[υ y, υ a, υ b, υ r0, υ r1, υ s0, υ s1] 22)).s)
     refine hK.o _ _ (fun _ => hS) ?_
     clear hK K
     try simp only [sY]
     refine onl (i := 34) (some 45) (.call { callee := .value (.func 64), args := #[.tmp 11, .tmp 26, .tmp 44], argTypes := #[24, 34, 34] }) 38 (fun K hK => ?_)
     unfold bareOp
     go_wp2_with (go_at_call 64; refine (pcheck_any _ hP hQ hG F_E.o F_Y.o (by simp) (by simp) HR.o).mono ?_; rintro e w6 ⟨rfl, hb6⟩)
     replace HBW := Lh (HBW.o.trans (hb6.mono (by have h := HBW.o.size; simp at h ⊢; omega)))
     clear hb6
     refine hK.o _ _ lt8 ?_
     clear hK K
     try simp only [sY]
     refine tkP (i := 35) (some 10) (.assign (.tmp 45)) 38 lt8 ?_
     simp only [sY]
     refine wpAnyB_done (by kernel_rfl) ?_ _
     go_wp2_with fail
     go_ret
     exact ⟨rfl, HBW.o⟩
   · skip
     unfold bareOp
     go_wp2_with fail
     replace F_g := Lh (F_g.o.alloc (.cells #[υ y, υ a, υ b, υ r0, υ r1, υ s0, υ s1] 22))
     replace F_s := Lh (F_s.o.alloc (.cells #[υ y, υ a, υ b, υ r0, υ r1, υ s0, υ s1] 22))
     replace F_p := Lh (F_p.o.alloc (.cells #[υ y, υ a, υ b, υ r0, υ r1, υ s0, υ s1] 22))
     replace F_X := Lh (F_X.o.alloc (.cells #[υ y, υ a, υ b, υ r0, υ r1, υ s0, υ s1] 22))
     replace HOW := Lh (HOW.o.alloc (.cells #[υ y, υ a, υ b, υ r0, υ r1, υ s0, υ s1] 22))
     have F_Y := Lh (ShL.laid ((((w.alloc (.cells #[υ P, υ Q, υ G] 24)).alloc (.cells #[υ a, υ b] 75)).alloc (.cells #[υ r0, υ r1, υ s0, υ s1, υ c0, υ c1, υ z0, υ z1] 31)).alloc (.cells #[υ c0, υ c1, υ z0, υ z1] 22)) [y, a, b, r0, r1, s0, s1] _ 22 (w.heap.size + 1 + 1 + 1 + 1) 7 7 (by simp) rfl rfl)
     replace HBW := Lh (HBW.o.alloc (by have h := HBW.o.size; omega) (.cells #[υ y, υ a, υ b, υ r0, υ r1, υ s0, υ s1] 22))
     replace hS := And.intro (F_g.o.drew).s (And.intro (F_s.o.drew).s (F_p.o.drew).s)
     refine hK.o _ _ (fun _ => hS) ?_
     clear hK K
     try simp only [sY]
     refine onl (i := 15) (some 26) (.call { callee := .builtin .append, args := #[.tmp 12, .tmp 25], argTypes := #[34, 34] }) 34 (fun K hK => ?_)
     unfold bareOp
     refine wp_append_own _ _ _ 34 rfl k 22 i0 (υ 0) 1 8 Tryz.underlying34 hi hz0 hz1 hz2 rfl (by decide) _ _ _ rfl (HOW.o.drew) _ 4 4 [υ c0, υ c1, υ z0, υ z1] rfl rfl ((F_X.o.drew).cells) (fun z hz => by simp at hz; rcases hz with rfl | rfl | rfl | rfl <;> rfl) (by unfold maxLen; omega) (by omega) (by have h := HBW.o.size; simp at h ⊢; omega) ?_
     intro v' w5 hown hgr hnil
     have hnk : ∀ q : Nat, w.heap.size ≤ q → some q ≠ some k := fun q hq h => by cases h; omega
     replace F_g := Lh (boxed_grown (F_g.o.drew) hgr (hnk _ (by omega)))
     have hsp_ := pair_grown (F_s.o.drew).s (F_s.o.drew).lt hgr (hnk _ (by omega))
     replace F_p := Lh ((F_p.o.drew).grown hgr (hnk _ (by omega)))
     replace F_Y := Lh (shl_grown (F_Y.o.drew) hgr (hnk _ (by omega)))
     obtain ⟨ea, ec, hv5, he5⟩ := ShL.of_owned (xs := [c, c0, c1, z0, z1]) hown
     subst hv5
     have F_E := Lh he5
     replace HBW := Lh (Below.grown (HBW.o.drew) hgr (by have h := HBW.o.size; simp at h ⊢; omega) (fun j hj => by cases hj; exact Nat.le_refl _))
     replace hS := And.intro F_g.o.s (And.intro (show SPair w5 (w.heap.size + 1) a b from hsp_) F_p.o.s)
     clear hown hgr hnil he5 F_s F_X HOW hnk
     refine hK.o _ _ (fun _ => hS) ?_
     clear hK K
     try simp only [sY]
     refine onl (i := 34) (some 45) (.call { callee := .value (.func 64), args := #[.tmp 11, .tmp 26, .tmp 44], argTypes := #[24, 34, 34] }) 38 (fun K hK => ?_)
     unfold bareOp
     go_wp2_with (go_at_call 64; refine (pcheck_any _ hP hQ hG F_E.o F_Y.o (by simp) (by simp) HR.o).mono ?_; rintro e w6 ⟨rfl, hb6⟩)
     replace HBW := Lh (HBW.o.trans (hb6.mono (by have h := HBW.o.size; simp at h ⊢; omega)))
     clear hb6
     refine hK.o _ _ lt8 ?_
     clear hK K
     try simp only [sY]
     refine tkP (i := 35) (some 10) (.assign (.tmp 45)) 38 lt8 ?_
     simp only [sY]
     refine wpAnyB_done (by kernel_rfl) ?_ _
     go_wp2_with fail
     go_ret
     exact ⟨rfl, HBW.o⟩
 · skip
   unfold bareOp
   go_wp2_with fail
   replace F_g := Lh (F_g.o.alloc (.cells #[υ y, υ a, υ b, υ r0, υ r1, υ s0, υ s1] 22))
   replace F_s := Lh (F_s.o.alloc (.cells #[υ y, υ a, υ b, υ r0, υ r1, υ s0, υ s1] 22))
   replace F_p := Lh (F_p.o.alloc (.cells #[υ y, υ a, υ b, υ r0, υ r1, υ s0, υ s1] 22))
   replace HOW := Lh (HOW.o.alloc (.cells #[υ y, υ a, υ b, υ r0, υ r1, υ s0, υ s1] 22))
   have F_Y := Lh (ShL.laid (((w.alloc (.cells #[υ P, υ Q, υ G] 24)).alloc (.cells #[υ a, υ b] 75)).alloc (.cells #[υ r0, υ r1, υ s0, υ s1, υ c0, υ c1, υ z0, υ z1] 31)) [y, a, b, r0, r1, s0, s1] _ 22 (w.heap.size + 1 + 1 + 1) 7 7 (by simp) rfl rfl)
   replace HBW := Lh (HBW.o.alloc (by have h := HBW.o.size; omega) (.cells #[υ y, υ a, υ b, υ r0, υ r1, υ s0, υ s1] 22))
   replace hS := And.intro (F_g.o.drew).s (And.intro (F_s.o.drew).s (F_p.o.drew).s)
   refine hK.o _ _ (fun _ => hS) ?_
   clear hK K
   try simp only [sY]
   refine onl (i := 14) (some 25) (.buildSlice 34 4 #[(0, .tmp 15), (1, .tmp 18), (2, .tmp 21), (3, .tmp 24)]) 34 (fun K hK => ?_)
   unfold bareOp
   go_wp2_with fail
   replace F_g := Lh (F_g.o.alloc (.cells #[υ c0, υ c1, υ z0, υ z1] 22))
   replace F_s := Lh (F_s.o.alloc (.cells #[υ c0, υ c1, υ z0, υ z1] 22))
   replace F_p := Lh (F_p.o.alloc (.cells #[υ c0, υ c1, υ z0, υ z1] 22))
   replace F_Y := Lh (F_Y.o.alloc (.cells #[υ c0, υ c1, υ z0, υ z1] 22))
   replace HOW := Lh (HOW.o.alloc (.cells #[υ c0, υ c1, υ z0, υ z1] 22))
   have F_X := Lh (ShL.laid ((((w.alloc (.cells #[υ P, υ Q, υ G] 24)).alloc (.cells #[υ a, υ b] 75)).alloc (.cells #[υ r0, υ r1, υ s0, υ s1, υ c0, υ c1, υ z0, υ z1] 31)).alloc (.cells #[υ y, υ a, υ b, υ r0, υ r1, υ s0, υ s1] 22)) [c0, c1, z0, z1] _ 22 (w.heap.size + 1 + 1 + 1 + 1) 4 4 (by simp) rfl rfl)
   replace HBW := Lh (HBW.o.alloc (by have h := HBW.o.size; omega) (.cells #[υ c0, υ c1, υ z0, υ z1] 22))
   replace hS := And.intro (F_g.o.drew).s (And.intro (F_s.o.drew).s (F_p.o.drew).s)
   refine hK.o _ _ (fun _ => hS) ?_
   clear hK K
   try simp only [sY]
   refine onl (i := 15) (some 26) (.call { callee := .builtin .append, args := #[.tmp 12, .tmp 25], argTypes := #[34, 34] }) 34 (fun K hK => ?_)
   unfold bareOp
   refine wp_append_own _ _ _ 34 rfl k 22 i0 (υ 0) 1 8 Tryz.underlying34 hi hz0 hz1 hz2 rfl (by decide) _ _ _ rfl (HOW.o.drew) _ 4 4 [υ c0, υ c1, υ z0, υ z1] rfl rfl ((F_X.o.drew).cells) (fun z hz => by simp at hz; rcases hz with rfl | rfl | rfl | rfl <;> rfl) (by unfold maxLen; omega) (by omega) (by have h := HBW.o.size; simp at h ⊢; omega) ?_
   intro v' w5 hown hgr hnil
   have hnk : ∀ q : Nat, w.heap.size ≤ q → some q ≠ some k := fun q hq h => by cases h; omega
   replace F_g := Lh (boxed_grown (F_g.o.drew) hgr (hnk _ (by omega)))
   have hsp_ := pair_grown (F_s.o.drew).s (F_s.o.drew).lt hgr (hnk _ (by omega))
   replace F_p := Lh ((F_p.o.drew).grown hgr (hnk _ (by omega)))
   replace F_Y := Lh (shl_grown (F_Y.o.drew) hgr (hnk _ (by omega)))
   obtain ⟨ea, ec, hv5, he5⟩ := ShL.of_owned (xs := [c, c0, c1, z0, z1]) hown
   subst hv5
   have F_E := Lh he5
   replace HBW := Lh (Below.grown (HBW.o.drew) hgr (by have h := HBW.o.size; simp at h ⊢; omega) (fun j hj => by cases hj; exact Nat.le_refl _))
   replace hS := And.intro F_g.o.s (And.intro (show SPair w5 (w.heap.size + 1) a b from hsp_) F_p.o.s)
   clear hown hgr hnil he5 F_s F_X HOW hnk
   refine hK.o _ _ (fun _ => hS) ?_
   clear hK K
   try simp only [sY]
   refine onl (i := 34) (some 45) (.call { callee := .value (.func 64), args := #[.tmp 11, .tmp 26, .tmp 44], argTypes := #[24, 34, 34] }) 38 (fun K hK => ?_)
   unfold bareOp
   go_wp2_with (go_at_call 64; refine (pcheck_any _ hP hQ hG F_E.o F_Y.o (by simp) (by simp) HR.o).mono ?_; rintro e w6 ⟨rfl, hb6⟩)
   replace HBW := Lh (HBW.o.trans (hb6.mono (by have h := HBW.o.size; simp at h ⊢; omega)))
   clear hb6
   refine hK.o _ _ lt8 ?_
   clear hK K
   try simp only [sY]
   refine tkP (i := 35) (some 10) (.assign (.tmp 45)) 38 lt8 ?_
   simp only [sY]
   refine wpAnyB_done (by kernel_rfl) ?_ _
   go_wp2_with fail
   go_ret
   exact ⟨rfl, HBW.o⟩
end Go.Proofs.YtlbldpkgnonbpaaGreatDoor
