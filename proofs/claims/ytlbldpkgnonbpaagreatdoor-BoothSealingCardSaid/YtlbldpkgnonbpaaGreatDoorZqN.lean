/- elgamal.start, its closure, and the engine's add. -/
import Derived.Test.YtlbldpkgnonbpaaGreatDoorZqC
import Derived.Test.YtlbldpkgnonbpaaGreatDoorZqB
import Derived.Test.YtlbldpkgnonbpaaGreatDoorZqA
import Derived.Test.YtlbldpkgnonbpaaGreatDoorZqK
import Derived.LoopTactic
set_option linter.unusedSimpArgs false
set_option linter.unusedVariables false
set_option maxRecDepth 100000
namespace Go.Proofs.YtlbldpkgnonbpaaGreatDoor
open Go.RowKit Num
@[go_sem] theorem run_store_fn (P : Program) (w : World) (a : Addr) (fn : Fn) (first cap : Array Value) (m : Mode) : (store a (.func fn first cap) m).run P w = stored P w a (.func fn first cap) m := run_store P w a _ m rfl
set_option maxHeartbeats 1000000 in
theorem smul_any {P Q G x y z : Int} {B : Nat} (w : World) (hB : Boxed w B P Q G) (hH : Has P Q G) (x0 : 0 ≤ x) (xP : x < P) (y0 : 0 ≤ y) (yP : y < P) (hz : x * y % P = z) :
    Calls Tryz.prog 134 #[.int .u64 x, .int .u64 y, .pointer (some ⟨B, 0, none⟩)] w fun e w' => e = .returned (.int .u64 z) ∧ Below w.heap.size w w' := by
  obtain ⟨g0, g1, g2, gl⟩ := hB
  have HZ := Lh hz
  clear hz
  have HH := Lh hH
  clear hH
  go_enter Tryz.func134, Tryz.ntmps134
  go_wp2_with (go_at_call 63; refine (mul_ok P Q G x y z _ HH.o x0 xP y0 yP HZ.o).mono ?_; rintro e w1 ⟨rfl, hb1⟩)
  go_ret
  exact ⟨rfl, hb1⟩
set_option maxHeartbeats 1000000 in
theorem start_any (P Q G : Int) (w : World) :
    Calls Tryz.prog 114 #[.agg #[.int .u64 P, .int .u64 Q, .int .u64 G]] w fun e w' => e = .returned (.agg #[.int .u64 1, .int .u64 1, .func (.func 134) #[] #[.pointer (some ⟨w.heap.size, 0, none⟩)]]) ∧ Below w.heap.size w w' ∧ Boxed w' w.heap.size P Q G := by
  have hmf : ∀ (fn : Fn) (first cap : Array Value) (w : World), (Instr.makeFunc fn first cap).run Tryz.prog w = .ok (.func fn first cap) w := fun _ _ _ _ => rfl
  have hB := Lh (Boxed.new w P Q G 24)
  go_enter Tryz.func114, Tryz.ntmps114
  go_wp2_with fail
  refine bodyPost_ret (v := .agg #[.int .u64 1, .int .u64 1, .func (.func 134) #[] #[.pointer (some ⟨w.heap.size, 0, none⟩)]]) (by simp [results, Tryz.results114, go_sem]) rfl ⟨rfl, ?_, hB.o.alloc _⟩
  exact Below.alloc (Below.alloc (Below.refl _ _) (by simp) _) (by simp) _
structure Eng (w : World) (E B : Nat) (P Q G a b : Int) : Prop where
  c0 : w.cell? ⟨E, 0, none⟩ = some (.int .u64 a)
  c1 : w.cell? ⟨E, 1, none⟩ = some (.int .u64 b)
  c2 : w.cell? ⟨E, 2, none⟩ = some (.func (.func 134) #[] #[.pointer (some ⟨B, 0, none⟩)])
  f0 : w.frozen? ⟨E, 0, none⟩ = false
  f1 : w.frozen? ⟨E, 1, none⟩ = false
  lt : E < w.heap.size
  box : Boxed w B P Q G
  ne : B ≠ E
theorem Eng.keep {w w' : World} {E B : Nat} {P Q G a b : Int} (h : Eng w E B P Q G a b) (hb : Below w.heap.size w w') : Eng w' E B P Q G a b :=
  ⟨(hb.cell (p := ⟨E, 0, none⟩) h.lt).trans h.c0, (hb.cell (p := ⟨E, 1, none⟩) h.lt).trans h.c1, (hb.cell (p := ⟨E, 2, none⟩) h.lt).trans h.c2, (hb.frozen (p := ⟨E, 0, none⟩) h.lt).trans h.f0, (hb.frozen (p := ⟨E, 1, none⟩) h.lt).trans h.f1, Nat.lt_of_lt_of_le h.lt hb.size, h.box.keep hb, h.ne⟩
structure Added (w w' : World) (E : Nat) : Prop where
  below : ∀ n, n ≤ w.heap.size → n ≤ E → Below n w w'
  cell : ∀ b o, b < w.heap.size → b ≠ E → w'.cell? ⟨b, o, none⟩ = w.cell? ⟨b, o, none⟩
  frozen : ∀ b o, b < w.heap.size → b ≠ E → w'.frozen? ⟨b, o, none⟩ = w.frozen? ⟨b, o, none⟩
theorem Added.of {w w1 : World} {E : Nat} (hb : Below w.heap.size w w1) (u v : Value) : Added w ((w1.setCell ⟨E, 0, none⟩ u).setCell ⟨E, 1, none⟩ v) E := by
 refine ⟨fun n h1 h2 => ((hb.mono h1).setCell (p := ⟨E, 0, none⟩) h2 u).setCell (p := ⟨E, 1, none⟩) h2 v, fun b o h1 h2 => ?_, fun b o h1 h2 => ?_⟩
 · rw [World.cell?_setCell_other _ _ _ _ (fun h => h2 (congrArg Addr.block h).symm), World.cell?_setCell_other _ _ _ _ (fun h => h2 (congrArg Addr.block h).symm)]
   exact hb.cell (p := ⟨b, o, none⟩) h1
 · rw [World.frozen?_setCell, World.frozen?_setCell]
   exact hb.frozen (p := ⟨b, o, none⟩) h1
def SAdd (w : World) (E B C : Nat) (a b c d : Int) : Prop :=
  w.cell? ⟨E, 0, none⟩ = some (.int .u64 a) ∧ w.cell? ⟨E, 1, none⟩ = some (.int .u64 b) ∧ w.cell? ⟨E, 2, none⟩ = some (.func (.func 134) #[] #[.pointer (some ⟨B, 0, none⟩)]) ∧ w.cell? ⟨C, 0, none⟩ = some (.int .u64 c) ∧ w.cell? ⟨C, 1, none⟩ = some (.int .u64 d)
theorem SAdd.keep {w w' : World} {E B C : Nat} {a b c d : Int} (h : SAdd w E B C a b c d) (hE : E < w.heap.size) (hC : C < w.heap.size) (hb : Below w.heap.size w w') : SAdd w' E B C a b c d :=
  ⟨(hb.cell (p := ⟨E, 0, none⟩) hE).trans h.1, (hb.cell (p := ⟨E, 1, none⟩) hE).trans h.2.1, (hb.cell (p := ⟨E, 2, none⟩) hE).trans h.2.2.1, (hb.cell (p := ⟨C, 0, none⟩) hC).trans h.2.2.2.1, (hb.cell (p := ⟨C, 1, none⟩) hC).trans h.2.2.2.2⟩
theorem Eng.stored {w : World} {E B : Nat} {P Q G a b a' b' : Int} (h : Eng w E B P Q G a b) : Eng ((w.setCell ⟨E, 0, none⟩ (.int .u64 a')).setCell ⟨E, 1, none⟩ (.int .u64 b')) E B P Q G a' b' := by
 have h0 : ((w.setCell ⟨E, 0, none⟩ (.int .u64 a')).cell? ⟨E, 0, none⟩) = some (.int .u64 a') := World.cell?_setCell_same _ _ _ h.c0
 have h1 : ((w.setCell ⟨E, 0, none⟩ (.int .u64 a')).cell? ⟨E, 1, none⟩) = some (.int .u64 b) := by rw [World.cell?_setCell_other _ _ _ _ (by simp)]; exact h.c1
 refine ⟨?_, World.cell?_setCell_same _ _ _ h1, ?_, ?_, ?_, by simpa using h.lt, ⟨?_, ?_, ?_, by simpa using h.box.lt⟩, h.ne⟩
 · rw [World.cell?_setCell_other _ _ _ _ (by simp)]; exact h0
 · rw [World.cell?_setCell_other _ _ _ _ (by simp), World.cell?_setCell_other _ _ _ _ (by simp)]; exact h.c2
 · rw [World.frozen?_setCell, World.frozen?_setCell]; exact h.f0
 · rw [World.frozen?_setCell, World.frozen?_setCell]; exact h.f1
 · rw [World.cell?_setCell_other _ _ _ _ (fun e => h.ne (congrArg Addr.block e).symm), World.cell?_setCell_other _ _ _ _ (fun e => h.ne (congrArg Addr.block e).symm)]; exact h.box.c0
 · rw [World.cell?_setCell_other _ _ _ _ (fun e => h.ne (congrArg Addr.block e).symm), World.cell?_setCell_other _ _ _ _ (fun e => h.ne (congrArg Addr.block e).symm)]; exact h.box.c1
 · rw [World.cell?_setCell_other _ _ _ _ (fun e => h.ne (congrArg Addr.block e).symm), World.cell?_setCell_other _ _ _ _ (fun e => h.ne (congrArg Addr.block e).symm)]; exact h.box.c2
set_option maxHeartbeats 4000000 in
theorem eadd_any {P Q G a b c d a' b' : Int} {E B : Nat} (w : World) (hE : Eng w E B P Q G a b) (hH : Has P Q G) (a0 : 0 ≤ a) (aP : a < P) (b0 : 0 ≤ b) (bP : b < P) (c0 : 0 ≤ c) (cP : c < P) (d0 : 0 ≤ d) (dP : d < P) (ha : a * c % P = a') (hb : b * d % P = b') :
    Calls Tryz.prog 115 #[.pointer (some ⟨E, 0, none⟩), .agg #[.int .u64 c, .int .u64 d]] w fun e w' => e = .returned (.tuple #[]) ∧ Eng w' E B P Q G a' b' ∧ Added w w' E := by
  have HE := Lh hE
  have HH := Lh hH
  have HA := Lh ha
  have HB := Lh hb
  have hlt := hE.lt
  clear hE hH ha hb
  go_enter Tryz.func115, Tryz.ntmps115
  go_wp2_with fail
  have HW := Lh (show Below w.heap.size w (w.alloc (.cells #[.int .u64 c, .int .u64 d] 75)) from Below.alloc (Below.refl _ _) (Nat.le_refl _) _)
  have hS : SAdd (w.alloc (.cells #[.int .u64 c, .int .u64 d] 75)).drew E B w.heap.size a b c d := by
   obtain ⟨e0, e1, e2, -⟩ := HE.o.keep HW.o.drew
   exact ⟨e0, e1, e2, by rw [World.cell?_drew, World.cell?_alloc_new]; rfl, by rw [World.cell?_drew, World.cell?_alloc_new]; rfl⟩
  have HE0 := Lh (HE.o.keep HW.o.drew)
  refine wp_region_stage 32 (fun w' => SAdd w' E B w.heap.size a b c d) (by kernel_rfl) ?_
  refine tkQ 0 (some 4) (.move (.tmp 0)) 181 ?_
  simp only [sY]
  refine tkQ 1 (some 5) (.move (.tmp 0)) 181 ?_
  simp only [sY]
  refine tkQ 2 (some 6) (.move (.tmp 0)) 181 ?_
  simp only [sY]
  refine tkQ 3 (some 7) (.nilCheck (.tmp 6)) 0 ?_
  simp only [sY]
  refine tkQ 4 (some 8) (.fieldAddr 157 (.tmp 7) 1) 0 ?_
  simp only [sY]
  refine tkL (i := 5) (some 9) (.load 155 (.tmp 8)) 155 [32] (v := ?_) hS (fun w' hSw => ?_) ?_
  rotate_left
  · obtain ⟨s0, s1, s2, s3, s4⟩ := hSw
    unfold bareOp; go_simp; try with_reducible rfl
  simp only [sY]
  refine tkQ 6 (some 10) (.move (.tmp 0)) 181 ?_
  simp only [sY]
  refine tkQ 7 (some 11) (.nilCheck (.tmp 10)) 0 ?_
  simp only [sY]
  refine tkQ 8 (some 12) (.fieldAddr 157 (.tmp 11) 0) 0 ?_
  simp only [sY]
  refine tkQ 9 (some 13) (.fieldAddr 154 (.tmp 12) 0) 0 ?_
  simp only [sY]
  refine tkQ 10 (some 14) (.fieldAddr 75 (.tmp 13) 0) 0 ?_
  simp only [sY]
  refine tkL (i := 11) (some 15) (.load 22 (.tmp 14)) 22 [32] (v := ?_) hS (fun w' hSw => ?_) ?_
  rotate_left
  · obtain ⟨s0, s1, s2, s3, s4⟩ := hSw
    unfold bareOp; go_simp; try with_reducible rfl
  simp only [sY]
  refine tkQ 12 (some 16) (.fieldAddr 75 (.tmp 3) 0) 0 ?_
  simp only [sY]
  refine tkL (i := 13) (some 17) (.load 22 (.tmp 16)) 22 [32] (v := ?_) hS (fun w' hSw => ?_) ?_
  rotate_left
  · obtain ⟨s0, s1, s2, s3, s4⟩ := hSw
    unfold bareOp; go_simp; try with_reducible rfl
  simp only [sY]
  refine tkQ 15 (some 19) (.move (.tmp 0)) 181 ?_
  simp only [sY]
  refine tkQ 16 (some 20) (.nilCheck (.tmp 19)) 0 ?_
  simp only [sY]
  refine tkQ 17 (some 21) (.fieldAddr 157 (.tmp 20) 1) 0 ?_
  simp only [sY]
  refine tkL (i := 18) (some 22) (.load 155 (.tmp 21)) 155 [32] (v := ?_) hS (fun w' hSw => ?_) ?_
  rotate_left
  · obtain ⟨s0, s1, s2, s3, s4⟩ := hSw
    unfold bareOp; go_simp; try with_reducible rfl
  simp only [sY]
  refine tkQ 19 (some 23) (.move (.tmp 0)) 181 ?_
  simp only [sY]
  refine tkQ 20 (some 24) (.nilCheck (.tmp 23)) 0 ?_
  simp only [sY]
  refine tkQ 21 (some 25) (.fieldAddr 157 (.tmp 24) 0) 0 ?_
  simp only [sY]
  refine tkQ 22 (some 26) (.fieldAddr 154 (.tmp 25) 0) 0 ?_
  simp only [sY]
  refine tkQ 23 (some 27) (.fieldAddr 75 (.tmp 26) 1) 0 ?_
  simp only [sY]
  refine tkL (i := 24) (some 28) (.load 22 (.tmp 27)) 22 [32] (v := ?_) hS (fun w' hSw => ?_) ?_
  rotate_left
  · obtain ⟨s0, s1, s2, s3, s4⟩ := hSw
    unfold bareOp; go_simp; try with_reducible rfl
  simp only [sY]
  refine tkQ 25 (some 29) (.fieldAddr 75 (.tmp 3) 1) 0 ?_
  simp only [sY]
  refine tkL (i := 26) (some 30) (.load 22 (.tmp 29)) 22 [27, 32] (v := ?_) hS (fun w' hSw => ?_) ?_
  rotate_left
  · obtain ⟨s0, s1, s2, s3, s4⟩ := hSw
    unfold bareOp; go_simp; try with_reducible rfl
  simp only [sY]
  refine onl (i := 14) (some 18) (.call { callee := .value (.tmp 9), args := #[.tmp 15, .tmp 17], argTypes := #[22, 22] }) 22 (fun K hK => ?_)
  unfold bareOp
  go_wp2_with (go_at_call 134; refine (smul_any _ HE0.o.box HH.o a0 aP c0 cP HA.o).mono ?_; rintro e w1 ⟨rfl, hb1⟩)
  have hS1 : SAdd w1 E B w.heap.size a b c d := hS.keep (Nat.lt_of_lt_of_le hlt HW.o.drew.size) (by simp) hb1
  have HE1 := Lh (HE0.o.keep hb1)
  have HB1 := Lh (HW.o.drew.trans (hb1.mono HW.o.drew.size))
  have hlt1 := HE1.o.lt
  have hz1 := Nat.lt_of_lt_of_le (show w.heap.size < (w.alloc (.cells #[.int .u64 c, .int .u64 d] 75)).drew.heap.size by simp) hb1.size
  refine hK.o _ _ (fun _ => hS1) ?_
  clear hK K hb1
  try simp only [sY]
  refine onl (i := 27) (some 31) (.call { callee := .value (.tmp 22), args := #[.tmp 28, .tmp 30], argTypes := #[22, 22] }) 22 (fun K hK => ?_)
  unfold bareOp
  go_wp2_with (go_at_call 134; refine (smul_any _ HE1.o.box HH.o b0 bP d0 dP HB.o).mono ?_; rintro e w2 ⟨rfl, hb2⟩)
  have hS2 : SAdd w2 E B w.heap.size a b c d := hS1.keep hlt1 hz1 hb2
  have HE2 := Lh (HE1.o.keep hb2)
  have HB2 := Lh (HB1.o.trans (hb2.mono HB1.o.size))
  refine hK.o _ _ (fun _ => hS2) ?_
  clear hK K hb2 hS1 hS hlt1 hz1
  try simp only [sY]
  refine tkP (i := 28) (some 32) (.nilCheck (.tmp 4)) 0 (fun _ => hS2) ?_
  simp only [sY]
  refine tkP (i := 29) (some 33) (.fieldAddr 157 (.tmp 32) 0) 0 (fun _ => hS2) ?_
  simp only [sY]
  refine tkP (i := 30) (some 34) (.fieldAddr 154 (.tmp 33) 0) 0 (fun _ => hS2) ?_
  simp only [sY]
  refine tkP (i := 31) (some 35) (.fieldAddr 75 (.tmp 34) 0) 0 (fun _ => hS2) ?_
  simp only [sY]
  have e0 := HE2.o.c0
  have e1 := HE2.o.c1
  have f0 := HE2.o.f0
  have f1 := HE2.o.f1
  refine onl (i := 32) none (.store 22 (.tmp 35) (.tmp 18)) 0 (fun K hK => ?_)
  unfold bareOp
  go_wp2_with fail
  refine hK.o _ _ lt8 ?_
  clear hK K
  try simp only [sY]
  refine tkP (i := 33) (some 36) (.nilCheck (.tmp 5)) 0 lt8 ?_
  simp only [sY]
  refine tkP (i := 34) (some 37) (.fieldAddr 157 (.tmp 36) 0) 0 lt8 ?_
  simp only [sY]
  refine tkP (i := 35) (some 38) (.fieldAddr 154 (.tmp 37) 0) 0 lt8 ?_
  simp only [sY]
  refine tkP (i := 36) (some 39) (.fieldAddr 75 (.tmp 38) 1) 0 lt8 ?_
  simp only [sY]
  refine onl (i := 37) none (.store 22 (.tmp 39) (.tmp 31)) 0 (fun K hK => ?_)
  unfold bareOp
  go_wp2_with fail
  refine hK.o _ _ lt8 ?_
  clear hK K
  try simp only [sY]
  refine wpAnyB_done (by kernel_rfl) ?_ _
  go_wp2_with fail
  go_end0
  exact ⟨rfl, HE2.o.stored, Added.of HB2.o _ _⟩
open Go.RowKit Num
theorem Pair.added {w w' : World} {E b : Nat} {x y : Int} (h : Pair w b x y) (ha : Added w w' E) (hn : b ≠ E) : Pair w' b x y :=
  ⟨(ha.cell b 0 h.lt hn).trans h.c0, (ha.cell b 1 h.lt hn).trans h.c1, (ha.frozen b 0 h.lt hn).trans h.f0, (ha.frozen b 1 h.lt hn).trans h.f1, Nat.lt_of_lt_of_le h.lt (ha.below 0 (Nat.zero_le _) (Nat.zero_le _)).size⟩
theorem Boxed.added {w w' : World} {E B : Nat} {P Q G : Int} (h : Boxed w B P Q G) (ha : Added w w' E) (hn : B ≠ E) : Boxed w' B P Q G :=
  ⟨(ha.cell B 0 h.lt hn).trans h.c0, (ha.cell B 1 h.lt hn).trans h.c1, (ha.cell B 2 h.lt hn).trans h.c2, Nat.lt_of_lt_of_le h.lt (ha.below 0 (Nat.zero_le _) (Nat.zero_le _)).size⟩
theorem Eng.new (w : World) (B : Nat) (P Q G : Int) (h : Boxed w B P Q G) : Eng (w.alloc (.cells #[.int .u64 1, .int .u64 1, .func (.func 134) #[] #[.pointer (some ⟨B, 0, none⟩)]] 157)) w.heap.size B P Q G 1 1 := by
 refine ⟨?_, ?_, ?_, ?_, ?_, by simp, h.alloc _, Nat.ne_of_lt h.lt⟩
 · rw [World.cell?_alloc_new]; rfl
 · rw [World.cell?_alloc_new]; rfl
 · rw [World.cell?_alloc_new]; rfl
 · simp
 · simp
def plusP (P : Int) (a b : Int × Int) : Int × Int := (a.1 * b.1 % P, a.2 * b.2 % P)
def allP (P : Int) (ps : List (Int × Int)) : Int × Int := ps.foldl (plusP P) (1, 1)
def okS (P : Int) (ps : List (Int × Int)) : Bool := ps.all fun p => decide (p.1 < P) && decide (p.2 < P)
theorem allP_snoc (P : Int) (ps : List (Int × Int)) (k : Nat) (u v : Int) (h : k < ps.length) (hg : ps.getD k (0, 0) = (u, v)) : allP P (ps.take (k + 1)) = plusP P (allP P (ps.take k)) (u, v) := by
 have e : ps[k]? = some (u, v) := by rw [List.getD_eq_getElem?_getD] at hg; rw [List.getElem?_eq_getElem h] at hg ⊢; simpa using hg
 rw [List.take_add_one, e]
 simp [allP]
theorem okS_snoc (P : Int) (ps : List (Int × Int)) (k : Nat) (u v : Int) (h : k < ps.length) (hg : ps.getD k (0, 0) = (u, v)) : okS P (ps.take (k + 1)) = (okS P (ps.take k) && (decide (u < P) && decide (v < P))) := by
 have e : ps[k]? = some (u, v) := by rw [List.getD_eq_getElem?_getD] at hg; rw [List.getElem?_eq_getElem h] at hg ⊢; simpa using hg
 rw [List.take_add_one, e]
 simp [okS, List.all_append]
theorem okS_not (P : Int) (ps : List (Int × Int)) (k : Nat) (u v : Int) (h : k < ps.length) (hg : ps.getD k (0, 0) = (u, v)) (hb : ¬ (u < P ∧ v < P)) : okS P ps = false := by
 cases ho : okS P ps with
 | false => rfl
 | true =>
  exfalso
  have e : ps[k]? = some (u, v) := by rw [List.getD_eq_getElem?_getD] at hg; rw [List.getElem?_eq_getElem h] at hg ⊢; simpa using hg
  have hm : (u, v) ∈ ps := List.mem_of_getElem? e
  have := List.all_eq_true.1 ho _ hm
  simp at this
  exact hb this
theorem mem_getD {ps : List (Int × Int)} {k : Nat} {u v : Int} (h : k < ps.length) (hg : ps.getD k (0, 0) = (u, v)) : (u, v) ∈ ps := by
 have e : ps[k]? = some (u, v) := by rw [List.getD_eq_getElem?_getD] at hg; rw [List.getElem?_eq_getElem h] at hg ⊢; simpa using hg
 exact List.mem_of_getElem? e
def SumS (P Q G : Int) (ps : List (Int × Int)) (x y e : Int) : Prop :=
  (¬ Has P Q G ∧ x = 0 ∧ y = 0 ∧ e = 300) ∨ (Has P Q G ∧ 4096 < ps.length ∧ x = 0 ∧ y = 0 ∧ e = 4) ∨
  (Has P Q G ∧ ps.length ≤ 4096 ∧ okS P ps = false ∧ x = 0 ∧ y = 0 ∧ e = 2) ∨ (Has P Q G ∧ ps.length ≤ 4096 ∧ okS P ps = true ∧ allP P ps = (x, y) ∧ e = 0)
theorem SumS.exists (P Q G : Int) (ps : List (Int × Int)) : ∃ x y e, SumS P Q G ps x y e := by
 by_cases hH : Has P Q G
 · by_cases hn : ps.length ≤ 4096
   · cases ho : okS P ps with
     | false => exact ⟨_, _, _, .inr (.inr (.inl ⟨hH, hn, ho, rfl, rfl, rfl⟩))⟩
     | true => exact ⟨_, _, _, .inr (.inr (.inr ⟨hH, hn, ho, rfl, rfl⟩))⟩
   · exact ⟨_, _, _, .inr (.inl ⟨hH, by omega, rfl, rfl, rfl⟩)⟩
 · exact ⟨_, _, _, .inl ⟨hH, rfl, rfl, rfl⟩⟩
structure ESumIn (w wr : World) (E B g R : Nat) (P Q G : Int) (ps : List (Int × Int)) (k : Nat) : Prop where
  eng : ∃ p q, allP P (ps.take k) = (p, q) ∧ 0 ≤ p ∧ p < P ∧ 0 ≤ q ∧ q < P ∧ Eng wr E B P Q G p q
  box : Boxed wr g P Q G
  res : Pair wr R 0 0
  bel : Below w.heap.size w wr
  ok : okS P (ps.take k) = true
set_option maxHeartbeats 12800000 in
theorem esum_any {P Q G x y e' : Int} {a : Option Addr} {n c : Nat} {ps : List (Int × Int)} (w : World) (hP : 0 ≤ P) (hQ : 0 ≤ Q) (hG : 0 ≤ G) (hS : ShS w a n ps) (hN : ∀ p, p ∈ ps → 0 ≤ p.1 ∧ 0 ≤ p.2) (hv : SumS P Q G ps x y e') :
    Calls Tryz.prog 83 #[.agg #[.int .u64 P, .int .u64 Q, .int .u64 G], .slice a n c] w fun e w' => e = .returned (.tuple #[.agg #[.int .u64 x, .int .u64 y], .int .i64 e']) ∧ Below w.heap.size w w' := by
  have HS := Lh hS
  have HN := Lh hN
  have hnl := hS.len
  clear hS hN
  rcases hv with ⟨hH, rfl, rfl, rfl⟩ | ⟨hH, hn, rfl, rfl, rfl⟩ | ⟨hH, hn, ho, rfl, rfl, rfl⟩ | ⟨hH, hn, ho, hxy, rfl⟩
  · have HR := Lh (show askS P Q G [] [] = 300 from askS_no hH)
    clear hH
    have F_g := Lh (show Boxed ((w.alloc (.cells #[.int .u64 P, .int .u64 Q, .int .u64 G] 24)).alloc (.cells #[.int .u64 0, .int .u64 0] 75)) (w.heap.size) P Q G from (Boxed.at _ P Q G _ (w.heap.size) (by simp)).alloc _)
    have F_r := Lh (show Pair ((w.alloc (.cells #[.int .u64 P, .int .u64 Q, .int .u64 G] 24)).alloc (.cells #[.int .u64 0, .int .u64 0] 75)) (w.heap.size + 1) 0 0 from Pair.at _ 0 0 _ (w.heap.size + 1) (by simp))
    have HBW := Lh (show Below w.heap.size w ((w.alloc (.cells #[.int .u64 P, .int .u64 Q, .int .u64 G] 24)).alloc (.cells #[.int .u64 0, .int .u64 0] 75)) from ((Below.refl _ _).alloc (by simp <;> omega) _).alloc (by simp <;> omega) _)
    go_enter Tryz.func83, Tryz.ntmps83
    obtain ⟨x0a, x0b, x0c, -⟩ := id F_g.o
    obtain ⟨x1a, x1b, x1c, x1d, -⟩ := id F_r.o
    go_wp2_with fail
    clear x0a x0b x0c x1a x1b x1c x1d
    refine (echeck_any _ hP hQ hG (ShL.nil _) (ShL.nil _) (by simp) (by simp) HR.o).mono ?_
    rintro e w1 ⟨rfl, hb1⟩
    replace F_g := Lh (F_g.o.keep hb1)
    replace F_r := Lh (F_r.o.keep hb1)
    replace HBW := Lh (HBW.o.trans (hb1.mono HBW.o.size))
    clear hb1
    obtain ⟨x0a, x0b, x0c, -⟩ := id F_g.o
    obtain ⟨x1a, x1b, x1c, x1d, -⟩ := id F_r.o
    go_wp2_with fail
    exact bodyPost_ret (res_pair rfl (F_r.o.stored 0 0) _ rfl rfl) rfl ⟨rfl, (HBW.o.setCell (by simp <;> omega) _).setCell (by simp <;> omega) _⟩
  · have HR := Lh (show askS P Q G [] [] = 0 from askS_ok hH (by simp) (by simp))
    have hn1 : (4096 : Int) < (n : Int) := by omega
    clear hH hn hnl
    have F_g := Lh (show Boxed ((w.alloc (.cells #[.int .u64 P, .int .u64 Q, .int .u64 G] 24)).alloc (.cells #[.int .u64 0, .int .u64 0] 75)) (w.heap.size) P Q G from (Boxed.at _ P Q G _ (w.heap.size) (by simp)).alloc _)
    have F_r := Lh (show Pair ((w.alloc (.cells #[.int .u64 P, .int .u64 Q, .int .u64 G] 24)).alloc (.cells #[.int .u64 0, .int .u64 0] 75)) (w.heap.size + 1) 0 0 from Pair.at _ 0 0 _ (w.heap.size + 1) (by simp))
    have HBW := Lh (show Below w.heap.size w ((w.alloc (.cells #[.int .u64 P, .int .u64 Q, .int .u64 G] 24)).alloc (.cells #[.int .u64 0, .int .u64 0] 75)) from ((Below.refl _ _).alloc (by simp <;> omega) _).alloc (by simp <;> omega) _)
    go_enter Tryz.func83, Tryz.ntmps83
    obtain ⟨x0a, x0b, x0c, -⟩ := id F_g.o
    obtain ⟨x1a, x1b, x1c, x1d, -⟩ := id F_r.o
    go_wp2_with fail
    clear x0a x0b x0c x1a x1b x1c x1d
    refine (echeck_any _ hP hQ hG (ShL.nil _) (ShL.nil _) (by simp) (by simp) HR.o).mono ?_
    rintro e w1 ⟨rfl, hb1⟩
    replace F_g := Lh (F_g.o.keep hb1)
    replace F_r := Lh (F_r.o.keep hb1)
    replace HBW := Lh (HBW.o.trans (hb1.mono HBW.o.size))
    clear hb1
    obtain ⟨x0a, x0b, x0c, -⟩ := id F_g.o
    obtain ⟨x1a, x1b, x1c, x1d, -⟩ := id F_r.o
    go_wp2_with fail
    exact bodyPost_ret (res_pair rfl (F_r.o.stored 0 0) _ rfl rfl) rfl ⟨rfl, (HBW.o.setCell (by simp <;> omega) _).setCell (by simp <;> omega) _⟩
  · have HR := Lh (show askS P Q G [] [] = 0 from askS_ok hH (by simp) (by simp))
    have hn1 : (n : Int) ≤ 4096 := by omega
    have HH := Lh hH
    have HO3 := Lh ho
    clear hH hn hnl ho
    have hP1 : 1 < P := by have := HH.o.1; omega
    have F_g := Lh (show Boxed ((w.alloc (.cells #[.int .u64 P, .int .u64 Q, .int .u64 G] 24)).alloc (.cells #[.int .u64 0, .int .u64 0] 75)) (w.heap.size) P Q G from (Boxed.at _ P Q G _ (w.heap.size) (by simp)).alloc _)
    have F_r := Lh (show Pair ((w.alloc (.cells #[.int .u64 P, .int .u64 Q, .int .u64 G] 24)).alloc (.cells #[.int .u64 0, .int .u64 0] 75)) (w.heap.size + 1) 0 0 from Pair.at _ 0 0 _ (w.heap.size + 1) (by simp))
    have HBW := Lh (show Below w.heap.size w ((w.alloc (.cells #[.int .u64 P, .int .u64 Q, .int .u64 G] 24)).alloc (.cells #[.int .u64 0, .int .u64 0] 75)) from ((Below.refl _ _).alloc (by simp <;> omega) _).alloc (by simp <;> omega) _)
    go_enter Tryz.func83, Tryz.ntmps83
    obtain ⟨x0a, x0b, x0c, -⟩ := id F_g.o
    obtain ⟨x1a, x1b, x1c, x1d, -⟩ := id F_r.o
    go_wp2_with fail
    clear x0a x0b x0c x1a x1b x1c x1d
    refine (echeck_any _ hP hQ hG (ShL.nil _) (ShL.nil _) (by simp) (by simp) HR.o).mono ?_
    rintro e w1 ⟨rfl, hb1⟩
    replace F_g := Lh (F_g.o.keep hb1)
    replace F_r := Lh (F_r.o.keep hb1)
    replace HBW := Lh (HBW.o.trans (hb1.mono HBW.o.size))
    clear hb1
    obtain ⟨x0a, x0b, x0c, -⟩ := id F_g.o
    obtain ⟨x1a, x1b, x1c, x1d, -⟩ := id F_r.o
    go_wp2_with fail
    clear x0a x0b x0c x1a x1b x1c x1d
    have lt1g := F_g.o.lt
    have lt1r := F_r.o.lt
    refine (start_any P Q G w1).mono ?_
    rintro e w2 ⟨rfl, hb2, hg2⟩
    have hz2 := hb2.size
    replace F_g := Lh ((F_g.o.keep hb2).alloc (.cells #[.int .u64 1, .int .u64 1, .func (.func 134) #[] #[.pointer (some ⟨w1.heap.size, 0, none⟩)]] 157))
    replace F_r := Lh ((F_r.o.keep hb2).alloc (.cells #[.int .u64 1, .int .u64 1, .func (.func 134) #[] #[.pointer (some ⟨w1.heap.size, 0, none⟩)]] 157))
    have hbs := HBW.o.size
    replace HBW := Lh ((HBW.o.trans (hb2.mono HBW.o.size)).alloc (by omega) (.cells #[.int .u64 1, .int .u64 1, .func (.func 134) #[] #[.pointer (some ⟨w1.heap.size, 0, none⟩)]] 157))
    have HE := Lh (Eng.new w2 w1.heap.size P Q G hg2)
    have lt2 : w1.heap.size < w2.heap.size := hg2.lt
    clear hb2 hg2
    go_wp2_with fail
    go_loopw [9, 10, 25] (fun c9 c10 c25 wr => ∃ k : Nat, k ≤ n ∧ c25 = .int .i64 k ∧ Hid (ESumIn w wr w2.heap.size w1.heap.size w.heap.size (w.heap.size + 1) P Q G ps k)) (fun _ _ c25 _ => n - (intOf c25).toNat)
    case atStart => exact ⟨0, Nat.zero_le _, rfl, ⟨⟨1, 1, rfl, by omega, hP1, by omega, hP1, HE.o⟩, F_g.o, F_r.o, HBW.o, rfl⟩⟩
    case round =>
     clear F_g F_r HBW HE
     obtain ⟨k, hk, rfl, HK⟩ := hrel
     have hln := HS.o.len
     by_cases hlt : k < n
     case neg =>
      have hkn : k = n := by omega
      obtain ⟨p, q, hpq, p0, pP, q0, qP, hE⟩ := HK.o.eng
      have htk : ps.take k = ps := by rw [hkn, hln, List.take_length]
      have := HK.o.ok
      rw [htk, HO3.o] at this
      cases this
     case pos =>
      obtain ⟨s, o, hsa, hsl, d0, d1⟩ := (HS.o.keep HK.o.bel).at k hlt
      have hsw : s < w.heap.size := by
       rcases HS.o with ⟨h, -⟩ | ⟨s', o', h0, -, h2, -⟩
       · omega
       · rw [h0] at hsa; cases hsa; exact h2
      obtain ⟨u, v, huv⟩ : ∃ u v, ps.getD k (0, 0) = (u, v) := ⟨_, _, rfl⟩
      rw [huv] at d0 d1
      have hkl : k < ps.length := by omega
      have hmem := HN.o _ (mem_getD hkl huv)
      have hu0 : 0 ≤ u := hmem.1
      have hv0 : 0 ≤ v := hmem.2
      have HT := Lh (okS_snoc P ps k u v hkl huv)
      have HA := Lh (allP_snoc P ps k u v hkl huv)
      have HNO := Lh (okS_not P ps k u v hkl huv)
      have hln' := Lh hln
      clear huv hmem hln
      obtain ⟨p, q, hpq, p0, pP, q0, qP, hE⟩ := HK.o.eng
      have HE := Lh hE
      have HPQ := Lh hpq
      clear hE hpq
      have hk0 : (0 : Int) ≤ (k : Int) := by omega
      have hk1 : (k : Int) < (n : Int) := by omega
      have hzr := HK.o.bel.size
      have hzE := HE.o.lt
      have c26 : Tryz.prog.cellsOf 75 = 2 := by kernel_rfl
      have F_b := Lh HK.o.box
      have F_r := Lh HK.o.res
      have HBW := Lh HK.o.bel
      have HO := Lh HK.o.ok
      clear HK
      subst hsa
      have hzb := F_b.o.lt
      have hzR := F_r.o.lt
      obtain ⟨g0, g1, g2, -⟩ := id F_b.o
      by_cases hb : u < P ∧ v < P
      case neg =>
       have HR2 := Lh (show askS P Q G [] [u, v] = 2 from askS_n HH.o (by simp [okAll]; omega))
       have HF := Lh (HNO.o hb)
       clear hb
       go_wp2_with fail
       clear g0 g1 g2
       refine (echeck_any _ hP hQ hG (ShL.nil _) (ShL.laid _ [u, v] _ _ _ _ _ (by simp) rfl rfl) (by simp) (by simp) HR2.o).mono ?_
       rintro e w3 ⟨rfl, hb3⟩
       have hba := (Below.refl wr.heap.size wr).alloc (Nat.le_refl _) (.cells #[.int .u64 u, .int .u64 v] 75)
       have hbc := hba.alloc hba.size (.cells #[.int .u64 u, .int .u64 v] 22)
       have hbb : Below wr.heap.size wr w3 := hbc.trans (hb3.mono hbc.size)
       clear hba hbc
       replace F_r := Lh (F_r.o.keep hbb)
       replace HBW := Lh (HBW.o.trans (hbb.mono HBW.o.size))
       clear hb3 hbb
       obtain ⟨r0, r1, r2, r3, -⟩ := id F_r.o
       go_wp2_with fail
       exact bodyPost_ret (res_pair rfl (F_r.o.stored 0 0) _ rfl rfl) rfl ⟨rfl, (HBW.o.setCell (by simp <;> omega) _).setCell (by simp <;> omega) _⟩
      case pos =>
       obtain ⟨hu, hv⟩ := hb
       have HR2 := Lh (show askS P Q G [] [u, v] = 0 from askS_ok HH.o (by simp) (by simp; omega))
       go_wp2_with fail
       clear g0 g1 g2
       refine (echeck_any _ hP hQ hG (ShL.nil _) (ShL.laid _ [u, v] _ _ _ _ _ (by simp) rfl rfl) (by simp) (by simp) HR2.o).mono ?_
       rintro e w3 ⟨rfl, hb3⟩
       have hba := (Below.refl wr.heap.size wr).alloc (Nat.le_refl _) (.cells #[.int .u64 u, .int .u64 v] 75)
       have hbc := hba.alloc hba.size (.cells #[.int .u64 u, .int .u64 v] 22)
       have hbb : Below wr.heap.size wr w3 := hbc.trans (hb3.mono hbc.size)
       clear hba hbc
       have F_c := Lh (((Pair.at wr u v 75 wr.heap.size rfl).alloc (.cells #[.int .u64 u, .int .u64 v] 22)).keep hb3)
       replace F_r := Lh (F_r.o.keep hbb)
       replace F_b := Lh (F_b.o.keep hbb)
       replace HE := Lh (HE.o.keep hbb)
       replace HBW := Lh (HBW.o.trans (hbb.mono HBW.o.size))
       have hz3 := hbb.size
       clear hb3 hbb
       obtain ⟨r0, r1, r2, r3, -⟩ := id F_c.o
       go_wp2_with fail
       clear r0 r1 r2 r3
       refine (eadd_any _ HE.o HH.o p0 pP q0 qP hu0 hu hv0 hv rfl rfl).mono ?_
       rintro e w4 ⟨rfl, hE4, hA4⟩
       replace HE := Lh hE4
       replace F_r := Lh (F_r.o.added hA4 (by omega))
       replace F_b := Lh (F_b.o.added hA4 (by omega))
       replace HBW := Lh (HBW.o.trans (hA4.below w.heap.size (by omega) (by omega)))
       clear hE4 hA4
       go_wp2_with fail
       go_roundw
       case rel =>
        refine ⟨k + 1, by omega, by go_num, ⟨⟨_, _, ?_, Int.emod_nonneg _ (by omega), Int.emod_lt_of_pos _ (by omega), Int.emod_nonneg _ (by omega), Int.emod_lt_of_pos _ (by omega), HE.o⟩, F_b.o, F_r.o, HBW.o, ?_⟩⟩
        · rw [HA.o, HPQ.o]; rfl
        · rw [HT.o, HO.o]; simp [hu, hv]
       case measure => simp [intOf]; omega
  · have HR := Lh (show askS P Q G [] [] = 0 from askS_ok hH (by simp) (by simp))
    have hn1 : (n : Int) ≤ 4096 := by omega
    have HH := Lh hH
    have HO4 := Lh ho
    have HV := Lh hxy
    clear hH hn hnl ho hxy
    have hP1 : 1 < P := by have := HH.o.1; omega
    have F_g := Lh (show Boxed ((w.alloc (.cells #[.int .u64 P, .int .u64 Q, .int .u64 G] 24)).alloc (.cells #[.int .u64 0, .int .u64 0] 75)) (w.heap.size) P Q G from (Boxed.at _ P Q G _ (w.heap.size) (by simp)).alloc _)
    have F_r := Lh (show Pair ((w.alloc (.cells #[.int .u64 P, .int .u64 Q, .int .u64 G] 24)).alloc (.cells #[.int .u64 0, .int .u64 0] 75)) (w.heap.size + 1) 0 0 from Pair.at _ 0 0 _ (w.heap.size + 1) (by simp))
    have HBW := Lh (show Below w.heap.size w ((w.alloc (.cells #[.int .u64 P, .int .u64 Q, .int .u64 G] 24)).alloc (.cells #[.int .u64 0, .int .u64 0] 75)) from ((Below.refl _ _).alloc (by simp <;> omega) _).alloc (by simp <;> omega) _)
    go_enter Tryz.func83, Tryz.ntmps83
    obtain ⟨x0a, x0b, x0c, -⟩ := id F_g.o
    obtain ⟨x1a, x1b, x1c, x1d, -⟩ := id F_r.o
    go_wp2_with fail
    clear x0a x0b x0c x1a x1b x1c x1d
    refine (echeck_any _ hP hQ hG (ShL.nil _) (ShL.nil _) (by simp) (by simp) HR.o).mono ?_
    rintro e w1 ⟨rfl, hb1⟩
    replace F_g := Lh (F_g.o.keep hb1)
    replace F_r := Lh (F_r.o.keep hb1)
    replace HBW := Lh (HBW.o.trans (hb1.mono HBW.o.size))
    clear hb1
    obtain ⟨x0a, x0b, x0c, -⟩ := id F_g.o
    obtain ⟨x1a, x1b, x1c, x1d, -⟩ := id F_r.o
    go_wp2_with fail
    clear x0a x0b x0c x1a x1b x1c x1d
    have lt1g := F_g.o.lt
    have lt1r := F_r.o.lt
    refine (start_any P Q G w1).mono ?_
    rintro e w2 ⟨rfl, hb2, hg2⟩
    have hz2 := hb2.size
    replace F_g := Lh ((F_g.o.keep hb2).alloc (.cells #[.int .u64 1, .int .u64 1, .func (.func 134) #[] #[.pointer (some ⟨w1.heap.size, 0, none⟩)]] 157))
    replace F_r := Lh ((F_r.o.keep hb2).alloc (.cells #[.int .u64 1, .int .u64 1, .func (.func 134) #[] #[.pointer (some ⟨w1.heap.size, 0, none⟩)]] 157))
    have hbs := HBW.o.size
    replace HBW := Lh ((HBW.o.trans (hb2.mono HBW.o.size)).alloc (by omega) (.cells #[.int .u64 1, .int .u64 1, .func (.func 134) #[] #[.pointer (some ⟨w1.heap.size, 0, none⟩)]] 157))
    have HE := Lh (Eng.new w2 w1.heap.size P Q G hg2)
    have lt2 : w1.heap.size < w2.heap.size := hg2.lt
    clear hb2 hg2
    go_wp2_with fail
    go_loopw [9, 10, 25] (fun c9 c10 c25 wr => ∃ k : Nat, k ≤ n ∧ c25 = .int .i64 k ∧ Hid (ESumIn w wr w2.heap.size w1.heap.size w.heap.size (w.heap.size + 1) P Q G ps k)) (fun _ _ c25 _ => n - (intOf c25).toNat)
    case atStart => exact ⟨0, Nat.zero_le _, rfl, ⟨⟨1, 1, rfl, by omega, hP1, by omega, hP1, HE.o⟩, F_g.o, F_r.o, HBW.o, rfl⟩⟩
    case round =>
     clear F_g F_r HBW HE
     obtain ⟨k, hk, rfl, HK⟩ := hrel
     have hln := HS.o.len
     by_cases hlt : k < n
     case neg =>
      have hkn : k = n := by omega
      obtain ⟨p, q, hpq, p0, pP, q0, qP, hE⟩ := HK.o.eng
      have htk : ps.take k = ps := by rw [hkn, hln, List.take_length]
      obtain ⟨rfl, rfl⟩ : p = x ∧ q = y := by rw [htk, HV.o] at hpq; cases hpq; exact ⟨rfl, rfl⟩
      have F_r := Lh HK.o.res
      have HBW := Lh HK.o.bel
      obtain ⟨e0, e1, -, -, -, -, -, -⟩ := hE
      clear hpq htk HK
      have hzr := HBW.o.size
      obtain ⟨r0, r1, r2, r3, -⟩ := id F_r.o
      go_wp2_with fail
      exact bodyPost_ret (res_pair rfl (F_r.o.stored p q) _ rfl rfl) rfl ⟨rfl, (HBW.o.setCell (by simp <;> omega) _).setCell (by simp <;> omega) _⟩
     case pos =>
      obtain ⟨s, o, hsa, hsl, d0, d1⟩ := (HS.o.keep HK.o.bel).at k hlt
      have hsw : s < w.heap.size := by
       rcases HS.o with ⟨h, -⟩ | ⟨s', o', h0, -, h2, -⟩
       · omega
       · rw [h0] at hsa; cases hsa; exact h2
      obtain ⟨u, v, huv⟩ : ∃ u v, ps.getD k (0, 0) = (u, v) := ⟨_, _, rfl⟩
      rw [huv] at d0 d1
      have hkl : k < ps.length := by omega
      have hmem := HN.o _ (mem_getD hkl huv)
      have hu0 : 0 ≤ u := hmem.1
      have hv0 : 0 ≤ v := hmem.2
      have HT := Lh (okS_snoc P ps k u v hkl huv)
      have HA := Lh (allP_snoc P ps k u v hkl huv)
      have HNO := Lh (okS_not P ps k u v hkl huv)
      have hln' := Lh hln
      clear huv hmem hln
      obtain ⟨p, q, hpq, p0, pP, q0, qP, hE⟩ := HK.o.eng
      have HE := Lh hE
      have HPQ := Lh hpq
      clear hE hpq
      have hk0 : (0 : Int) ≤ (k : Int) := by omega
      have hk1 : (k : Int) < (n : Int) := by omega
      have hzr := HK.o.bel.size
      have hzE := HE.o.lt
      have c26 : Tryz.prog.cellsOf 75 = 2 := by kernel_rfl
      have F_b := Lh HK.o.box
      have F_r := Lh HK.o.res
      have HBW := Lh HK.o.bel
      have HO := Lh HK.o.ok
      clear HK
      subst hsa
      have hzb := F_b.o.lt
      have hzR := F_r.o.lt
      obtain ⟨g0, g1, g2, -⟩ := id F_b.o
      by_cases hb : u < P ∧ v < P
      case neg =>
       have HR2 := Lh (show askS P Q G [] [u, v] = 2 from askS_n HH.o (by simp [okAll]; omega))
       have HF := Lh (HNO.o hb)
       clear hb
       go_wp2_with fail
       clear g0 g1 g2
       refine (echeck_any _ hP hQ hG (ShL.nil _) (ShL.laid _ [u, v] _ _ _ _ _ (by simp) rfl rfl) (by simp) (by simp) HR2.o).mono ?_
       rintro e w3 ⟨rfl, hb3⟩
       have hba := (Below.refl wr.heap.size wr).alloc (Nat.le_refl _) (.cells #[.int .u64 u, .int .u64 v] 75)
       have hbc := hba.alloc hba.size (.cells #[.int .u64 u, .int .u64 v] 22)
       have hbb : Below wr.heap.size wr w3 := hbc.trans (hb3.mono hbc.size)
       clear hba hbc
       replace F_r := Lh (F_r.o.keep hbb)
       replace HBW := Lh (HBW.o.trans (hbb.mono HBW.o.size))
       clear hb3 hbb
       obtain ⟨r0, r1, r2, r3, -⟩ := id F_r.o
       go_wp2_with fail
       have hff := HF.o
       rw [HO4.o] at hff
       cases hff
      case pos =>
       obtain ⟨hu, hv⟩ := hb
       have HR2 := Lh (show askS P Q G [] [u, v] = 0 from askS_ok HH.o (by simp) (by simp; omega))
       go_wp2_with fail
       clear g0 g1 g2
       refine (echeck_any _ hP hQ hG (ShL.nil _) (ShL.laid _ [u, v] _ _ _ _ _ (by simp) rfl rfl) (by simp) (by simp) HR2.o).mono ?_
       rintro e w3 ⟨rfl, hb3⟩
       have hba := (Below.refl wr.heap.size wr).alloc (Nat.le_refl _) (.cells #[.int .u64 u, .int .u64 v] 75)
       have hbc := hba.alloc hba.size (.cells #[.int .u64 u, .int .u64 v] 22)
       have hbb : Below wr.heap.size wr w3 := hbc.trans (hb3.mono hbc.size)
       clear hba hbc
       have F_c := Lh (((Pair.at wr u v 75 wr.heap.size rfl).alloc (.cells #[.int .u64 u, .int .u64 v] 22)).keep hb3)
       replace F_r := Lh (F_r.o.keep hbb)
       replace F_b := Lh (F_b.o.keep hbb)
       replace HE := Lh (HE.o.keep hbb)
       replace HBW := Lh (HBW.o.trans (hbb.mono HBW.o.size))
       have hz3 := hbb.size
       clear hb3 hbb
       obtain ⟨r0, r1, r2, r3, -⟩ := id F_c.o
       go_wp2_with fail
       clear r0 r1 r2 r3
       refine (eadd_any _ HE.o HH.o p0 pP q0 qP hu0 hu hv0 hv rfl rfl).mono ?_
       rintro e w4 ⟨rfl, hE4, hA4⟩
       replace HE := Lh hE4
       replace F_r := Lh (F_r.o.added hA4 (by omega))
       replace F_b := Lh (F_b.o.added hA4 (by omega))
       replace HBW := Lh (HBW.o.trans (hA4.below w.heap.size (by omega) (by omega)))
       clear hE4 hA4
       go_wp2_with fail
       go_roundw
       case rel =>
        refine ⟨k + 1, by omega, by go_num, ⟨⟨_, _, ?_, Int.emod_nonneg _ (by omega), Int.emod_lt_of_pos _ (by omega), Int.emod_nonneg _ (by omega), Int.emod_lt_of_pos _ (by omega), HE.o⟩, F_b.o, F_r.o, HBW.o, ?_⟩⟩
        · rw [HA.o, HPQ.o]; rfl
        · rw [HT.o, HO.o]; simp [hu, hv]
       case measure => simp [intOf]; omega
end Go.Proofs.YtlbldpkgnonbpaaGreatDoor
