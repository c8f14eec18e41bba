/- elgamal.start, its closure, and the engine's add. -/
import Derived.Test.YtembepajnigfiaaStage
import Derived.Test.YtembepajnigfiaaAsk
import Derived.Test.YtembepajnigfiaaMemLog
namespace Go.Proofs.Ytembepajnigfiaa
open Go.RowKit Num
set_option linter.unusedSimpArgs false
set_option linter.unusedVariables false

@[go_sem] theorem run_store_fn (P : Program) (w : World) (a : Addr) (fn : Fn) (first cap : Array Value) (m : Mode) : (store a (.func fn first cap) m).run P w = stored P w a (.func fn first cap) m := run_store P w a _ m rfl

set_option maxHeartbeats 1000000 in
theorem smul_any {P Q G x y z : Int} {B : Nat} (w : World) (hB : Boxed w B P Q G) (hH : Has P Q G) (x0 : 0 ≤ x) (xP : x < P) (y0 : 0 ≤ y) (yP : y < P) (hz : x * y % P = z) :
    Calls Try.prog 25 #[.int .u64 x, .int .u64 y, .pointer (some ⟨B, 0, none⟩)] w fun e w' => e = .returned (.int .u64 z) ∧ Below w.heap.size w w' := by
  obtain ⟨g0, g1, g2, gl⟩ := hB
  have HZ := Lib.hid hz
  clear hz
  have HH := Lib.hid hH
  clear hH
  go_enter Try.func25, Try.ntmps25
  go_wp2_with (go_at_call 26; refine (mul_ok P Q G x y z _ HH.out x0 xP y0 yP HZ.out).mono ?_; rintro e w1 ⟨rfl, hb1⟩)
  go_ret
  exact ⟨rfl, hb1⟩

set_option maxHeartbeats 1000000 in
theorem start_any (P Q G : Int) (w : World) :
    Calls Try.prog 20 #[.agg #[.int .u64 P, .int .u64 Q, .int .u64 G]] w fun e w' => e = .returned (.agg #[.int .u64 1, .int .u64 1, .func (.func 25) #[] #[.pointer (some ⟨w.heap.size, 0, none⟩)]]) ∧ Below w.heap.size w w' ∧ Boxed w' w.heap.size P Q G := by
  have hmf : ∀ (fn : Fn) (first cap : Array Value) (w : World), (Instr.makeFunc fn first cap).run Try.prog w = .ok (.func fn first cap) w := fun _ _ _ _ => rfl
  have hB := Lib.hid (Boxed.new w P Q G 24)
  go_enter Try.func20, Try.ntmps20
  go_wp2_with fail
  refine bodyPost_ret (v := .agg #[.int .u64 1, .int .u64 1, .func (.func 25) #[] #[.pointer (some ⟨w.heap.size, 0, none⟩)]]) (by simp [results, Try.results20, go_sem]) rfl ⟨rfl, ?_, hB.out.alloc _⟩
  exact Below.alloc (Below.alloc (Below.refl _ _) (by simp) _) (by simp) _

/-- An engine that lies in memory. -/
structure Eng (w : World) (E B : Nat) (P Q G a b : Int) : Prop where
  c0 : w.cell? ⟨E, 0, none⟩ = some (.int .u64 a)
  c1 : w.cell? ⟨E, 1, none⟩ = some (.int .u64 b)
  c2 : w.cell? ⟨E, 2, none⟩ = some (.func (.func 25) #[] #[.pointer (some ⟨B, 0, none⟩)])
  f0 : w.frozen? ⟨E, 0, none⟩ = false
  f1 : w.frozen? ⟨E, 1, none⟩ = false
  lt : E < w.heap.size
  box : Boxed w B P Q G
  ne : B ≠ E
theorem Eng.keep {w w' : World} {E B : Nat} {P Q G a b : Int} (h : Eng w E B P Q G a b) (hb : Below w.heap.size w w') : Eng w' E B P Q G a b :=
  ⟨(hb.cell (p := ⟨E, 0, none⟩) h.lt).trans h.c0, (hb.cell (p := ⟨E, 1, none⟩) h.lt).trans h.c1, (hb.cell (p := ⟨E, 2, none⟩) h.lt).trans h.c2, (hb.frozen (p := ⟨E, 0, none⟩) h.lt).trans h.f0, (hb.frozen (p := ⟨E, 1, none⟩) h.lt).trans h.f1, Nat.lt_of_lt_of_le h.lt hb.size, h.box.keep hb, h.ne⟩

/-- What add leaves of the world: the engine's two cells are new, new blocks have come. -/
structure Added (w w' : World) (E : Nat) : Prop where
  below : ∀ n, n ≤ w.heap.size → n ≤ E → Below n w w'
  cell : ∀ b o, b < w.heap.size → b ≠ E → w'.cell? ⟨b, o, none⟩ = w.cell? ⟨b, o, none⟩
  frozen : ∀ b o, b < w.heap.size → b ≠ E → w'.frozen? ⟨b, o, none⟩ = w.frozen? ⟨b, o, none⟩

theorem Added.of {w w1 : World} {E : Nat} (hb : Below w.heap.size w w1) (u v : Value) : Added w ((w1.setCell ⟨E, 0, none⟩ u).setCell ⟨E, 1, none⟩ v) E := by
  refine ⟨fun n h1 h2 => ((hb.mono h1).setCell (p := ⟨E, 0, none⟩) h2 u).setCell (p := ⟨E, 1, none⟩) h2 v, fun b o h1 h2 => ?_, fun b o h1 h2 => ?_⟩
  · rw [World.cell?_setCell_other _ _ _ _ (fun h => h2 (congrArg Addr.block h).symm), World.cell?_setCell_other _ _ _ _ (fun h => h2 (congrArg Addr.block h).symm)]
    exact hb.cell (p := ⟨b, o, none⟩) h1
  · rw [World.frozen?_setCell, World.frozen?_setCell]
    exact hb.frozen (p := ⟨b, o, none⟩) h1

/-- What the engine's cells and the argument's say ahead of the stores. -/
def SAdd (w : World) (E B C : Nat) (a b c d : Int) : Prop :=
  w.cell? ⟨E, 0, none⟩ = some (.int .u64 a) ∧ w.cell? ⟨E, 1, none⟩ = some (.int .u64 b) ∧ w.cell? ⟨E, 2, none⟩ = some (.func (.func 25) #[] #[.pointer (some ⟨B, 0, none⟩)]) ∧ w.cell? ⟨C, 0, none⟩ = some (.int .u64 c) ∧ w.cell? ⟨C, 1, none⟩ = some (.int .u64 d)
theorem SAdd.keep {w w' : World} {E B C : Nat} {a b c d : Int} (h : SAdd w E B C a b c d) (hE : E < w.heap.size) (hC : C < w.heap.size) (hb : Below w.heap.size w w') : SAdd w' E B C a b c d :=
  ⟨(hb.cell (p := ⟨E, 0, none⟩) hE).trans h.1, (hb.cell (p := ⟨E, 1, none⟩) hE).trans h.2.1, (hb.cell (p := ⟨E, 2, none⟩) hE).trans h.2.2.1, (hb.cell (p := ⟨C, 0, none⟩) hC).trans h.2.2.2.1, (hb.cell (p := ⟨C, 1, none⟩) hC).trans h.2.2.2.2⟩
/-- The engine behind the two stores. -/
theorem Eng.stored {w : World} {E B : Nat} {P Q G a b a' b' : Int} (h : Eng w E B P Q G a b) : Eng ((w.setCell ⟨E, 0, none⟩ (.int .u64 a')).setCell ⟨E, 1, none⟩ (.int .u64 b')) E B P Q G a' b' := by
  have h0 : ((w.setCell ⟨E, 0, none⟩ (.int .u64 a')).cell? ⟨E, 0, none⟩) = some (.int .u64 a') := World.cell?_setCell_same _ _ _ h.c0
  have h1 : ((w.setCell ⟨E, 0, none⟩ (.int .u64 a')).cell? ⟨E, 1, none⟩) = some (.int .u64 b) := by rw [World.cell?_setCell_other _ _ _ _ (by simp)]; exact h.c1
  refine ⟨?_, World.cell?_setCell_same _ _ _ h1, ?_, ?_, ?_, by simpa using h.lt, ⟨?_, ?_, ?_, by simpa using h.box.lt⟩, h.ne⟩
  · rw [World.cell?_setCell_other _ _ _ _ (by simp)]; exact h0
  · rw [World.cell?_setCell_other _ _ _ _ (by simp), World.cell?_setCell_other _ _ _ _ (by simp)]; exact h.c2
  · rw [World.frozen?_setCell, World.frozen?_setCell]; exact h.f0
  · rw [World.frozen?_setCell, World.frozen?_setCell]; exact h.f1
  · rw [World.cell?_setCell_other _ _ _ _ (fun e => h.ne (congrArg Addr.block e).symm), World.cell?_setCell_other _ _ _ _ (fun e => h.ne (congrArg Addr.block e).symm)]; exact h.box.c0
  · rw [World.cell?_setCell_other _ _ _ _ (fun e => h.ne (congrArg Addr.block e).symm), World.cell?_setCell_other _ _ _ _ (fun e => h.ne (congrArg Addr.block e).symm)]; exact h.box.c1
  · rw [World.cell?_setCell_other _ _ _ _ (fun e => h.ne (congrArg Addr.block e).symm), World.cell?_setCell_other _ _ _ _ (fun e => h.ne (congrArg Addr.block e).symm)]; exact h.box.c2

set_option maxHeartbeats 4000000 in
theorem eadd_any {P Q G a b c d a' b' : Int} {E B : Nat} (w : World) (hE : Eng w E B P Q G a b) (hH : Has P Q G) (a0 : 0 ≤ a) (aP : a < P) (b0 : 0 ≤ b) (bP : b < P) (c0 : 0 ≤ c) (cP : c < P) (d0 : 0 ≤ d) (dP : d < P) (ha : a * c % P = a') (hb : b * d % P = b') :
    Calls Try.prog 21 #[.pointer (some ⟨E, 0, none⟩), .agg #[.int .u64 c, .int .u64 d]] w fun e w' => e = .returned (.tuple #[]) ∧ Eng w' E B P Q G a' b' ∧ Added w w' E := by
  have HE := Lib.hid hE
  have HH := Lib.hid hH
  have HA := Lib.hid ha
  have HB := Lib.hid hb
  have hlt := hE.lt
  clear hE hH ha hb
  go_enter Try.func21, Try.ntmps21
  go_wp2_with fail
  have HW := Lib.hid (show Below w.heap.size w (w.alloc (.cells #[.int .u64 c, .int .u64 d] 45)) from Below.alloc (Below.refl _ _) (Nat.le_refl _) _)
  have hS : SAdd (w.alloc (.cells #[.int .u64 c, .int .u64 d] 45)).drew E B w.heap.size a b c d := by
    obtain ⟨e0, e1, e2, -⟩ := HE.out.keep HW.out.drew
    exact ⟨e0, e1, e2, by rw [World.cell?_drew, World.cell?_alloc_new]; rfl, by rw [World.cell?_drew, World.cell?_alloc_new]; rfl⟩
  have HE0 := Lib.hid (HE.out.keep HW.out.drew)
  refine wp_region_stage 32 (fun w' => SAdd w' E B w.heap.size a b c d) (by kernel_rfl) ?_
  refine wpAnyB_takeP (i := 0) (some 4) (Op.move (Operand.tmp 0)) 67 (v := ?_) ⟨_, rfl, rfl, rfl, rfl, rfl⟩ (by kernel_rfl) (by kernel_rfl) (by kernel_rfl) (by kernel_rfl) (fun _ _ _ h => h) (fun _ => hS) (fun w' => ?_) ?_
  rotate_left
  · unfold bareOp
    go_simp
    try with_reducible rfl
  simp only [Act.put, List.setIfInBounds_toArray, List.set_cons_zero, List.set_cons_succ]
  refine wpAnyB_takeP (i := 1) (some 5) (Op.move (Operand.tmp 0)) 67 (v := ?_) ⟨_, rfl, rfl, rfl, rfl, rfl⟩ (by kernel_rfl) (by kernel_rfl) (by kernel_rfl) (by kernel_rfl) (fun _ _ _ h => h) (fun _ => hS) (fun w' => ?_) ?_
  rotate_left
  · unfold bareOp
    go_simp
    try with_reducible rfl
  simp only [Act.put, List.setIfInBounds_toArray, List.set_cons_zero, List.set_cons_succ]
  refine wpAnyB_takeP (i := 2) (some 6) (Op.move (Operand.tmp 0)) 67 (v := ?_) ⟨_, rfl, rfl, rfl, rfl, rfl⟩ (by kernel_rfl) (by kernel_rfl) (by kernel_rfl) (by kernel_rfl) (fun _ _ _ h => h) (fun _ => hS) (fun w' => ?_) ?_
  rotate_left
  · unfold bareOp
    go_simp
    try with_reducible rfl
  simp only [Act.put, List.setIfInBounds_toArray, List.set_cons_zero, List.set_cons_succ]
  refine wpAnyB_takeP (i := 3) (some 7) (Op.nilCheck (Operand.tmp 6)) 0 (v := ?_) ⟨_, rfl, rfl, rfl, rfl, rfl⟩ (by kernel_rfl) (by kernel_rfl) (by kernel_rfl) (by kernel_rfl) (fun _ _ _ h => h) (fun _ => hS) (fun w' => ?_) ?_
  rotate_left
  · unfold bareOp
    go_simp
    try with_reducible rfl
  simp only [Act.put, List.setIfInBounds_toArray, List.set_cons_zero, List.set_cons_succ]
  refine wpAnyB_takeP (i := 4) (some 8) (Op.fieldAddr 58 (Operand.tmp 7) 1) 0 (v := ?_) ⟨_, rfl, rfl, rfl, rfl, rfl⟩ (by kernel_rfl) (by kernel_rfl) (by kernel_rfl) (by kernel_rfl) (fun _ _ _ h => h) (fun _ => hS) (fun w' => ?_) ?_
  rotate_left
  · unfold bareOp
    go_simp
    try with_reducible rfl
  simp only [Act.put, List.setIfInBounds_toArray, List.set_cons_zero, List.set_cons_succ]
  refine wpAnyB_take (i := 5) (some 9) (Op.load 56 (Operand.tmp 8)) 56 (v := ?_) ⟨_, rfl, rfl, rfl, rfl, rfl⟩ (by kernel_rfl) (by kernel_rfl) (by kernel_rfl) [32] (by kernel_rfl) (fun _ _ _ h => h) hS (fun w' hSw => ?_) ?_
  rotate_left
  · obtain ⟨s0, s1, s2, s3, s4⟩ := hSw
    unfold bareOp
    go_simp
    try with_reducible rfl
  simp only [Act.put, List.setIfInBounds_toArray, List.set_cons_zero, List.set_cons_succ]
  refine wpAnyB_takeP (i := 6) (some 10) (Op.move (Operand.tmp 0)) 67 (v := ?_) ⟨_, rfl, rfl, rfl, rfl, rfl⟩ (by kernel_rfl) (by kernel_rfl) (by kernel_rfl) (by kernel_rfl) (fun _ _ _ h => h) (fun _ => hS) (fun w' => ?_) ?_
  rotate_left
  · unfold bareOp
    go_simp
    try with_reducible rfl
  simp only [Act.put, List.setIfInBounds_toArray, List.set_cons_zero, List.set_cons_succ]
  refine wpAnyB_takeP (i := 7) (some 11) (Op.nilCheck (Operand.tmp 10)) 0 (v := ?_) ⟨_, rfl, rfl, rfl, rfl, rfl⟩ (by kernel_rfl) (by kernel_rfl) (by kernel_rfl) (by kernel_rfl) (fun _ _ _ h => h) (fun _ => hS) (fun w' => ?_) ?_
  rotate_left
  · unfold bareOp
    go_simp
    try with_reducible rfl
  simp only [Act.put, List.setIfInBounds_toArray, List.set_cons_zero, List.set_cons_succ]
  refine wpAnyB_takeP (i := 8) (some 12) (Op.fieldAddr 58 (Operand.tmp 11) 0) 0 (v := ?_) ⟨_, rfl, rfl, rfl, rfl, rfl⟩ (by kernel_rfl) (by kernel_rfl) (by kernel_rfl) (by kernel_rfl) (fun _ _ _ h => h) (fun _ => hS) (fun w' => ?_) ?_
  rotate_left
  · unfold bareOp
    go_simp
    try with_reducible rfl
  simp only [Act.put, List.setIfInBounds_toArray, List.set_cons_zero, List.set_cons_succ]
  refine wpAnyB_takeP (i := 9) (some 13) (Op.fieldAddr 55 (Operand.tmp 12) 0) 0 (v := ?_) ⟨_, rfl, rfl, rfl, rfl, rfl⟩ (by kernel_rfl) (by kernel_rfl) (by kernel_rfl) (by kernel_rfl) (fun _ _ _ h => h) (fun _ => hS) (fun w' => ?_) ?_
  rotate_left
  · unfold bareOp
    go_simp
    try with_reducible rfl
  simp only [Act.put, List.setIfInBounds_toArray, List.set_cons_zero, List.set_cons_succ]
  refine wpAnyB_takeP (i := 10) (some 14) (Op.fieldAddr 45 (Operand.tmp 13) 0) 0 (v := ?_) ⟨_, rfl, rfl, rfl, rfl, rfl⟩ (by kernel_rfl) (by kernel_rfl) (by kernel_rfl) (by kernel_rfl) (fun _ _ _ h => h) (fun _ => hS) (fun w' => ?_) ?_
  rotate_left
  · unfold bareOp
    go_simp
    try with_reducible rfl
  simp only [Act.put, List.setIfInBounds_toArray, List.set_cons_zero, List.set_cons_succ]
  refine wpAnyB_take (i := 11) (some 15) (Op.load 22 (Operand.tmp 14)) 22 (v := ?_) ⟨_, rfl, rfl, rfl, rfl, rfl⟩ (by kernel_rfl) (by kernel_rfl) (by kernel_rfl) [32] (by kernel_rfl) (fun _ _ _ h => h) hS (fun w' hSw => ?_) ?_
  rotate_left
  · obtain ⟨s0, s1, s2, s3, s4⟩ := hSw
    unfold bareOp
    go_simp
    try with_reducible rfl
  simp only [Act.put, List.setIfInBounds_toArray, List.set_cons_zero, List.set_cons_succ]
  refine wpAnyB_takeP (i := 12) (some 16) (Op.fieldAddr 45 (Operand.tmp 3) 0) 0 (v := ?_) ⟨_, rfl, rfl, rfl, rfl, rfl⟩ (by kernel_rfl) (by kernel_rfl) (by kernel_rfl) (by kernel_rfl) (fun _ _ _ h => h) (fun _ => hS) (fun w' => ?_) ?_
  rotate_left
  · unfold bareOp
    go_simp
    try with_reducible rfl
  simp only [Act.put, List.setIfInBounds_toArray, List.set_cons_zero, List.set_cons_succ]
  refine wpAnyB_take (i := 13) (some 17) (Op.load 22 (Operand.tmp 16)) 22 (v := ?_) ⟨_, rfl, rfl, rfl, rfl, rfl⟩ (by kernel_rfl) (by kernel_rfl) (by kernel_rfl) [32] (by kernel_rfl) (fun _ _ _ h => h) hS (fun w' hSw => ?_) ?_
  rotate_left
  · obtain ⟨s0, s1, s2, s3, s4⟩ := hSw
    unfold bareOp
    go_simp
    try with_reducible rfl
  simp only [Act.put, List.setIfInBounds_toArray, List.set_cons_zero, List.set_cons_succ]
  refine wpAnyB_takeP (i := 15) (some 19) (Op.move (Operand.tmp 0)) 67 (v := ?_) ⟨_, rfl, rfl, rfl, rfl, rfl⟩ (by kernel_rfl) (by kernel_rfl) (by kernel_rfl) (by kernel_rfl) (fun _ _ _ h => h) (fun _ => hS) (fun w' => ?_) ?_
  rotate_left
  · unfold bareOp
    go_simp
    try with_reducible rfl
  simp only [Act.put, List.setIfInBounds_toArray, List.set_cons_zero, List.set_cons_succ]
  refine wpAnyB_takeP (i := 16) (some 20) (Op.nilCheck (Operand.tmp 19)) 0 (v := ?_) ⟨_, rfl, rfl, rfl, rfl, rfl⟩ (by kernel_rfl) (by kernel_rfl) (by kernel_rfl) (by kernel_rfl) (fun _ _ _ h => h) (fun _ => hS) (fun w' => ?_) ?_
  rotate_left
  · unfold bareOp
    go_simp
    try with_reducible rfl
  simp only [Act.put, List.setIfInBounds_toArray, List.set_cons_zero, List.set_cons_succ]
  refine wpAnyB_takeP (i := 17) (some 21) (Op.fieldAddr 58 (Operand.tmp 20) 1) 0 (v := ?_) ⟨_, rfl, rfl, rfl, rfl, rfl⟩ (by kernel_rfl) (by kernel_rfl) (by kernel_rfl) (by kernel_rfl) (fun _ _ _ h => h) (fun _ => hS) (fun w' => ?_) ?_
  rotate_left
  · unfold bareOp
    go_simp
    try with_reducible rfl
  simp only [Act.put, List.setIfInBounds_toArray, List.set_cons_zero, List.set_cons_succ]
  refine wpAnyB_take (i := 18) (some 22) (Op.load 56 (Operand.tmp 21)) 56 (v := ?_) ⟨_, rfl, rfl, rfl, rfl, rfl⟩ (by kernel_rfl) (by kernel_rfl) (by kernel_rfl) [32] (by kernel_rfl) (fun _ _ _ h => h) hS (fun w' hSw => ?_) ?_
  rotate_left
  · obtain ⟨s0, s1, s2, s3, s4⟩ := hSw
    unfold bareOp
    go_simp
    try with_reducible rfl
  simp only [Act.put, List.setIfInBounds_toArray, List.set_cons_zero, List.set_cons_succ]
  refine wpAnyB_takeP (i := 19) (some 23) (Op.move (Operand.tmp 0)) 67 (v := ?_) ⟨_, rfl, rfl, rfl, rfl, rfl⟩ (by kernel_rfl) (by kernel_rfl) (by kernel_rfl) (by kernel_rfl) (fun _ _ _ h => h) (fun _ => hS) (fun w' => ?_) ?_
  rotate_left
  · unfold bareOp
    go_simp
    try with_reducible rfl
  simp only [Act.put, List.setIfInBounds_toArray, List.set_cons_zero, List.set_cons_succ]
  refine wpAnyB_takeP (i := 20) (some 24) (Op.nilCheck (Operand.tmp 23)) 0 (v := ?_) ⟨_, rfl, rfl, rfl, rfl, rfl⟩ (by kernel_rfl) (by kernel_rfl) (by kernel_rfl) (by kernel_rfl) (fun _ _ _ h => h) (fun _ => hS) (fun w' => ?_) ?_
  rotate_left
  · unfold bareOp
    go_simp
    try with_reducible rfl
  simp only [Act.put, List.setIfInBounds_toArray, List.set_cons_zero, List.set_cons_succ]
  refine wpAnyB_takeP (i := 21) (some 25) (Op.fieldAddr 58 (Operand.tmp 24) 0) 0 (v := ?_) ⟨_, rfl, rfl, rfl, rfl, rfl⟩ (by kernel_rfl) (by kernel_rfl) (by kernel_rfl) (by kernel_rfl) (fun _ _ _ h => h) (fun _ => hS) (fun w' => ?_) ?_
  rotate_left
  · unfold bareOp
    go_simp
    try with_reducible rfl
  simp only [Act.put, List.setIfInBounds_toArray, List.set_cons_zero, List.set_cons_succ]
  refine wpAnyB_takeP (i := 22) (some 26) (Op.fieldAddr 55 (Operand.tmp 25) 0) 0 (v := ?_) ⟨_, rfl, rfl, rfl, rfl, rfl⟩ (by kernel_rfl) (by kernel_rfl) (by kernel_rfl) (by kernel_rfl) (fun _ _ _ h => h) (fun _ => hS) (fun w' => ?_) ?_
  rotate_left
  · unfold bareOp
    go_simp
    try with_reducible rfl
  simp only [Act.put, List.setIfInBounds_toArray, List.set_cons_zero, List.set_cons_succ]
  refine wpAnyB_takeP (i := 23) (some 27) (Op.fieldAddr 45 (Operand.tmp 26) 1) 0 (v := ?_) ⟨_, rfl, rfl, rfl, rfl, rfl⟩ (by kernel_rfl) (by kernel_rfl) (by kernel_rfl) (by kernel_rfl) (fun _ _ _ h => h) (fun _ => hS) (fun w' => ?_) ?_
  rotate_left
  · unfold bareOp
    go_simp
    try with_reducible rfl
  simp only [Act.put, List.setIfInBounds_toArray, List.set_cons_zero, List.set_cons_succ]
  refine wpAnyB_take (i := 24) (some 28) (Op.load 22 (Operand.tmp 27)) 22 (v := ?_) ⟨_, rfl, rfl, rfl, rfl, rfl⟩ (by kernel_rfl) (by kernel_rfl) (by kernel_rfl) [32] (by kernel_rfl) (fun _ _ _ h => h) hS (fun w' hSw => ?_) ?_
  rotate_left
  · obtain ⟨s0, s1, s2, s3, s4⟩ := hSw
    unfold bareOp
    go_simp
    try with_reducible rfl
  simp only [Act.put, List.setIfInBounds_toArray, List.set_cons_zero, List.set_cons_succ]
  refine wpAnyB_takeP (i := 25) (some 29) (Op.fieldAddr 45 (Operand.tmp 3) 1) 0 (v := ?_) ⟨_, rfl, rfl, rfl, rfl, rfl⟩ (by kernel_rfl) (by kernel_rfl) (by kernel_rfl) (by kernel_rfl) (fun _ _ _ h => h) (fun _ => hS) (fun w' => ?_) ?_
  rotate_left
  · unfold bareOp
    go_simp
    try with_reducible rfl
  simp only [Act.put, List.setIfInBounds_toArray, List.set_cons_zero, List.set_cons_succ]
  refine wpAnyB_take (i := 26) (some 30) (Op.load 22 (Operand.tmp 29)) 22 (v := ?_) ⟨_, rfl, rfl, rfl, rfl, rfl⟩ (by kernel_rfl) (by kernel_rfl) (by kernel_rfl) [27, 32] (by kernel_rfl) (fun _ _ _ h => h) hS (fun w' hSw => ?_) ?_
  rotate_left
  · obtain ⟨s0, s1, s2, s3, s4⟩ := hSw
    unfold bareOp
    go_simp
    try with_reducible rfl
  simp only [Act.put, List.setIfInBounds_toArray, List.set_cons_zero, List.set_cons_succ]
  refine wpAnyB_only (i := 14) (some 18) (Op.call { callee := Callee.value (Operand.tmp 9), args := #[Operand.tmp 15, Operand.tmp 17], argTypes := #[22, 22] }) 22 ⟨_, rfl, rfl, rfl, rfl, rfl⟩ (by kernel_rfl) (fun K hK => ?_)
  unfold bareOp
  go_wp2_with (go_at_call 25; refine (smul_any _ HE0.out.box HH.out a0 aP c0 cP HA.out).mono ?_; rintro e w1 ⟨rfl, hb1⟩)
  have hS1 : SAdd w1 E B w.heap.size a b c d := hS.keep (Nat.lt_of_lt_of_le hlt HW.out.drew.size) (by simp) hb1
  have HE1 := Lib.hid (HE0.out.keep hb1)
  have HB1 := Lib.hid (HW.out.drew.trans (hb1.mono HW.out.drew.size))
  have hlt1 := HE1.out.lt
  have hz1 := Nat.lt_of_lt_of_le (show w.heap.size < (w.alloc (.cells #[.int .u64 c, .int .u64 d] 45)).drew.heap.size by simp) hb1.size
  refine hK.out _ _ (fun _ => hS1) ?_
  clear hK K hb1
  try simp only [Act.put, List.setIfInBounds_toArray, List.set_cons_zero, List.set_cons_succ]
  refine wpAnyB_only (i := 27) (some 31) (Op.call { callee := Callee.value (Operand.tmp 22), args := #[Operand.tmp 28, Operand.tmp 30], argTypes := #[22, 22] }) 22 ⟨_, rfl, rfl, rfl, rfl, rfl⟩ (by kernel_rfl) (fun K hK => ?_)
  unfold bareOp
  go_wp2_with (go_at_call 25; refine (smul_any _ HE1.out.box HH.out b0 bP d0 dP HB.out).mono ?_; rintro e w2 ⟨rfl, hb2⟩)
  have hS2 : SAdd w2 E B w.heap.size a b c d := hS1.keep hlt1 hz1 hb2
  have HE2 := Lib.hid (HE1.out.keep hb2)
  have HB2 := Lib.hid (HB1.out.trans (hb2.mono HB1.out.size))
  refine hK.out _ _ (fun _ => hS2) ?_
  clear hK K hb2 hS1 hS hlt1 hz1
  try simp only [Act.put, List.setIfInBounds_toArray, List.set_cons_zero, List.set_cons_succ]
  refine wpAnyB_takeP (i := 28) (some 32) (Op.nilCheck (Operand.tmp 4)) 0 (v := ?_) ⟨_, rfl, rfl, rfl, rfl, rfl⟩ (by kernel_rfl) (by kernel_rfl) (by kernel_rfl) (by kernel_rfl) (fun _ _ _ h => h) (fun _ => hS2) (fun w' => ?_) ?_
  rotate_left
  · unfold bareOp
    go_simp
    try with_reducible rfl
  simp only [Act.put, List.setIfInBounds_toArray, List.set_cons_zero, List.set_cons_succ]
  refine wpAnyB_takeP (i := 29) (some 33) (Op.fieldAddr 58 (Operand.tmp 32) 0) 0 (v := ?_) ⟨_, rfl, rfl, rfl, rfl, rfl⟩ (by kernel_rfl) (by kernel_rfl) (by kernel_rfl) (by kernel_rfl) (fun _ _ _ h => h) (fun _ => hS2) (fun w' => ?_) ?_
  rotate_left
  · unfold bareOp
    go_simp
    try with_reducible rfl
  simp only [Act.put, List.setIfInBounds_toArray, List.set_cons_zero, List.set_cons_succ]
  refine wpAnyB_takeP (i := 30) (some 34) (Op.fieldAddr 55 (Operand.tmp 33) 0) 0 (v := ?_) ⟨_, rfl, rfl, rfl, rfl, rfl⟩ (by kernel_rfl) (by kernel_rfl) (by kernel_rfl) (by kernel_rfl) (fun _ _ _ h => h) (fun _ => hS2) (fun w' => ?_) ?_
  rotate_left
  · unfold bareOp
    go_simp
    try with_reducible rfl
  simp only [Act.put, List.setIfInBounds_toArray, List.set_cons_zero, List.set_cons_succ]
  refine wpAnyB_takeP (i := 31) (some 35) (Op.fieldAddr 45 (Operand.tmp 34) 0) 0 (v := ?_) ⟨_, rfl, rfl, rfl, rfl, rfl⟩ (by kernel_rfl) (by kernel_rfl) (by kernel_rfl) (by kernel_rfl) (fun _ _ _ h => h) (fun _ => hS2) (fun w' => ?_) ?_
  rotate_left
  · unfold bareOp
    go_simp
    try with_reducible rfl
  simp only [Act.put, List.setIfInBounds_toArray, List.set_cons_zero, List.set_cons_succ]
  have e0 := HE2.out.c0
  have e1 := HE2.out.c1
  have f0 := HE2.out.f0
  have f1 := HE2.out.f1
  refine wpAnyB_only (i := 32) none (Op.store 22 (Operand.tmp 35) (Operand.tmp 18)) 0 ⟨_, rfl, rfl, rfl, rfl, rfl⟩ (by kernel_rfl) (fun K hK => ?_)
  unfold bareOp
  go_wp2_with fail
  refine hK.out _ _ (fun h => absurd (h.symm.trans (by kernel_rfl : _ = true)) (by decide)) ?_
  clear hK K
  try simp only [Act.put, List.setIfInBounds_toArray, List.set_cons_zero, List.set_cons_succ]
  refine wpAnyB_takeP (i := 33) (some 36) (Op.nilCheck (Operand.tmp 5)) 0 (v := ?_) ⟨_, rfl, rfl, rfl, rfl, rfl⟩ (by kernel_rfl) (by kernel_rfl) (by kernel_rfl) (by kernel_rfl) (fun _ _ _ h => h) (fun h => absurd (h.symm.trans (by kernel_rfl : _ = true)) (by decide)) (fun w' => ?_) ?_
  rotate_left
  · unfold bareOp
    go_simp
    try with_reducible rfl
  simp only [Act.put, List.setIfInBounds_toArray, List.set_cons_zero, List.set_cons_succ]
  refine wpAnyB_takeP (i := 34) (some 37) (Op.fieldAddr 58 (Operand.tmp 36) 0) 0 (v := ?_) ⟨_, rfl, rfl, rfl, rfl, rfl⟩ (by kernel_rfl) (by kernel_rfl) (by kernel_rfl) (by kernel_rfl) (fun _ _ _ h => h) (fun h => absurd (h.symm.trans (by kernel_rfl : _ = true)) (by decide)) (fun w' => ?_) ?_
  rotate_left
  · unfold bareOp
    go_simp
    try with_reducible rfl
  simp only [Act.put, List.setIfInBounds_toArray, List.set_cons_zero, List.set_cons_succ]
  refine wpAnyB_takeP (i := 35) (some 38) (Op.fieldAddr 55 (Operand.tmp 37) 0) 0 (v := ?_) ⟨_, rfl, rfl, rfl, rfl, rfl⟩ (by kernel_rfl) (by kernel_rfl) (by kernel_rfl) (by kernel_rfl) (fun _ _ _ h => h) (fun h => absurd (h.symm.trans (by kernel_rfl : _ = true)) (by decide)) (fun w' => ?_) ?_
  rotate_left
  · unfold bareOp
    go_simp
    try with_reducible rfl
  simp only [Act.put, List.setIfInBounds_toArray, List.set_cons_zero, List.set_cons_succ]
  refine wpAnyB_takeP (i := 36) (some 39) (Op.fieldAddr 45 (Operand.tmp 38) 1) 0 (v := ?_) ⟨_, rfl, rfl, rfl, rfl, rfl⟩ (by kernel_rfl) (by kernel_rfl) (by kernel_rfl) (by kernel_rfl) (fun _ _ _ h => h) (fun h => absurd (h.symm.trans (by kernel_rfl : _ = true)) (by decide)) (fun w' => ?_) ?_
  rotate_left
  · unfold bareOp
    go_simp
    try with_reducible rfl
  simp only [Act.put, List.setIfInBounds_toArray, List.set_cons_zero, List.set_cons_succ]
  refine wpAnyB_only (i := 37) none (Op.store 22 (Operand.tmp 39) (Operand.tmp 31)) 0 ⟨_, rfl, rfl, rfl, rfl, rfl⟩ (by kernel_rfl) (fun K hK => ?_)
  unfold bareOp
  go_wp2_with fail
  refine hK.out _ _ (fun h => absurd (h.symm.trans (by kernel_rfl : _ = true)) (by decide)) ?_
  clear hK K
  try simp only [Act.put, List.setIfInBounds_toArray, List.set_cons_zero, List.set_cons_succ]
  refine wpAnyB_done (by kernel_rfl) ?_ _
  go_wp2_with fail
  go_end0
  exact ⟨rfl, HE2.out.stored, Added.of HB2.out _ _⟩
end Go.Proofs.Ytembepajnigfiaa
