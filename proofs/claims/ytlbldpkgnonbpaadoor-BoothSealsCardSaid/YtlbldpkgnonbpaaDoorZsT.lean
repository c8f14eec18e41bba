/- Seal: what is known of the memory in its loop; single operations. -/
import Derived.Test.YtlbldpkgnonbpaaDoorZsQ
import Derived.Test.YtlbldpkgnonbpaaDoorZsS
namespace Go.Proofs.YtlbldpkgnonbpaaDoor
open Go Go.RowKit Num Sha
set_option linter.unusedSimpArgs false
set_option linter.unusedVariables false

def vcell (av bv : Value) (one : Bool) : List Value := [av, bv, .bool one, .int .u64 0, .int .u64 0, .int .u64 0, .int .u64 0, .int .u64 0, .int .u64 0, .int .u64 0, .int .u64 0]
structure SlB (wd wk wr : World) (one : Bool) (mv av bv rv : Value) : Prop where
  kd : Below wd.heap.size wd wr
  km : ∀ j, wd.heap.size < j → j < wk.heap.size → wr.heap[j]? = wk.heap[j]?
  zk : wd.heap.size < wk.heap.size
  zr : wk.heap.size < wr.heap.size
  v : Cl wr wd.heap.size (vcell av bv one)
  r : Cl wr wk.heap.size [mv, rv]
theorem SlB.under {wd wk wr w' : World} {one : Bool} {mv av bv rv : Value} (h : SlB wd wk wr one mv av bv rv) (hb : Below (wk.heap.size + 1) wr w') : SlB wd wk w' one mv av bv rv :=
  ⟨h.kd.trans (hb.mono (by have := h.zk; omega)), fun j h1 h2 => (hb.block j (by omega)).trans (h.km j h1 h2), h.zk, Nat.lt_of_lt_of_le h.zr hb.size, h.v.keepN hb (by have := h.zk; omega), h.r.keepN hb (by omega)⟩
theorem SlB.keep {wd wk wr w' : World} {one : Bool} {mv av bv rv : Value} (h : SlB wd wk wr one mv av bv rv) (hb : Below wr.heap.size wr w') : SlB wd wk w' one mv av bv rv := h.under (hb.mono h.zr)
theorem SlB.drew {wd wk wr : World} {one : Bool} {mv av bv rv : Value} (h : SlB wd wk wr one mv av bv rv) : SlB wd wk wr.drew one mv av bv rv := h.keep (Below.refl _ _).drew
theorem SlB.alloc {wd wk wr : World} {one : Bool} {mv av bv rv : Value} (h : SlB wd wk wr one mv av bv rv) (o : Obj) : SlB wd wk (wr.alloc o) one mv av bv rv := h.keep ((Below.refl _ _).alloc (Nat.le_refl _) o)
theorem heap_setCell_ne (w : World) (p : Addr) (u : Value) (j : Nat) (h : j ≠ p.block) : (w.setCell p u).heap[j]? = w.heap[j]? :=
  by
  unfold World.setCell
  simp only [Array.getElem?_modify]
  rw [if_neg (fun e => h e.symm)]
theorem SlB.set0 {wd wk wr : World} {one : Bool} {mv av bv rv : Value} (h : SlB wd wk wr one mv av bv rv) (u : Value) : SlB wd wk (wr.setCell ⟨wd.heap.size, 0, none⟩ u) one mv u bv rv :=
  ⟨h.kd.setCell (Nat.le_refl _) _, fun j h1 h2 => (heap_setCell_ne _ _ _ _ (by show j ≠ wd.heap.size; omega)).trans (h.km j h1 h2), h.zk, by simpa using h.zr, h.v.set 0 u (by simp [vcell]) rfl, h.r.far _ _ (by have := h.zk; show wd.heap.size ≠ _; omega)⟩
theorem SlB.set1 {wd wk wr : World} {one : Bool} {mv av bv rv : Value} (h : SlB wd wk wr one mv av bv rv) (u : Value) : SlB wd wk (wr.setCell ⟨wd.heap.size, 1, none⟩ u) one mv av u rv :=
  ⟨h.kd.setCell (Nat.le_refl _) _, fun j h1 h2 => (heap_setCell_ne _ _ _ _ (by show j ≠ wd.heap.size; omega)).trans (h.km j h1 h2), h.zk, by simpa using h.zr, h.v.set 1 u (by simp [vcell]) rfl, h.r.far _ _ (by have := h.zk; show wd.heap.size ≠ _; omega)⟩
theorem SlB.setR {wd wk wr : World} {one : Bool} {mv av bv rv : Value} (h : SlB wd wk wr one mv av bv rv) (u : Value) : SlB wd wk (wr.setCell ⟨wk.heap.size, 1, none⟩ u) one mv av bv u :=
  ⟨h.kd.setCell (by have := h.zk; show wd.heap.size ≤ wk.heap.size; omega) _, fun j h1 h2 => (heap_setCell_ne _ _ _ _ (by show j ≠ wk.heap.size; omega)).trans (h.km j h1 h2), h.zk, by simpa using h.zr, h.v.far _ _ (by have := h.zk; show wk.heap.size ≠ _; omega), h.r.set 1 u (by simp) rfl⟩
structure SlR (wk wr : World) (av bv rv : Value) (i : Nat) (bs : List (Int × Int)) (ps : List Bt) (ns : List Int) : Prop where
  ha : wr.ownsRow (wk.heap.size + 1) 78 2 av i (flatS bs)
  hb : wr.ownsRow (wk.heap.size + 1) 27 8 bv i (flatB ps)
  hr : wr.ownsRow (wk.heap.size + 1) 24 1 rv i (ns.map (Value.int .u64))
theorem SlR.keep {wk wr w' : World} {av bv rv : Value} {i : Nat} {bs : List (Int × Int)} {ps : List Bt} {ns : List Int} (h : SlR wk wr av bv rv i bs ps ns) (hb : Below wr.heap.size wr w') : SlR wk w' av bv rv i bs ps ns :=
  ⟨owns_below2 h.ha hb, owns_below2 h.hb hb, owns_below2 h.hr hb⟩
theorem SlR.nil (wk wr : World) : SlR wk wr (.slice none 0 0) (.slice none 0 0) (.slice none 0 0) 0 [] [] [] := ⟨World.ownsRow_nil _ _ _ _, World.ownsRow_nil _ _ _ _, World.ownsRow_nil _ _ _ _⟩

def Apt (av bv rv : Value) (B : Nat) : Prop := (∀ k, av.ownBlock = some k → k < B) ∧ (∀ k, bv.ownBlock = some k → k < B) ∧ (∀ k, rv.ownBlock = some k → k < B)
theorem SlR.apt {wk wr : World} {av bv rv : Value} {i : Nat} {bs : List (Int × Int)} {ps : List Bt} {ns : List Int} (h : SlR wk wr av bv rv i bs ps ns) : Apt av bv rv wr.heap.size :=
  ⟨fun k hk => (World.ownsRow.lt h.ha k hk).2, fun k hk => (World.ownsRow.lt h.hb k hk).2, fun k hk => (World.ownsRow.lt h.hr k hk).2⟩
theorem apt_ne {v : Value} {B : Nat} (h : ∀ k, v.ownBlock = some k → k < B) : v.ownBlock = none ∨ v.ownBlock ≠ some B := by
  cases hv : v.ownBlock with
  | none => exact .inl rfl
  | some k => exact .inr (fun e => by injection e with e; have := h k hv; omega)
theorem SlR.gro {wk wr w' : World} {av bv rv : Value} {i B : Nat} {bs : List (Int × Int)} {ps : List Bt} {ns : List Int} (h : SlR wk wr av bv rv i bs ps ns) (hg : Gro B wr w') (ha : Apt av bv rv B) : SlR wk w' av bv rv i bs ps ns :=
  ⟨World.ownsRow.kept h.ha hg (apt_ne ha.1), World.ownsRow.kept h.hb hg (apt_ne ha.2.1), World.ownsRow.kept h.hr hg (apt_ne ha.2.2)⟩
theorem SlB.gro {wd wk wr w' : World} {one : Bool} {mv av bv rv : Value} {B : Nat} (h : SlB wd wk wr one mv av bv rv) (hg : Gro B wr w') (hB : wk.heap.size < B) : SlB wd wk w' one mv av bv rv := h.under (hg.blw hB h.zr)
def Chn (Z : Nat) (e : TypeId) (sz : Nat) (w : World) (v0 : Value) (i : Nat) (xs us : List Value) (y3 y4 : Option Value) : Prop :=
  (y4 = none → w.ownsRow Z e sz v0 i xs) ∧ (∀ v, y3 = some v → ∃ B, v = .slice (some ⟨B, 0, none⟩) 1 1 ∧ (y4 = none → w.ownsRow Z e sz v 1 us)) ∧ (∀ v, y4 = some v → w.ownsRow Z e sz v (i + 1) (xs ++ us))
theorem Chn.kept {Z : Nat} {e : TypeId} {sz : Nat} {w w' : World} {v0 : Value} {i : Nat} {xs us : List Value} {y3 y4 : Option Value} (h : Chn Z e sz w v0 i xs us y3 y4) {Z' sz' k' : Nat} {e' : TypeId} {v' : Value} {xs' : List Value}
    (h' : w.ownsRow Z' e' sz' v' k' xs') (hne : e' ≠ e) (hg : w.grownBy w' v'.ownBlock) : Chn Z e sz w' v0 i xs us y3 y4 :=
  ⟨fun h4 => World.ownsRow.kept (h.1 h4) hg (own_diffN h' (h.1 h4) hne), fun v hv => by
    obtain ⟨B, rfl, hB⟩ := h.2.1 v hv
    exact ⟨B, rfl, fun h4 => World.ownsRow.kept (hB h4) hg (own_diffN h' (hB h4) hne)⟩, fun v hv => World.ownsRow.kept (h.2.2 v hv) hg (own_diffN h' (h.2.2 v hv) hne)⟩
theorem Chn.keep {Z : Nat} {e : TypeId} {sz : Nat} {w w' : World} {v0 : Value} {i : Nat} {xs us : List Value} {y3 y4 : Option Value} (h : Chn Z e sz w v0 i xs us y3 y4) (hb : Below w.heap.size w w') : Chn Z e sz w' v0 i xs us y3 y4 :=
  ⟨fun h4 => owns_below2 (h.1 h4) hb, fun v hv => by
    obtain ⟨B, rfl, hB⟩ := h.2.1 v hv
    exact ⟨B, rfl, fun h4 => owns_below2 (hB h4) hb⟩, fun v hv => owns_below2 (h.2.2 v hv) hb⟩
theorem Chn.lit {Z : Nat} {e : TypeId} {sz : Nat} {w : World} {v0 : Value} {i : Nat} {xs us : List Value} {y3 y4 : Option Value} (h : Chn Z e sz w v0 i xs us y3 y4) (hz : Z ≤ w.heap.size) (hs : us.length = sz) :
    Chn Z e sz (w.alloc (.cells us.toArray e)) v0 i xs us (some (.slice (some ⟨w.heap.size, 0, none⟩) 1 1)) y4 :=
  ⟨fun h4 => owns_alloc2 (h.1 h4) _, fun v hv => by
    cases hv
    refine ⟨_, rfl, fun _ => ?_⟩
    have := World.ownsRow_lit (base := Z) (e := e) (size := sz) w us.toArray 1 hz (by unfold maxLen; omega) (by simp [hs])
    simpa using this, fun v hv => owns_alloc2 (h.2.2 v hv) _⟩
theorem Chn.app {Z : Nat} {e : TypeId} {sz : Nat} {w w' : World} {v0 v' : Value} {i : Nat} {xs us : List Value} {y3 : Option Value} (h : Chn Z e sz w v0 i xs us y3 none) (hown : w'.ownsRow Z e sz v' (i + 1) (xs ++ us)) :
    Chn Z e sz w' v0 i xs us y3 (some v') :=
  ⟨fun h4 => (by cases h4), fun v hv => by
    obtain ⟨B, rfl, -⟩ := h.2.1 v hv
    exact ⟨B, rfl, fun h4 => by cases h4⟩, fun v hv => by cases hv; exact hown⟩
theorem Chn.start {Z : Nat} {e : TypeId} {sz : Nat} {w : World} {v0 : Value} {i : Nat} {xs us : List Value} (h : w.ownsRow Z e sz v0 i xs) : Chn Z e sz w v0 i xs us none none :=
  ⟨fun _ => h, fun v hv => (by cases hv), fun v hv => (by cases hv)⟩
theorem own_cells0 {w : World} {Z : Nat} {e : TypeId} {sz n B cap : Nat} {us : List Value} (h : w.ownsRow Z e sz (.slice (some ⟨B, 0, none⟩) n cap) n us) : ∀ j u, us[j]? = some u → w.cell? ((⟨B, 0, none⟩ : Addr).add j) = some u :=
  World.ownsRow.cells (g := B) h rfl
theorem ShI.blocks {q : IntKind} {w w' : World} {a : Option Addr} {n : Nat} {xs : List Int} (h : ShI q w a n xs) (hb : ∀ s o, a = some ⟨s, o, none⟩ → w'.heap[s]? = w.heap[s]? ∧ s < w'.heap.size) : ShI q w' a n xs := by
  rcases h with h | ⟨s, o, rfl, h1, h2, h3⟩
  · exact .inl h
  · exact .inr ⟨s, o, rfl, h1, (hb s o rfl).2, fun i hi => (World.cell?_of_block (w := w) (a := ⟨s, o + i, none⟩) (hb s o rfl).1).trans (h3 i hi)⟩
theorem wp_storeCl {P : Program} {w : World} {o : Oper} {a : Act} {K : Act → World → Prop} {Q : Exit → Act → World → Prop} (t : TypeId) (p v : Operand) (b k : Nat) (l vs m : List Value) (ho : o.op = .store t p v)
    (hp : a.eval p = .pointer (some ⟨b, k, none⟩)) (hv : a.eval v = .agg vs.toArray) (hi : (P.info? t).map (·.size) = some vs.length) (h1 : ∀ u, u ∈ vs → u.oneCell' = true) (hC : Cl w b l) (hk : k + vs.length ≤ l.length) (hm : l.take k ++ vs ++ l.drop (k + vs.length) = m)
    (h : ∀ w', Cl w' b m → Gro b w w' → w'.heap.size = w.heap.size → K (a.put o.dst undef) w') : o.wp P a w K Q := by
  refine wp_store_mid t p v ho b k vs.toArray hp hv (by simpa using hC.there k vs.length hk) (by simpa using hi) (all_oneCell_toArray h1) ?_
  exact h _ (hC.puts k vs hk hm) (Gro.puts k vs b (.inl rfl) w k (Gro.refl _ _)) (size_setCells b vs k w)

theorem Cl.grown {w w' : World} {B : Nat} {l : List Value} {v : Value} (h : Cl w B l) (hg : w.grownBy w' v.ownBlock) (ha : ∀ k, v.ownBlock = some k → k < B) : Cl w' B l := by
  have hb := hg.block B h.lt (fun e => by have := ha B e.symm; omega)
  exact ⟨fun i u hu => (World.cell?_of_block (w := w) (a := ⟨B, i, none⟩) hb).trans (h.c i u hu), fun i => (World.frozen?_of_block (w := w) (a := ⟨B, i, none⟩) hb).trans (h.f i), Nat.lt_of_lt_of_le h.lt hg.size⟩

/-! ### Single operations -/
section
variable (ρ : Operand → Value) (w : World)
theorem run_al_sealed (dst : Option Tmp) (ty : TypeId) : (execOp ρ (bareOp dst (.alloc 78) ty)).run Tryd.prog w = .ok (.value (.pointer (some ⟨w.heap.size, 0, none⟩))) (w.alloc (.cells #[.int .u64 0, .int .u64 0] 78)) := by
  unfold bareOp
  go_simp
theorem run_al_bit (dst : Option Tmp) (ty : TypeId) : (execOp ρ (bareOp dst (.alloc 27) ty)).run Tryd.prog w = .ok (.value (.pointer (some ⟨w.heap.size, 0, none⟩))) (w.alloc (.cells #[.int .u64 0, .int .u64 0, .int .u64 0, .int .u64 0, .int .u64 0, .int .u64 0, .int .u64 0, .int .u64 0] 27)) := by
  unfold bareOp
  go_simp
theorem run_move (dst : Option Tmp) (ty : TypeId) (x : Operand) {v : Value} (h : ρ x = v) : (execOp ρ (bareOp dst (.move x) ty)).run Tryd.prog w = .ok (.value v) w := by
  subst h; rfl
theorem run_extract (dst : Option Tmp) (ty : TypeId) (x : Operand) (i : Nat) {vs : Array Value} {v : Value} (h : ρ x = .tuple vs) (hv : vs[i]? = some v) : (execOp ρ (bareOp dst (.extract x i) ty)).run Tryd.prog w = .ok (.value v) w := by
  unfold bareOp
  simp [execOp, Instr.extract, h, hv, Sem.run_bind, Sem.run]
theorem run_fa0 (dst : Option Tmp) (ty : TypeId) (x : Operand) {b : Nat} (h : ρ x = .pointer (some ⟨b, 0, none⟩)) : (execOp ρ (bareOp dst (.fieldAddr 29 x 0) ty)).run Tryd.prog w = .ok (.value (.pointer (some ⟨b, 0, none⟩))) w := by
  unfold bareOp
  go_simp
theorem run_lit_sealed (dst : Option Tmp) (ty : TypeId) (x : Operand) (a b : Int) (h : ρ x = .agg #[.int .u64 a, .int .u64 b]) : (execOp ρ (bareOp dst (.buildSlice 22 1 #[(0, x)]) ty)).run Tryd.prog w = .ok (.value (.slice (some ⟨w.heap.size, 0, none⟩) 1 1)) (w.alloc (.cells #[.int .u64 a, .int .u64 b] 78)) := by
  unfold bareOp
  go_simp
theorem run_lit_bit (dst : Option Tmp) (ty : TypeId) (x : Operand) (z : Bt) (h : ρ x = .agg z.vs.toArray) : (execOp ρ (bareOp dst (.buildSlice 23 1 #[(0, x)]) ty)).run Tryd.prog w = .ok (.value (.slice (some ⟨w.heap.size, 0, none⟩) 1 1)) (w.alloc (.cells z.vs.toArray 27)) := by
  unfold Bt.vs at h ⊢
  unfold bareOp
  go_simp
theorem run_lit_u64 (dst : Option Tmp) (ty : TypeId) (x : Operand) (a : Int) (h : ρ x = .int .u64 a) : (execOp ρ (bareOp dst (.buildSlice 55 1 #[(0, x)]) ty)).run Tryd.prog w = .ok (.value (.slice (some ⟨w.heap.size, 0, none⟩) 1 1)) (w.alloc (.cells #[.int .u64 a] 24)) := by
  unfold bareOp
  go_simp
theorem run_lit_u8 (dst : Option Tmp) (ty : TypeId) (x : Operand) (a : Int) (h : ρ x = .int .u8 a) : (execOp ρ (bareOp dst (.buildSlice 30 1 #[(0, x)]) ty)).run Tryd.prog w = .ok (.value (.slice (some ⟨w.heap.size, 0, none⟩) 1 1)) (w.alloc (.cells #[.int .u8 a] 5)) := by
  unfold bareOp
  go_simp
theorem run_call (dst : Option Tmp) (ty : TypeId) (f : FuncId) {fn : Func} (hf : Tryd.prog.funcs[f]? = some fn) {xs : Array Operand} {ts : Array TypeId} {vs : Array Value} (hv : xs.map ρ = vs) (hρ : ρ (.func f) = .func (.func f) #[] #[]) (hb : fn.body.isSome = true) (hn : (fn.name == "runtime.NumGoroutine") = false) :
    (execOp ρ (bareOp dst (.call { callee := .value (.func f), args := xs, argTypes := ts }) ty)).run Tryd.prog w = .ok (.enter f vs) w := by
  have hn' : ¬ fn.name = "runtime.NumGoroutine" := by simpa using hn
  have hb' : ¬ fn.body = none := by intro h; rw [h] at hb; cases hb
  subst hv
  unfold bareOp
  simp [execOp, resolve, Deferred.ofValue, invoke, callFunc, hρ, hf, hb', hn', Sem.run_bind, program, Sem.run]
end
theorem wp_push_u64 {w : World} {o : Oper} {a : Act} {K : Act → World → Prop} {Q : Exit → Act → World → Prop} (s x : Operand) (ho : o.op = .call { callee := .builtin .append, args := #[s, x], argTypes := #[55, 55] })
    (base n b : Nat) (v : Value) (xs : List Value) (z : Int) (hs : a.eval s = v) (hx : a.eval x = .slice (some ⟨b, 0, none⟩) 1 1) (hown : w.ownsRow base 24 1 v n xs) (hc : ∀ j u, ([.int .u64 z] : List Value)[j]? = some u → w.cell? ((⟨b, 0, none⟩ : Addr).add j) = some u) (hn : n ≤ 1000000) (hb : base ≤ w.heap.size)
    (h : ∀ v' w', w'.ownsRow base 24 1 v' (n + 1) (xs ++ [.int .u64 z]) → w.grownBy w' v.ownBlock → K (a.put o.dst v') w') : o.wp Tryd.prog a w K Q := by
  obtain ⟨j0, ji, jz0, jz1, jz2⟩ := info_parts (P := Tryd.prog) (e := 24) (z := .int .u64 0) (size := 1) (bytes := 8) (by kernel_rfl)
  exact wp_append_own w s x 55 ho base 24 j0 _ 1 8 Tryd.underlying55 ji jz0 jz1 jz2 rfl (by decide) v n xs hs hown ⟨b, 0, none⟩ 1 1 [.int .u64 z] hx rfl hc (fun u hu => by simp at hu; subst hu; rfl) (by unfold maxLen; omega) (by omega) hb (fun v' w' h1 h2 _ => h v' w' h1 h2)
end Go.Proofs.YtlbldpkgnonbpaaDoor
namespace Go.Proofs.YtlbldpkgnonbpaaDoor
open Go Go.RowKit Num Sha
set_option linter.unusedSimpArgs false
set_option linter.unusedVariables false

def sealE (P Q G y n : Int) (ms : List Int) (one : Bool) : Int := if chkB P Q G y n ≠ 0 then chkB P Q G y n else if markedS n ms = true ∧ (one = true → ms.length ≤ 1) then 0 else 2
def manyS (n : Int) (one : Bool) : Nat := 4 * n.toNat + if one then 3 else 0
def SealR (w : World) (P Q G y n : Int) (ms : List Int) (one : Bool) (seed : List Int) (e : Ending) (w' : World) : Prop := Below w.heap.size w w' ∧
  ((sealE P Q G y n ms one ≠ 0 ∧ e = .returned (.tuple #[.agg #[.slice none 0 0, .slice none 0 0, .bool false, .int .u64 0, .int .u64 0, .int .u64 0, .int .u64 0, .int .u64 0, .int .u64 0, .int .u64 0, .int .u64 0], .agg #[.slice none 0 0, .slice none 0 0], .int .i64 (sealE P Q G y n ms one)])) ∨ (sealE P Q G y n ms one = 0 ∧
    ((sampS seed Q (manyS n one) = none ∧ e = .returned (.tuple #[.agg #[.slice none 0 0, .slice none 0 0, .bool false, .int .u64 0, .int .u64 0, .int .u64 0, .int .u64 0, .int .u64 0, .int .u64 0, .int .u64 0, .int .u64 0], .agg #[.slice none 0 0, .slice none 0 0], .int .i64 6])) ∨
      ∃ d V R, sampS seed Q (manyS n one) = some d ∧ e = .returned (.tuple #[V.v, R.v, .int .i64 0]) ∧ SealV P Q G y n.toNat ms one d V R ∧ VtIn w' V ∧ RvIn w' R)))
theorem markedFrom_len {n : Int} : ∀ (l : List Int) (last : Int), last < n → markedFrom n last l = true → (l.length : Int) ≤ n - 1 - last
  | [], last, h, _ => by simp; omega
  | i :: l, last, h, hm => by
    unfold markedFrom at hm
    split at hm
    · cases hm
    · have := markedFrom_len l i (by omega) hm
      rw [List.length_cons]; omega
theorem markedS_len {n : Int} {l : List Int} (h0 : 0 ≤ n) (h : markedS n l = true) : (l.length : Int) ≤ n := by
  have := markedFrom_len l (-1) (by omega) h; omega
theorem res_seal {w : World} {fn : Func} {c d t : Tmp} {b b' : Nat} {a0 a1 a2 a3 : Option Addr} {n0 n1 c0 c1 n2 n3 c2 c3 : Nat} {o2 : Bool} {i3 i4 i5 i6 i7 i8 i9 i10 : Int} {v : Value} (h : fn.results = #[.cell c 29, .cell d 57, .tmp t])
    (hp : Cl w b [.slice a0 n0 c0, .slice a1 n1 c1, .bool o2, .int .u64 i3, .int .u64 i4, .int .u64 i5, .int .u64 i6, .int .u64 i7, .int .u64 i8, .int .u64 i9, .int .u64 i10]) (hq : Cl w b' [.slice a2 n2 c2, .slice a3 n3 c3]) (tmps : Array Value)
    (hc : tmps[c]?.getD undef = .pointer (some ⟨b, 0, none⟩)) (hd : tmps[d]?.getD undef = .pointer (some ⟨b', 0, none⟩)) (ht : tmps[t]?.getD undef = v) : (results fn tmps).run Tryd.prog w = .ok (.tuple #[.agg #[.slice a0 n0 c0, .slice a1 n1 c1, .bool o2, .int .u64 i3, .int .u64 i4, .int .u64 i5, .int .u64 i6, .int .u64 i7, .int .u64 i8, .int .u64 i9, .int .u64 i10], .agg #[.slice a2 n2 c2, .slice a3 n3 c3], v]) w := by
  obtain ⟨⟨q0, q1, q2, q3, q4, q5, q6, q7, q8, q9, q10⟩, -⟩ := hp.k11
  have r0 := hq.c 0 _ rfl
  have r1 := hq.c 1 _ rfl
  simp [results, h, hc, hd, ht, go_sem, q0, q1, q2, q3, q4, q5, q6, q7, q8, q9, q10, r0, r1]

set_option maxRecDepth 100000 in
set_option maxHeartbeats 8000000 in
theorem seal_bad {P Q G y n : Int} {a : Option Addr} {m c : Nat} {ms seed : List Int} {one : Bool} (w : World) (hT : Tabs w) (hP : 0 ≤ P) (hQ : 0 ≤ Q) (hG : 0 ≤ G) (hy : 0 ≤ y) (hS : ShI .i64 w a m ms) (hkc : a = none → c = 0) (hu : ∀ x, x ∈ ms → -9223372036854775808 ≤ x ∧ x ≤ 9223372036854775807) (hm : m ≤ 9223372036854775807) (hsl : seed.length = 32) (hby : ByteL seed) (hE : sealE P Q G y n ms one ≠ 0) :
    Calls Tryd.prog 24 #[.agg #[.int .u64 P, .int .u64 Q, .int .u64 G], .int .u64 y, .int .i64 n, .slice a m c, .bool one, .agg (valV .u8 seed)] w (SealR w P Q G y n ms one seed) := by
  have HE := Lib.hid hE
  clear hE
  have HT := Lib.hid hT
  have HS := Lib.hid hS
  have HU := Lib.hid hu
  have HLM := Lib.hid hS.len
  have HSL := Lib.hid hsl
  have HBY := Lib.hid hby
  have F_g := Lib.hid (show Cl ((((w.alloc (.cells #[.int .u64 P, .int .u64 Q, .int .u64 G] 49)).alloc (.cells (valV .u8 seed) 37)).alloc (.cells #[.slice none 0 0, .slice none 0 0, .bool false, .int .u64 0, .int .u64 0, .int .u64 0, .int .u64 0, .int .u64 0, .int .u64 0, .int .u64 0, .int .u64 0] 29)).alloc (.cells #[.slice none 0 0, .slice none 0 0] 57)) w.heap.size [.int .u64 P, .int .u64 Q, .int .u64 G] from (((Cl.at w [.int .u64 P, .int .u64 Q, .int .u64 G] _ w.heap.size rfl).alloc _).alloc _).alloc _)
  have F_s := Lib.hid (show Arr .u8 ((((w.alloc (.cells #[.int .u64 P, .int .u64 Q, .int .u64 G] 49)).alloc (.cells (valV .u8 seed) 37)).alloc (.cells #[.slice none 0 0, .slice none 0 0, .bool false, .int .u64 0, .int .u64 0, .int .u64 0, .int .u64 0, .int .u64 0, .int .u64 0, .int .u64 0, .int .u64 0] 29)).alloc (.cells #[.slice none 0 0, .slice none 0 0] 57)) (w.heap.size + 1) seed from (((Arr.new .u8 (w.alloc (.cells #[.int .u64 P, .int .u64 Q, .int .u64 G] 49)) seed 37 (w.heap.size + 1) (by simp)).keep ((Below.refl _ _).alloc (Nat.le_refl _) _)).keep ((Below.refl _ _).alloc (Nat.le_refl _) _)))
  have F_o := Lib.hid (show Cl ((((w.alloc (.cells #[.int .u64 P, .int .u64 Q, .int .u64 G] 49)).alloc (.cells (valV .u8 seed) 37)).alloc (.cells #[.slice none 0 0, .slice none 0 0, .bool false, .int .u64 0, .int .u64 0, .int .u64 0, .int .u64 0, .int .u64 0, .int .u64 0, .int .u64 0, .int .u64 0] 29)).alloc (.cells #[.slice none 0 0, .slice none 0 0] 57)) (w.heap.size + 1 + 1) [.slice none 0 0, .slice none 0 0, .bool false, .int .u64 0, .int .u64 0, .int .u64 0, .int .u64 0, .int .u64 0, .int .u64 0, .int .u64 0, .int .u64 0] from (Cl.at ((w.alloc (.cells #[.int .u64 P, .int .u64 Q, .int .u64 G] 49)).alloc (.cells (valV .u8 seed) 37)) [.slice none 0 0, .slice none 0 0, .bool false, .int .u64 0, .int .u64 0, .int .u64 0, .int .u64 0, .int .u64 0, .int .u64 0, .int .u64 0, .int .u64 0] _ (w.heap.size + 1 + 1) (by simp)).alloc _)
  have F_q := Lib.hid (show Cl ((((w.alloc (.cells #[.int .u64 P, .int .u64 Q, .int .u64 G] 49)).alloc (.cells (valV .u8 seed) 37)).alloc (.cells #[.slice none 0 0, .slice none 0 0, .bool false, .int .u64 0, .int .u64 0, .int .u64 0, .int .u64 0, .int .u64 0, .int .u64 0, .int .u64 0, .int .u64 0] 29)).alloc (.cells #[.slice none 0 0, .slice none 0 0] 57)) (w.heap.size + 1 + 1 + 1) [.slice none 0 0, .slice none 0 0] from Cl.at (((w.alloc (.cells #[.int .u64 P, .int .u64 Q, .int .u64 G] 49)).alloc (.cells (valV .u8 seed) 37)).alloc (.cells #[.slice none 0 0, .slice none 0 0, .bool false, .int .u64 0, .int .u64 0, .int .u64 0, .int .u64 0, .int .u64 0, .int .u64 0, .int .u64 0, .int .u64 0] 29)) [.slice none 0 0, .slice none 0 0] _ (w.heap.size + 1 + 1 + 1) (by simp))
  have HBW := Lib.hid (show Below w.heap.size w ((((w.alloc (.cells #[.int .u64 P, .int .u64 Q, .int .u64 G] 49)).alloc (.cells (valV .u8 seed) 37)).alloc (.cells #[.slice none 0 0, .slice none 0 0, .bool false, .int .u64 0, .int .u64 0, .int .u64 0, .int .u64 0, .int .u64 0, .int .u64 0, .int .u64 0, .int .u64 0] 29)).alloc (.cells #[.slice none 0 0, .slice none 0 0] 57)) from ((((Below.refl _ _).alloc (Nat.le_refl _) _).alloc (by simp) _).alloc (by simp <;> omega) _).alloc (by simp <;> omega) _)
  have g0 := F_g.out.c 0 _ rfl
  have g1 := F_g.out.c 1 _ rfl
  have g2 := F_g.out.c 2 _ rfl
  clear hT hS hu hsl hby
  go_enter Tryd.func24, Tryd.ntmps24
  go_wp2_with fail
  clear g0 g1 g2
  refine (bcheck_any _ hP hQ hG hy).mono ?_
  rintro e w1 ⟨rfl, hb1⟩
  replace F_g := Lib.hid (F_g.out.keep hb1)
  replace F_s := Lib.hid (F_s.out.keep hb1)
  replace F_o := Lib.hid (F_o.out.keep hb1)
  replace F_q := Lib.hid (F_q.out.keep hb1)
  replace HBW := Lib.hid (HBW.out.trans (hb1.mono HBW.out.size))
  clear hb1
  by_cases hk : chkB P Q G y n = 0
  case neg =>
    have HK := Lib.hid (show sealE P Q G y n ms one = chkB P Q G y n by rw [sealE, if_pos hk])
    go_wp2_with (first
      | (refine wpL_storeCl rfl 29 (.tmp 12) (.tmp 36) (w.heap.size + 1 + 1) 0 _ [.slice none 0 0, .slice none 0 0, .bool false, .int .u64 0, .int .u64 0, .int .u64 0, .int .u64 0, .int .u64 0, .int .u64 0, .int .u64 0, .int .u64 0] [.slice none 0 0, .slice none 0 0, .bool false, .int .u64 0, .int .u64 0, .int .u64 0, .int .u64 0, .int .u64 0, .int .u64 0, .int .u64 0, .int .u64 0] rfl rfl rfl rfl (by kernel_rfl) (by intro u hu; simp at hu; rcases hu with rfl | rfl | rfl | rfl | rfl | rfl | rfl | rfl | rfl | rfl | rfl <;> rfl) F_o.out (by simp) rfl ?_
         intro wx hc8 hg8 hz8
         have F_x := Lib.hid hc8
         have HGx := Lib.hid hg8
         have hz_wx := hz8
         clear hc8 hg8 hz8)
      | (refine wpL_storeCl rfl 57 (.tmp 13) (.tmp 37) (w.heap.size + 1 + 1 + 1) 0 _ [.slice none 0 0, .slice none 0 0] [.slice none 0 0, .slice none 0 0] rfl rfl rfl rfl (by kernel_rfl) (by intro u hu; simp at hu; rcases hu with rfl | rfl <;> rfl) (F_q.out.gro HGx.out (by omega)) (by simp) rfl ?_
         intro wz hc8 hg8 hz8
         have F_z := Lib.hid hc8
         have HGz := Lib.hid hg8
         have hz_wz := hz8
         clear hc8 hg8 hz8))
    refine bodyPost_ret (res_seal rfl (F_x.out.gro HGz.out (by omega)) F_z.out _ rfl rfl rfl) rfl ?_
    exact ⟨(HBW.out.trans (HGx.out.blw (n := w.heap.size) (by omega) HBW.out.size)).trans (HGz.out.blw (n := w.heap.size) (by omega) (by have := HBW.out.size; omega)), .inl ⟨HE.out, by rw [HK.out]; rfl⟩⟩
  case pos =>
    have HK := Lib.hid hk
    rw [hk]
    clear hk
    go_wp2_with fail
    refine (marked_any _ (HS.out.keep HBW.out) (by omega)).mono ?_
    rintro e w3 ⟨rfl, rfl⟩
    obtain ⟨mk, hmk⟩ : ∃ mk, markedS n ms = mk := ⟨_, rfl⟩
    have HMK := Lib.hid hmk
    rw [hmk]
    clear hmk
    cases mk with
    | false =>
      have HR := Lib.hid (show sealE P Q G y n ms one = 2 by rw [sealE, if_neg (by rw [HK.out]; simp), if_neg (by rw [HMK.out]; simp)])
      go_wp2_with (first
        | (refine wpL_storeCl rfl 29 (.tmp 12) (.tmp 51) (w.heap.size + 1 + 1) 0 _ [.slice none 0 0, .slice none 0 0, .bool false, .int .u64 0, .int .u64 0, .int .u64 0, .int .u64 0, .int .u64 0, .int .u64 0, .int .u64 0, .int .u64 0] [.slice none 0 0, .slice none 0 0, .bool false, .int .u64 0, .int .u64 0, .int .u64 0, .int .u64 0, .int .u64 0, .int .u64 0, .int .u64 0, .int .u64 0] rfl rfl rfl rfl (by kernel_rfl) (by intro u hu; simp at hu; rcases hu with rfl | rfl | rfl | rfl | rfl | rfl | rfl | rfl | rfl | rfl | rfl <;> rfl) F_o.out (by simp) rfl ?_
           intro wx hc8 hg8 hz8
           have F_x := Lib.hid hc8
           have HGx := Lib.hid hg8
           have hz_wx := hz8
           clear hc8 hg8 hz8)
        | (refine wpL_storeCl rfl 57 (.tmp 13) (.tmp 52) (w.heap.size + 1 + 1 + 1) 0 _ [.slice none 0 0, .slice none 0 0] [.slice none 0 0, .slice none 0 0] rfl rfl rfl rfl (by kernel_rfl) (by intro u hu; simp at hu; rcases hu with rfl | rfl <;> rfl) (F_q.out.gro HGx.out (by omega)) (by simp) rfl ?_
           intro wz hc8 hg8 hz8
           have F_z := Lib.hid hc8
           have HGz := Lib.hid hg8
           have hz_wz := hz8
           clear hc8 hg8 hz8))
      refine bodyPost_ret (res_seal rfl (F_x.out.gro HGz.out (by omega)) F_z.out _ rfl rfl rfl) rfl ?_
      exact ⟨(HBW.out.trans (HGx.out.blw (n := w.heap.size) (by omega) HBW.out.size)).trans (HGz.out.blw (n := w.heap.size) (by omega) (by have := HBW.out.size; omega)), .inl ⟨HE.out, by rw [HR.out]; rfl⟩⟩
    | true =>
      cases one with
      | false => exact absurd (by rw [sealE, if_neg (by rw [HK.out]; simp), if_pos ⟨HMK.out, by simp⟩]) HE.out
      | true =>
        by_cases hl : m ≤ 1
        · exact absurd (by rw [sealE, if_neg (by rw [HK.out]; simp), if_pos ⟨HMK.out, fun _ => by rw [← HLM.out]; exact hl⟩]) HE.out
        · have d1 : decide ((1 : Int) < (m : Int)) = true := decide_eq_true (by omega)
          have d2 : decide ((m : Int) > 1) = true := decide_eq_true (by omega)
          have HR := Lib.hid (show sealE P Q G y n ms true = 2 by rw [sealE, if_neg (by rw [HK.out]; simp), if_neg (by rintro ⟨-, h⟩; have := h rfl; rw [← HLM.out] at this; exact hl this)])
          clear hl
          go_wp2_with (first
            | (refine wpL_storeCl rfl 29 (.tmp 12) (.tmp 51) (w.heap.size + 1 + 1) 0 _ [.slice none 0 0, .slice none 0 0, .bool false, .int .u64 0, .int .u64 0, .int .u64 0, .int .u64 0, .int .u64 0, .int .u64 0, .int .u64 0, .int .u64 0] [.slice none 0 0, .slice none 0 0, .bool false, .int .u64 0, .int .u64 0, .int .u64 0, .int .u64 0, .int .u64 0, .int .u64 0, .int .u64 0, .int .u64 0] rfl rfl rfl rfl (by kernel_rfl) (by intro u hu; simp at hu; rcases hu with rfl | rfl | rfl | rfl | rfl | rfl | rfl | rfl | rfl | rfl | rfl <;> rfl) F_o.out (by simp) rfl ?_
               intro wx hc8 hg8 hz8
               have F_x := Lib.hid hc8
               have HGx := Lib.hid hg8
               have hz_wx := hz8
               clear hc8 hg8 hz8)
            | (refine wpL_storeCl rfl 57 (.tmp 13) (.tmp 52) (w.heap.size + 1 + 1 + 1) 0 _ [.slice none 0 0, .slice none 0 0] [.slice none 0 0, .slice none 0 0] rfl rfl rfl rfl (by kernel_rfl) (by intro u hu; simp at hu; rcases hu with rfl | rfl <;> rfl) (F_q.out.gro HGx.out (by omega)) (by simp) rfl ?_
               intro wz hc8 hg8 hz8
               have F_z := Lib.hid hc8
               have HGz := Lib.hid hg8
               have hz_wz := hz8
               clear hc8 hg8 hz8))
          refine bodyPost_ret (res_seal rfl (F_x.out.gro HGz.out (by omega)) F_z.out _ rfl rfl rfl) rfl ?_
          exact ⟨(HBW.out.trans (HGx.out.blw (n := w.heap.size) (by omega) HBW.out.size)).trans (HGz.out.blw (n := w.heap.size) (by omega) (by have := HBW.out.size; omega)), .inl ⟨HE.out, by rw [HR.out]; rfl⟩⟩
end Go.Proofs.YtlbldpkgnonbpaaDoor
