/- digest.sum, digest.Sum: the digest of bytes. -/
import Derived.Test.YtmcpfinnhgbcpaaDoorDigE
namespace Go.Proofs.YtmcpfinnhgbcpaaDoor
open Go Go.RowKit Go.Shelf Sha
set_option linter.unusedSimpArgs false
set_option linter.unusedVariables false

attribute [local go_sem] Oper.semAt_some

theorem wpListIn_of {P : Program} {ops : Array Oper} {Q : Exit → Act → World → Prop} {l n : Nat} : ∀ (os : List Oper) (a : Act) (w : World), (∀ o ∈ os, Op.noDefer o.op = true) → wpList P ops (OnlyN Q) os a w → wpListIn (Fence.wide.inRound l) n P ops Q os a w
  | [], _, _, _, h => h
  | o :: rest, a, w, hd, h => by
    simp only [wpList] at h
    unfold wpListIn
    by_cases hw : Region.wanted o (yielded ops a.tmps) = true
    · rw [if_pos hw] at h
      rw [if_pos hw]
      rcases h with h | h
      · exact Oper.wpIn_mono (fun a' w' h' => wpListIn_of rest a' w' (fun x hx => hd x (List.mem_cons_of_mem _ hx)) h') (oper_in (hd o (List.mem_cons_self ..)) h)
      · exact (OnlyN.never h.2).elim
    · rw [if_neg hw] at h
      rw [if_neg hw]
      exact ⟨fun _ _ => trivial, wpListIn_of rest _ _ (fun x hx => hd x (List.mem_cons_of_mem _ hx)) h⟩
theorem wpIn_region_of {P : Program} {ops : Array Oper} {Q : Exit → Act → World → Prop} {l n id : Nat} {a : Act} {w : World} (hd : ops.toList.all (fun o => Op.noDefer o.op) = true)
    (h : wpList P ops (OnlyN Q) ops.toList a w) : (Code.region id ops false).wpIn (Fence.wide.inRound l) n P Q a w :=
  wpIn_region_list (wpListIn_of _ _ _ (List.all_eq_true.1 hd) h)

theorem OwnB.cap {w : World} {n₀ g n cap : Nat} {xs : List Int} (h : OwnB w n₀ (.slice (Option.some ⟨g, 0, none⟩) n cap) xs) : xs.length ≤ cap := by
  rcases h.2 with ⟨h0, -⟩ | ⟨g', cap', cur, hv, -, -, hc, -⟩
  · cases h0
  · injection hv with _ _ h3
    subst h3
    exact hc
theorem OwnB.at {w : World} {n₀ g cap : Nat} {xs : List Int} (h : OwnB w n₀ (.slice (Option.some ⟨g, 0, none⟩) xs.length cap) xs) (i : Nat) (hi : i < xs.length) : w.cell? ⟨g, i, none⟩ = Option.some (.int .u8 (xs.getD i 0)) := by
  have h2 := World.ownsRow.cellAt h i (by omega)
  rw [h2]
  simp [List.getD_eq_getElem?_getD, hi]

theorem below_from {B n : Nat} {W W' : World} (h : Below n W W') (hn : W.heap.size ≤ n) : KeepsFrom B W W' :=
  ⟨h.size, fun k o _ hk ho => by
    have := (Array.getElem?_eq_some_iff.1 hk).1
    rw [h.block k (by omega)]; exact hk⟩
/-- The digest, so far as it is laid. -/
def outN (s : S8) (i : Nat) : List Int := (outOf s).take (4 * i) ++ List.replicate (32 - 4 * i) 0
theorem outN_all (s : S8) : outN s 8 = outOf s := rfl
theorem outN_len (s : S8) (i : Nat) (hi : i ≤ 8) : (outN s i).length = 32 := by simp [outN, outOf_len]; omega

theorem outN_lo (s : S8) (i o : Nat) (h : o < 4 * i) (hi : i ≤ 8) : (outN s i).getD o 0 = (outOf s).getD o 0 := by
  simp only [outN, List.getD_eq_getElem?_getD, List.getElem?_append, List.length_take, outOf_len]
  rw [if_pos (by omega), List.getElem?_take_of_lt h]
theorem outN_hi (s : S8) (i o : Nat) (h : 4 * i ≤ o) : (outN s i).getD o 0 = 0 := by
  simp only [outN, List.getD_eq_getElem?_getD, List.getElem?_append, List.length_take, outOf_len]
  rw [if_neg (by omega), List.getElem?_replicate]
  split <;> rfl
theorem outOf_at (s : S8) {i t : Nat} (hi : i < 8) (ht : t < 4) : (outOf s).getD (4 * i + t) 0 = [s.l.getD i 0 / 16777216 % 256, s.l.getD i 0 / 65536 % 256, s.l.getD i 0 / 256 % 256, s.l.getD i 0 % 256].getD t 0 := by
  have h1 : i = 0 ∨ i = 1 ∨ i = 2 ∨ i = 3 ∨ i = 4 ∨ i = 5 ∨ i = 6 ∨ i = 7 := by omega
  have h2 : t = 0 ∨ t = 1 ∨ t = 2 ∨ t = 3 := by omega
  rcases h1 with rfl | rfl | rfl | rfl | rfl | rfl | rfl | rfl <;> rcases h2 with rfl | rfl | rfl | rfl <;> rfl
theorem Arr.outs {w w' : World} {b i : Nat} {s : S8} {x : Int} (h : Arr .u8 w b (outN s i)) (hL : Laid .u8 w w' b (4 * i) [x / 16777216 % 256, x / 65536 % 256, x / 256 % 256, x % 256]) (hi : i < 8) (hx : s.l.getD i 0 = x) : Arr .u8 w' b (outN s (i + 1)) := by
  subst hx
  refine ⟨fun o ho => ?_, fun o => (hL.frozen _).trans (h.f o), by rw [hL.size]; exact h.lt⟩
  rw [outN_len s (i + 1) (by omega)] at ho
  by_cases h1 : o < 4 * i
  · rw [outN_lo s (i + 1) o (by omega) (by omega), ← outN_lo s i o h1 (by omega)]
    exact (hL.beside o (.inl h1)).trans (h.c o (by rw [outN_len s i (by omega)]; omega))
  · by_cases h2 : o < 4 * i + 4
    · have h3 := hL.row (o - 4 * i) (by show o - 4 * i < 4; omega)
      rw [show 4 * i + (o - 4 * i) = o by omega, ← outOf_at s hi (by omega), show 4 * i + (o - 4 * i) = o by omega] at h3
      rw [outN_lo s (i + 1) o (by omega) (by omega)]
      exact h3
    · rw [outN_hi s (i + 1) o (by omega), ← outN_hi s i o (by omega)]
      exact (hL.beside o (.inr (by show 4 * i + 4 ≤ o; omega))).trans (h.c o (by rw [outN_len s i (by omega)]; omega))
theorem wpL_copyArr {P : Program} {w : World} {o : Oper} {ops : Array Oper} {rest : List Oper} {a : Act} {Q : Exit → Act → World → Prop} (hgd : o.guard = none) (d s : Operand) (dT sT : TypeId)
    (ho : o.op = .call { callee := .builtin .copy, args := #[d, s], argTypes := #[dT, sT] }) (elem : TypeId) (hu : P.underlying dT = some (.slice elem)) (hsz : (P.info? elem).map (·.size) = some 1)
    (k : IntKind) (b c q q' dLen dCap sLen sCap : Nat) (hd : a.eval d = .slice (some ⟨b, q, none⟩) dLen dCap) (hs : a.eval s = .slice (some ⟨c, q', none⟩) sLen sCap)
    (xs : List Int) (hn : xs.length = Nat.min sLen dLen) (hsrc : ∀ i, i < xs.length → w.cell? ⟨c, q' + i, none⟩ = some (.int k (xs.getD i 0)))
    (hc : ∀ i, i < xs.length → (w.cell? ⟨b, q + i, none⟩).isSome = true) (hf : ∀ i, i < xs.length → w.frozen? ⟨b, q + i, none⟩ = false)
    (h : ∀ w', Laid k w w' b q xs → wpList P ops Q rest (a.put o.dst (goInt xs.length)) w') : wpList P ops Q (o :: rest) a w :=
  wpList_plain hgd fun _ hK => wp_copyArr d s dT sT ho elem hu hsz k b c q q' dLen dCap sLen sCap hd hs xs hn hsrc hc hf fun w' hw => hK _ _ (h w' hw)

/-- A chunk's number. -/
abbrev Chk (m : Nat) := { x : Nat // x < m }
def chkOf {m : Nat} (hm : 0 < m) (k : Nat) : Chk m := ⟨k % m, Nat.mod_lt _ hm⟩
theorem chkOf_val {m : Nat} (hm : 0 < m) {k : Nat} (hk : k < m) : (chkOf hm k).1 = k := Nat.mod_eq_of_lt hk
/-- The state behind the chunks that have come. -/
def stAll {m : Nat} (p : List Int) (pre : List (Chk m)) : S8 := pre.foldl (fun s x => stepS p (64 * x.1) s) firstS
theorem stAll_push {m : Nat} (p : List Int) (pre : List (Chk m)) (x : Chk m) : stAll p (pre ++ [x]) = stepS p (64 * x.1) (stAll p pre) := by simp [stAll]
theorem stAll_firstN {m : Nat} (p : List Int) (hm : 0 < m) : ∀ k, k ≤ m → stAll p (firstN (chkOf hm) k) = blocks p k
  | 0, _ => rfl
  | k + 1, hk => by rw [firstN_succ, stAll_push, stAll_firstN p hm k (by omega), chkOf_val hm (by omega)]; rfl

/-- What the rounds keep: the result's box, the state's box, the padded bytes. -/
structure SumIn (W : World) (Bo Bt g : Nat) (st : List Int) (p : List Int) : Prop where
  fo : Arr .u8 W Bo (List.replicate 32 0)
  ft : Arr .u32 W Bt st
  fp : ∀ i, i < p.length → W.cell? ⟨g, i, none⟩ = some (.int .u8 (p.getD i 0))
  lt : g < W.heap.size
theorem SumIn.keep {W W' : World} {Bo Bt g : Nat} {st p : List Int} (h : SumIn W Bo Bt g st p) (hb : Below W.heap.size W W') : SumIn W' Bo Bt g st p :=
  ⟨h.fo.keep hb, h.ft.keep hb, fun i hi => (hb.cell (p := ⟨g, i, none⟩) h.lt).trans (h.fp i hi), Nat.lt_of_lt_of_le h.lt hb.size⟩
theorem Arr.below {k : IntKind} {w w' : World} {b n : Nat} {xs : List Int} (h : Arr k w b xs) (hb : Below n w w') (hn : b < n) : Arr k w' b xs :=
  ⟨fun i hi => (hb.cell (p := ⟨b, i, none⟩) hn).trans (h.c i hi), fun i => (hb.frozen (p := ⟨b, i, none⟩) hn).trans (h.f i), Nat.lt_of_lt_of_le h.lt hb.size⟩
theorem SumIn.below {W W' : World} {Bo Bt g n : Nat} {st p : List Int} (h : SumIn W Bo Bt g st p) (hb : Below n W W') (h1 : Bo < n) (h2 : Bt < n) (h3 : g < n) : SumIn W' Bo Bt g st p :=
  ⟨h.fo.below hb h1, h.ft.below hb h2, fun i hi => (hb.cell (p := ⟨g, i, none⟩) h3).trans (h.fp i hi), Nat.lt_of_lt_of_le h.lt hb.size⟩
theorem SumIn.laid {W W' : World} {Bo Bt g : Nat} {st ys p : List Int} (h : SumIn W Bo Bt g st p) (hL : Laid .u32 W W' Bt 0 ys) (h1 : Bo ≠ Bt) (h2 : g ≠ Bt) : SumIn W' Bo Bt g ys p :=
  ⟨h.fo.laid hL h1, h.ft.whole hL, fun i hi => (hL.cell _ _ h2).trans (h.fp i hi), by rw [hL.size]; exact h.lt⟩
theorem SumIn.blk {W : World} {Bo Bt g : Nat} {st p : List Int} (h : SumIn W Bo Bt g st p) (hp : ∀ i, 0 ≤ p.getD i 0 ∧ p.getD i 0 < 256) {x : Nat} (hx : 64 * x + 64 ≤ p.length) : Blk W g (64 * x) p (64 * x) :=
  ⟨fun i hi => h.fp _ (by omega), h.lt, hp⟩

theorem Tabs.keep {w w' : World} (h : Tabs w) {n : Nat} (hb : Below n w w') (hn : w.heap.size ≤ n) : Tabs w' := h.below (hb.mono hn)

/-- Bytes are bytes. -/
def ByteL (xs : List Int) : Prop := ∀ x, x ∈ xs → 0 ≤ x ∧ x < 256
theorem ByteL.get {xs : List Int} (h : ByteL xs) (i : Nat) : 0 ≤ xs.getD i 0 ∧ xs.getD i 0 < 256 := by
  by_cases hi : i < xs.length
  · rw [List.getD_eq_getElem?_getD, List.getElem?_eq_getElem hi]; exact h _ (List.getElem_mem hi)
  · rw [List.getD_eq_getElem?_getD, List.getElem?_eq_none (by omega)]; simp
theorem padS_bytes {xs : List Int} (h : ByteL xs) : ByteL (padS xs) := by
  intro x hx
  simp only [padS, List.mem_append, List.mem_cons, List.mem_replicate, be8, List.mem_map] at hx
  rcases hx with hx | rfl | ⟨-, rfl⟩ | ⟨i, -, rfl⟩
  · exact h x hx
  · omega
  · omega
  · omega

set_option maxRecDepth 100000 in
set_option maxHeartbeats 8000000 in
theorem dsum_any {a : Option Addr} {n c : Nat} {xs : List Int} (w : World) (hT : Tabs w) (h : ShI .u8 w a n xs) (hn : n ≤ 100000) (hB : ByteL xs) :
    Calls Tryd.prog 71 #[.slice a n c] w fun e w' => e = .returned (.agg (valV .u8 (shaS xs))) ∧ Below w.heap.size w w' := by
  have HT := Lib.hid hT
  have HS := Lib.hid h
  have HL := Lib.hid h.len
  have HBY := Lib.hid (padS_bytes hB).get
  clear h hT hB
  refine (callsIn_wide (n := 6)).1 ?_
  refine callsIn_of_wp_marks Tryd.func71 rfl trivial ?_ rfl
  simp only [Tryd.ntmps71, List.size_toArray, List.length_cons, List.length_nil, Nat.reduceAdd, Nat.reduceSub, Array.replicate_succ, Array.replicate_zero, List.push_toArray, List.append_toArray, List.nil_append, List.cons_append]
  refine wpIn_wide.2 ?_
  go_wp2_with (first
    | (refine wpL_allocArr rfl 81 .u8 32 rfl (by kernel_rfl) ?_; intro w1 h1; have F_o := Lib.hid h1.arr; have HB1 := Lib.hid (h1.below _ (Nat.le_refl _)); clear h1; simp only [Act.put, List.setIfInBounds_toArray, List.set_cons_zero, List.set_cons_succ])
    | (refine wpList_loadArr rfl 111 _ rfl .u32 0 0 firstS.l 8 110 rfl Tryd.underlying111 (by kernel_rfl) (fun i hi => by rw [Nat.zero_add]; exact (HT.out.below HB1.out).f i hi) ?_; simp only [Act.put, List.setIfInBounds_toArray, List.set_cons_zero, List.set_cons_succ])
    | (refine wpL_allocArr rfl 111 .u32 8 rfl (by kernel_rfl) ?_; intro w2 h2; have ne_o_t := Nat.ne_of_lt F_o.out.lt; have le_t := HB1.out.size; replace F_o := Lib.hid (F_o.out.keep (h2.below _ (Nat.le_refl _))); have F_t := Lib.hid h2.arr; have HB2 := Lib.hid (HB1.out.trans (h2.below _ HB1.out.size)); clear h2; simp only [Act.put, List.setIfInBounds_toArray, List.set_cons_zero, List.set_cons_succ])
    | (refine wpL_storeArr rfl 111 .u32 _ _ _ firstS.l _ rfl rfl rfl rfl (by kernel_rfl) F_t.out rfl ?_; intro w3 h3; replace F_o := Lib.hid (F_o.out.laid h3 ne_o_t); replace F_t := Lib.hid (F_t.out.whole h3); have HB3 := Lib.hid (HB2.out.trans (h3.below _ le_t)); clear h3))
  refine (dpadded_any _ (HS.out.keep HB3.out) hn).mono ?_
  rintro e w4 ⟨v, rfl, O4, B4⟩
  obtain ⟨g, cap, rfl, hg1, hg2⟩ := O4.some (by rw [padS_len]; omega)
  obtain ⟨m, hm⟩ : ∃ m, (padS xs).length = 64 * m := ⟨(padS xs).length / 64, by have := padS_mod xs; omega⟩
  have hm0 : 0 < m := by rw [padS_len] at hm; omega
  have hm1 : m ≤ 100000 := by have := HL.out; have hz : zerosN xs.length < 64 := by unfold zerosN; omega
                              rw [padS_len] at hm; omega
  have hcap := O4.cap
  rw [hm] at hcap
  have ne_t_g : g ≠ w1.heap.size := by have := F_t.out.lt; omega
  have hgw : w.heap.size ≤ g := Nat.le_trans HB3.out.size hg1
  have SI := Lib.hid (show SumIn w4 w.heap.size w1.heap.size g firstS.l (padS xs) from
    ⟨F_o.out.keep B4, F_t.out.keep B4, fun i hi => O4.at i hi, hg2⟩)
  have HB4 := Lib.hid (HB3.out.trans (B4.mono HB3.out.size))
  have HM := Lib.hid hm
  rw [hm]
  clear O4 B4 F_o F_t HB1 HB2 HB3 hm
  go_wp2_with fail
  refine (callsIn_wide.1 (chunk_in 1 _ _ _ _)).mono ?_
  rintro e w5 ⟨rfl, rfl⟩
  go_wp2_with fail
  have hW4 := SI.out.lt
  have ht4 := SI.out.ft.lt
  have ho4 := SI.out.fo.lt
  obtain ⟨W0, hW0⟩ : ∃ W0, (w4.alloc (.cells #[.slice (some ⟨g, 0, none⟩) (64 * m) cap] 27)).alloc (.cells #[.int .i64 64] 3) = W0 := ⟨_, rfl⟩
  have hB0 : Below w4.heap.size w4 W0 := by rw [← hW0]; exact ((Below.refl _ _).alloc (Nat.le_refl _) _).alloc (by simp) _
  have hsz : W0.heap.size = w4.heap.size + 2 := by rw [← hW0]; simp
  have cBs : W0.cell? ⟨w4.heap.size, 0, none⟩ = some (.slice (some ⟨g, 0, none⟩) (64 * m) cap) := by
    rw [← hW0, World.cell?_alloc_past _ _ _ (by simp), World.cell?_alloc_new]; rfl
  have cBn : W0.cell? ⟨w4.heap.size + 1, 0, none⟩ = some (.int .i64 64) := by
    rw [← hW0, World.cell?_alloc_at _ _ _ _ (by simp)]; rfl
  rw [hW0]
  replace SI := Lib.hid (SI.out.keep hB0)
  replace HB4 := Lib.hid (HB4.out.trans (hB0.mono HB4.out.size))
  have HOW : ∀ (pre : List (Chk m)) (A B : World) row, (SumIn A w.heap.size w1.heap.size g (stAll (padS xs) pre).l (padS xs) ∧ W0.heap.size ≤ A.heap.size ∧ Below w.heap.size w A) → A.grownBy B row → (∀ r, row = some r → W0.heap.size ≤ r ∧ ∃ o : Obj, A.heap[r]? = some o ∧ o.isCells = false) →
      (SumIn B w.heap.size w1.heap.size g (stAll (padS xs) pre).l (padS xs) ∧ W0.heap.size ≤ B.heap.size ∧ Below w.heap.size w B) := fun pre A B row hs hg hr => by
    have hb : Below W0.heap.size A B := (Below.refl _ _).grown hg hs.2.1 (fun k e => (hr k e).1)
    exact ⟨hs.1.below hb (by omega) (by omega) (by omega), Nat.le_trans hs.2.1 hg.size, hs.2.2.trans (hb.mono (by omega))⟩
  refine (wpIn_wide (n := 6)).1 ?_
  refine wpIn_rangeFunc_ownG rfl (by omega) (gf := 91) (lb := #[.pointer (some ⟨w4.heap.size, 0, none⟩), .pointer (some ⟨w4.heap.size + 1, 0, none⟩)]) rfl trivial (enters_of Tryd.func91 (by kernel_rfl) rfl)
    (chunk_stops (6 - 1) (by omega) w4.heap.size (w4.heap.size + 1) g cap m hm1 hcap (fun x : Chk m => x.1) (chkOf hm0) (fun k hk => chkOf_val hm0 hk) W0 (by omega) (by omega) (by omega) cBs cBn)
    (fun h k => Kp3.trans h k) (fun W l o o' hl h a b => Kp3.put (w := W0) (by omega) (by omega) (by omega) W l o o' hl h a b) (Below.refl _ _) (fun _ => rfl)
    (fun pre W => SumIn W w.heap.size w1.heap.size g (stAll (padS xs) pre).l (padS xs) ∧ W0.heap.size ≤ W.heap.size ∧ Below w.heap.size w W)
    (fun _ _ _ => False)
    HOW
    (fun _ _ _ _ _ hs _ _ => hs)
    ⟨SI.out, Nat.le_refl _, HB4.out⟩
    (fun x => { tmps := #[.slice a n c, undef, .pointer (some ⟨w.heap.size, 0, none⟩), .pointer (some ⟨w1.heap.size, 0, none⟩), .slice (some ⟨g, 64 * x.1, none⟩) 64 64, undef, undef, .agg (valV .u32 firstS.l), .slice a n c, .slice (some ⟨g, 0, none⟩) (64 * m) cap, .func (.func 91) #[] #[.pointer (some ⟨w4.heap.size, 0, none⟩), .pointer (some ⟨w4.heap.size + 1, 0, none⟩)], .slice (some ⟨g, 64 * x.1, none⟩) 64 64, undef, undef, undef, undef, undef, undef, undef, undef, undef, undef, undef, undef, undef, undef, undef, undef, undef, undef, undef, undef, undef, undef, undef, undef, undef, undef], defers := [] }) ?assign ?body ?done ?stop
  case assign =>
    intro l x W K hK
    gi_wp2
    exact hK
  case stop =>
    rintro D c pre W _ _ h _
    exact h.elim
  case body =>
    rintro l pre ⟨x, hx⟩ W ⟨hSI, hsW, hB⟩ hl
    have HS1 := Lib.hid hSI
    have HBW := Lib.hid hB
    have HTW := Lib.hid (HT.out.below hB)
    have HXL := Lib.hid (show 64 * x + 64 ≤ (padS xs).length by rw [HM.out]; omega)
    clear hSI hB
    obtain ⟨st, hst⟩ : ∃ s, stAll (padS xs) pre = s := ⟨_, rfl⟩
    rw [hst] at HS1
    have HST := Lib.hid hst
    clear hst
    gi_wp2_with (refine wpListIn_of _ _ _ (List.all_eq_true.1 (by kernel_rfl)) ?_)
    go_wp2_with (first
      | (refine wpL_loadArr rfl 111 .u32 _ w1.heap.size _ 8 110 rfl rfl Tryd.underlying111 (by kernel_rfl) HS1.out.ft ?_; simp only [Act.put, List.setIfInBounds_toArray, List.set_cons_zero, List.set_cons_succ])
      | (go_at_call 87; refine (dstep_any (q := 64 * x) (p := padS xs) (s := st) _ HTW.out (HS1.out.blk HBY.out HXL.out) (Nat.le_refl _)).mono ?_; rintro e w7 ⟨rfl, hb7⟩; have HS7 := Lib.hid (HS1.out.keep hb7); have HB7 := Lib.hid hb7; clear hb7)
      | (refine wpL_storeArr rfl 111 .u32 _ _ _ (stepS (padS xs) (64 * x) st).l _ rfl rfl rfl rfl (by kernel_rfl) HS7.out.ft rfl ?_; intro w8 h8; have HL8 := Lib.hid h8; clear h8))
    unfold OnlyN
    gi_wp2
    have hzW := HB7.out.size
    have hneo : w.heap.size ≠ w1.heap.size := ne_o_t
    have k8 := HL8.out.cell
    refine ⟨(below_from HB7.out (Nat.le_refl _)).trans (HL8.out.oth.from _), (Kp3.below HB7.out (by omega) (by omega) (by omega)).trans ⟨fun o => k8 _ _ (by omega), fun o => k8 _ _ (by omega), fun o => k8 _ _ (by omega)⟩, ?_, by rw [HL8.out.size]; omega, (HBW.out.trans (HB7.out.mono (by omega))).trans (HL8.out.below _ le_t)⟩
    rw [stAll_push, HST.out]
    exact HS7.out.laid HL8.out ne_o_t ne_t_g
  case done =>
    rintro D ys W hD rfl ⟨hSI, hsW, hB⟩ hK
    rw [stAll_firstN _ hm0 m (Nat.le_refl _)] at hSI
    obtain ⟨s, hs⟩ : ∃ s, blocks (padS xs) m = s := ⟨_, rfl⟩
    rw [hs] at hSI
    have HZ := Lib.hid (show outOf s = shaS xs by rw [shaS, HM.out, Nat.mul_div_cancel_left m (by decide), hs])
    clear hs
    have F_t := Lib.hid hSI.ft
    have F_o := Lib.hid (show Arr .u8 W w.heap.size (outN s 0) from hSI.fo)
    have HBW := Lib.hid hB
    have HD := Lib.hid hD
    have HK := Lib.hid hK
    clear hSI hB hD hK
    go_wp2_with (refine wpL_loadArr rfl 111 .u32 _ w1.heap.size _ 8 110 rfl rfl Tryd.underlying111 (by kernel_rfl) F_t.out ?_; simp only [Act.put, List.setIfInBounds_toArray, List.set_cons_zero, List.set_cons_succ])
    go_loopw [16] (fun c16 wr => ∃ i : Nat, i ≤ 8 ∧ c16 = .int .i64 i ∧ Hid (Arr .u8 wr w.heap.size (outN s i)) ∧ Hid (Below w.heap.size w wr) ∧ Hid (wr.heap[D]? = some (.deferred (some [])))) (fun c16 _ => 8 - (intOf c16).toNat)
    case atStart => exact ⟨0, by omega, rfl, F_o.out, HBW.out, HK.out⟩
    case round =>
      clear F_o F_t HBW HK
      obtain ⟨i, hi, rfl, F_o, HBW, HK⟩ := hrel
      by_cases hlt : i < 8
      case pos =>
        have hd : decide ((i : Int) < 8) = true := by simp; omega
        have i0 : (0 : Int) ≤ (i : Int) := by omega
        obtain ⟨x, hx⟩ : ∃ x, s.l.getD i 0 = x := ⟨_, rfl⟩
        have hix : ∀ (wr : World), (Instr.index 111 (.agg (valV .u32 s.l)) (.int .i64 i)).run Tryd.prog wr = .ok (.int .u32 x) wr := fun wr => by
          have : i = 0 ∨ i = 1 ∨ i = 2 ∨ i = 3 ∨ i = 4 ∨ i = 5 ∨ i = 6 ∨ i = 7 := by omega
          subst hx
          rcases this with rfl | rfl | rfl | rfl | rfl | rfl | rfl | rfl <;> rfl
        have hw4 : IntKind.i64.wrap (4 * (i : Int)) = 4 * (i : Int) := IntWalk.i64_in _ (by omega)
        have e4 : (4 * (i : Int)).toNat = 4 * i := by omega
        have p4 : (0 : Int) ≤ 4 * (i : Int) := by omega
        have l4 : 4 * (i : Int) ≤ 32 := by omega
        have l4n : 4 * i ≤ 32 := by omega
        have l4m : ¬ 4 * i = 32 := by omega
        have l4k : 4 * i < 32 := by omega
        have hw1 : IntKind.i64.wrap ((i : Int) + 1) = (i : Int) + 1 := IntWalk.i64_in _ (by omega)
        have hmn : min 4 (32 - 4 * i) = 4 := by omega
        have HCN := Lib.hid (show ∀ ob j, j < 4 → ((wr.alloc ob).cell? ⟨w.heap.size, 4 * i + j, none⟩).isSome = true from fun ob j hj => by
          rw [(F_o.out.alloc ob).c (4 * i + j) (by rw [outN_len s i hi]; omega)]; rfl)
        have HFN := Lib.hid (show ∀ ob j, j < 4 → (wr.alloc ob).frozen? ⟨w.heap.size, 4 * i + j, none⟩ = false from fun ob j _ => (F_o.out.alloc ob).f _)
        have HMN := Lib.hid (show [x / 16777216 % 256, x / 65536 % 256, x / 256 % 256, x % 256].length = Nat.min 4 (32 - 4 * i) by show 4 = min 4 (32 - 4 * i); omega)
        have HSR := Lib.hid (show ∀ j, j < 4 → (wr.alloc (.cells (valV .u8 [x / 16777216 % 256, x / 65536 % 256, x / 256 % 256, x % 256]) 5)).cell? ⟨wr.heap.size, 0 + j, none⟩ = some (.int .u8 ([x / 16777216 % 256, x / 65536 % 256, x / 256 % 256, x % 256].getD j 0)) from fun j hj => by
          rw [Nat.zero_add]; exact (Arr.new .u8 wr _ _ _ rfl).c j hj)
        go_wp2_with (refine wpL_copyArr rfl _ _ 27 27 rfl 5 Tryd.underlying27 (by kernel_rfl) .u8 w.heap.size wr.heap.size (4 * i) 0 (32 - 4 * i) (32 - 4 * i) 4 4 rfl rfl [x / 16777216 % 256, x / 65536 % 256, x / 256 % 256, x % 256] HMN.out HSR.out (HCN.out _) (HFN.out _) ?_; intro w9 h9; have H9 := Lib.hid h9; clear h9; simp only [Act.put, List.setIfInBounds_toArray, List.set_cons_zero, List.set_cons_succ])
        go_roundw
        case rel =>
          refine ⟨i + 1, by omega, by go_num, Arr.outs (F_o.out.alloc _) H9.out hlt hx, (HBW.out.alloc HBW.out.size _).trans (H9.out.below _ (Nat.le_refl _)), ?_⟩
          exact H9.out.oth.same D _ ((Below.heap_alloc _ _ _ ((Array.getElem?_eq_some_iff.1 HK.out).1)).trans HK.out) rfl
        case measure => simp [intOf]; omega
      case neg =>
        obtain rfl : i = 8 := by omega
        rw [outN_all, HZ.out] at F_o
        go_wp2_with (first
          | (refine wpL_loadArr rfl 81 .u8 _ w.heap.size _ 32 5 rfl rfl Tryd.underlying81 (by kernel_rfl) F_o.out ?_; simp only [Act.put, List.setIfInBounds_toArray, List.set_cons_zero, List.set_cons_succ])
          | (refine wpL_storeArr rfl 81 .u8 _ _ w.heap.size (shaS xs) _ rfl rfl rfl rfl (by kernel_rfl) F_o.out rfl ?_; intro w9 h9; have H9 := Lib.hid h9; clear h9))
        have HK9 := Lib.hid (H9.out.oth.same D _ HK.out rfl)
        have hBD := belowK_b (w := W0) (Nat.le_refl _) w9 D (.deferred (some [])) (.deferred none) HD.out HK9.out rfl rfl
        refine ⟨by simp, .inl ⟨_, _, rfl, run_takeDeferred HK9.out, ?_⟩⟩
        exact ⟨_, res_arr .u8 w.heap.size 0 (shaS xs) 32 5 rfl Tryd.underlying81 (by kernel_rfl) _ rfl (fun i hi => by rw [Nat.zero_add]; exact ((F_o.out.whole H9.out).below hBD (by omega)).c i hi), rfl, (HBW.out.trans (H9.out.below _ (Nat.le_refl _))).trans (hBD.mono (by omega))⟩
end Go.Proofs.YtmcpfinnhgbcpaaDoor
