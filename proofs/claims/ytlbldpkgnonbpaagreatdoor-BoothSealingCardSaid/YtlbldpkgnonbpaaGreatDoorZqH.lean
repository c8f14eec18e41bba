/- The reader's number. -/
import Derived.Test.YtlbldpkgnonbpaaGreatDoorZqG
import Derived.Test.YtlbldpkgnonbpaaGreatDoorZqB
import Derived.Test.YtlbldpkgnonbpaaGreatDoorZqC
import Derived.Test.YtlbldpkgnonbpaaGreatDoorZqD
import Derived.Deep.Cut
set_option linter.unusedSimpArgs false
set_option linter.unusedVariables false
set_option maxRecDepth 100000
namespace Go.Proofs.YtlbldpkgnonbpaaGreatDoor
open Go Go.RowKit Num Sha
structure RBox (W : World) (B : Nat) (v : Value) : Prop where
  c0 : W.cell? ⟨B, 0, none⟩ = some v
  f0 : W.frozen? ⟨B, 0, none⟩ = false
  lt : B < W.heap.size
theorem RBox.at (W : World) (v : Value) (T : TypeId) (b : Nat) (hb : b = W.heap.size) : RBox (W.alloc (.cells #[v] T)) b v := by
 subst hb
 refine ⟨?_, ?_, by simp⟩
 · rw [World.cell?_alloc_new]; rfl
 · simp
theorem RBox.keepN {W W' : World} {B n : Nat} {v : Value} (h : RBox W B v) (hb : Below n W W') (hn : B < n) : RBox W' B v :=
  ⟨(hb.cell (p := ⟨B, 0, none⟩) hn).trans h.c0, (hb.frozen (p := ⟨B, 0, none⟩) hn).trans h.f0, Nat.lt_of_lt_of_le h.lt hb.size⟩
theorem RBox.keep {W W' : World} {B : Nat} {v : Value} (h : RBox W B v) (hb : Below W.heap.size W W') : RBox W' B v := h.keepN hb h.lt
theorem RBox.drew {W : World} {B : Nat} {v : Value} (h : RBox W B v) : RBox W.drew B v := h.keep (Below.refl _ _).drew
theorem RBox.alloc {W : World} {B : Nat} {v : Value} (h : RBox W B v) (o : Obj) : RBox (W.alloc o) B v := h.keep ((Below.refl _ _).alloc (Nat.le_refl _) o)
theorem RBox.set {W : World} {B : Nat} {v : Value} (h : RBox W B v) (u : Value) : RBox (W.setCell ⟨B, 0, none⟩ u) B u := by
 refine ⟨World.cell?_setCell_same' _ _ _ (by rw [h.c0]; rfl), ?_, by simpa using h.lt⟩
 rw [World.frozen?_setCell]; exact h.f0
theorem RBox.other {W : World} {B : Nat} {v : Value} (h : RBox W B v) (p : Addr) (u : Value) (hp : p.block ≠ B) : RBox (W.setCell p u) B v := by
 refine ⟨?_, ?_, by simpa using h.lt⟩
 · rw [World.cell?_setCell_other _ _ _ _ (show p ≠ ⟨B, 0, none⟩ from fun e => hp (by rw [e]))]; exact h.c0
 · rw [World.frozen?_setCell]; exact h.f0
open Go Go.RowKit Num Sha
def be4 (x : Int) : List Int := (List.range 4).map fun i => x / 2 ^ (24 - 8 * i) % 256
theorem be4_len (x : Int) : (be4 x).length = 4 := by simp [be4]
theorem be4_snoc (x : Int) (j : Nat) (hj : j < 4) : (be4 x).take (j + 1) = (be4 x).take j ++ [x / 2 ^ (24 - 8 * j) % 256] := by
 have : j = 0 ∨ j = 1 ∨ j = 2 ∨ j = 3 := by omega
 rcases this with rfl | rfl | rfl | rfl <;> rfl
theorem be4_bytes (x : Int) : ∀ b, b ∈ be4 x → 0 ≤ b ∧ b < 256 := by
 intro b hb
 obtain ⟨i, -, rfl⟩ := List.mem_map.1 hb
 omega
set_option maxHeartbeats 8000000 in
theorem fits4_any {x : Int} (w : World) (h0 : 0 ≤ x) (h1 : x < 4294967296) :
    Calls Tryz.prog 159 #[.int .u64 x, .int .i64 4] w fun e w' => e = .returned (.bool true) ∧ w' = w := by
  have hx : x / 4294967296 = 0 := by omega
  go_enter Tryz.func159, Tryz.ntmps159
  go_wp2_with fail
  go_ret
  exact ⟨by simp [hx], rfl⟩
set_option maxHeartbeats 8000000 in
theorem put4_any {v : Value} {xs : List Int} {n₀ : Nat} {x : Int} (w : World) (hB : OwnB w n₀ v xs) (hn : n₀ ≤ w.heap.size) (h0 : 0 ≤ x) (h1 : x < 4294967296) (hx : xs.length ≤ 100000) :
    Calls Tryz.prog 160 #[v, .int .u64 x, .int .i64 4] w fun e w' => ∃ v', e = .returned v' ∧ GrewO w w' n₀ v' (xs ++ be4 x) := by
  obtain ⟨i0, hi, hz0, hz1, hz2⟩ := info_parts (P := Tryz.prog) (e := 5) (z := .int .u8 0) (size := 1) (bytes := 1) (by kernel_rfl)
  have HG := Lh (show GrewO w w n₀ v (xs ++ (be4 x).take 0) from by simpa using (⟨hB, Below.refl _ _, hn, Others.refl _⟩ : GrewO w w n₀ v xs))
  clear hB
  go_enter Tryz.func160, Tryz.ntmps160
  go_wp2_with fail
  go_loopw [0, 7, 9] (fun c0 _ c9 wr => ∃ j : Nat, j ≤ 4 ∧ c9 = .int .i64 j ∧ Hid (GrewO w wr n₀ c0 (xs ++ (be4 x).take j))) (fun _ _ c9 _ => 4 - (intOf c9).toNat)
  case atStart => exact ⟨0, by omega, rfl, HG.o⟩
  case round =>
   clear HG
   obtain ⟨j, hj, rfl, HG⟩ := hrel
   by_cases hlt : j < 4
   case neg =>
    obtain rfl : j = 4 := by omega
    rw [List.take_of_length_le (by rw [be4_len]; exact Nat.le_refl _)] at HG
    clear hlt
    simp only [Int.cast_ofNat_Int]
    go_wp2_with fail
    go_ret
    exact ⟨_, rfl, HG.o⟩
   case pos =>
    have hd : decide ((j : Int) < 4) = true := by simp; omega
    have w1 : IntKind.i64.wrap (3 - (j : Int)) = 3 - (j : Int) := IntWalk.i64_in _ (by omega)
    have w2 : IntKind.i64.wrap (8 * (3 - (j : Int))) = 8 * (3 - (j : Int)) := IntWalk.i64_in _ (by omega)
    have w3 : IntKind.i64.wrap ((j : Int) + 1) = (j : Int) + 1 := IntWalk.i64_in _ (by omega)
    have p0 : (0 : Int) ≤ 8 * (3 - (j : Int)) := by omega
    have p1 : ¬ (8 * (3 - (j : Int)) < 0) := by omega
    have e0 : (8 * (3 - (j : Int))).toNat = 24 - 8 * j := by omega
    have hm0 : min (24 - 8 * j) 64 = 24 - 8 * j := by omega
    have hpl : (xs ++ (be4 x).take j).length ≤ 100200 := by simp [be4_len]; omega
    have HXM := Lh (show (xs ++ (be4 x).take j).length + 1 ≤ maxLen by unfold maxLen; omega)
    have HXB := Lh (show ((xs ++ (be4 x).take j).length + 1) * 1 ≤ 140737488355328 by omega)
    clear hpl
    go_wp2_with (at_builtin; (refine wpList_append_own _ rfl _ _ 80 rfl n₀ 5 i0 (.int .u8 0) 1 1 Tryz.underlying80 hi hz0 hz1 hz2 rfl (by decide) _ (xs ++ (be4 x).take j).length ((xs ++ (be4 x).take j).map (Value.int .u8)) rfl (HG.o.own.keep ((Below.refl _ _).alloc (Nat.le_refl _) _)) _ 1 1 [.int .u8 (x / 2 ^ (24 - 8 * j) % 256)] rfl rfl (fun j u hj => by cases j with | zero => simp at hj; subst hj; simp [go_sem] | succ j => simp at hj) (fun u hu => by simp at hu; subst hu; rfl) HXM.o HXB.o (HG.o.leA _) ?_); intro v4 w4 hown hgr hnil; have HG4 := Lh (HG.o.snoc hown hgr); clear hown hgr hnil)
    go_roundw
    case rel => exact ⟨j + 1, by omega, by go_num, by rw [be4_snoc x j hlt, ← List.append_assoc]; exact HG4.o⟩
    case measure => simp [intOf]; omega
set_option maxHeartbeats 8000000 in
theorem put_any {a : Option Addr} {n c : Nat} {xs : List Int} {x : Int} (w : World) (hS : ShI .u8 w a n xs) (h0 : 0 ≤ x) (h1 : x < 4294967296) (hn : n ≤ 16000) :
    Calls Tryz.prog 145 #[.slice a n c, .int .u64 x, .int .i64 4] w fun e w' => ∃ v, e = .returned (.tuple #[v, .int .i64 0]) ∧ OwnB w' w.heap.size v (xs ++ be4 x) ∧ Below w.heap.size w w' := by
  have HS := Lh hS
  have HL := Lh hS.len
  have hd : decide ((16380 : Int) < (n : Int)) = false := decide_eq_false (by omega)
  clear hS
  go_enter Tryz.func145, Tryz.ntmps145
  go_wp2_with fail
  refine (fits4_any _ h0 h1).mono ?_
  rintro e w1 ⟨rfl, rfl⟩
  go_wp2_with fail
  refine (bclone_any _ HS.o (by omega)).mono ?_
  rintro e w2 ⟨v2, rfl, ho2, hb2⟩
  have HB := Lh hb2
  have HO := Lh ho2
  clear hb2 ho2
  go_wp2_with fail
  refine (put4_any _ HO.o HB.o.size h0 h1 (by rw [← HL.o]; omega)).mono ?_
  rintro e w3 ⟨v3, rfl, hg3⟩
  have HG := Lh hg3
  clear hg3
  go_wp2_with fail
  go_ret2
  exact ⟨_, rfl, HG.o.own, HB.o.trans HG.o.bel⟩
set_option maxHeartbeats 8000000 in
theorem take8_any {a : Option Addr} {n c : Nat} {xs : List Int} (w : World) (hS : ShI .u8 w a n xs) (hu : Bytes xs) (h8 : 8 ≤ n) (hn : n ≤ 16000) :
    Calls Tryz.prog 146 #[.slice a n c, .int .i64 0, .int .i64 8] w fun e w' => e = .returned (.tuple #[.int .u64 (beN (xs.take 8)), .int .i64 8, .int .i64 0]) ∧ w' = w := by
  have HL := Lh hS.len
  have HB := Lh hu
  obtain ⟨s, o, rfl, hs, HC⟩ : ∃ s o, a = some ⟨s, o, none⟩ ∧ s < w.heap.size ∧ Hid (∀ i, i < 8 → w.cell? ⟨s, o + i, none⟩ = some (.int .u8 (xs.getD i 0))) := by
   rcases hS with ⟨h1, _⟩ | ⟨s, o, h0, h1, h2, h3⟩
   · omega
   · exact ⟨s, o, h0, h2, fun i hi => h3 i (by omega)⟩
  have d1 : decide ((n : Int) < 0) = false := decide_eq_false (by omega)
  have d2 : decide ((n : Int) < 8) = false := decide_eq_false (by omega)
  have w0 : IntKind.i64.wrap (n : Int) = (n : Int) := IntWalk.i64_in _ (by omega)
  clear hS hu
  go_enter Tryz.func146, Tryz.ntmps146
  go_wp2_with fail
  clear d1 d2 w0
  go_loop [6, 9, 33] (fun c6 _ c33 => ∃ k : Nat, k ≤ 8 ∧ c33 = .int .i64 k ∧ c6 = .int .u64 (beN (xs.take k))) (fun _ _ i => 8 - (intOf i).toNat)
  case atStart => exact ⟨0, by omega, rfl, rfl⟩
  case round =>
   obtain ⟨k, hk, rfl, rfl⟩ := hrel
   by_cases hlt : k < 8
   · have hck := HC.o k hlt
     have HN := Lh (beN_snoc xs k (by have := HL.o; omega))
     obtain ⟨n0, n1⟩ := beN_bound HB.o k (by have := HL.o; omega)
     have n2 := pow256_le k hlt
     obtain ⟨c0, c1⟩ := HB.o.get k
     generalize xs.getD k 0 = b at hck HN c0 c1
     generalize beN (xs.take k) = m at HN n0 n1
     have n3 : m < 72057594037927936 := by omega
     clear n1 n2
     have hor := or_byte n0 n3 c0 c1
     have i1 : (k : Int) < (n : Int) := by omega
     have i2 : (k : Int) < 8 := by omega
     have i3 : (0 : Int) ≤ (k : Int) := by omega
     go_wp2_with fail
     go_round
     case rel => exact ⟨k + 1, by omega, by go_num, by rw [HN.o]⟩
     case measure => simp [intOf]; omega
   · obtain rfl : k = 8 := by omega
     go_wp2_with fail
     refine bodyPost_ret (v := .tuple #[.int .u64 (beN (xs.take 8)), .int .i64 8, .int .i64 0]) ?_ rfl ⟨rfl, rfl⟩
     simp [results, go_sem]
open Go Go.RowKit Go.Shelf Num Sha
attribute [local go_sem] Oper.semAt_some
section
variable {P : Program} {ops : Array Oper} {Q : Exit → Act → World → Prop} {n : Nat}
theorem oper_inW {o : Oper} (hd : Op.noDefer o.op = true) {a : Act} {w : World} {K : Act → World → Prop} (h : o.wp P a w K (OnlyN Q)) : o.wpIn Fence.wide n P a w K Q := by
 refine ⟨fun _ _ => trivial, ?_⟩
 rw [Oper.semAt_plain _ _ _ (fun c hc => by rw [hc] at hd; cases hd)]
 unfold Oper.wp at h
 generalize (execOp a.eval o).run P w = r at *
 cases r with
 | ok x w' =>
  cases x <;> simp only [Oper.upon, Oper.uponIn] at h ⊢ <;> first | exact h | skip
  case enter f args =>
   refine ⟨(fun hx => by cases hx), callsIn_wide.2 (Calls.mono h fun e w'' he => ?_)⟩
   cases e with
   | returned v => exact he
   | panicked c => exact he.elim
   | outgrown => exact (OnlyN.never he).elim
  case row row args =>
   refine ⟨(fun hx => by cases hx), fun c cs _ => ?_⟩
   obtain ⟨v, w', r, s⟩ := h c cs
   exact ⟨v, w', r, stepsIn_wide.2 s⟩
 | halt x w' => cases x <;> simp only [Oper.upon, Oper.uponIn] at h ⊢ <;> exact h.elim
end
theorem wpListIn_ofW {P : Program} {ops : Array Oper} {Q : Exit → Act → World → Prop} {n : Nat} : ∀ (os : List Oper) (a : Act) (w : World), (∀ o ∈ os, Op.noDefer o.op = true) → wpList P ops (OnlyN Q) os a w → wpListIn Fence.wide n P ops Q os a w
  | [], _, _, _, h => h
  | o :: rest, a, w, hd, h => by
   simp only [wpList] at h
   unfold wpListIn
   by_cases hw : Region.wanted o (yielded ops a.tmps) = true
   · rw [if_pos hw] at h
     rw [if_pos hw]
     rcases h with h | h
     · exact Oper.wpIn_mono (fun a' w' h' => wpListIn_ofW rest a' w' (fun x hx => hd x (List.mem_cons_of_mem _ hx)) h') (oper_inW (hd o (List.mem_cons_self ..)) h)
     · exact (OnlyN.never h.2).elim
   · rw [if_neg hw] at h
     rw [if_neg hw]
     exact ⟨fun _ _ => trivial, wpListIn_ofW rest _ _ (fun x hx => hd x (List.mem_cons_of_mem _ hx)) h⟩
def tryB (seed : List Int) (i : Int) (k : Nat) : List Int := seed ++ be4 i ++ be4 (k : Int)
def tryS (seed : List Int) (i : Int) (k : Nat) : Int := beN ((shaS (tryB seed i k)).take 8)
def Kc (W W' : World) : Prop := W.heap.size ≤ W'.heap.size ∧ ∀ p v, W.cell? p = some v → W'.cell? p = some v
theorem Kc.refl (W : World) : Kc W W := ⟨Nat.le_refl _, fun _ _ h => h⟩
theorem Kc.trans {A B C : World} (h : Kc A B) (k : Kc B C) : Kc A C := ⟨Nat.le_trans h.1 k.1, fun p v hv => k.2 p v (h.2 p v hv)⟩
theorem Kc.below {W W' : World} (h : Below W.heap.size W W') : Kc W W' := ⟨h.size, fun p v hv => (h.cell (World.block_lt_of_cell? W _ hv)).trans hv⟩
theorem Kc.put (W : World) (l : Nat) (o o' : Obj) (h : W.heap[l]? = some o) (ho : o.isCells = false) : Kc W (W.putObj l o') := by
 have hg := grownBy_putObj' W l o'
 refine ⟨hg.size, fun p v hv => ?_⟩
 have hb : p.block ≠ l := by
  intro e
  unfold World.cell? at hv
  rw [e, h] at hv
  cases o <;> simp [Obj.isCells] at ho hv
 exact (World.cell?_of_block (w := W) (a := p) (hg.block p.block (World.block_lt_of_cell? W _ hv) (fun e => hb (by cases e; rfl)))).trans hv
theorem ShI.kc {q : IntKind} {W W' : World} {a : Option Addr} {n : Nat} {xs : List Int} (h : ShI q W a n xs) (k : Kc W W') : ShI q W' a n xs := by
 rcases h with h | ⟨s, o, h0, h1, h2, h3⟩
 · exact .inl h
 · exact .inr ⟨s, o, h0, h1, Nat.lt_of_lt_of_le h2 k.1, fun i hi => k.2 _ _ (h3 i hi)⟩
theorem Tabs.kc {W W' : World} (h : Tabs W) (k : Kc W W') : Tabs W' :=
  ⟨fun t ht => k.2 _ _ (h.k t ht), fun i hi => k.2 _ _ (h.f i hi), Nat.lt_of_lt_of_le h.klt k.1, Nat.lt_of_lt_of_le h.flt k.1⟩
structure UrnB (W : World) (Bu Bi : Nat) (seed : List Int) (i : Int) : Prop where
  u : ∀ j, j < seed.length → W.cell? ⟨Bu, j, none⟩ = some (.int .u8 (seed.getD j 0))
  i : W.cell? ⟨Bi, 0, none⟩ = some (.int .u32 i)
theorem UrnB.kc {W W' : World} {Bu Bi : Nat} {seed : List Int} {i : Int} (h : UrnB W Bu Bi seed i) (k : Kc W W') : UrnB W' Bu Bi seed i := ⟨fun j hj => k.2 _ _ (h.u j hj), k.2 _ _ h.i⟩
theorem UrnB.sh {W : World} {Bu Bi : Nat} {seed : List Int} {i : Int} (h : UrnB W Bu Bi seed i) (hl : seed.length = 32) : ShI .u8 W (some ⟨Bu, 0, none⟩) 32 seed :=
  .inr ⟨Bu, 0, rfl, hl.symm, World.block_lt_of_cell? W _ (h.u 0 (by omega)), fun j hj => by rw [Nat.zero_add]; exact h.u j hj⟩
set_option maxHeartbeats 8000000 in
theorem tries1_in (n : Nat) (hn : 1 ≤ n) (l Bu Bi : Nat) {seed : List Int} {i : Int} (hi0 : 0 ≤ i) (hi1 : i < 4294967296) (hsl : seed.length = 32) (hby : ByteL seed) (J Jx : List Nat → World → Prop)
    (hY : ∀ pre x W, J pre W → pre.length < 16 → YieldAt Fence.wide (n - 1) Tryz.prog l #[.int .u64 (tryS seed i x)] W fun e W' =>
      (e = .returned (.bool true) ∧ J (pre ++ [x]) W' ∧ Kc W W') ∨ (e = .returned (.bool false) ∧ Jx (pre ++ [x]) W'))
    (hJg : ∀ pre A B, J pre A → Below A.heap.size A B → J pre B)
    (W : World) (hT : Tabs W) (hU : UrnB W Bu Bi seed i) (h0 : J [] W) :
    CallsIn Fence.wide n Tryz.prog 144 #[.func (.yield l) #[] #[], .pointer (some ⟨Bu, 0, none⟩), .pointer (some ⟨Bi, 0, none⟩)] W fun e W' => (∃ v, e = .returned v) ∧
      ((∃ ys, ys = List.range 16 ∧ J ys W') ∨ (∃ pre, (∃ k, k ≤ 16 ∧ pre = List.range k) ∧ Jx pre W')) := by
  have HT := Lh hT
  have HU := Lh hU
  have HJ := Lh hJg
  have HY := Lh hY
  have H0 := Lh h0
  have HBY := Lh hby
  have HSL := Lh hsl
  have ci := hU.i
  have wi : IntKind.u64.wrap i = i := IntWalk.u64_in _ (by omega)
  clear hT hU hJg hY h0 hby hsl
  refine callsIn_of_wp Tryz.func144 rfl trivial ?_ rfl
  simp only [Tryz.ntmps144, List.size_toArray, List.length_cons, List.length_nil, Nat.reduceAdd, Nat.reduceSub, Array.replicate_succ, Array.replicate_zero, List.push_toArray, List.append_toArray, List.nil_append, List.cons_append]
  gi_wp2_with fail
  refine wpIn_wide.2 ?_
  go_region_law (first
    | (go_simp
       go_at_call 145
       refine (put_any _ ((HU.o.sh HSL.o).kc (Kc.below (Below.refl _ _).drew)) hi0 hi1 (by decide)).mono ?_
       rintro e w1 ⟨v1, rfl, ho1, hb1⟩
       obtain ⟨a1, c1, rfl, hs1⟩ := ShI.of_owned (show w1.ownsRow _ _ 1 _ (seed ++ be4 i).length ((seed ++ be4 i).map (Value.int .u8)) from ho1)
       rw [show (seed ++ be4 i).length = 36 by rw [List.length_append, be4_len, HSL.o]] at hs1 ⊢
       have HH := Lh hs1
       have HB1 := Lh (show Below W.heap.size W w1 from (Below.refl _ _).drew.trans hb1)
       clear ho1 hb1 hs1))
  gi_wp2_with fail
  have HT1 := Lh (HT.o.kc (Kc.below HB1.o))
  have HJ1 := Lh (HJ.o _ _ _ H0.o HB1.o)
  clear ci wi HT HU H0
  gi_loopw [21] (fun c21 wr => ∃ k : Nat, k ≤ 16 ∧ c21 = .int .u64 k ∧ Hid (J (List.range k) wr) ∧ Hid (Kc w1 wr)) (fun c21 _ => 16 - (intOf c21).toNat)
  case atStart => exact ⟨0, by omega, rfl, HJ1.o, Kc.refl _⟩
  case round =>
   clear HJ1
   obtain ⟨k, hk, rfl, HJ1, HK⟩ := hrel
   by_cases hlt : k < 16
   case pos =>
    have hd : decide ((k : Int) < 16) = true := decide_eq_true (by omega)
    have HB := Lh (show ByteL (seed ++ be4 i ++ be4 (k : Int)) from fun x hx => by
     rcases List.mem_append.1 hx with hx | hx
     · rcases List.mem_append.1 hx with hx | hx
       · exact HBY.o x hx
       · exact be4_bytes _ x hx
     · exact be4_bytes _ x hx)
    have HLX := Lh (show (seed ++ be4 i ++ be4 (k : Int)).length = 40 by rw [List.length_append, List.length_append, be4_len, be4_len, HSL.o])
    have HTS := Lh (show tryS seed i k = beN ((shaS (seed ++ be4 i ++ be4 (k : Int))).take 8) from rfl)
    have HBB := Lh (show Bytes (shaS (seed ++ be4 i ++ be4 (k : Int))) from shaS_bytes _)
    have hwk : IntKind.u64.wrap ((k : Int) + 1) = (k : Int) + 1 := IntWalk.u64_in _ (by omega)
    have HPT := Lh (put_any (c := c1) wr (HH.o.kc HK.o) (x := (k : Int)) (by omega) (by omega) (by decide))
    gi_wp2_with fail
    refine ⟨trivial, ?_⟩
    refine (callsIn_wide.2 HPT.o).mono ?_
    rintro e w5 ⟨v5, rfl, ho5, hb5⟩
    obtain ⟨X, hX⟩ : ∃ X, seed ++ be4 i ++ be4 (k : Int) = X := ⟨_, rfl⟩
    rw [hX] at HB HLX HTS HBB ho5
    obtain ⟨a5, c5, rfl, hs5⟩ := ShI.of_owned (show w5.ownsRow _ _ 1 _ X.length (X.map (Value.int .u8)) from ho5)
    rw [HLX.o] at hs5 ⊢
    have H5 := Lh hs5
    have HB5 := Lh (show Below wr.heap.size wr w5 from hb5)
    have HT5 := Lh (HT1.o.kc (HK.o.trans (Kc.below hb5)))
    clear ho5 hb5 hs5 hX HPT
    gi_wp2_with (refine wpListIn_ofW _ _ _ (List.all_eq_true.1 (by kernel_rfl)) ?_)
    go_wp2_with fail
    unfold OnlyN
    gi_wp2_with (refine wpListIn_ofW _ _ _ (List.all_eq_true.1 (by kernel_rfl)) ?_)
    obtain ⟨wo, rfl⟩ : ∃ wo, wo = w5 := ⟨_, rfl⟩
    go_wp2_with (first
      | (go_at_call 119; refine (dSum_any wo HT5.o H5.o (by decide) HB.o).mono ?_; rintro e w6 ⟨rfl, hb6⟩; have HB6 := Lh (HB5.o.trans (hb6.mono HB5.o.size)); clear hb6)
      | (refine wpL_allocArr rfl 26 .u8 32 rfl (by kernel_rfl) ?_; intro wa h1; have F_a := Lh h1.arr; have HBA := Lh (HB6.o.trans (h1.below _ HB6.o.size)); clear h1; simp only [sY])
      | (refine wpL_storeArr rfl 26 .u8 _ _ w6.heap.size (shaS X) _ rfl rfl rfl rfl (by kernel_rfl) F_a.o rfl ?_; intro wb h9; have F_b := Lh (show ShI .u8 wb (some ⟨w6.heap.size, 0, none⟩) 32 (shaS X) from .inr ⟨_, _, rfl, rfl, by rw [h9.size]; exact F_a.o.lt, fun j hj => h9.row j hj⟩); have HB9 := Lh (HBA.o.trans (h9.below _ HB6.o.size)); clear h9))
    unfold OnlyN
    gi_wp2_with fail
    refine ⟨trivial, ?_⟩
    refine (callsIn_wide.2 (take8_any wb F_b.o HBB.o (by decide) (by decide))).mono ?_
    rintro e w7 ⟨rfl, rfl⟩
    rw [← HTS.o]
    obtain ⟨fn, tmps, assign, body, hy, hR⟩ := HY.o _ k w7 (HJ.o _ _ _ HJ1.o HB9.o) (by rw [List.length_range]; exact hlt)
    gi_wp2
    refine hR.mono ?_
    rintro e W3 (⟨rfl, hJ3, hk3⟩ | ⟨rfl, hJx3⟩)
    · gi_wp2
      go_roundw
      case rel => exact ⟨k + 1, by omega, by go_num, by rw [List.range_succ]; exact hJ3, HK.o.trans ((Kc.below HB9.o).trans hk3)⟩
      case measure => simp [intOf]; omega
    · gi_wp2
      refine bodyPost_ret (results_none rfl _ _ _) rfl ?_
      exact ⟨⟨_, rfl⟩, .inr ⟨_, ⟨k + 1, by omega, (List.range_succ).symm⟩, hJx3⟩⟩
   case neg =>
    obtain rfl : k = 16 := by omega
    gi_wp2
    go_end0
    first | exact ⟨⟨_, rfl⟩, .inl HJ1.o⟩ | exact ⟨⟨_, rfl⟩, .inl ⟨_, rfl, HJ1.o⟩⟩
set_option maxHeartbeats 8000000 in
theorem tries_in (n : Nat) {seed : List Int} {i : Int} (w : World) :
    CallsIn Fence.wide n Tryz.prog 124 #[.agg (valV .u8 seed), .int .u32 i] w fun e w' => e = .returned (.func (.func 144) #[] #[.pointer (some ⟨w.heap.size, 0, none⟩), .pointer (some ⟨w.heap.size + 1, 0, none⟩)]) ∧ w' = (w.alloc (.cells (valV .u8 seed) 141)).alloc (.cells #[.int .u32 i] 108) := by
  refine callsIn_of_wp Tryz.func124 rfl trivial ?_ rfl
  simp only [Tryz.ntmps124, List.size_toArray, List.length_cons, List.length_nil, Nat.reduceAdd, Nat.reduceSub, Array.replicate_succ, Array.replicate_zero, List.push_toArray, List.append_toArray, List.nil_append, List.cons_append]
  gi_wp2
  go_ret
  exact ⟨rfl, rfl⟩
theorem UrnB.new {seed : List Int} {i : Int} (w : World) (T T' : TypeId) : UrnB ((w.alloc (.cells (valV .u8 seed) T)).alloc (.cells #[.int .u32 i] T')) w.heap.size (w.heap.size + 1) seed i := by
 refine ⟨fun j hj => ?_, ?_⟩
 · have h := ((Arr.new .u8 w seed T _ rfl).alloc (.cells #[.int .u32 i] T')).c j hj
   exact h
 · simp
theorem tries_stops (n : Nat) (hn : 1 ≤ n) (Bu Bi : Nat) {seed : List Int} {i : Int} (hi0 : 0 ≤ i) (hi1 : i < 4294967296) (hsl : seed.length = 32) (hby : ByteL seed) (w : World) (hT : Tabs w) (hU : UrnB w Bu Bi seed i) :
    SeqStopsK Fence.wide n Tryz.prog 144 #[.pointer (some ⟨Bu, 0, none⟩), .pointer (some ⟨Bi, 0, none⟩)] (fun x : Nat => #[Value.int .u64 (tryS seed i x)]) Kc (fun ys => ys = List.range 16) (fun pre => ∃ k, k ≤ 16 ∧ pre = List.range k) 16 w := fun l J Jx W hW hJo _ hY h0 => by
  refine (tries1_in n hn l Bu Bi hi0 hi1 hsl hby J Jx hY (fun pre A B h hb => hJo pre A B none h ⟨hb.os, hb.tape, hb.output, hb.size, fun k hk _ => hb.block k hk⟩ (fun r e => by cases e)) W (hT.kc (Kc.below hW)) (hU.kc (Kc.below hW)) h0).mono ?_
  rintro e W' ⟨he, ⟨ys, rfl, hj⟩ | ⟨pre, hk, hj⟩⟩
  · exact ⟨he, .inl ⟨_, rfl, hj⟩⟩
  · exact ⟨he, .inr ⟨_, hk, hj⟩⟩
open Go.RowKit Num
set_option maxHeartbeats 1000000 in
theorem ppow_ok {P Q G a x v : Int} (w : World) (hH : Has P Q G) (a0 : 0 ≤ a) (aP : a < P) (ux : U64 x) (hv : powm a x P = v) :
    Calls Tryz.prog 68 #[.agg #[.int .u64 P, .int .u64 Q, .int .u64 G], .int .u64 a, .int .u64 x] w fun e w' => e = .returned (.int .u64 v) ∧ Below w.heap.size w w' := by
  have HH := Lh hH
  have HV := Lh hv
  clear hH hv
  have UX := Lh ux
  clear ux
  have F_g := Lh (show Boxed (w.alloc (.cells #[.int .u64 P, .int .u64 Q, .int .u64 G] 24)) (w.heap.size) P Q G from Boxed.at _ P Q G _ (w.heap.size) (by simp))
  have HBW := Lh (show Below w.heap.size w (w.alloc (.cells #[.int .u64 P, .int .u64 Q, .int .u64 G] 24)) from (Below.refl _ _).alloc (by simp <;> omega) _)
  go_enter Tryz.func68, Tryz.ntmps68
  obtain ⟨x0a, x0b, x0c, -⟩ := id F_g.o
  go_wp2_with fail
  clear x0a x0b x0c
  refine (pow_ok P Q G a x v _ HH.o a0 aP UX.o HV.o).mono ?_
  rintro e w1 ⟨rfl, hb1⟩
  replace F_g := Lh (F_g.o.keep hb1)
  replace HBW := Lh (HBW.o.trans (hb1.mono HBW.o.size))
  clear hb1
  obtain ⟨x0a, x0b, x0c, -⟩ := id F_g.o
  go_wp2_with fail
  go_ret
  exact ⟨rfl, HBW.o⟩
set_option maxHeartbeats 1000000 in
theorem pmul_ok {P Q G a b v : Int} (w : World) (hH : Has P Q G) (a0 : 0 ≤ a) (aP : a < P) (b0 : 0 ≤ b) (bP : b < P) (hv : a * b % P = v) :
    Calls Tryz.prog 67 #[.agg #[.int .u64 P, .int .u64 Q, .int .u64 G], .int .u64 a, .int .u64 b] w fun e w' => e = .returned (.int .u64 v) ∧ Below w.heap.size w w' := by
  have HH := Lh hH
  have HV := Lh hv
  clear hH hv
  have F_g := Lh (show Boxed (w.alloc (.cells #[.int .u64 P, .int .u64 Q, .int .u64 G] 24)) (w.heap.size) P Q G from Boxed.at _ P Q G _ (w.heap.size) (by simp))
  have HBW := Lh (show Below w.heap.size w (w.alloc (.cells #[.int .u64 P, .int .u64 Q, .int .u64 G] 24)) from (Below.refl _ _).alloc (by simp <;> omega) _)
  go_enter Tryz.func67, Tryz.ntmps67
  obtain ⟨x0a, x0b, x0c, -⟩ := id F_g.o
  go_wp2_with fail
  clear x0a x0b x0c
  refine (mul_ok P Q G a b v _ HH.o a0 aP b0 bP HV.o).mono ?_
  rintro e w1 ⟨rfl, hb1⟩
  replace F_g := Lh (F_g.o.keep hb1)
  replace HBW := Lh (HBW.o.trans (hb1.mono HBW.o.size))
  clear hb1
  obtain ⟨x0a, x0b, x0c, -⟩ := id F_g.o
  go_wp2_with fail
  go_ret
  exact ⟨rfl, HBW.o⟩
set_option maxHeartbeats 1000000 in
theorem pneg_ok {P Q G x v : Int} (w : World) (hH : Has P Q G) (x0 : 0 ≤ x) (xQ : x < Q) (hv : (0 - x) % Q = v) :
    Calls Tryz.prog 66 #[.agg #[.int .u64 P, .int .u64 Q, .int .u64 G], .int .u64 x] w fun e w' => e = .returned (.int .u64 v) ∧ Below w.heap.size w w' := by
  have HH := Lh hH
  have HV := Lh hv
  clear hH hv
  have q0 : 0 < Q := by have := HH.o; unfold Has at this; omega
  have F_g := Lh (show Boxed (w.alloc (.cells #[.int .u64 P, .int .u64 Q, .int .u64 G] 24)) (w.heap.size) P Q G from Boxed.at _ P Q G _ (w.heap.size) (by simp))
  have HBW := Lh (show Below w.heap.size w (w.alloc (.cells #[.int .u64 P, .int .u64 Q, .int .u64 G] 24)) from (Below.refl _ _).alloc (by simp <;> omega) _)
  go_enter Tryz.func66, Tryz.ntmps66
  obtain ⟨x0a, x0b, x0c, -⟩ := id F_g.o
  go_wp2_with fail
  clear x0a x0b x0c
  refine (subExp_ok P Q G 0 x v _ HH.o (Int.le_refl 0) q0 x0 xQ HV.o).mono ?_
  rintro e w1 ⟨rfl, hb1⟩
  replace F_g := Lh (F_g.o.keep hb1)
  replace HBW := Lh (HBW.o.trans (hb1.mono HBW.o.size))
  clear hb1
  obtain ⟨x0a, x0b, x0c, -⟩ := id F_g.o
  go_wp2_with fail
  go_ret
  exact ⟨rfl, HBW.o⟩
set_option maxHeartbeats 4000000 in
theorem peqn_any {P Q G base y r c s : Int} {v : Bool} (w : World) (hH : Has P Q G) (b0 : 0 ≤ base) (bP : base < P) (y0 : 0 ≤ y) (yP : y < P) (r0 : 0 ≤ r) (rP : r < P) (uc : U64 c) (us : U64 s) (hv : v = true ↔ powm base s P = r * powm y c P % P) :
    Calls Tryz.prog 150 #[.agg #[.int .u64 P, .int .u64 Q, .int .u64 G], .int .u64 base, .int .u64 y, .int .u64 r, .int .u64 c, .int .u64 s] w fun e w' => e = .returned (.bool v) ∧ Below w.heap.size w w' := by
  obtain ⟨a, ha⟩ : ∃ a, powm base s P = a := ⟨_, rfl⟩
  obtain ⟨b, hb⟩ : ∃ b, powm y c P = b := ⟨_, rfl⟩
  have p5 := hH.1
  have q0 : 0 ≤ b := by rw [← hb]; exact powm_nonneg (by omega)
  have qP : b < P := by rw [← hb]; exact powm_lt (by omega)
  obtain ⟨t, ht⟩ : ∃ t, r * b % P = t := ⟨_, rfl⟩
  have HZ := Lh (show (a == t) = v by rw [ha, hb, ht] at hv; rw [Bool.eq_iff_iff, hv]; simp)
  have HA := Lh ha
  have HB := Lh hb
  have HT := Lh ht
  have UC := Lh uc
  have US := Lh us
  have HH := Lh hH
  clear ha hb ht hv uc us hH
  have F_g := Lh (show Boxed (w.alloc (.cells #[.int .u64 P, .int .u64 Q, .int .u64 G] 24)) (w.heap.size) P Q G from Boxed.at _ P Q G _ (w.heap.size) (by simp))
  have HBW := Lh (show Below w.heap.size w (w.alloc (.cells #[.int .u64 P, .int .u64 Q, .int .u64 G] 24)) from (Below.refl _ _).alloc (by simp <;> omega) _)
  go_enter Tryz.func150, Tryz.ntmps150
  obtain ⟨x0a, x0b, x0c, -⟩ := id F_g.o
  go_wp2_with fail
  clear x0a x0b x0c
  replace F_g := Lh F_g.o.drew
  replace HBW := Lh HBW.o.drew
  have hS := F_g.o.s
  refine wp_region_stage 12 (fun w' => SBox w' w.heap.size P Q G) (by kernel_rfl) ?_
  refine tkL (i := 0) (some 13) (.load 24 (.tmp 6)) 24 [3, 9, 10, 11, 12] (v := ?_) hS (fun w' hSw => ?_) ?_
  rotate_left
  · obtain ⟨s0, s1, s2⟩ := hSw
    unfold bareOp; go_simp; try with_reducible rfl
  simp only [sY]
  refine tkQ 1 (some 14) (.move (.tmp 1)) 22 ?_
  simp only [sY]
  refine tkQ 2 (some 15) (.move (.tmp 5)) 22 ?_
  simp only [sY]
  refine tkL (i := 4) (some 17) (.load 24 (.tmp 6)) 24 [10, 11, 12] (v := ?_) hS (fun w' hSw => ?_) ?_
  rotate_left
  · obtain ⟨s0, s1, s2⟩ := hSw
    unfold bareOp; go_simp; try with_reducible rfl
  simp only [sY]
  refine tkQ 5 (some 18) (.move (.tmp 3)) 22 ?_
  simp only [sY]
  refine tkL (i := 6) (some 19) (.load 24 (.tmp 6)) 24 [9, 10, 11, 12] (v := ?_) hS (fun w' hSw => ?_) ?_
  rotate_left
  · obtain ⟨s0, s1, s2⟩ := hSw
    unfold bareOp; go_simp; try with_reducible rfl
  simp only [sY]
  refine tkQ 7 (some 20) (.move (.tmp 2)) 22 ?_
  simp only [sY]
  refine tkQ 8 (some 21) (.move (.tmp 4)) 22 ?_
  simp only [sY]
  refine onl (i := 3) (some 16) (.call { callee := .value (.func 68), args := #[.tmp 13, .tmp 14, .tmp 15], argTypes := #[24, 22, 22] }) 22 (fun K hK => ?_)
  unfold bareOp
  go_wp2_with (go_at_call 68; refine (ppow_ok _ HH.o b0 bP US.o HA.o).mono ?_; rintro e w1 ⟨rfl, hb1⟩)
  replace F_g := Lh (F_g.o.keep hb1)
  replace HBW := Lh (HBW.o.trans (hb1.mono HBW.o.size))
  replace hS := F_g.o.s
  clear hb1
  refine hK.o _ _ (fun _ => hS) ?_
  clear hK K
  try simp only [sY]
  refine onl (i := 9) (some 22) (.call { callee := .value (.func 68), args := #[.tmp 19, .tmp 20, .tmp 21], argTypes := #[24, 22, 22] }) 22 (fun K hK => ?_)
  unfold bareOp
  go_wp2_with (go_at_call 68; refine (ppow_ok _ HH.o y0 yP UC.o HB.o).mono ?_; rintro e w2 ⟨rfl, hb2⟩)
  replace F_g := Lh (F_g.o.keep hb2)
  replace HBW := Lh (HBW.o.trans (hb2.mono HBW.o.size))
  replace hS := F_g.o.s
  clear hb2
  refine hK.o _ _ (fun _ => hS) ?_
  clear hK K
  try simp only [sY]
  refine onl (i := 10) (some 23) (.call { callee := .value (.func 67), args := #[.tmp 17, .tmp 18, .tmp 22], argTypes := #[24, 22, 22] }) 22 (fun K hK => ?_)
  unfold bareOp
  go_wp2_with (go_at_call 67; refine (pmul_ok _ HH.o r0 rP q0 qP HT.o).mono ?_; rintro e w3 ⟨rfl, hb3⟩)
  replace F_g := Lh (F_g.o.keep hb3)
  replace HBW := Lh (HBW.o.trans (hb3.mono HBW.o.size))
  replace hS := F_g.o.s
  clear hb3
  refine hK.o _ _ (fun _ => hS) ?_
  clear hK K
  try simp only [sY]
  refine tkQ 11 (some 24) (.binOp .eql 22 (.tmp 16) (.tmp 23) 22) 4 ?_
  simp only [sY]
  refine onl (i := 12) (some 12) (.assign (.tmp 24)) 4 (fun K hK => ?_)
  unfold bareOp
  go_wp2_with fail
  refine hK.o _ _ lt8 ?_
  clear hK K
  try simp only [sY]
  refine wpAnyB_done (by kernel_rfl) ?_ _
  obtain ⟨x0a, x0b, x0c, -⟩ := id F_g.o
  go_wp2_with fail
  go_ret
  exact ⟨ret_bool HZ.o, HBW.o⟩
structure Three (w : World) (b : Nat) (x y z : Int) : Prop where
  c0 : w.cell? ⟨b, 0, none⟩ = some (.int .u64 x)
  c1 : w.cell? ⟨b, 1, none⟩ = some (.int .u64 y)
  c2 : w.cell? ⟨b, 2, none⟩ = some (.int .u64 z)
  lt : b < w.heap.size
theorem Three.at (w : World) (x y z : Int) (T : TypeId) (b : Nat) (hb : b = w.heap.size) : Three (w.alloc (.cells #[.int .u64 x, .int .u64 y, .int .u64 z] T)) b x y z := by
 subst hb
 refine ⟨?_, ?_, ?_, by simp⟩
 · rw [World.cell?_alloc_new]; rfl
 · rw [World.cell?_alloc_new]; rfl
 · rw [World.cell?_alloc_new]; rfl
theorem Three.keep {w w' : World} {b : Nat} {x y z : Int} (h : Three w b x y z) (hb : Below w.heap.size w w') : Three w' b x y z :=
  ⟨(hb.cell (p := ⟨b, 0, none⟩) h.lt).trans h.c0, (hb.cell (p := ⟨b, 1, none⟩) h.lt).trans h.c1, (hb.cell (p := ⟨b, 2, none⟩) h.lt).trans h.c2, Nat.lt_of_lt_of_le h.lt hb.size⟩
theorem Three.drew {w : World} {b : Nat} {x y z : Int} (h : Three w b x y z) : Three w.drew b x y z := h.keep (Below.refl _ _).drew
theorem Three.alloc {w : World} {b : Nat} {x y z : Int} (h : Three w b x y z) (o : Obj) : Three (w.alloc o) b x y z := h.keep ((Below.refl _ _).alloc (Nat.le_refl _) o)
open Go Go.RowKit Num Sha
theorem plong_any {a : Option Addr} {n c : Nat} {r : Int} (w : World) (hr : lgS 0 n = r) : Calls Tryz.prog 65 #[.slice a n c] w fun e w' => e = .returned (.int .i64 r) ∧ w = w' := by
 by_cases hn : 8000 < n
 · obtain rfl : r = 4 := by rw [← hr]; exact lgS_four rfl hn
   have hd : decide ((8000 : Int) < (n : Int)) = true := by simp; omega
   have hdn : decide (8000 < n) = true := by simp; omega
   clear hr
   go_enter Tryz.func65, Tryz.ntmps65
   go_wp2_with fail
   go_ret
   exact ⟨rfl, rfl⟩
 · obtain rfl : r = 0 := by rw [← hr]; exact lgS_ok rfl (by omega)
   have hd : decide ((8000 : Int) < (n : Int)) = false := by simp; omega
   have hdn : decide (8000 < n) = false := by simp; omega
   clear hr
   go_enter Tryz.func65, Tryz.ntmps65
   go_wp2_with fail
   go_ret
   exact ⟨rfl, rfl⟩
set_option maxHeartbeats 4000000 in
theorem pchallenge_any {P Q G v : Int} {a tx : Option Addr} {m d n cp : Nat} {ns T : List Int} (w : World) (hT : Txt w tx n T) (hH : Has P Q G) (hs : ShL w a m d ns) (hu : ∀ x, x ∈ ns → U64 x) (hm : m ≤ 20) (hn : n ≤ 8000) (hv : chV Q ns T = v) :
    Calls Tryz.prog 100 #[.agg #[.int .u64 P, .int .u64 Q, .int .u64 G], .slice tx n cp, .slice a m d] w fun e w' => e = .returned (.int .u64 v) ∧ Below w.heap.size w w' := by
  obtain ⟨i0, hi, hz0, hz1, hz2⟩ := info_parts (P := Tryz.prog) (e := 5) (z := .int .u8 0) (size := 1) (bytes := 1) (by kernel_rfl)
  have HTL := Lh hT.sh.len
  have HL := Lh hs.len
  have HU := Lh hu
  have HT := Lh hT
  have HS0 := Lh hs
  clear hs hu hT
  obtain ⟨D, hD⟩ : ∃ D, shaS (flat8 ns ++ T) = D := ⟨_, rfl⟩
  have HLD := Lh (show D.length = 32 by rw [← hD, shaS_len])
  have HBD := Lh (show Bytes D by rw [← hD]; exact shaS_bytes _)
  have HD := Lh hD
  have HV := Lh (show beN (D.take 8) % Q = v by rw [← hv, chV, hD])
  clear hD hv
  obtain ⟨p5, p3, hQ', pq, g2, gP⟩ := id hH
  have hP1 : 1 ≤ P := by omega
  have hGM : G < 2147483648 := by omega
  have q3 : Q < 1073741824 := by omega
  have q2 : 2 ≤ Q := by omega
  have HH := Lh hH
  clear hH pq
  have F_g0 := Lh (show Boxed (w.alloc (.cells #[.int .u64 P, .int .u64 Q, .int .u64 G] 24)) (w.heap.size) P Q G from Boxed.at _ P Q G _ (w.heap.size) (by simp))
  have HB0 := Lh (show Below w.heap.size w (w.alloc (.cells #[.int .u64 P, .int .u64 Q, .int .u64 G] 24)) from (Below.refl _ _).alloc (by simp <;> omega) _)
  go_enter Tryz.func100, Tryz.ntmps100
  go_wp2_with fail
  generalize w.alloc (.cells #[.int .u64 P, .int .u64 Q, .int .u64 G] 24) = W0 at F_g0 HB0 ⊢
  have HS := Lh (HS0.o.keep HB0.o)
  go_loopw [7, 17] (fun c3 c9 wr => ∃ k : Nat, k ≤ m ∧ c9 = .int .i64 k ∧ Hid (Grew W0 wr W0.heap.size c3 (flat8 (ns.take k)))) (fun _ c9 _ => m - (intOf c9).toNat)
  case atStart => exact ⟨0, by omega, rfl, Grew.nil W0⟩
  case round =>
   obtain ⟨k, hk, rfl, HG⟩ := hrel
   by_cases hlt : k < m
   case neg =>
    obtain rfl : k = m := by omega
    have hll := HL.o
    rw [hll, List.take_length] at HG
    clear hlt hll
    clear hk
    have HLE := Lh HG.o.le
    have HLW := Lh (show w.heap.size ≤ W0.heap.size from HB0.o.size)
    have HLG := Lh (show w.heap.size < W0.heap.size from F_g0.o.lt)
    have F_g := Lh (F_g0.o.keep HG.o.bel)
    have HBW := Lh (HB0.o.trans (HG.o.bel.mono HLW.o))
    have O2 := Lh HG.o.own
    have hnsl := HL.o
    go_wp2_with (at_builtin; refine wpL_append_sh rfl _ _ rfl W0.heap.size _ (flat8 ns) T tx n cp rfl rfl O2.o (HT.o.keep HBW.o).sh (by omega) (by rw [flat8_len]; omega) HLE.o ?_; intro v3 w3 hown hgr; have hb3 := Below.grown (Below.refl W0.heap.size _) hgr HLE.o (fun k hk => (World.ownsRow.lt O2.o k hk).1); have O3 := hown; replace F_g := Lh (F_g.o.under hb3 HLG.o); replace HBW := Lh (HBW.o.trans (hb3.mono HLW.o)); clear hown hgr hb3; simp only [sY])
    obtain ⟨a3, c3, rfl, S3⟩ := O3.shi
    clear HLG HLW HLE O2 O3 HG
    refine (dSum_any _ (HT.o.keep HBW.o).tabs S3 (by have := HTL.o; rw [List.length_append, flat8_len]; omega) ((flat8_bytes _).append HT.o.by8)).mono ?_
    rintro e w4 ⟨he, hb4⟩
    replace F_g := Lh (F_g.o.keep hb4)
    replace HBW := Lh (HBW.o.trans (hb4.mono HBW.o.size))
    clear hb4
    rw [HD.o] at he
    subst he
    clear S3
    go_wp2_with (first
      | (refine wpL_allocArr rfl 26 .u8 32 rfl (by kernel_rfl) ?_; intro wd hd'; have ne_g_d := Nat.ne_of_lt F_g.o.lt; have le_d := HBW.o.size; replace F_g := Lh (F_g.o.keep (hd'.below _ (Nat.le_refl _))); have F_d := Lh hd'.arr; replace HBW := Lh (HBW.o.trans (hd'.below _ HBW.o.size)); clear hd'; simp only [sY])
      | (refine wpL_storeArr rfl 26 .u8 _ _ _ D _ rfl rfl rfl rfl (by rw [HLD.o]; kernel_rfl) F_d.o (by rw [HLD.o]; rfl) ?_; intro ws hs'; replace F_g := Lh (F_g.o.laid hs' ne_g_d); replace F_d := Lh (F_d.o.whole hs'); replace HBW := Lh (HBW.o.trans (hs'.below _ le_d)); clear hs'; obtain ⟨x0a, x0b, x0c, -⟩ := id F_g.o)
      | (refine wpL_loadArr rfl 26 .u8 _ _ _ 32 5 rfl rfl Tryz.underlying26 (by rw [HLD.o]; kernel_rfl) F_d.o ?_; simp only [sY]))
    clear x0a x0b x0c
    refine (fromDigest_ok P Q G v D _ HH.o (by rw [HLD.o]; decide) HBD.o HV.o).mono ?_
    rintro e w7 ⟨rfl, hb7⟩
    replace F_g := Lh (F_g.o.keep hb7)
    replace HBW := Lh (HBW.o.trans (hb7.mono HBW.o.size))
    clear hb7
    go_wp2_with fail
    go_ret
    exact ⟨rfl, HBW.o⟩
   case pos =>
    have hdn : decide (k < m) = true := by simp; omega
    have hd : decide ((k : Int) < (m : Int)) = true := by simp; omega
    have k0 : (0 : Int) ≤ (k : Int) := by omega
    have hw1 : IntKind.i64.wrap ((k : Int) + 1) = (k : Int) + 1 := IntWalk.i64_in _ (by omega)
    obtain ⟨s, rfl, hc⟩ := (HS.o.keep HG.o.bel).at k hlt
    obtain ⟨x, hx⟩ : ∃ x, ns.getD k 0 = x := ⟨_, rfl⟩
    have HUX := Lh (show U64 x from HU.o x (by rw [← hx, List.getD_eq_getElem?_getD, List.getElem?_eq_getElem (by have := HL.o; omega)]; exact List.getElem_mem _))
    have HFL := Lh (show flat8 (ns.take k) ++ be8 x = flat8 (ns.take (k + 1)) from flat8_snoc ns k (by have := HL.o; omega) hx)
    obtain ⟨F, hF⟩ : ∃ F, flat8 (ns.take k) = F := ⟨_, rfl⟩
    have HF := Lh (show F.length ≤ 200 by rw [← hF, flat8_len, List.length_take]; omega)
    rw [hF] at HG HFL
    rw [hx] at hc
    clear hF hx
    go_wp2_with fail
    go_loopw [7, 10] (fun c3 c6 wq => ∃ j : Nat, j ≤ 8 ∧ c6 = .int .i64 (56 - 8 * (j : Int)) ∧ Hid (Grew W0 wq W0.heap.size c3 (F ++ (be8 x).take j))) (fun _ c6 _ => ((intOf c6) + 8).toNat)
    case atStart => exact ⟨0, by omega, rfl, Lh (by simpa using HG.o)⟩
    case round =>
     clear HG
     obtain ⟨j, hj, rfl, HG⟩ := hrel
     by_cases hlj : j < 8
     case neg =>
      obtain rfl : j = 8 := by omega
      rw [take_all8, HFL.o] at HG
      go_wp2_with fail
      go_roundw
      case rel => exact ⟨k + 1, by omega, by go_num, HG⟩
      case measure => simp [intOf]; omega
     case pos =>
      have hd3 : decide ((0 : Int) ≤ 56 - 8 * (j : Int)) = true := by simp; omega
      have hd2 : decide (8 * (j : Int) ≤ 56) = true := by simp; omega
      have hws : IntKind.i64.wrap (56 - 8 * (j : Int) - 8) = 56 - 8 * (j : Int) - 8 := IntWalk.i64_in _ (by omega)
      have p0 : (0 : Int) ≤ 56 - 8 * (j : Int) := by omega
      have e0 : (56 - 8 * (j : Int)).toNat = 56 - 8 * j := by omega
      have hm0 : min (56 - 8 * j) 64 = 56 - 8 * j := by omega
      have x0 := HUX.o.1
      have hpl : (F ++ (be8 x).take j).length ≤ 300 := by have := HF.o; simp [be8_len]; omega
      have HXM := Lh (show (F ++ (be8 x).take j).length + 1 ≤ maxLen by unfold maxLen; omega)
      have HXB := Lh (show ((F ++ (be8 x).take j).length + 1) * 1 ≤ 140737488355328 by omega)
      clear hpl
      go_wp2_with (at_builtin; (refine wpList_append_own _ rfl _ _ 80 rfl W0.heap.size 5 i0 (.int .u8 0) 1 1 Tryz.underlying80 hi hz0 hz1 hz2 rfl (by decide) _ (F ++ (be8 x).take j).length ((F ++ (be8 x).take j).map (Value.int .u8)) rfl (HG.o.own.keep ((Below.refl _ _).alloc (Nat.le_refl _) _)) _ 1 1 [.int .u8 (x / 2 ^ (56 - 8 * j) % 256)] rfl rfl (fun j u hj => by cases j with | zero => simp at hj; subst hj; simp [go_sem] | succ j => simp at hj) (fun u hu => by simp at hu; subst hu; rfl) HXM.o HXB.o (HG.o.leA _) ?_); intro v4 w4 hown hgr hnil; have HG4 := Lh (HG.o.snoc hown hgr); clear hown hgr hnil)
      go_roundw
      case rel => exact ⟨j + 1, by omega, by go_num, by rw [← be8_snoc x j hlj rfl, ← List.append_assoc]; exact HG4.o⟩
      case measure => simp [intOf]; omega
def memsP (P Q : Int) (ns : List Int) : Prop := ∀ x, x ∈ ns → Mem P Q x
set_option maxHeartbeats 4000000 in
theorem pmembers_any {P Q G : Int} {a : Option Addr} {m d : Nat} {ns : List Int} {v : Bool} (w : World) (hH : Has P Q G) (hs : ShL w a m d ns) (hr : ∀ x, x ∈ ns → 0 ≤ x ∧ x < P) (hm : m ≤ 20) (hv : v = true ↔ memsP P Q ns) :
    Calls Tryz.prog 132 #[.agg #[.int .u64 P, .int .u64 Q, .int .u64 G], .slice a m d] w fun e w' => e = .returned (.bool v) ∧ Below w.heap.size w w' := by
  have HS := Lh hs
  have HL := Lh hs.len
  have HR := Lh hr
  have HH := Lh hH
  have HV := Lh hv
  clear hs hr hH hv
  have F_g := Lh (show Boxed (w.alloc (.cells #[.int .u64 P, .int .u64 Q, .int .u64 G] 24)) (w.heap.size) P Q G from Boxed.at _ P Q G _ (w.heap.size) (by simp))
  have HBW := Lh (show Below w.heap.size w (w.alloc (.cells #[.int .u64 P, .int .u64 Q, .int .u64 G] 24)) from (Below.refl _ _).alloc (by simp <;> omega) _)
  go_enter Tryz.func132, Tryz.ntmps132
  go_wp2_with fail
  go_loopw [11] (fun c11 wr => ∃ k : Nat, k ≤ m ∧ c11 = .int .i64 k ∧ (∀ x, x ∈ ns.take k → Mem P Q x) ∧ Hid (Boxed wr w.heap.size P Q G) ∧ Hid (Below w.heap.size w wr)) (fun c11 _ => m - (intOf c11).toNat)
  case atStart => exact ⟨0, by omega, rfl, fun x hx => by simp at hx, F_g.o, HBW.o⟩
  case round =>
   clear F_g HBW
   obtain ⟨k, hk, rfl, hM, F_g, HBW⟩ := hrel
   have hll := HL.o
   by_cases hlt : k < m
   case neg =>
    obtain rfl : k = m := by omega
    have HZ := Lh (show true = v by rw [eq_comm, HV.o]; rw [hll, List.take_length] at hM; exact hM)
    clear hM hlt hll hk
    go_wp2_with fail
    go_ret
    exact ⟨ret_bool HZ.o, HBW.o⟩
   case pos =>
    have hdn : decide (k < m) = true := by simp; omega
    have hd : decide ((k : Int) < (m : Int)) = true := by simp; omega
    have k0 : (0 : Int) ≤ (k : Int) := by omega
    have hw1 : IntKind.i64.wrap ((k : Int) + 1) = (k : Int) + 1 := IntWalk.i64_in _ (by omega)
    obtain ⟨s, rfl, hc⟩ := (HS.o.keep HBW.o).at k hlt
    obtain ⟨x, hx⟩ : ∃ x, ns.getD k 0 = x := ⟨_, rfl⟩
    have hkl : k < ns.length := by omega
    have hxe : ns[k] = x := by rw [← hx, List.getD_eq_getElem?_getD, List.getElem?_eq_getElem hkl]; rfl
    have hxm : x ∈ ns := by rw [← hxe]; exact List.getElem_mem hkl
    obtain ⟨x0, xP⟩ := HR.o x hxm
    rw [hx] at hc
    by_cases hMx : Mem P Q x
    case neg =>
     have HM := Lh hMx
     have HZ := Lh (show false = v by rw [Bool.eq_iff_iff, HV.o]; exact ⟨fun h => (by cases h), fun h => absurd (h x hxm) hMx⟩)
     clear hMx hx hxe hxm hM hll
     obtain ⟨z0, z1, z2, -⟩ := id F_g.o
     go_wp2_with fail
     clear z0 z1 z2
     refine (member_ok P Q G x false _ HH.o x0 xP ⟨fun h => (by cases h), fun h => absurd h HM.o⟩).mono ?_
     rintro e w3 ⟨rfl, hb3⟩
     replace HBW := Lh (HBW.o.trans (hb3.mono HBW.o.size))
     clear hb3
     go_wp2_with fail
     go_ret
     exact ⟨ret_bool HZ.o, HBW.o⟩
    case pos =>
     have HM := Lh hMx
     have HN := Lh (show ∀ z, z ∈ ns.take (k + 1) → Mem P Q z from fun z hz => by
      rw [List.take_succ_eq_append_getElem hkl, List.mem_append, List.mem_singleton] at hz
      rcases hz with hz | hz
      · exact hM z hz
      · rw [hz, hxe]; exact hMx)
     clear hMx hx hxe hxm hM hll
     obtain ⟨z0, z1, z2, -⟩ := id F_g.o
     go_wp2_with fail
     clear z0 z1 z2
     refine (member_ok P Q G x true _ HH.o x0 xP ⟨fun _ => HM.o, fun _ => rfl⟩).mono ?_
     rintro e w3 ⟨rfl, hb3⟩
     replace F_g := Lh (F_g.o.keep hb3)
     replace HBW := Lh (HBW.o.trans (hb3.mono HBW.o.size))
     clear hb3
     go_wp2_with fail
     go_roundw
     case rel => exact ⟨k + 1, by omega, by go_num, HN.o, F_g.o, HBW.o⟩
     case measure => simp [intOf]; omega
open Go Go.RowKit Num Sha
theorem Arr.k3 {w : World} {b : Nat} {x y z : Int} (h : Arr .u64 w b [x, y, z]) : w.cell? ⟨b, 0, none⟩ = some (.int .u64 x) ∧ w.cell? ⟨b, 1, none⟩ = some (.int .u64 y) ∧ w.cell? ⟨b, 2, none⟩ = some (.int .u64 z) ∧ w.frozen? ⟨b, 0, none⟩ = false ∧ w.frozen? ⟨b, 1, none⟩ = false ∧ w.frozen? ⟨b, 2, none⟩ = false :=
  ⟨h.c 0 (by simp), h.c 1 (by simp), h.c 2 (by simp), h.f 0, h.f 1, h.f 2⟩
theorem Arr.under {k : IntKind} {w w' : World} {b n : Nat} {xs : List Int} (h : Arr k w b xs) (hb : Below n w w') (hn : b < n) : Arr k w' b xs := h.below hb hn
def S3 (w : World) (b : Nat) (x y z : Int) : Prop := w.cell? ⟨b, 0, none⟩ = some (.int .u64 x) ∧ w.cell? ⟨b, 1, none⟩ = some (.int .u64 y) ∧ w.cell? ⟨b, 2, none⟩ = some (.int .u64 z)
theorem Arr.s3 {w : World} {b : Nat} {x y z : Int} (h : Arr .u64 w b [x, y, z]) : S3 w b x y z := ⟨h.c 0 (by simp), h.c 1 (by simp), h.c 2 (by simp)⟩
def eqZ (P Q G a x k : Int) (T : List Int) : Int := (k + chV Q [powm G x P, a, powm a x P, powm G k P, powm a k P] T * x % Q) % Q
def RetE (chk R0 S0 Z0 R S Z e : Int) : Prop := (chk = 0 ∧ R = R0 ∧ S = S0 ∧ Z = Z0 ∧ e = 0) ∨ (chk ≠ 0 ∧ R = 0 ∧ S = 0 ∧ Z = 0 ∧ e = chk)
theorem RetE.exists (chk R0 S0 Z0 : Int) : ∃ R S Z e, RetE chk R0 S0 Z0 R S Z e := by
 by_cases h : chk = 0
 · exact ⟨R0, S0, Z0, 0, .inl ⟨h, rfl, rfl, rfl, rfl⟩⟩
 · exact ⟨0, 0, 0, chk, .inr ⟨h, rfl, rfl, rfl, rfl⟩⟩
def evP (P Q G y a d R S Z : Int) (T : List Int) : Prop := memsP P Q [y, a, d, R, S] ∧ powm G Z P = R * powm y (chV Q [y, a, d, R, S] T) P % P ∧ powm a Z P = S * powm d (chV Q [y, a, d, R, S] T) P % P
structure EqIn (w wx : World) (P Q G : Int) (Bp : Nat) (R S Z : Int) : Prop where
  g : Boxed wx w.heap.size P Q G
  r : Arr .u64 wx (w.heap.size + 1) [0, 0, 0]
  p : Arr .u64 wx Bp [R, S, Z]
  ne : w.heap.size + 2 ≤ Bp
  bel : Below w.heap.size w wx
open Go Go.RowKit Num Sha
theorem rlong_any {a : Option Addr} {n c : Nat} {e r : Int} (w : World) (hr : lgS e n = r) : Calls Tryz.prog 135 #[.int .i64 e, .slice a n c] w fun e w' => e = .returned (.int .i64 r) ∧ w = w' := by
 by_cases he : e = 0
 · subst he
   by_cases hn : 8000 < n
   · obtain rfl : r = 4 := by rw [← hr]; exact lgS_four rfl hn
     have hd : decide ((8000 : Int) < (n : Int)) = true := by simp; omega
     have hdn : decide (8000 < n) = true := by simp; omega
     clear hr
     go_enter Tryz.func135, Tryz.ntmps135
     go_wp2_with fail
     go_ret
     exact ⟨rfl, rfl⟩
   · obtain rfl : r = 0 := by rw [← hr]; exact lgS_ok rfl (by omega)
     have hd : decide ((8000 : Int) < (n : Int)) = false := by simp; omega
     have hdn : decide (8000 < n) = false := by simp; omega
     clear hr
     go_enter Tryz.func135, Tryz.ntmps135
     go_wp2_with fail
     go_ret
     exact ⟨rfl, rfl⟩
 · obtain rfl : r = e := by rw [← hr]; exact lgS_ne he
   have h1 : (r == 0) = false := by simpa using he
   clear hr
   go_enter Tryz.func135, Tryz.ntmps135
   go_wp2_with fail
   go_ret
   exact ⟨rfl, rfl⟩
set_option maxHeartbeats 4000000 in
theorem rmembers_any {P Q G : Int} {a : Option Addr} {m d : Nat} {ns : List Int} {v : Bool} (w : World) (hH : Has P Q G) (hs : ShL w a m d ns) (hr : ∀ x, x ∈ ns → 0 ≤ x ∧ x < P) (hm : m ≤ 20) (hv : v = true ↔ memsP P Q ns) :
    Calls Tryz.prog 151 #[.agg #[.int .u64 P, .int .u64 Q, .int .u64 G], .slice a m d] w fun e w' => e = .returned (.bool v) ∧ Below w.heap.size w w' := by
  have Q0 : 0 ≤ Q := by have := hH; unfold Has at this; omega
  have HS := Lh hs
  have HL := Lh hs.len
  have HR := Lh hr
  have HH := Lh hH
  have HV := Lh hv
  clear hs hr hH hv
  have F_g := Lh (show Boxed (w.alloc (.cells #[.int .u64 P, .int .u64 Q, .int .u64 G] 24)) (w.heap.size) P Q G from Boxed.at _ P Q G _ (w.heap.size) (by simp))
  have HBW := Lh (show Below w.heap.size w (w.alloc (.cells #[.int .u64 P, .int .u64 Q, .int .u64 G] 24)) from (Below.refl _ _).alloc (by simp <;> omega) _)
  go_enter Tryz.func151, Tryz.ntmps151
  go_wp2_with fail
  go_loopw [5] (fun c5 wr => ∃ k : Nat, k ≤ m ∧ c5 = .int .i64 k ∧ (∀ x, x ∈ ns.take k → Mem P Q x) ∧ Hid (Boxed wr w.heap.size P Q G) ∧ Hid (Below w.heap.size w wr)) (fun c5 _ => m - (intOf c5).toNat)
  case atStart => exact ⟨0, by omega, rfl, fun x hx => by simp at hx, F_g.o, HBW.o⟩
  case round =>
   clear F_g HBW
   obtain ⟨k, hk, rfl, hM, F_g, HBW⟩ := hrel
   have hll := HL.o
   by_cases hlt : k < m
   case neg =>
    obtain rfl : k = m := by omega
    have HZ := Lh (show true = v by rw [eq_comm, HV.o]; rw [hll, List.take_length] at hM; exact hM)
    clear hM hlt hll hk
    go_wp2_with fail
    go_ret
    exact ⟨ret_bool HZ.o, HBW.o⟩
   case pos =>
    have hdn : decide (k < m) = true := by simp; omega
    have hd : decide ((k : Int) < (m : Int)) = true := by simp; omega
    have k0 : (0 : Int) ≤ (k : Int) := by omega
    have hw1 : IntKind.i64.wrap ((k : Int) + 1) = (k : Int) + 1 := IntWalk.i64_in _ (by omega)
    obtain ⟨s, rfl, hc⟩ := (HS.o.keep HBW.o).at k hlt
    obtain ⟨x, hx⟩ : ∃ x, ns.getD k 0 = x := ⟨_, rfl⟩
    have hkl : k < ns.length := by omega
    have hxe : ns[k] = x := by rw [← hx, List.getD_eq_getElem?_getD, List.getElem?_eq_getElem hkl]; rfl
    have hxm : x ∈ ns := by rw [← hxe]; exact List.getElem_mem hkl
    obtain ⟨x0, xP⟩ := HR.o x hxm
    rw [hx] at hc
    by_cases hMx : Mem P Q x
    case neg =>
     have HM := Lh hMx
     have HZ := Lh (show false = v by rw [Bool.eq_iff_iff, HV.o]; exact ⟨fun h => (by cases h), fun h => absurd (h x hxm) hMx⟩)
     clear hMx hx hxe hxm hM hll
     go_wp2_with fail
     replace F_g := Lh F_g.o.drew
     replace HBW := Lh HBW.o.drew
     have hS := And.intro F_g.o.s hc
     refine wp_region_stage 5 (fun w' => SBox w' w.heap.size P Q G ∧ w'.cell? ⟨s, k, none⟩ = some (.int .u64 x)) (by kernel_rfl) ?_
     refine tkL (i := 0) (some 12) (.load 24 (.tmp 2)) 24 [5] (v := ?_) hS (fun w' hSw => ?_) ?_
     rotate_left
     · obtain ⟨⟨s0, s1, s2⟩, s3⟩ := hSw
       unfold bareOp; go_simp; try with_reducible rfl
     simp only [sY]
     refine tkQ 1 (some 13) (.move (.tmp 1)) 34 ?_
     simp only [sY]
     refine tkQ 2 (some 14) (.move (.tmp 5)) 3 ?_
     simp only [sY]
     refine tkQ 3 (some 15) (.indexAddr 34 (.tmp 13) (.tmp 14)) 0 ?_
     simp only [sY]
     refine tkL (i := 4) (some 16) (.load 22 (.tmp 15)) 22 [5] (v := ?_) hS (fun w' hSw => ?_) ?_
     rotate_left
     · obtain ⟨⟨s0, s1, s2⟩, s3⟩ := hSw
       unfold bareOp; go_simp; try with_reducible rfl
     simp only [sY]
     refine onl (i := 5) (some 17) (.call { callee := .value (.func 162), args := #[.tmp 12, .tmp 16], argTypes := #[24, 22] }) 4 (fun K hK => ?_)
     unfold bareOp
     go_wp2_with (go_at_call 162; refine (rIn_gen (r := false) Q0 _ HH.o x0 xP ⟨fun h => (by cases h), fun h => absurd h HM.o⟩).mono ?_; rintro e w3 ⟨rfl, hb3⟩)
     replace F_g := Lh (F_g.o.keep hb3)
     replace HBW := Lh (HBW.o.trans (hb3.mono HBW.o.size))
     clear hb3
     refine hK.o _ _ lt8 ?_
     clear hK K
     try simp only [sY]
     refine tkP (i := 6) (some 18) (.unOp .not 4 (.tmp 17)) 4 lt8 ?_
     simp only [sY]
     refine wpAnyB_done (by kernel_rfl) ?_ _
     go_wp2_with fail
     go_ret
     exact ⟨ret_bool HZ.o, HBW.o⟩
    case pos =>
     have HM := Lh hMx
     have HN := Lh (show ∀ z, z ∈ ns.take (k + 1) → Mem P Q z from fun z hz => by
      rw [List.take_succ_eq_append_getElem hkl, List.mem_append, List.mem_singleton] at hz
      rcases hz with hz | hz
      · exact hM z hz
      · rw [hz, hxe]; exact hMx)
     clear hMx hx hxe hxm hM hll
     go_wp2_with fail
     replace F_g := Lh F_g.o.drew
     replace HBW := Lh HBW.o.drew
     have hS := And.intro F_g.o.s hc
     refine wp_region_stage 5 (fun w' => SBox w' w.heap.size P Q G ∧ w'.cell? ⟨s, k, none⟩ = some (.int .u64 x)) (by kernel_rfl) ?_
     refine tkL (i := 0) (some 12) (.load 24 (.tmp 2)) 24 [5] (v := ?_) hS (fun w' hSw => ?_) ?_
     rotate_left
     · obtain ⟨⟨s0, s1, s2⟩, s3⟩ := hSw
       unfold bareOp; go_simp; try with_reducible rfl
     simp only [sY]
     refine tkQ 1 (some 13) (.move (.tmp 1)) 34 ?_
     simp only [sY]
     refine tkQ 2 (some 14) (.move (.tmp 5)) 3 ?_
     simp only [sY]
     refine tkQ 3 (some 15) (.indexAddr 34 (.tmp 13) (.tmp 14)) 0 ?_
     simp only [sY]
     refine tkL (i := 4) (some 16) (.load 22 (.tmp 15)) 22 [5] (v := ?_) hS (fun w' hSw => ?_) ?_
     rotate_left
     · obtain ⟨⟨s0, s1, s2⟩, s3⟩ := hSw
       unfold bareOp; go_simp; try with_reducible rfl
     simp only [sY]
     refine onl (i := 5) (some 17) (.call { callee := .value (.func 162), args := #[.tmp 12, .tmp 16], argTypes := #[24, 22] }) 4 (fun K hK => ?_)
     unfold bareOp
     go_wp2_with (go_at_call 162; refine (rIn_gen (r := true) Q0 _ HH.o x0 xP ⟨fun _ => HM.o, fun _ => rfl⟩).mono ?_; rintro e w3 ⟨rfl, hb3⟩)
     replace F_g := Lh (F_g.o.keep hb3)
     replace HBW := Lh (HBW.o.trans (hb3.mono HBW.o.size))
     clear hb3
     refine hK.o _ _ lt8 ?_
     clear hK K
     try simp only [sY]
     refine tkP (i := 6) (some 18) (.unOp .not 4 (.tmp 17)) 4 lt8 ?_
     simp only [sY]
     refine wpAnyB_done (by kernel_rfl) ?_ _
     go_wp2_with fail
     go_roundw
     case rel => exact ⟨k + 1, by omega, by go_num, HN.o, F_g.o, HBW.o⟩
     case measure => simp [intOf]; omega
end Go.Proofs.YtlbldpkgnonbpaaGreatDoor
