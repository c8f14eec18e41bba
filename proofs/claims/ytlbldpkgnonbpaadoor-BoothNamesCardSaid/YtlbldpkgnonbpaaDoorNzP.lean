/- booth.Read. -/
import Derived.Test.YtlbldpkgnonbpaaDoorNzM
import Derived.Deep.MidRow
import Derived.Laws.StructEq
import Derived.Test.YtlbldpkgnonbpaaDoorNzN
import Derived.Test.YtlbldpkgnonbpaaDoorNzO
import Derived.Deep.Cut
set_option linter.unusedSimpArgs false
set_option linter.unusedVariables false
set_option maxRecDepth 100000
namespace Go.Proofs.YtlbldpkgnonbpaaDoor
open Go Go.RowKit Num Sha
theorem Gro.puts {r : Nat} {a : World} (k : Nat) (vs : List Value) (p : Nat) (hp : p = r ∨ a.heap.size ≤ p) : ∀ (b : World) (o : Nat), Gro r a b → Gro r a (b.setCells p o vs) := by
 induction vs with
 | nil => intro b o h; exact h
 | cons v vs ih => intro b o h; exact ih _ _ (h.set ⟨p, o, none⟩ hp v)
theorem Cl.range {w : World} {B : Nat} {l : List Value} (h : Cl w B l) : w.rangeAt B 0 l := fun j v hv => by rw [Nat.zero_add]; exact h.c j v hv
theorem Cl.there {w : World} {B : Nat} {l : List Value} (h : Cl w B l) (k n : Nat) (hk : k + n ≤ l.length) : w.there B k n := fun j hj =>
 ⟨by rw [h.c (k + j) _ (List.getElem?_eq_getElem (by omega))]; rfl, h.f _⟩
theorem Cl.puts {w : World} {B : Nat} {l m : List Value} (h : Cl w B l) (k : Nat) (vs : List Value) (hk : k + vs.length ≤ l.length) (hm : l.take k ++ vs ++ l.drop (k + vs.length) = m) : Cl (w.setCells B k vs) B m := by
 subst hm
 have ht := h.there k vs.length hk
 refine ⟨fun i u hu => ?_, fun i => by rw [World.frozen?_setCells]; exact h.f i, ?_⟩
 · by_cases h1 : i < k
   · rw [List.append_assoc, List.getElem?_append_left (by rw [List.length_take]; omega), List.getElem?_take_of_lt h1] at hu
     rw [World.cell?_setCells_out B vs k w ⟨B, i, none⟩ (fun _ _ => .inl h1)]
     exact h.c i u hu
   · by_cases h2 : i < k + vs.length
     · rw [List.getElem?_append_left (by rw [List.length_append, List.length_take]; omega), List.getElem?_append_right (by rw [List.length_take]; omega), List.length_take, show min k l.length = k by omega] at hu
       obtain ⟨j, rfl⟩ : ∃ j, i = k + j := ⟨i - k, by omega⟩
       rw [show k + j - k = j by omega] at hu
       exact World.rangeAt_setCells_same w B k vs ht j u hu
     · rw [List.getElem?_append_right (by rw [List.length_append, List.length_take]; omega), List.length_append, List.length_take, show min k l.length = k by omega, List.getElem?_drop, show k + vs.length + (i - (k + vs.length)) = i by omega] at hu
       rw [World.cell?_setCells_out B vs k w ⟨B, i, none⟩ (fun _ _ => .inr (by show k + vs.length ≤ i; omega))]
       exact h.c i u hu
 · exact Nat.lt_of_lt_of_le h.lt ((Gro.puts (r := B) k vs B (.inl rfl) w k (Gro.refl _ _)).size)
theorem wpL_storeCl {P : Program} {w : World} {o : Oper} {ops : Array Oper} {rest : List Oper} {a : Act} {Q : Exit → Act → World → Prop} (hgd : o.guard = none) (t : TypeId) (p v : Operand) (b k : Nat) (l vs m : List Value) (ho : o.op = .store t p v) (hd : o.dst = none)
    (hp : a.eval p = .pointer (some ⟨b, k, none⟩)) (hv : a.eval v = .agg vs.toArray) (hi : (P.info? t).map (·.size) = some vs.length) (h1 : ∀ u, u ∈ vs → u.oneCell' = true) (hC : Cl w b l) (hk : k + vs.length ≤ l.length) (hm : l.take k ++ vs ++ l.drop (k + vs.length) = m)
    (h : ∀ w', Cl w' b m → Gro b w w' → w'.heap.size = w.heap.size → wpList P ops Q rest a w') : wpList P ops Q (o :: rest) a w := by
  refine wpList_store_mid hgd t p v ho b k vs.toArray hp hv (by simpa using hC.there k vs.length hk) (by simpa using hi) (all_oneCell_toArray h1) ?_
  have := h _ (hC.puts k vs hk hm) (Gro.puts k vs b (.inl rfl) w k (Gro.refl _ _)) (size_setCells b vs k w)
  rw [hd]
  exact this
theorem wpL_loadCl {P : Program} {w : World} {o : Oper} {ops : Array Oper} {rest : List Oper} {a : Act} {Q : Exit → Act → World → Prop} (hgd : o.guard = none) (t : TypeId) (p : Operand) (b : Nat) (l : List Value) (ho : o.op = .load t p)
    (hp : a.eval p = .pointer (some ⟨b, 0, none⟩)) (d : TypeDesc) (hu : P.underlying t = some d) (hd : d.isRow = true) (hi : (P.info? t).map (·.size) = some l.length) (hC : Cl w b l)
    (h : wpList P ops Q rest (a.put o.dst (.agg l.toArray)) w) : wpList P ops Q (o :: rest) a w :=
  wpList_load_mid hgd t p ho b 0 hp l d hC.range hu hd hi h
theorem readF_1 {xs : List Int} (h : xs.length < 3) : readF xs = (10, [], [], false, Bt.zero) := by simp only [readF]; rw [if_pos h]
theorem readF_2 {xs : List Int} (h : ¬ xs.length < 3) (h2 : 10 < (xs.getD 0 0).toNat ∨ 10 < (xs.getD 1 0).toNat ∨ 1 < xs.getD 2 0) : readF xs = (11, [], [], false, Bt.zero) := by
 simp only [readF]; rw [if_neg h, if_pos h2]
theorem readF_3 {xs : List Int} (h : ¬ xs.length < 3) (h2 : ¬ (10 < (xs.getD 0 0).toNat ∨ 10 < (xs.getD 1 0).toNat ∨ 1 < xs.getD 2 0)) (h3 : xs.length < 3 + 16 * (xs.getD 0 0).toNat + 64 * ((xs.getD 1 0).toNat + 1)) : readF xs = (10, [], [], false, Bt.zero) := by
 simp only [readF]; rw [if_neg h, if_neg h2, if_pos h3]
theorem readF_4 {xs : List Int} (h : ¬ xs.length < 3) (h2 : ¬ (10 < (xs.getD 0 0).toNat ∨ 10 < (xs.getD 1 0).toNat ∨ 1 < xs.getD 2 0)) (h3 : 3 + 16 * (xs.getD 0 0).toNat + 64 * ((xs.getD 1 0).toNat + 1) < xs.length) : readF xs = (11, [], [], false, Bt.zero) := by
 simp only [readF]; rw [if_neg h, if_neg h2, if_neg (by omega), if_pos h3]
theorem readF_5 {xs : List Int} {n m : Nat} (h2 : n ≤ 10 ∧ m ≤ 10 ∧ xs.getD 2 0 ≤ 1) (hn : xs.getD 0 0 = n) (hm : xs.getD 1 0 = m) (h3 : xs.length = 3 + 16 * n + 64 * (m + 1)) :
    readF xs = (0, boxesN (xs.drop 3) n, bitsN (xs.drop 3) n m, decide (xs.getD 2 0 = 1), bitN ((xs.drop 3).drop (16 * n + 64 * m))) := by
  simp only [readF]; rw [hn, hm, if_neg (by omega), if_neg (by simp only [Int.toNat_natCast]; omega), if_neg (by simp only [Int.toNat_natCast]; omega), if_neg (by simp only [Int.toNat_natCast]; omega)]; rfl
theorem ShS.of_owned2 {w : World} {base : Nat} {e : TypeId} {v : Value} {n : Nat} {ps : List (Int × Int)} (h : w.ownsRow base e 2 v n (flatS ps)) : ∃ a c, v = .slice a n c ∧ ShS w a n ps ∧ (a = none → c = 0) := by
 obtain ⟨a, c, rfl, h1⟩ := ShS.of_owned h
 refine ⟨a, c, rfl, h1, fun e => ?_⟩
 subst e
 rcases h.2 with ⟨h2, _⟩ | ⟨g, cap, cur, h2, _⟩
 · injection h2
 · injection h2 with h3; cases h3
theorem ShB.of_owned2 {w : World} {base : Nat} {e : TypeId} {v : Value} {n : Nat} {ps : List Bt} (h : w.ownsRow base e 8 v n (flatB ps)) : ∃ a c, v = .slice a n c ∧ ShB w a n ps ∧ (a = none → c = 0) := by
 obtain ⟨a, c, rfl, h1⟩ := ShB.of_owned h
 refine ⟨a, c, rfl, h1, fun e => ?_⟩
 subst e
 rcases h.2 with ⟨h2, _⟩ | ⟨g, cap, cur, h2, _⟩
 · injection h2
 · injection h2 with h3; cases h3
theorem Rd.start {w0 W : World} {B n c : Nat} {a : Option Addr} {xs : List Int} (hx : RBox W B (.slice a n c)) (hS : ShI .u8 w0 a n xs) (h : n ≤ c) : Rd w0 W B xs := by
 obtain rfl := hS.len
 exact ⟨a, c, hx, hS, h⟩
theorem ShI.rest3 {w : World} {s o n : Nat} {xs : List Int} (h : ShI .u8 w (some ⟨s, o, none⟩) n xs) (h3 : 3 ≤ n) : ShI .u8 w (some ⟨s, o + 3, none⟩) (n - 3) (xs.drop 3) := by
 have hl := h.len
 rcases h with ⟨h1, h2⟩ | ⟨s', o', e, h1, h2, h3⟩
 · omega
 · injection e with e; injection e with e1 e2 _
   subst e1 e2
   refine .inr ⟨s, o + 3, rfl, by simp; omega, h2, fun i hi => ?_⟩
   have hi' : i < xs.length - 3 := by simpa using hi
   have := h3 (3 + i) (by omega)
   rw [show o + 3 + i = o + (3 + i) by omega, this]
   simp [List.getD_eq_getElem?_getD, List.getElem?_drop]
set_option maxHeartbeats 8000000 in
theorem bRead_any {w : World} {a : Option Addr} {n0 c0 : Nat} {xs : List Int} (hS : ShI .u8 w a n0 xs) (hu : Bytes xs) (hc : n0 ≤ c0) (hl : n0 ≤ 2000) :
    Calls Tryd.prog 14 #[.slice a n0 c0] w (RetRd w xs) := by
  have HL := Lh hS.len
  have HU := Lh hu
  have F_o := Lh (show Cl (w.alloc (.cells #[.slice none 0 0, .slice none 0 0, .bool false, .int .u64 0, .int .u64 0, .int .u64 0, .int .u64 0, .int .u64 0, .int .u64 0, .int .u64 0, .int .u64 0] 29)) w.heap.size [.slice none 0 0, .slice none 0 0, .bool false, .int .u64 0, .int .u64 0, .int .u64 0, .int .u64 0, .int .u64 0, .int .u64 0, .int .u64 0, .int .u64 0] from Cl.at w [.slice none 0 0, .slice none 0 0, .bool false, .int .u64 0, .int .u64 0, .int .u64 0, .int .u64 0, .int .u64 0, .int .u64 0, .int .u64 0, .int .u64 0] _ _ rfl)
  have HBW := Lh (show Below w.heap.size w (w.alloc (.cells #[.slice none 0 0, .slice none 0 0, .bool false, .int .u64 0, .int .u64 0, .int .u64 0, .int .u64 0, .int .u64 0, .int .u64 0, .int .u64 0, .int .u64 0] 29)) from (Below.refl _ _).alloc (Nat.le_refl _) _)
  go_enter Tryd.func14, Tryd.ntmps14
  by_cases h1 : n0 < 3
  case pos =>
   have HERR := Lh (readF_1 (xs := xs) (by rw [← hS.len]; exact h1))
   have d1 : decide ((n0 : Int) < 3) = true := decide_eq_true (by omega)
   clear hS hu hc hl
   go_wp2_with fail
   refine bodyPost_ret (res_vote rfl F_o.o _ rfl rfl) rfl ?_
   exact RetRd.err HERR.o HBW.o
  case neg =>
  have d1 : decide ((n0 : Int) < 3) = false := decide_eq_false (by omega)
  obtain ⟨s, o, rfl, hs, HC⟩ : ∃ s o, a = some ⟨s, o, none⟩ ∧ s < w.heap.size ∧ Hid (∀ i, i < n0 → w.cell? ⟨s, o + i, none⟩ = some (.int .u8 (xs.getD i 0))) := by
   rcases hS with ⟨h1, _⟩ | ⟨s, o, h0, h1, h2, h3⟩
   · omega
   · exact ⟨s, o, h0, h2, fun i hi => h3 i (by omega)⟩
  have HS := Lh hS
  obtain ⟨n, hn⟩ : ∃ n : Nat, xs.getD 0 0 = n := ⟨(xs.getD 0 0).toNat, by have := (hu.get 0).1; omega⟩
  obtain ⟨m, hm⟩ : ∃ m : Nat, xs.getD 1 0 = m := ⟨(xs.getD 1 0).toNat, by have := (hu.get 1).1; omega⟩
  obtain ⟨b2, hb2⟩ : ∃ b2 : Int, xs.getD 2 0 = b2 := ⟨_, rfl⟩
  have hn1 : (n : Int) < 256 := by have := (hu.get 0).2; omega
  have hm1 : (m : Int) < 256 := by have := (hu.get 1).2; omega
  have hb0 : (0 : Int) ≤ b2 := by have := (hu.get 2).1; omega
  have hb1 : b2 < 256 := by have := (hu.get 2).2; omega
  have k0 : (w.alloc (.cells #[.slice none 0 0, .slice none 0 0, .bool false, .int .u64 0, .int .u64 0, .int .u64 0, .int .u64 0, .int .u64 0, .int .u64 0, .int .u64 0, .int .u64 0] 29)).cell? ⟨s, o, none⟩ = some (.int .u8 (n : Int)) := by rw [← hn]; exact (HBW.o.cell (p := ⟨s, o, none⟩) hs).trans (HC.o 0 (by omega))
  have k1 : (w.alloc (.cells #[.slice none 0 0, .slice none 0 0, .bool false, .int .u64 0, .int .u64 0, .int .u64 0, .int .u64 0, .int .u64 0, .int .u64 0, .int .u64 0, .int .u64 0] 29)).cell? ⟨s, o + 1, none⟩ = some (.int .u8 (m : Int)) := by rw [← hm]; exact (HBW.o.cell (p := ⟨s, o + 1, none⟩) hs).trans (HC.o 1 (by omega))
  have k2 : (w.alloc (.cells #[.slice none 0 0, .slice none 0 0, .bool false, .int .u64 0, .int .u64 0, .int .u64 0, .int .u64 0, .int .u64 0, .int .u64 0, .int .u64 0, .int .u64 0] 29)).cell? ⟨s, o + 2, none⟩ = some (.int .u8 b2) := by rw [← hb2]; exact (HBW.o.cell (p := ⟨s, o + 2, none⟩) hs).trans (HC.o 2 (by omega))
  have HN := Lh hn
  have HM := Lh hm
  have HB2 := Lh hb2
  have wn : IntKind.i64.wrap (n : Int) = n := IntWalk.i64_in _ (by omega)
  have wm : IntKind.i64.wrap (m : Int) = m := IntWalk.i64_in _ (by omega)
  have i0 : (0 : Int) < (n0 : Int) := by omega
  have i1 : (1 : Int) < (n0 : Int) := by omega
  have i2 : (2 : Int) < (n0 : Int) := by omega
  clear hS hu hn hm hb2
  by_cases h2 : 10 < n
  case pos =>
   have HERR := Lh (readF_2 (xs := xs) (by rw [← HL.o]; exact h1) (.inl (by rw [HN.o]; omega)))
   have d2 : decide ((10 : Int) < (n : Int)) = true := decide_eq_true (by omega)
   go_wp2_with fail
   go_region
   go_wp2_with fail
   refine bodyPost_ret (res_vote rfl F_o.o.drew _ rfl rfl) rfl ?_
   exact RetRd.err HERR.o HBW.o.drew
  case neg =>
  have d2 : decide ((10 : Int) < (n : Int)) = false := decide_eq_false (by omega)
  by_cases h3 : 10 < m
  case pos =>
   have HERR := Lh (readF_2 (xs := xs) (by rw [← HL.o]; exact h1) (.inr (.inl (by rw [HM.o]; omega))))
   have d3 : decide ((10 : Int) < (m : Int)) = true := decide_eq_true (by omega)
   go_wp2_with fail
   go_region
   go_wp2_with fail
   refine bodyPost_ret (res_vote rfl F_o.o.drew _ rfl rfl) rfl ?_
   exact RetRd.err HERR.o HBW.o.drew
  case neg =>
  have d3 : decide ((10 : Int) < (m : Int)) = false := decide_eq_false (by omega)
  by_cases h4 : 1 < b2
  case pos =>
   have HERR := Lh (readF_2 (xs := xs) (by rw [← HL.o]; exact h1) (.inr (.inr (by rw [HB2.o]; exact h4))))
   have d4 : decide ((1 : Int) < b2) = true := decide_eq_true h4
   go_wp2_with fail
   go_region
   go_wp2_with fail
   refine bodyPost_ret (res_vote rfl F_o.o.drew _ rfl rfl) rfl ?_
   exact RetRd.err HERR.o HBW.o.drew
  case neg =>
  have d4 : decide ((1 : Int) < b2) = false := decide_eq_false h4
  have w1 : IntKind.i64.wrap (16 * (n : Int)) = 16 * (n : Int) := IntWalk.i64_in _ (by omega)
  have w2 : IntKind.i64.wrap (3 + 16 * (n : Int)) = 3 + 16 * (n : Int) := IntWalk.i64_in _ (by omega)
  have w3 : IntKind.i64.wrap ((m : Int) + 1) = (m : Int) + 1 := IntWalk.i64_in _ (by omega)
  have w4 : IntKind.i64.wrap (64 * ((m : Int) + 1)) = 64 * ((m : Int) + 1) := IntWalk.i64_in _ (by omega)
  have w5 : IntKind.i64.wrap (3 + 16 * (n : Int) + 64 * ((m : Int) + 1)) = 3 + 16 * (n : Int) + 64 * ((m : Int) + 1) := IntWalk.i64_in _ (by omega)
  have HD := Lh (show ¬ (10 < (xs.getD 0 0).toNat ∨ 10 < (xs.getD 1 0).toNat ∨ 1 < xs.getD 2 0) by rw [HN.o, HM.o, HB2.o]; simp only [Int.toNat_natCast]; omega)
  by_cases h5 : n0 < 3 + 16 * n + 64 * (m + 1)
  case pos =>
   have HERR := Lh (readF_3 (xs := xs) (by rw [← HL.o]; exact h1) HD.o (by rw [← HL.o, HN.o, HM.o]; exact h5))
   have d5 : decide ((n0 : Int) < 3 + 16 * (n : Int) + 64 * ((m : Int) + 1)) = true := decide_eq_true (by omega)
   go_wp2_with fail
   go_region
   go_wp2_with fail
   refine bodyPost_ret (res_vote rfl F_o.o.drew _ rfl rfl) rfl ?_
   exact RetRd.err HERR.o HBW.o.drew
  case neg =>
  have d5 : decide ((n0 : Int) < 3 + 16 * (n : Int) + 64 * ((m : Int) + 1)) = false := decide_eq_false (by omega)
  by_cases h6 : 3 + 16 * n + 64 * (m + 1) < n0
  case pos =>
   have HERR := Lh (readF_4 (xs := xs) (by rw [← HL.o]; exact h1) HD.o (by rw [← HL.o, HN.o, HM.o]; exact h6))
   have d6 : decide (3 + 16 * (n : Int) + 64 * ((m : Int) + 1) < (n0 : Int)) = true := decide_eq_true (by omega)
   go_wp2_with fail
   go_region
   go_wp2_with fail
   refine bodyPost_ret (res_vote rfl F_o.o.drew _ rfl rfl) rfl ?_
   exact RetRd.err HERR.o HBW.o.drew
  case neg =>
  have d6 : decide (3 + 16 * (n : Int) + 64 * ((m : Int) + 1) < (n0 : Int)) = false := decide_eq_false (by omega)
  have HE := Lh (show n0 = 3 + 16 * n + 64 * (m + 1) by omega)
  have HNM := Lh (show n ≤ 10 ∧ m ≤ 10 ∧ b2 ≤ 1 by omega)
  go_wp2_with fail
  go_region
  go_wp2_with fail
  have F_v := Lh (Cl.at (((w.alloc (.cells #[.slice none 0 0, .slice none 0 0, .bool false, .int .u64 0, .int .u64 0, .int .u64 0, .int .u64 0, .int .u64 0, .int .u64 0, .int .u64 0, .int .u64 0] 29)).alloc (.cells #[.slice (some ⟨s, o + 3, none⟩) (n0 - 3) (c0 - 3)] 90))) [.slice none 0 0, .slice none 0 0, .bool (b2 == 1), .int .u64 0, .int .u64 0, .int .u64 0, .int .u64 0, .int .u64 0, .int .u64 0, .int .u64 0, .int .u64 0] 29 (w.heap.size + 1 + 1) (by simp))
  have F_r := Lh (RBox.at (w.alloc (.cells #[.slice none 0 0, .slice none 0 0, .bool false, .int .u64 0, .int .u64 0, .int .u64 0, .int .u64 0, .int .u64 0, .int .u64 0, .int .u64 0, .int .u64 0] 29)) (.slice (some ⟨s, o + 3, none⟩) (n0 - 3) (c0 - 3)) 90 (w.heap.size + 1) (by simp))
  clear d1 d2 d3 d4 d5 d6 w1 w2 w3 w4 w5 wn wm k0 k1 k2 i0 i1 i2 hn1 hm1 hb0 hb1 h1 h2 h3 h4 h5 h6 HC hs
  have hn10 : n ≤ 10 := HNM.o.1
  have hm10 : m ≤ 10 := HNM.o.2.1
  go_loopw [9, 64] (fun _ c64 wr => ∃ (i : Nat) (v1 : Value), i ≤ n ∧ c64 = .int .i64 i ∧ w.heap.size + 3 ≤ wr.heap.size ∧ Hid (wr.ownsRow (w.heap.size + 3) 78 2 v1 i (flatS (boxesN (xs.drop 3) i))) ∧ Hid (Cl wr (w.heap.size + 1 + 1) [v1, .slice none 0 0, .bool (b2 == 1), .int .u64 0, .int .u64 0, .int .u64 0, .int .u64 0, .int .u64 0, .int .u64 0, .int .u64 0, .int .u64 0]) ∧ Hid (Cl wr w.heap.size [.slice none 0 0, .slice none 0 0, .bool false, .int .u64 0, .int .u64 0, .int .u64 0, .int .u64 0, .int .u64 0, .int .u64 0, .int .u64 0, .int .u64 0]) ∧ Hid (Rd w wr (w.heap.size + 1) ((xs.drop 3).drop (8 * (2 * i)))) ∧ Hid (Below w.heap.size w wr)) (fun _ c64 _ => n - (intOf c64).toNat)
  case atStart =>
   exact ⟨0, _, by omega, rfl, by simp, World.ownsRow_nil _ _ _ _, F_v.o.drew, ((F_o.o.alloc _).alloc _).drew, Rd.start (c := c0 - 3) ((F_r.o.alloc _).drew) (HS.o.rest3 (by have := HE.o; omega)) (by omega), ((HBW.o.alloc HBW.o.size _).alloc (by simp; omega) _).drew⟩
  case round =>
   clear F_o F_v F_r HBW
   obtain ⟨i, v1, hi, rfl, hz, HO, F_v, F_o, HR, HBW⟩ := hrel
   by_cases hlt : i < n
   case pos =>
    have hd : decide ((i : Int) < (n : Int)) = true := decide_eq_true (by omega)
    have HY := Lh (show Bytes (xs.drop 3) from HU.o.drop 3)
    have HYL := Lh (show 8 * (2 * i + 1) + 8 ≤ (xs.drop 3).length by rw [List.length_drop, ← HL.o, HE.o]; omega)
    obtain ⟨ys, hys⟩ : ∃ ys, xs.drop 3 = ys := ⟨_, rfl⟩
    rw [hys] at HO HR HY HYL ⊢
    go_wp2_with fail
    refine (number_at (2 * i) _ HBW.o (by omega) HR.o HY.o (by have := HYL.o; omega)).mono ?_
    rintro e w5 ⟨rfl, hr5, hg5, hz5⟩
    replace HR := Lh hr5
    replace HBW := Lh (HBW.o.trans (hg5.blw (by omega) (by omega)))
    replace HO := Lh (own_gro HO.o hg5 (by omega))
    replace F_v := Lh (F_v.o.gro hg5 (by omega))
    replace F_o := Lh (F_o.o.gro hg5 (by omega))
    replace hz : w.heap.size + 3 ≤ w5.heap.size := by omega
    clear hr5 hg5 hz5
    obtain ⟨⟨q0, q1, q2, q3, q4, q5, q6, q7, q8, q9, q10⟩, g0, g1, g2, g3, g4, g5, g6, g7, g8, g9, g10⟩ := F_v.o.k11
    go_wp2_with fail
    go_region_law (first
      | (go_simp
         go_at_call 34
         refine (number_at (2 * i + 1) _ HBW.o.drew (by omega) HR.o.drew HY.o HYL.o).mono ?_
         rintro e w6 ⟨rfl, hr6, hg6, hz6⟩
         have HR6 := Lh hr6
         have HBW6 := Lh (HBW.o.drew.trans (hg6.blw (n := w.heap.size) (by omega) (by simp; omega)))
         have HO6 := Lh (own_gro HO.o.drew hg6 (by omega))
         have F_v6 := Lh (F_v.o.drew.gro hg6 (by omega))
         have F_o6 := Lh (F_o.o.drew.gro hg6 (by omega))
         have hz6' : w.heap.size + 3 ≤ w6.heap.size := by simp only [World.size_drew] at hz6; omega
         obtain ⟨⟨p0, -⟩, -⟩ := (F_v6.o.alloc (.cells #[.int .u64 (num8 ys (2 * i)), .int .u64 (num8 ys (2 * i + 1))] 78)).k11
         obtain ⟨⟨r0, -⟩, -⟩ := F_v6.o.k11
         clear hr6 hg6 hz6)
      | (refine wanted_wp rfl (wp_push_s (.tmp 69) (.tmp 74) rfl (w.heap.size + 3) i w6.heap.size v1 (flatS (boxesN ys i)) (num8 ys (2 * i)) (num8 ys (2 * i + 1)) ?jjv ?jjx ?jjo ?jjc ?jjm ?jjb ?_)
         case jjv => kernel_rfl
         case jjx => kernel_rfl
         case jjo => exact owns_alloc2 HO6.o _
         case jjc => exact cell_list_at _ _ _ _ rfl
         case jjm => omega
         case jjb => simp; omega
         intro v9 w9 hown hgr
         obtain ⟨a9, c9, rfl, -⟩ := ShS.of_owned (ps := boxesN ys i ++ [(num8 ys (2 * i), num8 ys (2 * i + 1))]) (by rw [flatS_append]; exact hown)
         have HBW9 := Lh (Below.rowT (n := w.heap.size + 3) hgr (fun k hk => by have := (World.ownsRow.lt HO6.o k hk).1; omega) (by simp; omega))
         have HO9 := Lh hown
         have F_v9 := Lh ((F_v6.o.alloc (.cells #[.int .u64 (num8 ys (2 * i)), .int .u64 (num8 ys (2 * i + 1))] 78)).keepN HBW9.o (by omega))
         obtain ⟨⟨y0, y1, y2, y3, y4, y5, y6, y7, y8, y9, y10⟩, t0, t1, t2, t3, t4, t5, t6, t7, t8, t9, t10⟩ := F_v9.o.k11
         clear hown hgr))
    all_goals
      go_wp2_with fail
      go_roundw
      case rel =>
       refine ⟨i + 1, .slice a9 (i + 1) c9, by omega, by go_num, ?_, ?_, F_v9.o.set (m := [.slice a9 (i + 1) c9, .slice none 0 0, .bool (b2 == 1), .int .u64 0, .int .u64 0, .int .u64 0, .int .u64 0, .int .u64 0, .int .u64 0, .int .u64 0, .int .u64 0]) 0 _ (by simp) rfl, ((F_o6.o.alloc _).keepN HBW9.o (by omega)).far _ _ (by simp <;> omega), ((HR6.o.alloc _).keepN HBW9.o (by omega)).set _ _ (by simp <;> omega), ?_⟩
       · have := HBW9.o.size; simp at this ⊢; omega
       · rw [boxesN_succ, flatS_append]; exact own_far HO9.o _ _ (by simp <;> omega)
       · exact ((HBW6.o.alloc HBW6.o.size _).trans (HBW9.o.mono (by omega))).setCell (by simp <;> omega) _
      case measure => simp [intOf] <;> omega
   case neg =>
    obtain rfl : i = n := by omega
    have hd : decide ((i : Int) < (i : Int)) = false := decide_eq_false (by omega)
    have HY := Lh (show Bytes (xs.drop 3) from HU.o.drop 3)
    have HYL := Lh (show (xs.drop 3).length = 16 * i + 64 * (m + 1) by rw [List.length_drop, ← HL.o, HE.o]; omega)
    have HFIN := Lh (readF_5 (xs := xs) (n := i) (m := m) (by rw [HB2.o]; exact HNM.o) HN.o HM.o (by rw [← HL.o, HE.o]))
    obtain ⟨ys, hys⟩ : ∃ ys, xs.drop 3 = ys := ⟨_, rfl⟩
    rw [hys] at HO HR HY HYL HFIN ⊢
    clear hys
    obtain ⟨wb, rfl⟩ : ∃ wb, wb = wr := ⟨_, rfl⟩
    go_wp2_with fail
    clear hd
    go_loopw [79] (fun c79 wr => ∃ (j : Nat) (v2 : Value), j ≤ m ∧ c79 = .int .i64 j ∧ w.heap.size + 3 ≤ wr.heap.size ∧ Hid (wr.ownsRow (w.heap.size + 3) 78 2 v1 i (flatS (boxesN ys i))) ∧ Hid (wr.ownsRow (w.heap.size + 3) 27 8 v2 j (flatB (bitsN ys i j))) ∧ Hid (Cl wr (w.heap.size + 1 + 1) [v1, v2, .bool (b2 == 1), .int .u64 0, .int .u64 0, .int .u64 0, .int .u64 0, .int .u64 0, .int .u64 0, .int .u64 0, .int .u64 0]) ∧ Hid (Cl wr w.heap.size [.slice none 0 0, .slice none 0 0, .bool false, .int .u64 0, .int .u64 0, .int .u64 0, .int .u64 0, .int .u64 0, .int .u64 0, .int .u64 0, .int .u64 0]) ∧ Hid (Rd w wr (w.heap.size + 1) (ys.drop (16 * i + 64 * j))) ∧ Hid (Below w.heap.size w wr)) (fun c79 _ => m - (intOf c79).toNat)
    case atStart =>
     exact ⟨0, _, by omega, rfl, by simpa using hz, HO.o, World.ownsRow_nil _ _ _ _, F_v.o, F_o.o, (by rw [show 16 * i + 64 * 0 = 8 * (2 * i) by omega]; exact HR.o), HBW.o⟩
    case round =>
     clear F_o F_v HBW HO HR hz
     obtain ⟨j, v2, hj, rfl, hz, HO, HP, F_v, F_o, HR, HBW⟩ := hrel
     by_cases hlt : j < m
     case pos =>
      have hd : decide ((j : Int) < (m : Int)) = true := decide_eq_true (by omega)
      have HYJ := Lh (show 64 ≤ (ys.drop (16 * i + 64 * j)).length by rw [List.length_drop, HYL.o]; omega)
      have HSZ := Lh (show (ys.drop (16 * i + 64 * j)).drop (8 * 8) = ys.drop (16 * i + 64 * (j + 1)) by rw [List.drop_drop]; congr 1)
      have HBN := Lh (bitsN_succ ys i j)
      have HYD := Lh (show Bytes (ys.drop (16 * i + 64 * j)) from HY.o.drop _)
      obtain ⟨zs, hzs⟩ : ∃ zs, ys.drop (16 * i + 64 * j) = zs := ⟨_, rfl⟩
      rw [hzs] at HR HYJ HSZ HBN HYD
      clear hzs
      obtain ⟨⟨q0, q1, q2, q3, q4, q5, q6, q7, q8, q9, q10⟩, g0, g1, g2, g3, g4, g5, g6, g7, g8, g9, g10⟩ := F_v.o.k11
      go_wp2_with fail
      go_region_law (first
        | (go_simp
           go_at_call 35
           refine (bit_any _ HBW.o.drew (by omega) HR.o.drew HYD.o HYJ.o).mono ?_
           rintro e w6 ⟨rfl, hr6, hg6⟩
           have HR6 := Lh (HSZ.o ▸ hr6)
           have HBW6 := Lh (HBW.o.drew.trans (hg6.blw (n := w.heap.size) (by omega) (by simp; omega)))
           have HO6 := Lh (own_gro HO.o.drew hg6 (by omega))
           have HP6 := Lh (own_gro HP.o.drew hg6 (by omega))
           have F_v6 := Lh (F_v.o.drew.gro hg6 (by omega))
           have F_o6 := Lh (F_o.o.drew.gro hg6 (by omega))
           have hz6' : w.heap.size + 3 ≤ w6.heap.size := by have := hg6.size; simp only [World.size_drew] at this; omega
           obtain ⟨⟨-, p1, -⟩, -⟩ := (F_v6.o.alloc (.cells #[.int .u64 (num8 zs 0), .int .u64 (num8 zs 2), .int .u64 (num8 zs 1), .int .u64 (num8 zs 3), .int .u64 (num8 zs 4), .int .u64 (num8 zs 5), .int .u64 (num8 zs 6), .int .u64 (num8 zs 7)] 27)).k11
           obtain ⟨⟨-, r1, -⟩, -⟩ := F_v6.o.k11
           clear hr6 hg6)
        | (refine wanted_wp rfl (wp_push_bit (.tmp 82) (.tmp 85) rfl (w.heap.size + 3) j w6.heap.size v2 (flatB (bitsN ys i j)) (bitN zs) ?jjv ?jjx ?jjo ?jjc ?jjm ?jjb ?_)
           case jjv => kernel_rfl
           case jjx => kernel_rfl
           case jjo => exact owns_alloc2 HP6.o _
           case jjc => exact cell_list_at _ _ _ _ rfl
           case jjm => omega
           case jjb => simp; omega
           intro v9 w9 hown hgr
           obtain ⟨a9, c9, rfl, -⟩ := ShB.of_owned (ps := bitsN ys i j ++ [bitN zs]) (by rw [flatB_append]; simpa [flatB] using hown)
           have HBW9 := Lh (Below.rowT (n := w.heap.size + 3) hgr (fun k hk => by have := (World.ownsRow.lt HP6.o k hk).1; omega) (by simp; omega))
           have HO9 := Lh (World.ownsRow.kept (owns_alloc2 HO6.o _) hgr (own_diffN HP6.o HO6.o (by decide)))
           have HP9 := Lh (show w9.ownsRow (w.heap.size + 3) 27 8 (.slice a9 (j + 1) c9) (j + 1) (flatB (bitsN ys i j ++ [bitN zs])) by rw [flatB_append]; simpa [flatB] using hown)
           have F_v9 := Lh ((F_v6.o.alloc (.cells #[.int .u64 (num8 zs 0), .int .u64 (num8 zs 2), .int .u64 (num8 zs 1), .int .u64 (num8 zs 3), .int .u64 (num8 zs 4), .int .u64 (num8 zs 5), .int .u64 (num8 zs 6), .int .u64 (num8 zs 7)] 27)).keepN HBW9.o (by omega))
           obtain ⟨⟨y0, y1, y2, y3, y4, y5, y6, y7, y8, y9, y10⟩, t0, t1, t2, t3, t4, t5, t6, t7, t8, t9, t10⟩ := F_v9.o.k11
           clear hown hgr))
      all_goals
        go_wp2_with fail
        go_roundw
        case rel =>
         refine ⟨j + 1, .slice a9 (j + 1) c9, by omega, by go_num, ?_, own_far HO9.o _ _ (by simp <;> omega), ?_, F_v9.o.set (m := [v1, .slice a9 (j + 1) c9, .bool (b2 == 1), .int .u64 0, .int .u64 0, .int .u64 0, .int .u64 0, .int .u64 0, .int .u64 0, .int .u64 0, .int .u64 0]) 1 _ (by simp) rfl, ((F_o6.o.alloc _).keepN HBW9.o (by omega)).far _ _ (by simp <;> omega), ((HR6.o.alloc _).keepN HBW9.o (by omega)).set _ _ (by simp <;> omega), ?_⟩
         · have := HBW9.o.size; simp at this ⊢; omega
         · rw [HBN.o]; exact own_far HP9.o _ _ (by simp <;> omega)
         · exact ((HBW6.o.alloc HBW6.o.size _).trans (HBW9.o.mono (by omega))).setCell (by simp <;> omega) _
        case measure => simp [intOf] <;> omega
     case neg =>
      obtain rfl : j = m := by omega
      have hd : decide ((j : Int) < (j : Int)) = false := decide_eq_false (by omega)
      have HYJ := Lh (show 64 ≤ (ys.drop (16 * i + 64 * j)).length by rw [List.length_drop, HYL.o]; omega)
      have HYD := Lh (show Bytes (ys.drop (16 * i + 64 * j)) from HY.o.drop _)
      obtain ⟨a1, c1, rfl, hS1, hk1⟩ := ShS.of_owned2 HO.o
      obtain ⟨a2, c2, rfl, hS2, hk2⟩ := ShB.of_owned2 HP.o
      clear hS1 hS2
      go_wp2_with fail
      refine (bit_any _ HBW.o (by omega) HR.o HYD.o HYJ.o).mono ?_
      rintro e w6 ⟨rfl, -, hg6⟩
      have HBW6 := Lh (HBW.o.trans (hg6.blw (n := w.heap.size) (by omega) (by omega)))
      have HO6 := Lh (own_gro HO.o hg6 (by omega))
      have HP6 := Lh (own_gro HP.o hg6 (by omega))
      have F_v6 := Lh (F_v.o.gro hg6 (by omega))
      have F_o6 := Lh (F_o.o.gro hg6 (by omega))
      have hz6' : w.heap.size + 3 ≤ w6.heap.size := by have := hg6.size; omega
      have HZU := Lh (bitN_u HYD.o)
      obtain ⟨z, hzz⟩ : ∃ z, bitN (ys.drop (16 * i + 64 * j)) = z := ⟨_, rfl⟩
      have e0 : num8 (ys.drop (16 * i + 64 * j)) 0 = z.r0 := by rw [← hzz]; rfl
      have e1 : num8 (ys.drop (16 * i + 64 * j)) 2 = z.r1 := by rw [← hzz]; rfl
      have e2 : num8 (ys.drop (16 * i + 64 * j)) 1 = z.s0 := by rw [← hzz]; rfl
      have e3 : num8 (ys.drop (16 * i + 64 * j)) 3 = z.s1 := by rw [← hzz]; rfl
      have e4 : num8 (ys.drop (16 * i + 64 * j)) 4 = z.c0 := by rw [← hzz]; rfl
      have e5 : num8 (ys.drop (16 * i + 64 * j)) 5 = z.c1 := by rw [← hzz]; rfl
      have e6 : num8 (ys.drop (16 * i + 64 * j)) 6 = z.z0 := by rw [← hzz]; rfl
      have e7 : num8 (ys.drop (16 * i + 64 * j)) 7 = z.z1 := by rw [← hzz]; rfl
      rw [e0, e1, e2, e3, e4, e5, e6, e7]
      rw [hzz] at HZU HFIN
      clear e0 e1 e2 e3 e4 e5 e6 e7 hzz hg6 hd
      go_wp2_with (first
        | (refine wpL_storeCl rfl 27 (.tmp 91) (.tmp 90) (w.heap.size + 1 + 1) 3 _ [.int .u64 z.r0, .int .u64 z.r1, .int .u64 z.s0, .int .u64 z.s1, .int .u64 z.c0, .int .u64 z.c1, .int .u64 z.z0, .int .u64 z.z1] [.slice a1 i c1, .slice a2 j c2, .bool (b2 == 1), .int .u64 z.r0, .int .u64 z.r1, .int .u64 z.s0, .int .u64 z.s1, .int .u64 z.c0, .int .u64 z.c1, .int .u64 z.z0, .int .u64 z.z1] rfl rfl rfl rfl (by kernel_rfl) (by intro u hu; simp at hu; rcases hu with rfl | rfl | rfl | rfl | rfl | rfl | rfl | rfl <;> rfl) F_v6.o (by simp) rfl ?_
           intro w7 hc7 hg7 hz7
           have F_w := Lh hc7
           have HG7 := Lh hg7
           have hz7' : w7.heap.size = w6.heap.size := hz7
           clear hc7 hg7 hz7)
        | (refine wpL_loadCl rfl 29 (.tmp 8) (w.heap.size + 1 + 1) _ rfl rfl _ Tryd.underlying29 rfl (by kernel_rfl) F_w.o ?_)
        | (refine wpL_storeCl rfl 29 (.tmp 2) (.tmp 92) w.heap.size 0 _ [.slice a1 i c1, .slice a2 j c2, .bool (b2 == 1), .int .u64 z.r0, .int .u64 z.r1, .int .u64 z.s0, .int .u64 z.s1, .int .u64 z.c0, .int .u64 z.c1, .int .u64 z.z0, .int .u64 z.z1] [.slice a1 i c1, .slice a2 j c2, .bool (b2 == 1), .int .u64 z.r0, .int .u64 z.r1, .int .u64 z.s0, .int .u64 z.s1, .int .u64 z.c0, .int .u64 z.c1, .int .u64 z.z0, .int .u64 z.z1] rfl rfl rfl rfl (by kernel_rfl) (by intro u hu; simp at hu; rcases hu with rfl | rfl | rfl | rfl | rfl | rfl | rfl | rfl | rfl | rfl | rfl <;> rfl) (F_o6.o.gro HG7.o (by omega)) (by simp) rfl ?_
           intro w8 hc8 hg8 hz8
           have F_x := Lh hc8
           have HG8 := Lh hg8
           have hz8' : w8.heap.size = w7.heap.size := hz8
           clear hc8 hg8 hz8))
      obtain ⟨x1, y1, ex1, hS1, -⟩ := ShS.of_owned2 (own_gro (own_gro HO6.o HG7.o (by omega)) HG8.o (by omega))
      obtain ⟨x2, y2, ex2, hS2, -⟩ := ShB.of_owned2 (own_gro (own_gro HP6.o HG7.o (by omega)) HG8.o (by omega))
      injection ex1 with f1 f2 f3
      injection ex2 with f4 f5 f6
      subst f1 f4
      refine bodyPost_ret (res_vote rfl F_x.o _ rfl rfl) rfl ?_
      refine ⟨⟨a1, i, c1, boxesN ys i, a2, j, c2, bitsN ys i j, (b2 == 1), z⟩, by rw [HFIN.o]; rfl, ⟨hS1, boxesN_u HY.o _, hk1, hS2, bitsN_u HY.o _ _, hk2, HZU.o⟩, by rw [HFIN.o], by rw [HFIN.o], by rw [HFIN.o]; simp only [HB2.o]; rfl, by rw [HFIN.o], ?_⟩
      exact (HBW6.o.trans (HG7.o.blw (n := w.heap.size) (by omega) (by omega))).trans (HG8.o.blw (n := w.heap.size) (by omega) (by omega))
open Go Go.RowKit Num Sha
open Go Go.RowKit Num Sha
open Go Go.RowKit Num Sha
theorem eq_p64d (n : Nat) (a b c d : Int) (w : World) : (Op.equalIn (n + 2) 25 (.agg #[.int .u64 a, .int .u64 b]) (.agg #[.int .u64 c, .int .u64 d])).run Tryd.prog w = .ok (a == c && b == d) w := by
 have u3 := Tryd.underlying24
 have a3 := Tryd.isAgg24
 have z3 := Tryd.sizeOf24
 rw [Op.equalIn]
 simp only [Sem.run_bind, run_underlying Tryd.underlying25, Result.andThen_ok]
 simp only [Std.Legacy.Range.forIn_eq_forIn_range', Std.Legacy.Range.size, Nat.sub_zero, Nat.add_sub_cancel, Nat.div_one, List.range'_succ, List.range'_zero, List.forIn_cons, List.forIn_nil]
 go_simp
 by_cases h1 : a = c <;> by_cases h2 : b = d <;> simp [h1, h2]
def greatV (V : Vt) : Bool := decide (20 < V.n) || decide (20 < V.m)
open Go Go.RowKit Num Sha
theorem Bt.u.nn {z : Bt} (h : z.u) : 0 ≤ z.r0 ∧ 0 ≤ z.r1 ∧ 0 ≤ z.s0 ∧ 0 ≤ z.s1 ∧ 0 ≤ z.c0 ∧ 0 ≤ z.c1 ∧ 0 ≤ z.z0 ∧ 0 ≤ z.z1 := by
 obtain ⟨h0, h1, h2, h3, h4, h5, h6, h7⟩ := h
 exact ⟨h0.1, h1.1, h2.1, h3.1, h4.1, h5.1, h6.1, h7.1⟩
theorem ShI.lit1 (q : IntKind) (w : World) (x : Int) (T : TypeId) (s : Nat) (hs : s = w.heap.size) : ShI q (w.alloc (.cells #[.int q x] T)) (some ⟨s, 0, none⟩) 1 [x] :=
  .inr ⟨s, 0, rfl, rfl, by subst hs; simp, fun i hi => by rw [Nat.zero_add]; exact (Arr.new q w [x] T s hs).c i hi⟩
def provB (P Q G y a b : Int) (z : Bt) (x : Int) : Prop :=
  askS P Q G [z.c0, z.c1, z.z0, z.z1] [y, a, b, z.r0, z.r1, z.s0, z.s1] = 0 ∧ bvP P Q G y a b z.r0 z.r1 z.s0 z.s1 z.c0 z.c1 z.z0 z.z1 [x]
set_option maxHeartbeats 8000000 in
theorem proved_any {P Q G y a b x : Int} {z : Bt} {v : Bool} (w : World) (hT : Tabs w) (hP : 0 ≤ P) (hQ : 0 ≤ Q) (hG : 0 ≤ G) (hy : 0 ≤ y) (ha : 0 ≤ a) (hb : 0 ≤ b) (hz : z.u) (hx0 : 0 ≤ x) (hx1 : x < 256) (hv : v = true ↔ provB P Q G y a b z x) :
    Calls Tryd.prog 88 #[.agg #[.int .u64 P, .int .u64 Q, .int .u64 G], .int .u64 y, .agg #[.int .u64 a, .int .u64 b], .agg #[.int .u64 z.r0, .int .u64 z.r1, .int .u64 z.s0, .int .u64 z.s1, .int .u64 z.c0, .int .u64 z.c1, .int .u64 z.z0, .int .u64 z.z1], .int .u8 x] w fun e w' => e = .returned (.bool v) ∧ Below w.heap.size w w' := by
  have HT := Lh hT
  obtain ⟨n0, n1, n2, n3, n4, n5, n6, n7⟩ := hz.nn
  have HV := Lh hv
  have F_g := Lh (show Cl (((w.alloc (.cells #[.int .u64 P, .int .u64 Q, .int .u64 G] 49)).alloc (.cells #[.int .u64 a, .int .u64 b] 78)).alloc (.cells #[.int .u64 z.r0, .int .u64 z.r1, .int .u64 z.s0, .int .u64 z.s1, .int .u64 z.c0, .int .u64 z.c1, .int .u64 z.z0, .int .u64 z.z1] 27)) w.heap.size [.int .u64 P, .int .u64 Q, .int .u64 G] from ((Cl.at w [.int .u64 P, .int .u64 Q, .int .u64 G] _ w.heap.size rfl).alloc _).alloc _)
  have F_s := Lh (show Cl (((w.alloc (.cells #[.int .u64 P, .int .u64 Q, .int .u64 G] 49)).alloc (.cells #[.int .u64 a, .int .u64 b] 78)).alloc (.cells #[.int .u64 z.r0, .int .u64 z.r1, .int .u64 z.s0, .int .u64 z.s1, .int .u64 z.c0, .int .u64 z.c1, .int .u64 z.z0, .int .u64 z.z1] 27)) (w.heap.size + 1) [.int .u64 a, .int .u64 b] from (Cl.at (w.alloc (.cells #[.int .u64 P, .int .u64 Q, .int .u64 G] 49)) [.int .u64 a, .int .u64 b] _ (w.heap.size + 1) (by simp)).alloc _)
  have F_z := Lh (show Cl (((w.alloc (.cells #[.int .u64 P, .int .u64 Q, .int .u64 G] 49)).alloc (.cells #[.int .u64 a, .int .u64 b] 78)).alloc (.cells #[.int .u64 z.r0, .int .u64 z.r1, .int .u64 z.s0, .int .u64 z.s1, .int .u64 z.c0, .int .u64 z.c1, .int .u64 z.z0, .int .u64 z.z1] 27)) (w.heap.size + 1 + 1) [.int .u64 z.r0, .int .u64 z.r1, .int .u64 z.s0, .int .u64 z.s1, .int .u64 z.c0, .int .u64 z.c1, .int .u64 z.z0, .int .u64 z.z1] from Cl.at ((w.alloc (.cells #[.int .u64 P, .int .u64 Q, .int .u64 G] 49)).alloc (.cells #[.int .u64 a, .int .u64 b] 78)) [.int .u64 z.r0, .int .u64 z.r1, .int .u64 z.s0, .int .u64 z.s1, .int .u64 z.c0, .int .u64 z.c1, .int .u64 z.z0, .int .u64 z.z1] _ (w.heap.size + 1 + 1) (by simp))
  have HBW := Lh (show Below w.heap.size w (((w.alloc (.cells #[.int .u64 P, .int .u64 Q, .int .u64 G] 49)).alloc (.cells #[.int .u64 a, .int .u64 b] 78)).alloc (.cells #[.int .u64 z.r0, .int .u64 z.r1, .int .u64 z.s0, .int .u64 z.s1, .int .u64 z.c0, .int .u64 z.c1, .int .u64 z.z0, .int .u64 z.z1] 27)) from (((Below.refl _ _).alloc (Nat.le_refl _) _).alloc (by simp) _).alloc (by simp <;> omega) _)
  have HX := Lh (show Txt ((((w.alloc (.cells #[.int .u64 P, .int .u64 Q, .int .u64 G] 49)).alloc (.cells #[.int .u64 a, .int .u64 b] 78)).alloc (.cells #[.int .u64 z.r0, .int .u64 z.r1, .int .u64 z.s0, .int .u64 z.s1, .int .u64 z.c0, .int .u64 z.c1, .int .u64 z.z0, .int .u64 z.z1] 27)).alloc (.cells #[.int .u8 x] 5)) (some ⟨w.heap.size + 1 + 1 + 1, 0, none⟩) 1 [x] from
    ⟨(HT.o.below HBW.o).below ((Below.refl _ _).alloc (Nat.le_refl _) _), ShI.lit1 .u8 _ x _ _ (by simp), fun u hu => by simp at hu; subst hu; exact ⟨hx0, hx1⟩⟩)
  obtain ⟨v', e', hR⟩ := RetB.exists (lgS (askS P Q G [z.c0, z.c1, z.z0, z.z1] [y, a, b, z.r0, z.r1, z.s0, z.s1]) 1) (bvP P Q G y a b z.r0 z.r1 z.s0 z.s1 z.c0 z.c1 z.z0 z.z1 [x])
  have HR := Lh hR
  clear hT hz hv hR
  have g0 := F_g.o.c 0 _ rfl
  have g1 := F_g.o.c 1 _ rfl
  have g2 := F_g.o.c 2 _ rfl
  have s0 := F_s.o.c 0 _ rfl
  have s1 := F_s.o.c 1 _ rfl
  have z0 := F_z.o.c 0 _ rfl
  have z1 := F_z.o.c 1 _ rfl
  have z2 := F_z.o.c 2 _ rfl
  have z3 := F_z.o.c 3 _ rfl
  have z4 := F_z.o.c 4 _ rfl
  have z5 := F_z.o.c 5 _ rfl
  have z6 := F_z.o.c 6 _ rfl
  have z7 := F_z.o.c 7 _ rfl
  go_enter Tryd.func88, Tryd.ntmps88
  go_wp2_with fail
  clear g0 g1 g2 s0 s1 z0 z1 z2 z3 z4 z5 z6 z7
  refine (pbitVerify_any _ HX.o hP hQ hG hy ha hb n0 n1 n2 n3 n4 n5 n6 n7 (by decide) HR.o).mono ?_
  rintro e w5 ⟨rfl, hb5⟩
  have HB5 := Lh ((HBW.o.alloc HBW.o.size (.cells #[.int .u8 x] 5)).trans (hb5.mono (by simp; omega)))
  clear hb5
  rcases HR.o with ⟨h1, h2, rfl⟩ | ⟨h1, rfl, rfl⟩
  · have HE := Lh (show v' = v by
      have h3 : provB P Q G y a b z x ↔ v' = true := ⟨fun h => h2.2 h.2, fun h => ⟨(lgS_zero h1).1, h2.1 h⟩⟩
      have h4 := HV.o.trans h3
      cases v <;> cases v' <;> simp_all)
    clear h1 h2
    go_wp2_with fail
    go_ret
    exact ⟨by rw [HE.o]; rfl, HB5.o⟩
  · have HE := Lh (show v = false by
      cases v with
      | false => rfl
      | true => exact absurd (show lgS (askS P Q G [z.c0, z.c1, z.z0, z.z1] [y, a, b, z.r0, z.r1, z.s0, z.s1]) 1 = 0 by unfold lgS; rw [if_pos (HV.o.1 rfl).1]; rfl) h1)
    go_wp2_with fail
    go_ret
    exact ⟨by rw [HE.o]; rfl, HB5.o⟩
open Go Go.RowKit Num Sha
theorem fields_bit : (Tryd.prog.fieldsOf 27).toList.map (fun f => (f.name, f.type, f.offset)) = [("R", 25, 0), ("S", 25, 2), ("C", 25, 4), ("Z", 25, 6)] := by kernel_rfl
set_option maxHeartbeats 4000000 in
theorem eq_bit2 (z x : Bt) (b : Bool) (hb : b = true ↔ z = x) (w : World) : (Op.equalIn 10000 27 (.agg #[.int .u64 z.r0, .int .u64 z.r1, .int .u64 z.s0, .int .u64 z.s1, .int .u64 z.c0, .int .u64 z.c1, .int .u64 z.z0, .int .u64 z.z1]) (.agg #[.int .u64 x.r0, .int .u64 x.r1, .int .u64 x.s0, .int .u64 x.s1, .int .u64 x.c0, .int .u64 x.c1, .int .u64 x.z0, .int .u64 x.z1])).run Tryd.prog w = .ok b w := by
 have hu : Tryd.prog.underlying 27 = some (.struct (Tryd.prog.fieldsOf 27)) := by kernel_rfl
 rw [show (10000 : Nat) = 9999 + 1 from rfl, run_equalIn_struct w 9999 27 _ _ hu (by kernel_rfl)]
 have hf := fields_bit
 have ua := Tryd.isAgg25
 have za := Tryd.sizeOf25
 have hq : ∀ a b c d : Int, (Op.equalIn 9999 25 (.agg #[.int .u64 a, .int .u64 b]) (.agg #[.int .u64 c, .int .u64 d])).run Tryd.prog w = .ok (a == c && b == d) w := fun a b c d => eq_p64d 9997 a b c d w
 generalize (Tryd.prog.fieldsOf 27).toList = FF at hf ⊢
 have hl : FF.length = 4 := by have := congrArg List.length hf; simpa using this
 obtain ⟨f0, f1, f2, f3, rfl⟩ : ∃ f0 f1 f2 f3, FF = [f0, f1, f2, f3] := by
  match FF, hl with
  | [a, b, c, d], _ => exact ⟨a, b, c, d, rfl⟩
 simp only [List.map_cons, List.map_nil, List.cons.injEq, Prod.mk.injEq, and_true] at hf
 obtain ⟨⟨e0, e1, e2⟩, ⟨e3, e4, e5⟩, ⟨e6, e7, e8⟩, e9, e10, e11⟩ := hf
 have p0 : ∀ s : Bt, (part 25 #[.int .u64 s.r0, .int .u64 s.r1, .int .u64 s.s0, .int .u64 s.s1, .int .u64 s.c0, .int .u64 s.c1, .int .u64 s.z0, .int .u64 s.z1] 0).run Tryd.prog w = .ok (.agg #[.int .u64 s.r0, .int .u64 s.r1]) w := fun s => by go_simp
 have p2 : ∀ s : Bt, (part 25 #[.int .u64 s.r0, .int .u64 s.r1, .int .u64 s.s0, .int .u64 s.s1, .int .u64 s.c0, .int .u64 s.c1, .int .u64 s.z0, .int .u64 s.z1] 2).run Tryd.prog w = .ok (.agg #[.int .u64 s.s0, .int .u64 s.s1]) w := fun s => by go_simp
 have p4 : ∀ s : Bt, (part 25 #[.int .u64 s.r0, .int .u64 s.r1, .int .u64 s.s0, .int .u64 s.s1, .int .u64 s.c0, .int .u64 s.c1, .int .u64 s.z0, .int .u64 s.z1] 4).run Tryd.prog w = .ok (.agg #[.int .u64 s.c0, .int .u64 s.c1]) w := fun s => by go_simp
 have p6 : ∀ s : Bt, (part 25 #[.int .u64 s.r0, .int .u64 s.r1, .int .u64 s.s0, .int .u64 s.s1, .int .u64 s.c0, .int .u64 s.c1, .int .u64 s.z0, .int .u64 s.z1] 6).run Tryd.prog w = .ok (.agg #[.int .u64 s.z0, .int .u64 s.z1]) w := fun s => by go_simp
 have hb' : b = (((z.r0 == x.r0 && z.r1 == x.r1) && (z.s0 == x.s0 && z.s1 == x.s1)) && ((z.c0 == x.c0 && z.c1 == x.c1) && (z.z0 == x.z0 && z.z1 == x.z1))) := by
  rw [Bool.eq_iff_iff, hb]
  obtain ⟨z0, z1, z2, z3, z4, z5, z6, z7⟩ := z
  obtain ⟨x0, x1, x2, x3, x4, x5, x6, x7⟩ := x
  simp only [Bt.mk.injEq, Bool.and_eq_true, beq_iff_eq]
  constructor
  · rintro ⟨h0, h1, h2, h3, h4, h5, h6, h7⟩; exact ⟨⟨⟨h0, h1⟩, h2, h3⟩, ⟨h4, h5⟩, h6, h7⟩
  · rintro ⟨⟨⟨h0, h1⟩, h2, h3⟩, ⟨h4, h5⟩, h6, h7⟩; exact ⟨h0, h1, h2, h3, h4, h5, h6, h7⟩
 subst hb'
 simp only [Op.eqFields, e0, e1, e2, e3, e4, e5, e6, e7, e8, e9, e10, e11]
 rw [if_pos (by decide), if_pos (by decide), if_pos (by decide), if_pos (by decide)]
 simp only [Sem.run_bind, Sem.run_ite, Sem.run_pure, p0, p2, p4, p6, hq, Result.andThen_ok]
 generalize (z.r0 == x.r0 && z.r1 == x.r1) = b0
 generalize (z.s0 == x.s0 && z.s1 == x.s1) = b1
 generalize (z.c0 == x.c0 && z.c1 == x.c1) = b2
 generalize (z.z0 == x.z0 && z.z1 == x.z1) = b3
 cases b0 <;> cases b1 <;> cases b2 <;> cases b3 <;> simp
def validP (P Q G y : Int) (n : Nat) (V : Vt) : Prop := V.n = n ∧ V.m = n ∧ (∀ i, i < n → provB P Q G y (V.bs.getD i (0, 0)).1 (V.bs.getD i (0, 0)).2 (V.ps.getD i Bt.zero) (i : Int)) ∧
  ((V.one = true ∧ okS P V.bs = true ∧ provB P Q G y (allP P V.bs).1 (allP P V.bs).2 V.z 255) ∨ (V.one = false ∧ V.z = Bt.zero))
theorem boolP {v : Bool} {p : Prop} (hv : v = true ↔ p) (h : ¬ p) : v = false := by
 cases v with
 | false => rfl
 | true => exact absurd (hv.1 rfl) h
theorem Prop.bool (p : Prop) : ∃ v : Bool, v = true ↔ p := by
 by_cases h : p
 · exact ⟨true, by simp [h]⟩
 · exact ⟨false, by simp [h]⟩
theorem emod_nn {a P : Int} (ha : 0 ≤ a) (hP : 0 ≤ P) : 0 ≤ a % P := by
 by_cases h : P = 0
 · subst h; simpa using ha
 · exact Int.emod_nonneg _ h
theorem allP_nn {P : Int} (hP : 0 ≤ P) (ps : List (Int × Int)) (h : ∀ p, p ∈ ps → 0 ≤ p.1 ∧ 0 ≤ p.2) : 0 ≤ (allP P ps).1 ∧ 0 ≤ (allP P ps).2 := by
 suffices hs : ∀ (l : List (Int × Int)) (x : Int × Int), 0 ≤ x.1 → 0 ≤ x.2 → (∀ p, p ∈ l → 0 ≤ p.1 ∧ 0 ≤ p.2) → 0 ≤ (l.foldl (plusP P) x).1 ∧ 0 ≤ (l.foldl (plusP P) x).2 from hs ps (1, 1) (by decide) (by decide) h
 intro l
 induction l with
 | nil => intro x h1 h2 _; exact ⟨h1, h2⟩
 | cons p l ih =>
  intro x h1 h2 h3
  rw [List.foldl_cons]
  have h4 := h3 p (by simp)
  have e1 : 0 ≤ x.1 * p.1 := Int.mul_nonneg h1 h4.1
  have e2 : 0 ≤ x.2 * p.2 := Int.mul_nonneg h2 h4.2
  exact ih _ (by unfold plusP; exact emod_nn e1 hP) (by unfold plusP; exact emod_nn e2 hP) (fun q hq => h3 q (by simp [hq]))
set_option maxHeartbeats 8000000 in
theorem valid_aux {P Q G y : Int} {a b : Option Addr} {n c d : Nat} {bs : List (Int × Int)} {ps : List Bt} {one : Bool} {z : Bt} {v : Bool} (w : World) (hT : Tabs w) (hH : Has P Q G) (hy : 0 ≤ y) (hn : n ≤ 10) (hn1 : 1 ≤ n)
    (h1 : ShS w a n bs) (u1 : ∀ q, q ∈ bs → U64 q.1 ∧ U64 q.2) (h2 : ShB w b n ps) (u2 : ∀ q, q ∈ ps → q.u) (uz : z.u)
    (hv : v = true ↔ (∀ i, i < n → provB P Q G y (bs.getD i (0, 0)).1 (bs.getD i (0, 0)).2 (ps.getD i Bt.zero) (i : Int)) ∧ ((one = true ∧ okS P bs = true ∧ provB P Q G y (allP P bs).1 (allP P bs).2 z 255) ∨ (one = false ∧ z = Bt.zero))) :
    Calls Tryd.prog 57 #[.agg #[.int .u64 P, .int .u64 Q, .int .u64 G], .int .u64 y, .int .i64 (n : Int), .agg #[.slice a n c, .slice b n d, .bool one, .int .u64 z.r0, .int .u64 z.r1, .int .u64 z.s0, .int .u64 z.s1, .int .u64 z.c0, .int .u64 z.c1, .int .u64 z.z0, .int .u64 z.z1]] w fun e w' => e = .returned (.bool v) ∧ Below w.heap.size w w' := by
  have hP : 0 ≤ P := by obtain ⟨p5, p3, hQ, pq, g2, gP⟩ := id hH; omega
  have hG : 0 ≤ G := by obtain ⟨p5, p3, hQ, pq, g2, gP⟩ := id hH; omega
  have hQ : 0 ≤ Q := by obtain ⟨p5, p3, hQ, pq, g2, gP⟩ := id hH; omega
  obtain ⟨s, o, hsa, -⟩ := h1.at 0 (by omega)
  obtain ⟨s', o', -, hsb, -⟩ := h2.at 0 (by omega)
  subst hsa hsb
  have HH := Lh hH
  have HT := Lh hT
  have H1 := Lh h1
  have H2 := Lh h2
  have U1 := Lh u1
  have U2 := Lh u2
  have UZ := Lh uz
  have HV := Lh hv
  have F_g := Lh (show Cl ((w.alloc (.cells #[.int .u64 P, .int .u64 Q, .int .u64 G] 49)).alloc (.cells #[.slice (some ⟨s, o, none⟩) n c, .slice (some ⟨s', o', none⟩) n d, .bool one, .int .u64 z.r0, .int .u64 z.r1, .int .u64 z.s0, .int .u64 z.s1, .int .u64 z.c0, .int .u64 z.c1, .int .u64 z.z0, .int .u64 z.z1] 29)) w.heap.size [.int .u64 P, .int .u64 Q, .int .u64 G] from (Cl.at w [.int .u64 P, .int .u64 Q, .int .u64 G] _ w.heap.size rfl).alloc _)
  have F_v := Lh (show Cl ((w.alloc (.cells #[.int .u64 P, .int .u64 Q, .int .u64 G] 49)).alloc (.cells #[.slice (some ⟨s, o, none⟩) n c, .slice (some ⟨s', o', none⟩) n d, .bool one, .int .u64 z.r0, .int .u64 z.r1, .int .u64 z.s0, .int .u64 z.s1, .int .u64 z.c0, .int .u64 z.c1, .int .u64 z.z0, .int .u64 z.z1] 29)) (w.heap.size + 1) [.slice (some ⟨s, o, none⟩) n c, .slice (some ⟨s', o', none⟩) n d, .bool one, .int .u64 z.r0, .int .u64 z.r1, .int .u64 z.s0, .int .u64 z.s1, .int .u64 z.c0, .int .u64 z.c1, .int .u64 z.z0, .int .u64 z.z1] from Cl.at (w.alloc (.cells #[.int .u64 P, .int .u64 Q, .int .u64 G] 49)) [.slice (some ⟨s, o, none⟩) n c, .slice (some ⟨s', o', none⟩) n d, .bool one, .int .u64 z.r0, .int .u64 z.r1, .int .u64 z.s0, .int .u64 z.s1, .int .u64 z.c0, .int .u64 z.c1, .int .u64 z.z0, .int .u64 z.z1] _ (w.heap.size + 1) (by simp))
  have HBW := Lh (show Below w.heap.size w ((w.alloc (.cells #[.int .u64 P, .int .u64 Q, .int .u64 G] 49)).alloc (.cells #[.slice (some ⟨s, o, none⟩) n c, .slice (some ⟨s', o', none⟩) n d, .bool one, .int .u64 z.r0, .int .u64 z.r1, .int .u64 z.s0, .int .u64 z.s1, .int .u64 z.c0, .int .u64 z.c1, .int .u64 z.z0, .int .u64 z.z1] 29)) from ((Below.refl _ _).alloc (Nat.le_refl _) _).alloc (by simp) _)
  clear hT h1 h2 u1 u2 uz hv hH
  go_enter Tryd.func57, Tryd.ntmps57
  obtain ⟨⟨q0, q1, q2, q3, q4, q5, q6, q7, q8, q9, q10⟩, -⟩ := F_v.o.k11
  go_wp2_with fail
  clear q0 q1 q2 q3 q4 q5 q6 q7 q8 q9 q10
  go_loopw [28] (fun c28 wr => ∃ i : Nat, i ≤ n ∧ c28 = .int .i64 i ∧ Hid (∀ j, j < i → provB P Q G y (bs.getD j (0, 0)).1 (bs.getD j (0, 0)).2 (ps.getD j Bt.zero) (j : Int)) ∧ Hid (Cl wr w.heap.size [.int .u64 P, .int .u64 Q, .int .u64 G]) ∧ Hid (Cl wr (w.heap.size + 1) [.slice (some ⟨s, o, none⟩) n c, .slice (some ⟨s', o', none⟩) n d, .bool one, .int .u64 z.r0, .int .u64 z.r1, .int .u64 z.s0, .int .u64 z.s1, .int .u64 z.c0, .int .u64 z.c1, .int .u64 z.z0, .int .u64 z.z1]) ∧ Hid (Below w.heap.size w wr)) (fun c28 _ => n - (intOf c28).toNat)
  case atStart => exact ⟨0, by omega, rfl, Lh (fun j hj => by omega), F_g.o, F_v.o, HBW.o⟩
  case round =>
   clear F_g F_v HBW
   obtain ⟨i, hi, rfl, HPR, F_g, F_v, HBW⟩ := hrel
   by_cases hlt : i < n
   case pos =>
    have hd : decide ((i : Int) < (n : Int)) = true := decide_eq_true (by omega)
    have hi0 : (0 : Int) ≤ (i : Int) := by omega
    have hi2 : (i : Int) < (n : Int) := by omega
    have hwi : IntKind.i64.wrap ((i : Int) + 1) = (i : Int) + 1 := IntWalk.i64_in _ (by omega)
    have hw8 : IntKind.u8.wrap (i : Int) = (i : Int) := by simp [IntKind.wrap, IntKind.bits, IntKind.signed]; omega
    have cS : Tryd.prog.cellsOf 78 = 2 := by kernel_rfl
    have cB : Tryd.prog.cellsOf 27 = 8 := by kernel_rfl
    obtain ⟨s1, o1, hsa, hsl, e0, e1⟩ := (H1.o.keep HBW.o).at i hlt
    injection hsa with hsa; injection hsa with ea eb _; subst ea eb
    obtain ⟨x, x2, hxy⟩ : ∃ x y, bs.getD i (0, 0) = (x, y) := ⟨_, _, rfl⟩
    rw [hxy] at e0 e1
    simp only at e0 e1
    have hxm : (x, x2) ∈ bs := by
     have hl : i < bs.length := by rw [← H1.o.len]; exact hlt
     rw [← hxy, List.getD_eq_getElem?_getD, List.getElem?_eq_getElem hl]; exact List.getElem_mem hl
    have x0 := (U1.o _ hxm).1.1
    have y0 := (U1.o _ hxm).2.1
    have HBW6 := Lh (HBW.o.alloc HBW.o.size (.cells #[.int .u64 x, .int .u64 x2] 78))
    obtain ⟨s2, o2, zi, hsb, hz_, hbc⟩ := (H2.o.keep HBW6.o).at i hlt
    injection hsb with hsb; injection hsb with ea eb _; subst ea eb
    have HZI := Lh (show zi.u from U2.o zi (List.mem_of_getElem? hz_))
    obtain ⟨-, b0, b1, b2, b3, b4, b5, b6, b7⟩ := hbc
    have HPI := Lh (show provB P Q G y (bs.getD i (0, 0)).1 (bs.getD i (0, 0)).2 (ps.getD i Bt.zero) (i : Int) ↔ provB P Q G y x x2 zi (i : Int) by rw [hxy, List.getD_eq_getElem?_getD, hz_]; rfl)
    clear hxy hxm hsl hz_
    have F_s := Lh (Cl.at wr [.int .u64 x, .int .u64 x2] 78 wr.heap.size rfl)
    have F_g6 := Lh (F_g.o.alloc (.cells #[.int .u64 x, .int .u64 x2] 78))
    have F_v6 := Lh (F_v.o.alloc (.cells #[.int .u64 x, .int .u64 x2] 78))
    obtain ⟨v', hv'⟩ := Prop.bool (provB P Q G y x x2 zi (i : Int))
    have HV' := Lh hv'
    clear hv'
    go_wp2_with fail
    have g0 := F_g6.o.c 0 _ rfl
    have g1 := F_g6.o.c 1 _ rfl
    have g2' := F_g6.o.c 2 _ rfl
    have s0 := F_s.o.c 0 _ rfl
    have s1 := F_s.o.c 1 _ rfl
    have v1 := F_v6.o.c 1 _ rfl
    go_cut [28, 44] from 28 to 45 (fun c28 c44 wx => c28 = .int .i64 i ∧ c44 = .bool (!v') ∧ Hid (Cl wx w.heap.size [.int .u64 P, .int .u64 Q, .int .u64 G]) ∧ Hid (Cl wx (w.heap.size + 1) [.slice (some ⟨s, o, none⟩) n c, .slice (some ⟨s', o', none⟩) n d, .bool one, .int .u64 z.r0, .int .u64 z.r1, .int .u64 z.s0, .int .u64 z.s1, .int .u64 z.c0, .int .u64 z.c1, .int .u64 z.z0, .int .u64 z.z1]) ∧ Hid (Below w.heap.size w wx))
    case first =>
     go_region_law (first
       | (go_simp
          go_at_call 88
          refine (proved_any (v := v') _ ((HT.o.below HBW6.o).below (Below.refl _ _).drew) hP hQ hG hy x0 y0 HZI.o hi0 (by omega) HV'.o).mono ?_
          rintro e w5 ⟨rfl, hb5⟩
          have HB5 := Lh ((Below.refl _ _).drew.trans hb5)
          clear hb5))
     all_goals (go_wp2_with fail; go_meet)
     all_goals exact ⟨rfl, by simp, F_g6.o.keep HB5.o, F_v6.o.keep HB5.o, HBW6.o.trans (HB5.o.mono HBW6.o.size)⟩
    case rest =>
     clear F_g F_v HBW F_g6 F_v6 F_s HBW6 g0 g1 g2' s0 s1 v1 b0 b1 b2 b3 b4 b5 b6 b7 e0 e1
     obtain ⟨rfl, rfl, F_g, F_v, HBW⟩ := hcut
     cases v' with
     | true =>
      simp only [Bool.not_true]
      go_wp2_with fail
      go_roundw
      case rel => exact ⟨i + 1, by omega, by go_num, Lh (fun j hj => by
       by_cases hj' : j < i
       · exact HPR.o j hj'
       · obtain rfl : j = i := by omega
         exact HPI.o.2 (HV'.o.1 rfl)), F_g.o, F_v.o, HBW.o⟩
      case measure => simp [intOf] <;> omega
     | false =>
      have HVF := Lh (show v = false from boolP HV.o (fun h => by have := HV'.o.2 (HPI.o.1 (h.1 i hlt)); cases this))
      simp only [Bool.not_false]
      go_wp2_with fail
      go_ret
      exact ⟨by rw [HVF.o]; rfl, HBW.o⟩
   case neg =>
    obtain rfl : i = n := by omega
    have hd : decide ((i : Int) < (i : Int)) = false := decide_eq_false (by omega)
    obtain ⟨⟨q0, q1, q2, q3, q4, q5, q6, q7, q8, q9, q10⟩, -⟩ := F_v.o.k11
    cases one with
    | false =>
     obtain ⟨e, he⟩ := Prop.bool (z = Bt.zero)
     have HE := Lh (show v = e by
      have h1 : v = true ↔ z = Bt.zero := HV.o.trans ⟨fun h => by rcases h.2 with ⟨h2, -⟩ | ⟨-, h2⟩; cases h2; exact h2, fun h => ⟨HPR.o, .inr ⟨rfl, h⟩⟩⟩
      rw [Bool.eq_iff_iff, h1, he])
     have heq := eq_bit2 z Bt.zero e he
     simp only [Bt.zero] at heq
     clear he
     go_wp2_with fail
     go_ret
     exact ⟨by rw [HE.o]; rfl, HBW.o⟩
    | true =>
     obtain ⟨sx, sy, se, hS⟩ := SumS.exists P Q G bs
     have HS := Lh hS
     clear hS
     have HNN := Lh (show ∀ p, p ∈ bs → 0 ≤ p.1 ∧ 0 ≤ p.2 from fun p hp => ⟨(U1.o p hp).1.1, (U1.o p hp).2.1⟩)
     have g0 := F_g.o.c 0 _ rfl
     have g1 := F_g.o.c 1 _ rfl
     have g2' := F_g.o.c 2 _ rfl
     have HEB := Lh (show v = true ↔ okS P bs = true ∧ provB P Q G y (allP P bs).1 (allP P bs).2 z 255 from
       HV.o.trans ⟨fun h => (h.2.resolve_right (fun h3 => by cases h3.1)).2, fun h => ⟨HPR.o, .inl ⟨rfl, h⟩⟩⟩)
     go_wp2_with fail
     clear g0 g1 g2' q0 q1 q2 q3 q4 q5 q6 q7 q8 q9 q10
     refine (esum_any _ hP hQ hG (H1.o.keep HBW.o) HNN.o HS.o).mono ?_
     rintro e w6 ⟨rfl, hb6⟩
     have F_g6 := Lh ((F_g.o.keep hb6).alloc (.cells #[.int .u64 sx, .int .u64 sy] 78))
     have F_v6 := Lh ((F_v.o.keep hb6).alloc (.cells #[.int .u64 sx, .int .u64 sy] 78))
     have HB6' := HBW.o.trans (hb6.mono HBW.o.size)
     have HB6 := Lh (HB6'.alloc HB6'.size (.cells #[.int .u64 sx, .int .u64 sy] 78))
     have F_s := Lh (Cl.at w6 [.int .u64 sx, .int .u64 sy] 78 w6.heap.size rfl)
     clear hb6 HB6'
     have g0 := F_g6.o.c 0 _ rfl
     have g1 := F_g6.o.c 1 _ rfl
     have g2' := F_g6.o.c 2 _ rfl
     have s0 := F_s.o.c 0 _ rfl
     have s1 := F_s.o.c 1 _ rfl
     obtain ⟨⟨q0, q1, q2, q3, q4, q5, q6, q7, q8, q9, q10⟩, -⟩ := F_v6.o.k11
     have hlen : bs.length ≤ 4096 := by rw [← H1.o.len]; omega
     rcases HS.o with ⟨h, -⟩ | ⟨-, h, -⟩ | ⟨-, -, h, rfl, rfl, rfl⟩ | ⟨-, -, h, h2, rfl⟩
     · exact absurd HH.o h
     · omega
     · have HVF := Lh (show v = false from boolP HEB.o (fun hh => by rw [h] at hh; cases hh.1))
       clear hlen h
       go_wp2_with fail
       go_ret
       exact ⟨by rw [HVF.o]; rfl, HB6.o⟩
     · have hnn := allP_nn hP bs HNN.o
       rw [h2] at hnn
       have sx0 : 0 ≤ sx := hnn.1
       have sy0 : 0 ≤ sy := hnn.2
       have HE := Lh (show v = true ↔ provB P Q G y sx sy z 255 by rw [HEB.o, h2]; exact ⟨fun hh => hh.2, fun hh => ⟨h, hh⟩⟩)
       clear hlen h h2 hnn
       go_wp2_with fail
       refine (proved_any (v := v) _ (HT.o.below HB6.o) hP hQ hG hy sx0 sy0 UZ.o (by decide) (by decide) HE.o).mono ?_
       rintro e w7 ⟨rfl, hb7⟩
       have HB7 := Lh (HB6.o.trans (hb7.mono HB6.o.size))
       clear hb7 g0 g1 g2' s0 s1 q0 q1 q2 q3 q4 q5 q6 q7 q8 q9 q10
       go_wp2_with fail
       go_ret
       exact ⟨rfl, HB7.o⟩
end Go.Proofs.YtlbldpkgnonbpaaDoor
