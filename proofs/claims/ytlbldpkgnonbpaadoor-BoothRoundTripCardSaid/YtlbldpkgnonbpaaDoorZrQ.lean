/- booth.Read. -/
import Derived.Test.YtlbldpkgnonbpaaDoorZrN
import Derived.Deep.MidRow
import Derived.Laws.StructEq
import Derived.Test.YtlbldpkgnonbpaaDoorZrO
import Derived.Test.YtlbldpkgnonbpaaDoorZrP
namespace Go.Proofs.YtlbldpkgnonbpaaDoor
open Go Go.RowKit Num Sha
set_option linter.unusedSimpArgs false
set_option linter.unusedVariables false

theorem Gro.puts {r : Nat} {a : World} (k : Nat) (vs : List Value) (p : Nat) (hp : p = r ∨ a.heap.size ≤ p) : ∀ (b : World) (o : Nat), Gro r a b → Gro r a (b.setCells p o vs) := by
  induction vs with
  | nil => intro b o h; exact h
  | cons v vs ih => intro b o h; exact ih _ _ (h.set ⟨p, o, none⟩ hp v)
theorem Cl.range {w : World} {B : Nat} {l : List Value} (h : Cl w B l) : w.rangeAt B 0 l := fun j v hv => by rw [Nat.zero_add]; exact h.c j v hv
theorem Cl.there {w : World} {B : Nat} {l : List Value} (h : Cl w B l) (k n : Nat) (hk : k + n ≤ l.length) : w.there B k n := fun j hj =>
  ⟨by rw [h.c (k + j) _ (List.getElem?_eq_getElem (by omega))]; rfl, h.f _⟩
theorem Cl.puts {w : World} {B : Nat} {l m : List Value} (h : Cl w B l) (k : Nat) (vs : List Value) (hk : k + vs.length ≤ l.length) (hm : l.take k ++ vs ++ l.drop (k + vs.length) = m) : Cl (w.setCells B k vs) B m := by
  subst hm
  have ht := h.there k vs.length hk
  refine ⟨fun i u hu => ?_, fun i => by rw [World.frozen?_setCells]; exact h.f i, ?_⟩
  · by_cases h1 : i < k
    · rw [List.append_assoc, List.getElem?_append_left (by rw [List.length_take]; omega), List.getElem?_take_of_lt h1] at hu
      rw [World.cell?_setCells_out B vs k w ⟨B, i, none⟩ (fun _ _ => .inl h1)]
      exact h.c i u hu
    · by_cases h2 : i < k + vs.length
      · rw [List.getElem?_append_left (by rw [List.length_append, List.length_take]; omega), List.getElem?_append_right (by rw [List.length_take]; omega), List.length_take, show min k l.length = k by omega] at hu
        obtain ⟨j, rfl⟩ : ∃ j, i = k + j := ⟨i - k, by omega⟩
        rw [show k + j - k = j by omega] at hu
        exact World.rangeAt_setCells_same w B k vs ht j u hu
      · rw [List.getElem?_append_right (by rw [List.length_append, List.length_take]; omega), List.length_append, List.length_take, show min k l.length = k by omega, List.getElem?_drop, show k + vs.length + (i - (k + vs.length)) = i by omega] at hu
        rw [World.cell?_setCells_out B vs k w ⟨B, i, none⟩ (fun _ _ => .inr (by show k + vs.length ≤ i; omega))]
        exact h.c i u hu
  · exact Nat.lt_of_lt_of_le h.lt ((Gro.puts (r := B) k vs B (.inl rfl) w k (Gro.refl _ _)).size)
theorem wpL_storeCl {P : Program} {w : World} {o : Oper} {ops : Array Oper} {rest : List Oper} {a : Act} {Q : Exit → Act → World → Prop} (hgd : o.guard = none) (t : TypeId) (p v : Operand) (b k : Nat) (l vs m : List Value) (ho : o.op = .store t p v) (hd : o.dst = none)
    (hp : a.eval p = .pointer (some ⟨b, k, none⟩)) (hv : a.eval v = .agg vs.toArray) (hi : (P.info? t).map (·.size) = some vs.length) (h1 : ∀ u, u ∈ vs → u.oneCell' = true) (hC : Cl w b l) (hk : k + vs.length ≤ l.length) (hm : l.take k ++ vs ++ l.drop (k + vs.length) = m)
    (h : ∀ w', Cl w' b m → Gro b w w' → w'.heap.size = w.heap.size → wpList P ops Q rest a w') : wpList P ops Q (o :: rest) a w := by
  refine wpList_store_mid hgd t p v ho b k vs.toArray hp hv (by simpa using hC.there k vs.length hk) (by simpa using hi) (all_oneCell_toArray h1) ?_
  have := h _ (hC.puts k vs hk hm) (Gro.puts k vs b (.inl rfl) w k (Gro.refl _ _)) (size_setCells b vs k w)
  rw [hd]
  exact this
theorem wpL_loadCl {P : Program} {w : World} {o : Oper} {ops : Array Oper} {rest : List Oper} {a : Act} {Q : Exit → Act → World → Prop} (hgd : o.guard = none) (t : TypeId) (p : Operand) (b : Nat) (l : List Value) (ho : o.op = .load t p)
    (hp : a.eval p = .pointer (some ⟨b, 0, none⟩)) (d : TypeDesc) (hu : P.underlying t = some d) (hd : d.isRow = true) (hi : (P.info? t).map (·.size) = some l.length) (hC : Cl w b l)
    (h : wpList P ops Q rest (a.put o.dst (.agg l.toArray)) w) : wpList P ops Q (o :: rest) a w :=
  wpList_load_mid hgd t p ho b 0 hp l d hC.range hu hd hi h
theorem readF_1 {xs : List Int} (h : xs.length < 3) : readF xs = (10, [], [], false, Bt.zero) := by simp only [readF]; rw [if_pos h]
theorem readF_2 {xs : List Int} (h : ¬ xs.length < 3) (h2 : 10 < (xs.getD 0 0).toNat ∨ 10 < (xs.getD 1 0).toNat ∨ 1 < xs.getD 2 0) : readF xs = (11, [], [], false, Bt.zero) := by
  simp only [readF]; rw [if_neg h, if_pos h2]
theorem readF_3 {xs : List Int} (h : ¬ xs.length < 3) (h2 : ¬ (10 < (xs.getD 0 0).toNat ∨ 10 < (xs.getD 1 0).toNat ∨ 1 < xs.getD 2 0)) (h3 : xs.length < 3 + 16 * (xs.getD 0 0).toNat + 64 * ((xs.getD 1 0).toNat + 1)) : readF xs = (10, [], [], false, Bt.zero) := by
  simp only [readF]; rw [if_neg h, if_neg h2, if_pos h3]
theorem readF_4 {xs : List Int} (h : ¬ xs.length < 3) (h2 : ¬ (10 < (xs.getD 0 0).toNat ∨ 10 < (xs.getD 1 0).toNat ∨ 1 < xs.getD 2 0)) (h3 : 3 + 16 * (xs.getD 0 0).toNat + 64 * ((xs.getD 1 0).toNat + 1) < xs.length) : readF xs = (11, [], [], false, Bt.zero) := by
  simp only [readF]; rw [if_neg h, if_neg h2, if_neg (by omega), if_pos h3]
theorem readF_5 {xs : List Int} {n m : Nat} (h2 : n ≤ 10 ∧ m ≤ 10 ∧ xs.getD 2 0 ≤ 1) (hn : xs.getD 0 0 = n) (hm : xs.getD 1 0 = m) (h3 : xs.length = 3 + 16 * n + 64 * (m + 1)) :
    readF xs = (0, boxesN (xs.drop 3) n, bitsN (xs.drop 3) n m, decide (xs.getD 2 0 = 1), bitN ((xs.drop 3).drop (16 * n + 64 * m))) := by
  simp only [readF]; rw [hn, hm, if_neg (by omega), if_neg (by simp only [Int.toNat_natCast]; omega), if_neg (by simp only [Int.toNat_natCast]; omega), if_neg (by simp only [Int.toNat_natCast]; omega)]; rfl
theorem ShS.of_owned2 {w : World} {base : Nat} {e : TypeId} {v : Value} {n : Nat} {ps : List (Int × Int)} (h : w.ownsRow base e 2 v n (flatS ps)) : ∃ a c, v = .slice a n c ∧ ShS w a n ps ∧ (a = none → c = 0) := by
  obtain ⟨a, c, rfl, h1⟩ := ShS.of_owned h
  refine ⟨a, c, rfl, h1, fun e => ?_⟩
  subst e
  rcases h.2 with ⟨h2, _⟩ | ⟨g, cap, cur, h2, _⟩
  · injection h2
  · injection h2 with h3; cases h3
theorem ShB.of_owned2 {w : World} {base : Nat} {e : TypeId} {v : Value} {n : Nat} {ps : List Bt} (h : w.ownsRow base e 8 v n (flatB ps)) : ∃ a c, v = .slice a n c ∧ ShB w a n ps ∧ (a = none → c = 0) := by
  obtain ⟨a, c, rfl, h1⟩ := ShB.of_owned h
  refine ⟨a, c, rfl, h1, fun e => ?_⟩
  subst e
  rcases h.2 with ⟨h2, _⟩ | ⟨g, cap, cur, h2, _⟩
  · injection h2
  · injection h2 with h3; cases h3
theorem Rd.start {w0 W : World} {B n c : Nat} {a : Option Addr} {xs : List Int} (hx : RBox W B (.slice a n c)) (hS : ShI .u8 w0 a n xs) (h : n ≤ c) : Rd w0 W B xs := by
  obtain rfl := hS.len
  exact ⟨a, c, hx, hS, h⟩
theorem ShI.rest3 {w : World} {s o n : Nat} {xs : List Int} (h : ShI .u8 w (some ⟨s, o, none⟩) n xs) (h3 : 3 ≤ n) : ShI .u8 w (some ⟨s, o + 3, none⟩) (n - 3) (xs.drop 3) := by
  have hl := h.len
  rcases h with ⟨h1, h2⟩ | ⟨s', o', e, h1, h2, h3⟩
  · omega
  · injection e with e; injection e with e1 e2 _
    subst e1 e2
    refine .inr ⟨s, o + 3, rfl, by simp; omega, h2, fun i hi => ?_⟩
    have hi' : i < xs.length - 3 := by simpa using hi
    have := h3 (3 + i) (by omega)
    rw [show o + 3 + i = o + (3 + i) by omega, this]
    simp [List.getD_eq_getElem?_getD, List.getElem?_drop]

set_option maxRecDepth 100000 in
set_option maxHeartbeats 8000000 in
theorem bRead_any {w : World} {a : Option Addr} {n0 c0 : Nat} {xs : List Int} (hS : ShI .u8 w a n0 xs) (hu : Bytes xs) (hc : n0 ≤ c0) (hl : n0 ≤ 2000) :
    Calls Tryd.prog 14 #[.slice a n0 c0] w (RetRd w xs) := by
  have HL := Lib.hid hS.len
  have HU := Lib.hid hu
  have F_o := Lib.hid (show Cl (w.alloc (.cells #[.slice none 0 0, .slice none 0 0, .bool false, .int .u64 0, .int .u64 0, .int .u64 0, .int .u64 0, .int .u64 0, .int .u64 0, .int .u64 0, .int .u64 0] 29)) w.heap.size [.slice none 0 0, .slice none 0 0, .bool false, .int .u64 0, .int .u64 0, .int .u64 0, .int .u64 0, .int .u64 0, .int .u64 0, .int .u64 0, .int .u64 0] from Cl.at w [.slice none 0 0, .slice none 0 0, .bool false, .int .u64 0, .int .u64 0, .int .u64 0, .int .u64 0, .int .u64 0, .int .u64 0, .int .u64 0, .int .u64 0] _ _ rfl)
  have HBW := Lib.hid (show Below w.heap.size w (w.alloc (.cells #[.slice none 0 0, .slice none 0 0, .bool false, .int .u64 0, .int .u64 0, .int .u64 0, .int .u64 0, .int .u64 0, .int .u64 0, .int .u64 0, .int .u64 0] 29)) from (Below.refl _ _).alloc (Nat.le_refl _) _)
  go_enter Tryd.func14, Tryd.ntmps14
  by_cases h1 : n0 < 3
  case pos =>
    have HERR := Lib.hid (readF_1 (xs := xs) (by rw [← hS.len]; exact h1))
    have d1 : decide ((n0 : Int) < 3) = true := decide_eq_true (by omega)
    clear hS hu hc hl
    go_wp2_with fail
    refine bodyPost_ret (res_vote rfl F_o.out _ rfl rfl) rfl ?_
    exact RetRd.err HERR.out HBW.out
  case neg =>
  have d1 : decide ((n0 : Int) < 3) = false := decide_eq_false (by omega)
  obtain ⟨s, o, rfl, hs, HC⟩ : ∃ s o, a = some ⟨s, o, none⟩ ∧ s < w.heap.size ∧ Hid (∀ i, i < n0 → w.cell? ⟨s, o + i, none⟩ = some (.int .u8 (xs.getD i 0))) := by
    rcases hS with ⟨h1, _⟩ | ⟨s, o, h0, h1, h2, h3⟩
    · omega
    · exact ⟨s, o, h0, h2, fun i hi => h3 i (by omega)⟩
  have HS := Lib.hid hS
  obtain ⟨n, hn⟩ : ∃ n : Nat, xs.getD 0 0 = n := ⟨(xs.getD 0 0).toNat, by have := (hu.get 0).1; omega⟩
  obtain ⟨m, hm⟩ : ∃ m : Nat, xs.getD 1 0 = m := ⟨(xs.getD 1 0).toNat, by have := (hu.get 1).1; omega⟩
  obtain ⟨b2, hb2⟩ : ∃ b2 : Int, xs.getD 2 0 = b2 := ⟨_, rfl⟩
  have hn1 : (n : Int) < 256 := by have := (hu.get 0).2; omega
  have hm1 : (m : Int) < 256 := by have := (hu.get 1).2; omega
  have hb0 : (0 : Int) ≤ b2 := by have := (hu.get 2).1; omega
  have hb1 : b2 < 256 := by have := (hu.get 2).2; omega
  have k0 : (w.alloc (.cells #[.slice none 0 0, .slice none 0 0, .bool false, .int .u64 0, .int .u64 0, .int .u64 0, .int .u64 0, .int .u64 0, .int .u64 0, .int .u64 0, .int .u64 0] 29)).cell? ⟨s, o, none⟩ = some (.int .u8 (n : Int)) := by rw [← hn]; exact (HBW.out.cell (p := ⟨s, o, none⟩) hs).trans (HC.out 0 (by omega))
  have k1 : (w.alloc (.cells #[.slice none 0 0, .slice none 0 0, .bool false, .int .u64 0, .int .u64 0, .int .u64 0, .int .u64 0, .int .u64 0, .int .u64 0, .int .u64 0, .int .u64 0] 29)).cell? ⟨s, o + 1, none⟩ = some (.int .u8 (m : Int)) := by rw [← hm]; exact (HBW.out.cell (p := ⟨s, o + 1, none⟩) hs).trans (HC.out 1 (by omega))
  have k2 : (w.alloc (.cells #[.slice none 0 0, .slice none 0 0, .bool false, .int .u64 0, .int .u64 0, .int .u64 0, .int .u64 0, .int .u64 0, .int .u64 0, .int .u64 0, .int .u64 0] 29)).cell? ⟨s, o + 2, none⟩ = some (.int .u8 b2) := by rw [← hb2]; exact (HBW.out.cell (p := ⟨s, o + 2, none⟩) hs).trans (HC.out 2 (by omega))
  have HN := Lib.hid hn
  have HM := Lib.hid hm
  have HB2 := Lib.hid hb2
  have wn : IntKind.i64.wrap (n : Int) = n := IntWalk.i64_in _ (by omega)
  have wm : IntKind.i64.wrap (m : Int) = m := IntWalk.i64_in _ (by omega)
  have i0 : (0 : Int) < (n0 : Int) := by omega
  have i1 : (1 : Int) < (n0 : Int) := by omega
  have i2 : (2 : Int) < (n0 : Int) := by omega
  clear hS hu hn hm hb2
  by_cases h2 : 10 < n
  case pos =>
    have HERR := Lib.hid (readF_2 (xs := xs) (by rw [← HL.out]; exact h1) (.inl (by rw [HN.out]; omega)))
    have d2 : decide ((10 : Int) < (n : Int)) = true := decide_eq_true (by omega)
    go_wp2_with fail
    go_region
    go_wp2_with fail
    refine bodyPost_ret (res_vote rfl F_o.out.drew _ rfl rfl) rfl ?_
    exact RetRd.err HERR.out HBW.out.drew
  case neg =>
  have d2 : decide ((10 : Int) < (n : Int)) = false := decide_eq_false (by omega)
  by_cases h3 : 10 < m
  case pos =>
    have HERR := Lib.hid (readF_2 (xs := xs) (by rw [← HL.out]; exact h1) (.inr (.inl (by rw [HM.out]; omega))))
    have d3 : decide ((10 : Int) < (m : Int)) = true := decide_eq_true (by omega)
    go_wp2_with fail
    go_region
    go_wp2_with fail
    refine bodyPost_ret (res_vote rfl F_o.out.drew _ rfl rfl) rfl ?_
    exact RetRd.err HERR.out HBW.out.drew
  case neg =>
  have d3 : decide ((10 : Int) < (m : Int)) = false := decide_eq_false (by omega)
  by_cases h4 : 1 < b2
  case pos =>
    have HERR := Lib.hid (readF_2 (xs := xs) (by rw [← HL.out]; exact h1) (.inr (.inr (by rw [HB2.out]; exact h4))))
    have d4 : decide ((1 : Int) < b2) = true := decide_eq_true h4
    go_wp2_with fail
    go_region
    go_wp2_with fail
    refine bodyPost_ret (res_vote rfl F_o.out.drew _ rfl rfl) rfl ?_
    exact RetRd.err HERR.out HBW.out.drew
  case neg =>
  have d4 : decide ((1 : Int) < b2) = false := decide_eq_false h4
  have w1 : IntKind.i64.wrap (16 * (n : Int)) = 16 * (n : Int) := IntWalk.i64_in _ (by omega)
  have w2 : IntKind.i64.wrap (3 + 16 * (n : Int)) = 3 + 16 * (n : Int) := IntWalk.i64_in _ (by omega)
  have w3 : IntKind.i64.wrap ((m : Int) + 1) = (m : Int) + 1 := IntWalk.i64_in _ (by omega)
  have w4 : IntKind.i64.wrap (64 * ((m : Int) + 1)) = 64 * ((m : Int) + 1) := IntWalk.i64_in _ (by omega)
  have w5 : IntKind.i64.wrap (3 + 16 * (n : Int) + 64 * ((m : Int) + 1)) = 3 + 16 * (n : Int) + 64 * ((m : Int) + 1) := IntWalk.i64_in _ (by omega)
  have HD := Lib.hid (show ¬ (10 < (xs.getD 0 0).toNat ∨ 10 < (xs.getD 1 0).toNat ∨ 1 < xs.getD 2 0) by rw [HN.out, HM.out, HB2.out]; simp only [Int.toNat_natCast]; omega)
  by_cases h5 : n0 < 3 + 16 * n + 64 * (m + 1)
  case pos =>
    have HERR := Lib.hid (readF_3 (xs := xs) (by rw [← HL.out]; exact h1) HD.out (by rw [← HL.out, HN.out, HM.out]; exact h5))
    have d5 : decide ((n0 : Int) < 3 + 16 * (n : Int) + 64 * ((m : Int) + 1)) = true := decide_eq_true (by omega)
    go_wp2_with fail
    go_region
    go_wp2_with fail
    refine bodyPost_ret (res_vote rfl F_o.out.drew _ rfl rfl) rfl ?_
    exact RetRd.err HERR.out HBW.out.drew
  case neg =>
  have d5 : decide ((n0 : Int) < 3 + 16 * (n : Int) + 64 * ((m : Int) + 1)) = false := decide_eq_false (by omega)
  by_cases h6 : 3 + 16 * n + 64 * (m + 1) < n0
  case pos =>
    have HERR := Lib.hid (readF_4 (xs := xs) (by rw [← HL.out]; exact h1) HD.out (by rw [← HL.out, HN.out, HM.out]; exact h6))
    have d6 : decide (3 + 16 * (n : Int) + 64 * ((m : Int) + 1) < (n0 : Int)) = true := decide_eq_true (by omega)
    go_wp2_with fail
    go_region
    go_wp2_with fail
    refine bodyPost_ret (res_vote rfl F_o.out.drew _ rfl rfl) rfl ?_
    exact RetRd.err HERR.out HBW.out.drew
  case neg =>
  have d6 : decide (3 + 16 * (n : Int) + 64 * ((m : Int) + 1) < (n0 : Int)) = false := decide_eq_false (by omega)
  have HE := Lib.hid (show n0 = 3 + 16 * n + 64 * (m + 1) by omega)
  have HNM := Lib.hid (show n ≤ 10 ∧ m ≤ 10 ∧ b2 ≤ 1 by omega)
  go_wp2_with fail
  go_region
  go_wp2_with fail
  have F_v := Lib.hid (Cl.at (((w.alloc (.cells #[.slice none 0 0, .slice none 0 0, .bool false, .int .u64 0, .int .u64 0, .int .u64 0, .int .u64 0, .int .u64 0, .int .u64 0, .int .u64 0, .int .u64 0] 29)).alloc (.cells #[.slice (some ⟨s, o + 3, none⟩) (n0 - 3) (c0 - 3)] 90))) [.slice none 0 0, .slice none 0 0, .bool (b2 == 1), .int .u64 0, .int .u64 0, .int .u64 0, .int .u64 0, .int .u64 0, .int .u64 0, .int .u64 0, .int .u64 0] 29 (w.heap.size + 1 + 1) (by simp))
  have F_r := Lib.hid (RBox.at (w.alloc (.cells #[.slice none 0 0, .slice none 0 0, .bool false, .int .u64 0, .int .u64 0, .int .u64 0, .int .u64 0, .int .u64 0, .int .u64 0, .int .u64 0, .int .u64 0] 29)) (.slice (some ⟨s, o + 3, none⟩) (n0 - 3) (c0 - 3)) 90 (w.heap.size + 1) (by simp))
  clear d1 d2 d3 d4 d5 d6 w1 w2 w3 w4 w5 wn wm k0 k1 k2 i0 i1 i2 hn1 hm1 hb0 hb1 h1 h2 h3 h4 h5 h6 HC hs
  have hn10 : n ≤ 10 := HNM.out.1
  have hm10 : m ≤ 10 := HNM.out.2.1
  go_loopw [9, 64] (fun _ c64 wr => ∃ (i : Nat) (v1 : Value), i ≤ n ∧ c64 = .int .i64 i ∧ w.heap.size + 3 ≤ wr.heap.size ∧ Hid (wr.ownsRow (w.heap.size + 3) 78 2 v1 i (flatS (boxesN (xs.drop 3) i))) ∧ Hid (Cl wr (w.heap.size + 1 + 1) [v1, .slice none 0 0, .bool (b2 == 1), .int .u64 0, .int .u64 0, .int .u64 0, .int .u64 0, .int .u64 0, .int .u64 0, .int .u64 0, .int .u64 0]) ∧ Hid (Cl wr w.heap.size [.slice none 0 0, .slice none 0 0, .bool false, .int .u64 0, .int .u64 0, .int .u64 0, .int .u64 0, .int .u64 0, .int .u64 0, .int .u64 0, .int .u64 0]) ∧ Hid (Rd w wr (w.heap.size + 1) ((xs.drop 3).drop (8 * (2 * i)))) ∧ Hid (Below w.heap.size w wr)) (fun _ c64 _ => n - (intOf c64).toNat)
  case atStart =>
    exact ⟨0, _, by omega, rfl, by simp, World.ownsRow_nil _ _ _ _, F_v.out.drew, ((F_o.out.alloc _).alloc _).drew, Rd.start (c := c0 - 3) ((F_r.out.alloc _).drew) (HS.out.rest3 (by have := HE.out; omega)) (by omega), ((HBW.out.alloc HBW.out.size _).alloc (by simp; omega) _).drew⟩
  case round =>
    clear F_o F_v F_r HBW
    obtain ⟨i, v1, hi, rfl, hz, HO, F_v, F_o, HR, HBW⟩ := hrel
    by_cases hlt : i < n
    case pos =>
      have hd : decide ((i : Int) < (n : Int)) = true := decide_eq_true (by omega)
      have HY := Lib.hid (show Bytes (xs.drop 3) from HU.out.drop 3)
      have HYL := Lib.hid (show 8 * (2 * i + 1) + 8 ≤ (xs.drop 3).length by rw [List.length_drop, ← HL.out, HE.out]; omega)
      obtain ⟨ys, hys⟩ : ∃ ys, xs.drop 3 = ys := ⟨_, rfl⟩
      rw [hys] at HO HR HY HYL ⊢
      go_wp2_with fail
      refine (number_at (2 * i) _ HBW.out (by omega) HR.out HY.out (by have := HYL.out; omega)).mono ?_
      rintro e w5 ⟨rfl, hr5, hg5, hz5⟩
      replace HR := Lib.hid hr5
      replace HBW := Lib.hid (HBW.out.trans (hg5.blw (by omega) (by omega)))
      replace HO := Lib.hid (own_gro HO.out hg5 (by omega))
      replace F_v := Lib.hid (F_v.out.gro hg5 (by omega))
      replace F_o := Lib.hid (F_o.out.gro hg5 (by omega))
      replace hz : w.heap.size + 3 ≤ w5.heap.size := by omega
      clear hr5 hg5 hz5
      obtain ⟨⟨q0, q1, q2, q3, q4, q5, q6, q7, q8, q9, q10⟩, g0, g1, g2, g3, g4, g5, g6, g7, g8, g9, g10⟩ := F_v.out.k11
      go_wp2_with fail
      go_region_law (first
        | (go_simp
           go_at_call 34
           refine (number_at (2 * i + 1) _ HBW.out.drew (by omega) HR.out.drew HY.out HYL.out).mono ?_
           rintro e w6 ⟨rfl, hr6, hg6, hz6⟩
           have HR6 := Lib.hid hr6
           have HBW6 := Lib.hid (HBW.out.drew.trans (hg6.blw (n := w.heap.size) (by omega) (by simp; omega)))
           have HO6 := Lib.hid (own_gro HO.out.drew hg6 (by omega))
           have F_v6 := Lib.hid (F_v.out.drew.gro hg6 (by omega))
           have F_o6 := Lib.hid (F_o.out.drew.gro hg6 (by omega))
           have hz6' : w.heap.size + 3 ≤ w6.heap.size := by simp only [World.size_drew] at hz6; omega
           obtain ⟨⟨p0, -⟩, -⟩ := (F_v6.out.alloc (.cells #[.int .u64 (num8 ys (2 * i)), .int .u64 (num8 ys (2 * i + 1))] 78)).k11
           obtain ⟨⟨r0, -⟩, -⟩ := F_v6.out.k11
           clear hr6 hg6 hz6)
        | (refine wanted_wp rfl (wp_push_s (.tmp 69) (.tmp 74) rfl (w.heap.size + 3) i w6.heap.size v1 (flatS (boxesN ys i)) (num8 ys (2 * i)) (num8 ys (2 * i + 1)) ?jjv ?jjx ?jjo ?jjc ?jjm ?jjb ?_)
           case jjv => kernel_rfl
           case jjx => kernel_rfl
           case jjo => exact owns_alloc2 HO6.out _
           case jjc => exact cell_list_at _ _ _ _ rfl
           case jjm => omega
           case jjb => simp; omega
           intro v9 w9 hown hgr
           obtain ⟨a9, c9, rfl, -⟩ := ShS.of_owned (ps := boxesN ys i ++ [(num8 ys (2 * i), num8 ys (2 * i + 1))]) (by rw [flatS_append]; exact hown)
           have HBW9 := Lib.hid (Below.rowT (n := w.heap.size + 3) hgr (fun k hk => by have := (World.ownsRow.lt HO6.out k hk).1; omega) (by simp; omega))
           have HO9 := Lib.hid hown
           have F_v9 := Lib.hid ((F_v6.out.alloc (.cells #[.int .u64 (num8 ys (2 * i)), .int .u64 (num8 ys (2 * i + 1))] 78)).keepN HBW9.out (by omega))
           obtain ⟨⟨y0, y1, y2, y3, y4, y5, y6, y7, y8, y9, y10⟩, t0, t1, t2, t3, t4, t5, t6, t7, t8, t9, t10⟩ := F_v9.out.k11
           clear hown hgr))
      all_goals
        go_wp2_with fail
        go_roundw
        case rel =>
          refine ⟨i + 1, .slice a9 (i + 1) c9, by omega, by go_num, ?_, ?_, F_v9.out.set (m := [.slice a9 (i + 1) c9, .slice none 0 0, .bool (b2 == 1), .int .u64 0, .int .u64 0, .int .u64 0, .int .u64 0, .int .u64 0, .int .u64 0, .int .u64 0, .int .u64 0]) 0 _ (by simp) rfl, ((F_o6.out.alloc _).keepN HBW9.out (by omega)).far _ _ (by simp <;> omega), ((HR6.out.alloc _).keepN HBW9.out (by omega)).set _ _ (by simp <;> omega), ?_⟩
          · have := HBW9.out.size; simp at this ⊢; omega
          · rw [boxesN_succ, flatS_append]; exact own_far HO9.out _ _ (by simp <;> omega)
          · exact ((HBW6.out.alloc HBW6.out.size _).trans (HBW9.out.mono (by omega))).setCell (by simp <;> omega) _
        case measure => simp [intOf] <;> omega
    case neg =>
      obtain rfl : i = n := by omega
      have hd : decide ((i : Int) < (i : Int)) = false := decide_eq_false (by omega)
      have HY := Lib.hid (show Bytes (xs.drop 3) from HU.out.drop 3)
      have HYL := Lib.hid (show (xs.drop 3).length = 16 * i + 64 * (m + 1) by rw [List.length_drop, ← HL.out, HE.out]; omega)
      have HFIN := Lib.hid (readF_5 (xs := xs) (n := i) (m := m) (by rw [HB2.out]; exact HNM.out) HN.out HM.out (by rw [← HL.out, HE.out]))
      obtain ⟨ys, hys⟩ : ∃ ys, xs.drop 3 = ys := ⟨_, rfl⟩
      rw [hys] at HO HR HY HYL HFIN ⊢
      clear hys
      obtain ⟨wb, rfl⟩ : ∃ wb, wb = wr := ⟨_, rfl⟩
      go_wp2_with fail
      clear hd
      go_loopw [79] (fun c79 wr => ∃ (j : Nat) (v2 : Value), j ≤ m ∧ c79 = .int .i64 j ∧ w.heap.size + 3 ≤ wr.heap.size ∧ Hid (wr.ownsRow (w.heap.size + 3) 78 2 v1 i (flatS (boxesN ys i))) ∧ Hid (wr.ownsRow (w.heap.size + 3) 27 8 v2 j (flatB (bitsN ys i j))) ∧ Hid (Cl wr (w.heap.size + 1 + 1) [v1, v2, .bool (b2 == 1), .int .u64 0, .int .u64 0, .int .u64 0, .int .u64 0, .int .u64 0, .int .u64 0, .int .u64 0, .int .u64 0]) ∧ Hid (Cl wr w.heap.size [.slice none 0 0, .slice none 0 0, .bool false, .int .u64 0, .int .u64 0, .int .u64 0, .int .u64 0, .int .u64 0, .int .u64 0, .int .u64 0, .int .u64 0]) ∧ Hid (Rd w wr (w.heap.size + 1) (ys.drop (16 * i + 64 * j))) ∧ Hid (Below w.heap.size w wr)) (fun c79 _ => m - (intOf c79).toNat)
      case atStart =>
        exact ⟨0, _, by omega, rfl, by simpa using hz, HO.out, World.ownsRow_nil _ _ _ _, F_v.out, F_o.out, (by rw [show 16 * i + 64 * 0 = 8 * (2 * i) by omega]; exact HR.out), HBW.out⟩
      case round =>
        clear F_o F_v HBW HO HR hz
        obtain ⟨j, v2, hj, rfl, hz, HO, HP, F_v, F_o, HR, HBW⟩ := hrel
        by_cases hlt : j < m
        case pos =>
          have hd : decide ((j : Int) < (m : Int)) = true := decide_eq_true (by omega)
          have HYJ := Lib.hid (show 64 ≤ (ys.drop (16 * i + 64 * j)).length by rw [List.length_drop, HYL.out]; omega)
          have HSZ := Lib.hid (show (ys.drop (16 * i + 64 * j)).drop (8 * 8) = ys.drop (16 * i + 64 * (j + 1)) by rw [List.drop_drop]; congr 1)
          have HBN := Lib.hid (bitsN_succ ys i j)
          have HYD := Lib.hid (show Bytes (ys.drop (16 * i + 64 * j)) from HY.out.drop _)
          obtain ⟨zs, hzs⟩ : ∃ zs, ys.drop (16 * i + 64 * j) = zs := ⟨_, rfl⟩
          rw [hzs] at HR HYJ HSZ HBN HYD
          clear hzs
          obtain ⟨⟨q0, q1, q2, q3, q4, q5, q6, q7, q8, q9, q10⟩, g0, g1, g2, g3, g4, g5, g6, g7, g8, g9, g10⟩ := F_v.out.k11
          go_wp2_with fail
          go_region_law (first
            | (go_simp
               go_at_call 35
               refine (bit_any _ HBW.out.drew (by omega) HR.out.drew HYD.out HYJ.out).mono ?_
               rintro e w6 ⟨rfl, hr6, hg6⟩
               have HR6 := Lib.hid (HSZ.out ▸ hr6)
               have HBW6 := Lib.hid (HBW.out.drew.trans (hg6.blw (n := w.heap.size) (by omega) (by simp; omega)))
               have HO6 := Lib.hid (own_gro HO.out.drew hg6 (by omega))
               have HP6 := Lib.hid (own_gro HP.out.drew hg6 (by omega))
               have F_v6 := Lib.hid (F_v.out.drew.gro hg6 (by omega))
               have F_o6 := Lib.hid (F_o.out.drew.gro hg6 (by omega))
               have hz6' : w.heap.size + 3 ≤ w6.heap.size := by have := hg6.size; simp only [World.size_drew] at this; omega
               obtain ⟨⟨-, p1, -⟩, -⟩ := (F_v6.out.alloc (.cells #[.int .u64 (num8 zs 0), .int .u64 (num8 zs 2), .int .u64 (num8 zs 1), .int .u64 (num8 zs 3), .int .u64 (num8 zs 4), .int .u64 (num8 zs 5), .int .u64 (num8 zs 6), .int .u64 (num8 zs 7)] 27)).k11
               obtain ⟨⟨-, r1, -⟩, -⟩ := F_v6.out.k11
               clear hr6 hg6)
            | (refine wanted_wp rfl (wp_push_bit (.tmp 82) (.tmp 85) rfl (w.heap.size + 3) j w6.heap.size v2 (flatB (bitsN ys i j)) (bitN zs) ?jjv ?jjx ?jjo ?jjc ?jjm ?jjb ?_)
               case jjv => kernel_rfl
               case jjx => kernel_rfl
               case jjo => exact owns_alloc2 HP6.out _
               case jjc => exact cell_list_at _ _ _ _ rfl
               case jjm => omega
               case jjb => simp; omega
               intro v9 w9 hown hgr
               obtain ⟨a9, c9, rfl, -⟩ := ShB.of_owned (ps := bitsN ys i j ++ [bitN zs]) (by rw [flatB_append]; simpa [flatB] using hown)
               have HBW9 := Lib.hid (Below.rowT (n := w.heap.size + 3) hgr (fun k hk => by have := (World.ownsRow.lt HP6.out k hk).1; omega) (by simp; omega))
               have HO9 := Lib.hid (World.ownsRow.kept (owns_alloc2 HO6.out _) hgr (own_diffN HP6.out HO6.out (by decide)))
               have HP9 := Lib.hid (show w9.ownsRow (w.heap.size + 3) 27 8 (.slice a9 (j + 1) c9) (j + 1) (flatB (bitsN ys i j ++ [bitN zs])) by rw [flatB_append]; simpa [flatB] using hown)
               have F_v9 := Lib.hid ((F_v6.out.alloc (.cells #[.int .u64 (num8 zs 0), .int .u64 (num8 zs 2), .int .u64 (num8 zs 1), .int .u64 (num8 zs 3), .int .u64 (num8 zs 4), .int .u64 (num8 zs 5), .int .u64 (num8 zs 6), .int .u64 (num8 zs 7)] 27)).keepN HBW9.out (by omega))
               obtain ⟨⟨y0, y1, y2, y3, y4, y5, y6, y7, y8, y9, y10⟩, t0, t1, t2, t3, t4, t5, t6, t7, t8, t9, t10⟩ := F_v9.out.k11
               clear hown hgr))
          all_goals
            go_wp2_with fail
            go_roundw
            case rel =>
              refine ⟨j + 1, .slice a9 (j + 1) c9, by omega, by go_num, ?_, own_far HO9.out _ _ (by simp <;> omega), ?_, F_v9.out.set (m := [v1, .slice a9 (j + 1) c9, .bool (b2 == 1), .int .u64 0, .int .u64 0, .int .u64 0, .int .u64 0, .int .u64 0, .int .u64 0, .int .u64 0, .int .u64 0]) 1 _ (by simp) rfl, ((F_o6.out.alloc _).keepN HBW9.out (by omega)).far _ _ (by simp <;> omega), ((HR6.out.alloc _).keepN HBW9.out (by omega)).set _ _ (by simp <;> omega), ?_⟩
              · have := HBW9.out.size; simp at this ⊢; omega
              · rw [HBN.out]; exact own_far HP9.out _ _ (by simp <;> omega)
              · exact ((HBW6.out.alloc HBW6.out.size _).trans (HBW9.out.mono (by omega))).setCell (by simp <;> omega) _
            case measure => simp [intOf] <;> omega
        case neg =>
          obtain rfl : j = m := by omega
          have hd : decide ((j : Int) < (j : Int)) = false := decide_eq_false (by omega)
          have HYJ := Lib.hid (show 64 ≤ (ys.drop (16 * i + 64 * j)).length by rw [List.length_drop, HYL.out]; omega)
          have HYD := Lib.hid (show Bytes (ys.drop (16 * i + 64 * j)) from HY.out.drop _)
          obtain ⟨a1, c1, rfl, hS1, hk1⟩ := ShS.of_owned2 HO.out
          obtain ⟨a2, c2, rfl, hS2, hk2⟩ := ShB.of_owned2 HP.out
          clear hS1 hS2
          go_wp2_with fail
          refine (bit_any _ HBW.out (by omega) HR.out HYD.out HYJ.out).mono ?_
          rintro e w6 ⟨rfl, -, hg6⟩
          have HBW6 := Lib.hid (HBW.out.trans (hg6.blw (n := w.heap.size) (by omega) (by omega)))
          have HO6 := Lib.hid (own_gro HO.out hg6 (by omega))
          have HP6 := Lib.hid (own_gro HP.out hg6 (by omega))
          have F_v6 := Lib.hid (F_v.out.gro hg6 (by omega))
          have F_o6 := Lib.hid (F_o.out.gro hg6 (by omega))
          have hz6' : w.heap.size + 3 ≤ w6.heap.size := by have := hg6.size; omega
          have HZU := Lib.hid (bitN_u HYD.out)
          obtain ⟨z, hzz⟩ : ∃ z, bitN (ys.drop (16 * i + 64 * j)) = z := ⟨_, rfl⟩
          have e0 : num8 (ys.drop (16 * i + 64 * j)) 0 = z.r0 := by rw [← hzz]; rfl
          have e1 : num8 (ys.drop (16 * i + 64 * j)) 2 = z.r1 := by rw [← hzz]; rfl
          have e2 : num8 (ys.drop (16 * i + 64 * j)) 1 = z.s0 := by rw [← hzz]; rfl
          have e3 : num8 (ys.drop (16 * i + 64 * j)) 3 = z.s1 := by rw [← hzz]; rfl
          have e4 : num8 (ys.drop (16 * i + 64 * j)) 4 = z.c0 := by rw [← hzz]; rfl
          have e5 : num8 (ys.drop (16 * i + 64 * j)) 5 = z.c1 := by rw [← hzz]; rfl
          have e6 : num8 (ys.drop (16 * i + 64 * j)) 6 = z.z0 := by rw [← hzz]; rfl
          have e7 : num8 (ys.drop (16 * i + 64 * j)) 7 = z.z1 := by rw [← hzz]; rfl
          rw [e0, e1, e2, e3, e4, e5, e6, e7]
          rw [hzz] at HZU HFIN
          clear e0 e1 e2 e3 e4 e5 e6 e7 hzz hg6 hd
          go_wp2_with (first
            | (refine wpL_storeCl rfl 27 (.tmp 91) (.tmp 90) (w.heap.size + 1 + 1) 3 _ [.int .u64 z.r0, .int .u64 z.r1, .int .u64 z.s0, .int .u64 z.s1, .int .u64 z.c0, .int .u64 z.c1, .int .u64 z.z0, .int .u64 z.z1] [.slice a1 i c1, .slice a2 j c2, .bool (b2 == 1), .int .u64 z.r0, .int .u64 z.r1, .int .u64 z.s0, .int .u64 z.s1, .int .u64 z.c0, .int .u64 z.c1, .int .u64 z.z0, .int .u64 z.z1] rfl rfl rfl rfl (by kernel_rfl) (by intro u hu; simp at hu; rcases hu with rfl | rfl | rfl | rfl | rfl | rfl | rfl | rfl <;> rfl) F_v6.out (by simp) rfl ?_
               intro w7 hc7 hg7 hz7
               have F_w := Lib.hid hc7
               have HG7 := Lib.hid hg7
               have hz7' : w7.heap.size = w6.heap.size := hz7
               clear hc7 hg7 hz7)
            | (refine wpL_loadCl rfl 29 (.tmp 8) (w.heap.size + 1 + 1) _ rfl rfl _ Tryd.underlying29 rfl (by kernel_rfl) F_w.out ?_)
            | (refine wpL_storeCl rfl 29 (.tmp 2) (.tmp 92) w.heap.size 0 _ [.slice a1 i c1, .slice a2 j c2, .bool (b2 == 1), .int .u64 z.r0, .int .u64 z.r1, .int .u64 z.s0, .int .u64 z.s1, .int .u64 z.c0, .int .u64 z.c1, .int .u64 z.z0, .int .u64 z.z1] [.slice a1 i c1, .slice a2 j c2, .bool (b2 == 1), .int .u64 z.r0, .int .u64 z.r1, .int .u64 z.s0, .int .u64 z.s1, .int .u64 z.c0, .int .u64 z.c1, .int .u64 z.z0, .int .u64 z.z1] rfl rfl rfl rfl (by kernel_rfl) (by intro u hu; simp at hu; rcases hu with rfl | rfl | rfl | rfl | rfl | rfl | rfl | rfl | rfl | rfl | rfl <;> rfl) (F_o6.out.gro HG7.out (by omega)) (by simp) rfl ?_
               intro w8 hc8 hg8 hz8
               have F_x := Lib.hid hc8
               have HG8 := Lib.hid hg8
               have hz8' : w8.heap.size = w7.heap.size := hz8
               clear hc8 hg8 hz8))
          obtain ⟨x1, y1, ex1, hS1, -⟩ := ShS.of_owned2 (own_gro (own_gro HO6.out HG7.out (by omega)) HG8.out (by omega))
          obtain ⟨x2, y2, ex2, hS2, -⟩ := ShB.of_owned2 (own_gro (own_gro HP6.out HG7.out (by omega)) HG8.out (by omega))
          injection ex1 with f1 f2 f3
          injection ex2 with f4 f5 f6
          subst f1 f4
          refine bodyPost_ret (res_vote rfl F_x.out _ rfl rfl) rfl ?_
          refine ⟨⟨a1, i, c1, boxesN ys i, a2, j, c2, bitsN ys i j, (b2 == 1), z⟩, by rw [HFIN.out]; rfl, ⟨hS1, boxesN_u HY.out _, hk1, hS2, bitsN_u HY.out _ _, hk2, HZU.out⟩, by rw [HFIN.out], by rw [HFIN.out], by rw [HFIN.out]; simp only [HB2.out]; rfl, by rw [HFIN.out], ?_⟩
          exact (HBW6.out.trans (HG7.out.blw (n := w.heap.size) (by omega) (by omega))).trans (HG8.out.blw (n := w.heap.size) (by omega) (by omega))
end Go.Proofs.YtlbldpkgnonbpaaDoor
namespace Go.Proofs.YtlbldpkgnonbpaaDoor
open Go Go.RowKit Num Sha
set_option linter.unusedSimpArgs false
set_option linter.unusedVariables false

theorem num8_drop (ys : List Int) (k j : Nat) : num8 (ys.drop (8 * k)) j = num8 ys (k + j) := by rw [num8, num8, List.drop_drop]; congr 3; omega
end Go.Proofs.YtlbldpkgnonbpaaDoor
namespace Go.Proofs.YtlbldpkgnonbpaaDoor
open Go Go.RowKit Num Sha
set_option linter.unusedSimpArgs false
set_option linter.unusedVariables false

end Go.Proofs.YtlbldpkgnonbpaaDoor
namespace Go.Proofs.YtlbldpkgnonbpaaDoor
open Go Go.RowKit Num Sha
set_option linter.unusedSimpArgs false
set_option linter.unusedVariables false
theorem eq_p64d (n : Nat) (a b c d : Int) (w : World) : (Op.equalIn (n + 2) 25 (.agg #[.int .u64 a, .int .u64 b]) (.agg #[.int .u64 c, .int .u64 d])).run Tryd.prog w = .ok (a == c && b == d) w := by
  have u3 := Tryd.underlying24
  have a3 := Tryd.isAgg24
  have z3 := Tryd.sizeOf24
  rw [Op.equalIn]
  simp only [Sem.run_bind, run_underlying Tryd.underlying25, Result.andThen_ok]
  simp only [Std.Legacy.Range.forIn_eq_forIn_range', Std.Legacy.Range.size, Nat.sub_zero, Nat.add_sub_cancel, Nat.div_one, List.range'_succ, List.range'_zero, List.forIn_cons, List.forIn_nil]
  go_simp
  by_cases h1 : a = c <;> by_cases h2 : b = d <;> simp [h1, h2]
@[go_sem] theorem eq_p64l (a b : Int) (w : World) : (Op.equalIn 9999 25 (.agg #[.int .u64 a, .int .u64 b]) (.agg #[.int .u64 a, .int .u64 b])).run Tryd.prog w = .ok true w := by
  rw [eq_p64d 9997 a b a b w]; simp
set_option maxRecDepth 100000 in
set_option maxHeartbeats 8000000 in
theorem rSame_aux {a1 a2 b1 b2 : Option Addr} {n m c1 c2 d1 d2 : Nat} {bs : List (Int × Int)} {ps : List Bt} {one : Bool} {z : Bt} (w : World) (hn : n ≤ 1000) (hm : m ≤ 1000) (h1 : ShS w a1 n bs) (h2 : ShS w a2 n bs) (h3 : ShB w b1 m ps) (h4 : ShB w b2 m ps) :
    Calls Tryd.prog 16 #[.agg #[.slice a1 n c1, .slice b1 m d1, .bool one, .int .u64 z.r0, .int .u64 z.r1, .int .u64 z.s0, .int .u64 z.s1, .int .u64 z.c0, .int .u64 z.c1, .int .u64 z.z0, .int .u64 z.z1], .agg #[.slice a2 n c2, .slice b2 m d2, .bool one, .int .u64 z.r0, .int .u64 z.r1, .int .u64 z.s0, .int .u64 z.s1, .int .u64 z.c0, .int .u64 z.c1, .int .u64 z.z0, .int .u64 z.z1]] w fun e w' => e = .returned (.bool true) ∧ Below w.heap.size w w' := by
  have H1 := Lib.hid h1
  have H2 := Lib.hid h2
  have H3 := Lib.hid h3
  have H4 := Lib.hid h4
  have F_v := Lib.hid (show Cl ((w.alloc (.cells #[.slice a1 n c1, .slice b1 m d1, .bool one, .int .u64 z.r0, .int .u64 z.r1, .int .u64 z.s0, .int .u64 z.s1, .int .u64 z.c0, .int .u64 z.c1, .int .u64 z.z0, .int .u64 z.z1] 29)).alloc (.cells #[.slice a2 n c2, .slice b2 m d2, .bool one, .int .u64 z.r0, .int .u64 z.r1, .int .u64 z.s0, .int .u64 z.s1, .int .u64 z.c0, .int .u64 z.c1, .int .u64 z.z0, .int .u64 z.z1] 29)) w.heap.size [.slice a1 n c1, .slice b1 m d1, .bool one, .int .u64 z.r0, .int .u64 z.r1, .int .u64 z.s0, .int .u64 z.s1, .int .u64 z.c0, .int .u64 z.c1, .int .u64 z.z0, .int .u64 z.z1] from (Cl.at w [.slice a1 n c1, .slice b1 m d1, .bool one, .int .u64 z.r0, .int .u64 z.r1, .int .u64 z.s0, .int .u64 z.s1, .int .u64 z.c0, .int .u64 z.c1, .int .u64 z.z0, .int .u64 z.z1] 29 w.heap.size rfl).alloc _)
  have F_u := Lib.hid (show Cl ((w.alloc (.cells #[.slice a1 n c1, .slice b1 m d1, .bool one, .int .u64 z.r0, .int .u64 z.r1, .int .u64 z.s0, .int .u64 z.s1, .int .u64 z.c0, .int .u64 z.c1, .int .u64 z.z0, .int .u64 z.z1] 29)).alloc (.cells #[.slice a2 n c2, .slice b2 m d2, .bool one, .int .u64 z.r0, .int .u64 z.r1, .int .u64 z.s0, .int .u64 z.s1, .int .u64 z.c0, .int .u64 z.c1, .int .u64 z.z0, .int .u64 z.z1] 29)) (w.heap.size + 1) [.slice a2 n c2, .slice b2 m d2, .bool one, .int .u64 z.r0, .int .u64 z.r1, .int .u64 z.s0, .int .u64 z.s1, .int .u64 z.c0, .int .u64 z.c1, .int .u64 z.z0, .int .u64 z.z1] from Cl.at (w.alloc (.cells #[.slice a1 n c1, .slice b1 m d1, .bool one, .int .u64 z.r0, .int .u64 z.r1, .int .u64 z.s0, .int .u64 z.s1, .int .u64 z.c0, .int .u64 z.c1, .int .u64 z.z0, .int .u64 z.z1] 29)) [.slice a2 n c2, .slice b2 m d2, .bool one, .int .u64 z.r0, .int .u64 z.r1, .int .u64 z.s0, .int .u64 z.s1, .int .u64 z.c0, .int .u64 z.c1, .int .u64 z.z0, .int .u64 z.z1] 29 (w.heap.size + 1) (by simp))
  have HBW := Lib.hid (show Below w.heap.size w ((w.alloc (.cells #[.slice a1 n c1, .slice b1 m d1, .bool one, .int .u64 z.r0, .int .u64 z.r1, .int .u64 z.s0, .int .u64 z.s1, .int .u64 z.c0, .int .u64 z.c1, .int .u64 z.z0, .int .u64 z.z1] 29)).alloc (.cells #[.slice a2 n c2, .slice b2 m d2, .bool one, .int .u64 z.r0, .int .u64 z.r1, .int .u64 z.s0, .int .u64 z.s1, .int .u64 z.c0, .int .u64 z.c1, .int .u64 z.z0, .int .u64 z.z1] 29)) from ((Below.refl _ _).alloc (Nat.le_refl _) _).alloc (by simp) _)
  clear h1 h2 h3 h4
  go_enter Tryd.func16, Tryd.ntmps16
  obtain ⟨⟨q0, q1, q2, q3, q4, q5, q6, q7, q8, q9, q10⟩, -⟩ := F_v.out.k11
  obtain ⟨⟨y0, y1, y2, y3, y4, y5, y6, y7, y8, y9, y10⟩, -⟩ := F_u.out.k11
  go_wp2_with fail
  clear q0 q1 q2 q3 q4 q5 q6 q7 q8 q9 q10 y0 y1 y2 y3 y4 y5 y6 y7 y8 y9 y10
  go_loopw [5] (fun c5 wr => ∃ (i : Nat), i ≤ n ∧ c5 = .int .i64 i ∧ Hid (Cl wr w.heap.size [.slice a1 n c1, .slice b1 m d1, .bool one, .int .u64 z.r0, .int .u64 z.r1, .int .u64 z.s0, .int .u64 z.s1, .int .u64 z.c0, .int .u64 z.c1, .int .u64 z.z0, .int .u64 z.z1]) ∧ Hid (Cl wr (w.heap.size + 1) [.slice a2 n c2, .slice b2 m d2, .bool one, .int .u64 z.r0, .int .u64 z.r1, .int .u64 z.s0, .int .u64 z.s1, .int .u64 z.c0, .int .u64 z.c1, .int .u64 z.z0, .int .u64 z.z1]) ∧ Hid (Below w.heap.size w wr)) (fun c5 _ => n - (intOf c5).toNat)
  case atStart => exact ⟨0, by omega, rfl, F_v.out, F_u.out, HBW.out⟩
  case round =>
    clear F_v F_u HBW
    obtain ⟨i, hi, rfl, F_v, F_u, HBW⟩ := hrel
    have hwi : IntKind.i64.wrap ((i : Int) + 1) = (i : Int) + 1 := IntWalk.i64_in _ (by omega)
    have hi0 : (0 : Int) ≤ (i : Int) := by omega
    obtain ⟨⟨q0, q1, q2, q3, q4, q5, q6, q7, q8, q9, q10⟩, -⟩ := F_v.out.k11
    obtain ⟨⟨y0, y1, y2, y3, y4, y5, y6, y7, y8, y9, y10⟩, -⟩ := F_u.out.k11
    by_cases hlt : i < n
    case pos =>
      have hi2 : (i : Int) < (n : Int) := by omega
      have cS : Tryd.prog.cellsOf 78 = 2 := by kernel_rfl
      obtain ⟨s, o, hsa, hsl, e0, e1⟩ := (H1.out.keep HBW.out).at i hlt
      obtain ⟨s', o', hsa', hsl', e0', e1'⟩ := (H2.out.keep HBW.out).at i hlt
      obtain ⟨x, y, hxy⟩ : ∃ x y, bs.getD i (0, 0) = (x, y) := ⟨_, _, rfl⟩
      rw [hxy] at e0 e1 e0' e1'
      simp only at e0 e1 e0' e1'
      clear hxy hsl hsl'
      rw [hsa] at q0
      rw [hsa'] at y0
      clear hsa hsa'
      go_wp2_with fail
      go_region
      go_wp2_with fail
      go_roundw
      case rel => exact ⟨i + 1, by omega, by go_num, F_v.out.drew, F_u.out.drew, HBW.out.drew⟩
      case measure => simp [intOf] <;> omega
    case neg =>
      have hi2 : ¬ ((i : Int) < (n : Int)) := by omega
      go_wp2_with fail
      clear q0 q1 q2 q3 q4 q5 q6 q7 q8 q9 q10 y0 y1 y2 y3 y4 y5 y6 y7 y8 y9 y10 hwi hi0 hi2
      obtain ⟨wb, rfl⟩ : ∃ wb, wb = wr := ⟨_, rfl⟩
      go_loopw [6] (fun c6 wr => ∃ (j : Nat), j ≤ m ∧ c6 = .int .i64 j ∧ Hid (Cl wr w.heap.size [.slice a1 n c1, .slice b1 m d1, .bool one, .int .u64 z.r0, .int .u64 z.r1, .int .u64 z.s0, .int .u64 z.s1, .int .u64 z.c0, .int .u64 z.c1, .int .u64 z.z0, .int .u64 z.z1]) ∧ Hid (Cl wr (w.heap.size + 1) [.slice a2 n c2, .slice b2 m d2, .bool one, .int .u64 z.r0, .int .u64 z.r1, .int .u64 z.s0, .int .u64 z.s1, .int .u64 z.c0, .int .u64 z.c1, .int .u64 z.z0, .int .u64 z.z1]) ∧ Hid (Below w.heap.size w wr)) (fun c6 _ => m - (intOf c6).toNat)
      case atStart => exact ⟨0, by omega, rfl, F_v.out, F_u.out, HBW.out⟩
      case round =>
        clear F_v F_u HBW
        obtain ⟨j, hj, rfl, F_v, F_u, HBW⟩ := hrel
        have hwi : IntKind.i64.wrap ((j : Int) + 1) = (j : Int) + 1 := IntWalk.i64_in _ (by omega)
        have hi0 : (0 : Int) ≤ (j : Int) := by omega
        obtain ⟨⟨q0, q1, q2, q3, q4, q5, q6, q7, q8, q9, q10⟩, -⟩ := F_v.out.k11
        obtain ⟨⟨y0, y1, y2, y3, y4, y5, y6, y7, y8, y9, y10⟩, -⟩ := F_u.out.k11
        by_cases hlt : j < m
        case pos =>
          have hi2 : (j : Int) < (m : Int) := by omega
          have cB : Tryd.prog.cellsOf 27 = 8 := by kernel_rfl
          obtain ⟨s, o, x, hsa, hz, hbc⟩ := (H3.out.keep HBW.out).at j hlt
          obtain ⟨s', o', x', hsa', hz', hbc'⟩ := (H4.out.keep HBW.out).at j hlt
          obtain rfl : x = x' := Option.some.inj (hz.symm.trans hz')
          obtain ⟨-, t0, t1, t2, t3, t4, t5, t6, t7⟩ := hbc
          obtain ⟨-, r0, r1, r2, r3, r4, r5, r6, r7⟩ := hbc'
          rw [hsa] at q1
          rw [hsa'] at y1
          clear hsa hsa' hz hz'
          go_wp2_with fail
          go_region
          go_wp2_with fail
          go_roundw
          case rel => exact ⟨j + 1, by omega, by go_num, F_v.out.drew, F_u.out.drew, HBW.out.drew⟩
          case measure => simp [intOf] <;> omega
        case neg =>
          have hi2 : ¬ ((j : Int) < (m : Int)) := by omega
          go_wp2_with fail
          go_ret
          exact ⟨rfl, HBW.out⟩
theorem rSame_any {V U : Vt} (w : World) (hV : VtIn w V) (hU : VtIn w U) (hb : V.bs = U.bs) (hp : V.ps = U.ps) (ho : V.one = U.one) (hz : V.z = U.z) (hn : V.n ≤ 1000) (hm : V.m ≤ 1000) :
    Calls Tryd.prog 16 #[V.v, U.v] w fun e w' => e = .returned (.bool true) ∧ Below w.heap.size w w' := by
  have e1 := hV.h1.len
  have e2 := hU.h1.len
  have e3 := hV.h2.len
  have e4 := hU.h2.len
  obtain ⟨a1, n, c1, bs, b1, m, d1, ps, one, z⟩ := V
  obtain ⟨a2, n', c2, bs', b2, m', d2, ps', one', z'⟩ := U
  simp only at *
  subst hb hp ho hz
  obtain rfl : n' = n := by omega
  obtain rfl : m' = m := by omega
  exact rSame_aux w hn hm hV.h1 hU.h1 hV.h2 hU.h2
def greatV (V : Vt) : Bool := decide (20 < V.n) || decide (20 < V.m)

set_option maxRecDepth 100000 in
set_option maxHeartbeats 8000000 in
theorem greatV_any {V : Vt} (w : World) :
    Calls Tryd.prog 9 #[V.v] w fun e w' => e = .returned (.bool (greatV V)) ∧ Below w.heap.size w w' := by
  have F_v := Lib.hid (VBox.at w V 29 w.heap.size rfl)
  have HBW := Lib.hid (show Below w.heap.size w (w.alloc (.cells #[.slice V.a V.n V.c, .slice V.b V.m V.d, .bool V.one, .int .u64 V.z.r0, .int .u64 V.z.r1, .int .u64 V.z.s0, .int .u64 V.z.s1, .int .u64 V.z.c0, .int .u64 V.z.c1, .int .u64 V.z.z0, .int .u64 V.z.z1] 29)) from (Below.refl _ _).alloc (Nat.le_refl _) _)
  obtain ⟨-, v0, v1, -⟩ := id F_v.out
  unfold Vt.v
  by_cases h : 20 < V.n
  case pos =>
    have d1 : decide ((20 : Int) < (V.n : Int)) = true := by simp; omega
    go_enter Tryd.func9, Tryd.ntmps9
    go_wp2_with fail
    go_ret
    exact ⟨by simp [greatV, h], HBW.out⟩
  case neg =>
    have d1 : decide ((20 : Int) < (V.n : Int)) = false := by simp; omega
    go_enter Tryd.func9, Tryd.ntmps9
    go_wp2_with fail
    go_ret
    exact ⟨by simp [greatV, h, show ((20 : Int) < (V.m : Int)) ↔ 20 < V.m by omega], HBW.out⟩
end Go.Proofs.YtlbldpkgnonbpaaDoor
namespace Go.Proofs.YtlbldpkgnonbpaaDoor
open Go Go.RowKit Num Sha
set_option linter.unusedSimpArgs false
set_option linter.unusedVariables false

theorem Bt.u.nn {z : Bt} (h : z.u) : 0 ≤ z.r0 ∧ 0 ≤ z.r1 ∧ 0 ≤ z.s0 ∧ 0 ≤ z.s1 ∧ 0 ≤ z.c0 ∧ 0 ≤ z.c1 ∧ 0 ≤ z.z0 ∧ 0 ≤ z.z1 := by
  obtain ⟨h0, h1, h2, h3, h4, h5, h6, h7⟩ := h
  exact ⟨h0.1, h1.1, h2.1, h3.1, h4.1, h5.1, h6.1, h7.1⟩
theorem ShI.lit1 (q : IntKind) (w : World) (x : Int) (T : TypeId) (s : Nat) (hs : s = w.heap.size) : ShI q (w.alloc (.cells #[.int q x] T)) (some ⟨s, 0, none⟩) 1 [x] :=
  .inr ⟨s, 0, rfl, rfl, by subst hs; simp, fun i hi => by rw [Nat.zero_add]; exact (Arr.new q w [x] T s hs).c i hi⟩
def provB (P Q G y a b : Int) (z : Bt) (x : Int) : Prop :=
  askS P Q G [z.c0, z.c1, z.z0, z.z1] [y, a, b, z.r0, z.r1, z.s0, z.s1] = 0 ∧ bvP P Q G y a b z.r0 z.r1 z.s0 z.s1 z.c0 z.c1 z.z0 z.z1 [x]

set_option maxRecDepth 100000 in
set_option maxHeartbeats 8000000 in
theorem proved_any {P Q G y a b x : Int} {z : Bt} {v : Bool} (w : World) (hT : Tabs w) (hP : 0 ≤ P) (hQ : 0 ≤ Q) (hG : 0 ≤ G) (hy : 0 ≤ y) (ha : 0 ≤ a) (hb : 0 ≤ b) (hz : z.u) (hx0 : 0 ≤ x) (hx1 : x < 256) (hv : v = true ↔ provB P Q G y a b z x) :
    Calls Tryd.prog 88 #[.agg #[.int .u64 P, .int .u64 Q, .int .u64 G], .int .u64 y, .agg #[.int .u64 a, .int .u64 b], .agg #[.int .u64 z.r0, .int .u64 z.r1, .int .u64 z.s0, .int .u64 z.s1, .int .u64 z.c0, .int .u64 z.c1, .int .u64 z.z0, .int .u64 z.z1], .int .u8 x] w fun e w' => e = .returned (.bool v) ∧ Below w.heap.size w w' := by
  have HT := Lib.hid hT
  obtain ⟨n0, n1, n2, n3, n4, n5, n6, n7⟩ := hz.nn
  have HV := Lib.hid hv
  have F_g := Lib.hid (show Cl (((w.alloc (.cells #[.int .u64 P, .int .u64 Q, .int .u64 G] 49)).alloc (.cells #[.int .u64 a, .int .u64 b] 78)).alloc (.cells #[.int .u64 z.r0, .int .u64 z.r1, .int .u64 z.s0, .int .u64 z.s1, .int .u64 z.c0, .int .u64 z.c1, .int .u64 z.z0, .int .u64 z.z1] 27)) w.heap.size [.int .u64 P, .int .u64 Q, .int .u64 G] from ((Cl.at w [.int .u64 P, .int .u64 Q, .int .u64 G] _ w.heap.size rfl).alloc _).alloc _)
  have F_s := Lib.hid (show Cl (((w.alloc (.cells #[.int .u64 P, .int .u64 Q, .int .u64 G] 49)).alloc (.cells #[.int .u64 a, .int .u64 b] 78)).alloc (.cells #[.int .u64 z.r0, .int .u64 z.r1, .int .u64 z.s0, .int .u64 z.s1, .int .u64 z.c0, .int .u64 z.c1, .int .u64 z.z0, .int .u64 z.z1] 27)) (w.heap.size + 1) [.int .u64 a, .int .u64 b] from (Cl.at (w.alloc (.cells #[.int .u64 P, .int .u64 Q, .int .u64 G] 49)) [.int .u64 a, .int .u64 b] _ (w.heap.size + 1) (by simp)).alloc _)
  have F_z := Lib.hid (show Cl (((w.alloc (.cells #[.int .u64 P, .int .u64 Q, .int .u64 G] 49)).alloc (.cells #[.int .u64 a, .int .u64 b] 78)).alloc (.cells #[.int .u64 z.r0, .int .u64 z.r1, .int .u64 z.s0, .int .u64 z.s1, .int .u64 z.c0, .int .u64 z.c1, .int .u64 z.z0, .int .u64 z.z1] 27)) (w.heap.size + 1 + 1) [.int .u64 z.r0, .int .u64 z.r1, .int .u64 z.s0, .int .u64 z.s1, .int .u64 z.c0, .int .u64 z.c1, .int .u64 z.z0, .int .u64 z.z1] from Cl.at ((w.alloc (.cells #[.int .u64 P, .int .u64 Q, .int .u64 G] 49)).alloc (.cells #[.int .u64 a, .int .u64 b] 78)) [.int .u64 z.r0, .int .u64 z.r1, .int .u64 z.s0, .int .u64 z.s1, .int .u64 z.c0, .int .u64 z.c1, .int .u64 z.z0, .int .u64 z.z1] _ (w.heap.size + 1 + 1) (by simp))
  have HBW := Lib.hid (show Below w.heap.size w (((w.alloc (.cells #[.int .u64 P, .int .u64 Q, .int .u64 G] 49)).alloc (.cells #[.int .u64 a, .int .u64 b] 78)).alloc (.cells #[.int .u64 z.r0, .int .u64 z.r1, .int .u64 z.s0, .int .u64 z.s1, .int .u64 z.c0, .int .u64 z.c1, .int .u64 z.z0, .int .u64 z.z1] 27)) from (((Below.refl _ _).alloc (Nat.le_refl _) _).alloc (by simp) _).alloc (by simp <;> omega) _)
  have HX := Lib.hid (show Txt ((((w.alloc (.cells #[.int .u64 P, .int .u64 Q, .int .u64 G] 49)).alloc (.cells #[.int .u64 a, .int .u64 b] 78)).alloc (.cells #[.int .u64 z.r0, .int .u64 z.r1, .int .u64 z.s0, .int .u64 z.s1, .int .u64 z.c0, .int .u64 z.c1, .int .u64 z.z0, .int .u64 z.z1] 27)).alloc (.cells #[.int .u8 x] 5)) (some ⟨w.heap.size + 1 + 1 + 1, 0, none⟩) 1 [x] from
    ⟨(HT.out.below HBW.out).below ((Below.refl _ _).alloc (Nat.le_refl _) _), ShI.lit1 .u8 _ x _ _ (by simp), fun u hu => by simp at hu; subst hu; exact ⟨hx0, hx1⟩⟩)
  obtain ⟨v', e', hR⟩ := RetB.exists (lgS (askS P Q G [z.c0, z.c1, z.z0, z.z1] [y, a, b, z.r0, z.r1, z.s0, z.s1]) 1) (bvP P Q G y a b z.r0 z.r1 z.s0 z.s1 z.c0 z.c1 z.z0 z.z1 [x])
  have HR := Lib.hid hR
  clear hT hz hv hR
  have g0 := F_g.out.c 0 _ rfl
  have g1 := F_g.out.c 1 _ rfl
  have g2 := F_g.out.c 2 _ rfl
  have s0 := F_s.out.c 0 _ rfl
  have s1 := F_s.out.c 1 _ rfl
  have z0 := F_z.out.c 0 _ rfl
  have z1 := F_z.out.c 1 _ rfl
  have z2 := F_z.out.c 2 _ rfl
  have z3 := F_z.out.c 3 _ rfl
  have z4 := F_z.out.c 4 _ rfl
  have z5 := F_z.out.c 5 _ rfl
  have z6 := F_z.out.c 6 _ rfl
  have z7 := F_z.out.c 7 _ rfl
  go_enter Tryd.func88, Tryd.ntmps88
  go_wp2_with fail
  clear g0 g1 g2 s0 s1 z0 z1 z2 z3 z4 z5 z6 z7
  refine (pbitVerify_any _ HX.out hP hQ hG hy ha hb n0 n1 n2 n3 n4 n5 n6 n7 (by decide) HR.out).mono ?_
  rintro e w5 ⟨rfl, hb5⟩
  have HB5 := Lib.hid ((HBW.out.alloc HBW.out.size (.cells #[.int .u8 x] 5)).trans (hb5.mono (by simp; omega)))
  clear hb5
  rcases HR.out with ⟨h1, h2, rfl⟩ | ⟨h1, rfl, rfl⟩
  · have HE := Lib.hid (show v' = v by
      have h3 : provB P Q G y a b z x ↔ v' = true := ⟨fun h => h2.2 h.2, fun h => ⟨(lgS_zero h1).1, h2.1 h⟩⟩
      have h4 := HV.out.trans h3
      cases v <;> cases v' <;> simp_all)
    clear h1 h2
    go_wp2_with fail
    go_ret
    exact ⟨by rw [HE.out]; rfl, HB5.out⟩
  · have HE := Lib.hid (show v = false by
      cases v with
      | false => rfl
      | true => exact absurd (show lgS (askS P Q G [z.c0, z.c1, z.z0, z.z1] [y, a, b, z.r0, z.r1, z.s0, z.s1]) 1 = 0 by unfold lgS; rw [if_pos (HV.out.1 rfl).1]; rfl) h1)
    go_wp2_with fail
    go_ret
    exact ⟨by rw [HE.out]; rfl, HB5.out⟩
end Go.Proofs.YtlbldpkgnonbpaaDoor
