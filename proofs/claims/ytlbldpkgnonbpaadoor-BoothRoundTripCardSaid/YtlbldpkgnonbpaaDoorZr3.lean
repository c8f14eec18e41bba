/- BoothRoundTrip: the statement: for every input the law returns true, and the arguments read as before. -/
import Derived.Test.YtlbldpkgnonbpaaDoorZrQ
import Derived.Test.YtlbldpkgnonbpaaDoorZr2
namespace Go.Proofs.YtlbldpkgnonbpaaDoor
open Go Go.RowKit Num Sha
set_option linter.unusedSimpArgs false
set_option linter.unusedVariables false

theorem be8_eq (n : Int) : be8 n = [n / 72057594037927936 % 256, n / 281474976710656 % 256, n / 1099511627776 % 256, n / 4294967296 % 256, n / 16777216 % 256, n / 65536 % 256, n / 256 % 256, n % 256] := by
  simp [be8, List.range_succ]
theorem beN_be8 {n : Int} (h : U64 n) : beN (be8 n) = n := by
  obtain ⟨h0, h1⟩ := h
  rw [be8_eq]
  simp only [beN, List.foldl_cons, List.foldl_nil]
  omega
theorem be8_beN {l : List Int} (hl : l.length = 8) (hb : Bytes l) : be8 (beN l) = l := by
  match l, hl with
  | [a, b, c, d, e, f, g, h], _ =>
    have ha := hb a (by simp)
    have hb' := hb b (by simp)
    have hc := hb c (by simp)
    have hd := hb d (by simp)
    have he := hb e (by simp)
    have hf := hb f (by simp)
    have hg := hb g (by simp)
    have hh := hb h (by simp)
    rw [be8_eq]
    simp only [beN, List.foldl_cons, List.foldl_nil, List.cons.injEq, and_true]
    omega
theorem flat8_drop : ∀ (ns : List Int) (k : Nat), (flat8 ns).drop (8 * k) = flat8 (ns.drop k)
  | ns, 0 => rfl
  | [], k + 1 => by simp [flat8]
  | n :: ns, k + 1 => by
    rw [List.drop_succ_cons, ← flat8_drop ns k, flat8, List.flatMap_cons, List.drop_append, be8_len, List.drop_eq_nil_of_le (by rw [be8_len]; omega), List.nil_append, show 8 * (k + 1) - 8 = 8 * k by omega]
    rfl
theorem num8_flat8 {ns : List Int} (hu : ∀ x, x ∈ ns → U64 x) {k : Nat} (hk : k < ns.length) : num8 (flat8 ns) k = ns.getD k 0 := by
  rw [num8, flat8_drop, List.drop_eq_getElem_cons hk, flat8, List.flatMap_cons, List.take_append_of_le_length (by rw [be8_len]; omega), List.take_of_length_le (by rw [be8_len]; omega), beN_be8 (hu _ (List.getElem_mem hk)), List.getD_eq_getElem?_getD, List.getElem?_eq_getElem hk]
  rfl
theorem pairs_get : ∀ (bs : List (Int × Int)) (R : List Int) (i : Nat), i < bs.length → (bs.flatMap (fun q => [q.1, q.2]) ++ R).getD (2 * i) 0 = (bs.getD i (0, 0)).1 ∧ (bs.flatMap (fun q => [q.1, q.2]) ++ R).getD (2 * i + 1) 0 = (bs.getD i (0, 0)).2
  | [], _, i, h => by simp at h
  | q :: bs, R, 0, _ => ⟨rfl, rfl⟩
  | q :: bs, R, i + 1, h => by
    have := pairs_get bs R i (by simpa using h)
    simpa [List.flatMap_cons, show 2 * (i + 1) = 2 * i + 1 + 1 by omega] using this
def bns (z : Bt) : List Int := [z.r0, z.s0, z.r1, z.s1, z.c0, z.c1, z.z0, z.z1]
theorem bits_get : ∀ (ps : List Bt) (i j : Nat), i < ps.length → j < 8 → (ps.flatMap bns).getD (8 * i + j) 0 = (bns (ps.getD i Bt.zero)).getD j 0
  | [], i, j, h, _ => by simp at h
  | z :: ps, 0, j, _, hj => by
    rw [List.flatMap_cons, List.getD_eq_getElem?_getD, List.getElem?_append_left (by show 8 * 0 + j < 8; omega), Nat.mul_zero, Nat.zero_add]
    rfl
  | z :: ps, i + 1, j, h, hj => by
    have := bits_get ps i j (by simpa using h) hj
    rw [List.flatMap_cons, List.getD_eq_getElem?_getD, List.getElem?_append_right (by show 8 ≤ _; omega), show 8 * (i + 1) + j - (bns z).length = 8 * i + j by show 8 * (i + 1) + j - 8 = _; omega, ← List.getD_eq_getElem?_getD, this]
    rfl
theorem Vt.nums_eq (V : Vt) : V.nums = V.bs.flatMap (fun q => [q.1, q.2]) ++ (V.ps ++ [V.z]).flatMap bns := by
  unfold Vt.nums Vt.pts
  rw [List.flatMap_append, List.flatMap_map, List.flatMap_map]
  rfl
theorem flatMap_len {α β : Type} (f : α → List β) (c : Nat) : ∀ l : List α, (∀ x, (f x).length = c) → (l.flatMap f).length = c * l.length
  | [], _ => rfl
  | x :: l, h => by rw [List.flatMap_cons, List.length_append, h x, flatMap_len f c l h, List.length_cons, Nat.mul_add]; omega
theorem list_ext {α : Type} {l m : List α} (d : α) (hl : l.length = m.length) (h : ∀ i, i < l.length → l.getD i d = m.getD i d) : l = m := by
  apply List.ext_getElem hl
  intro i h1 h2
  have := h i h1
  rwa [List.getD_eq_getElem?_getD, List.getD_eq_getElem?_getD, List.getElem?_eq_getElem h1, List.getElem?_eq_getElem h2] at this
theorem bitN_at {L : List Int} (hu : ∀ x, x ∈ L → U64 x) {K : Nat} {z : Bt} (hK : K + 8 ≤ L.length) (h : ∀ j, j < 8 → L.getD (K + j) 0 = (bns z).getD j 0) : bitN ((flat8 L).drop (8 * K)) = z := by
  have e : ∀ j, j < 8 → num8 ((flat8 L).drop (8 * K)) j = (bns z).getD j 0 := fun j hj => by rw [num8_drop, num8_flat8 hu (by omega), h j hj]
  unfold bitN
  rw [e 0 (by omega), e 1 (by omega), e 2 (by omega), e 3 (by omega), e 4 (by omega), e 5 (by omega), e 6 (by omega), e 7 (by omega)]
  rfl
theorem read_bytes {w : World} {V : Vt} (hV : VtIn w V) (hn : V.n ≤ 10) (hm : V.m ≤ 10) : readF V.bytes = (0, V.bs, V.ps, V.one, V.z) := by
  have ln := hV.h1.len
  have lm := hV.h2.len
  have hu : ∀ x, x ∈ V.nums → U64 x := by
    intro x hx
    obtain ⟨p, hp, hx⟩ := List.mem_flatMap.1 hx
    exact Pt.us (Vt.us hV p hp) x hx
  have e := V.nums_eq
  have l1 : (V.bs.flatMap fun q => [q.1, q.2]).length = 2 * V.n := by rw [flatMap_len _ 2 _ (fun _ => rfl), ← ln]
  have l2 : ((V.ps ++ [V.z]).flatMap bns).length = 8 * (V.m + 1) := by rw [flatMap_len _ 8 _ (fun _ => rfl), List.length_append, ← lm]; rfl
  have hL : V.nums.length = 2 * V.n + 8 * (V.m + 1) := by rw [e, List.length_append, l1, l2]
  have hlen : V.bytes.length = 3 + 16 * V.n + 64 * (V.m + 1) := by
    unfold Vt.bytes
    rw [List.length_append, flat8_len, hL]
    show 3 + _ = _
    omega
  have hd3 : V.bytes.drop 3 = flat8 V.nums := rfl
  have g0 : V.bytes.getD 0 0 = (V.n : Int) := rfl
  have g1 : V.bytes.getD 1 0 = (V.m : Int) := rfl
  have g2 : V.bytes.getD 2 0 = if V.one then 1 else 0 := rfl
  have gg : ∀ i, i < (V.ps ++ [V.z]).length → ∀ j, j < 8 → V.nums.getD (2 * V.n + 8 * i + j) 0 = (bns ((V.ps ++ [V.z]).getD i Bt.zero)).getD j 0 := by
    intro i hi j hj
    rw [e, List.getD_eq_getElem?_getD, List.getElem?_append_right (by rw [l1]; omega), l1, show 2 * V.n + 8 * i + j - 2 * V.n = 8 * i + j by omega, ← List.getD_eq_getElem?_getD]
    exact bits_get _ i j hi hj
  rw [readF_5 (n := V.n) (m := V.m) ⟨hn, hm, by rw [g2]; split <;> decide⟩ g0 g1 hlen, hd3, g2]
  have e1 : boxesN (flat8 V.nums) V.n = V.bs := by
    refine list_ext (0, 0) (by rw [boxesN_len]; exact ln) (fun i hi => ?_)
    rw [boxesN_len] at hi
    have := pairs_get V.bs ((V.ps ++ [V.z]).flatMap bns) i (by omega)
    rw [← e] at this
    rw [boxesN, List.getD_eq_getElem?_getD, List.getElem?_map, List.getElem?_range hi]
    show (num8 (flat8 V.nums) (2 * i), num8 (flat8 V.nums) (2 * i + 1)) = _
    rw [num8_flat8 hu (by omega), num8_flat8 hu (by omega), this.1, this.2]
  have e2 : bitsN (flat8 V.nums) V.n V.m = V.ps := by
    refine list_ext Bt.zero (by rw [bitsN_len]; exact lm) (fun i hi => ?_)
    rw [bitsN_len] at hi
    rw [bitsN, List.getD_eq_getElem?_getD, List.getElem?_map, List.getElem?_range hi]
    show bitN ((flat8 V.nums).drop (16 * V.n + 64 * i)) = _
    rw [show 16 * V.n + 64 * i = 8 * (2 * V.n + 8 * i) by omega]
    refine bitN_at hu (by omega) (fun j hj => ?_)
    rw [gg i (by rw [List.length_append, ← lm]; omega) j hj, List.getD_eq_getElem?_getD (l := V.ps ++ [V.z]), List.getElem?_append_left (by omega), ← List.getD_eq_getElem?_getD]
  have e3 : bitN ((flat8 V.nums).drop (16 * V.n + 64 * V.m)) = V.z := by
    rw [show 16 * V.n + 64 * V.m = 8 * (2 * V.n + 8 * V.m) by omega]
    refine bitN_at hu (by omega) (fun j hj => ?_)
    rw [gg V.m (by rw [List.length_append, ← lm]; simp) j hj, List.getD_eq_getElem?_getD (l := V.ps ++ [V.z]), List.getElem?_append_right (by omega), lm, Nat.sub_self]
    rfl
  rw [e1, e2, e3]
  cases V.one <;> rfl
theorem bytes_small {w : World} {V : Vt} (hV : VtIn w V) (hn : V.n ≤ 10) (hm : V.m ≤ 10) : V.bytes.length ≤ 2000 := by
  have ln := hV.h1.len
  have lm := hV.h2.len
  have e := V.nums_eq
  have l1 : (V.bs.flatMap fun q => [q.1, q.2]).length = 2 * V.n := by rw [flatMap_len _ 2 _ (fun _ => rfl), ← ln]
  have l2 : ((V.ps ++ [V.z]).flatMap bns).length = 8 * (V.m + 1) := by rw [flatMap_len _ 8 _ (fun _ => rfl), List.length_append, ← lm]; rfl
  have hL : V.nums.length = 2 * V.n + 8 * (V.m + 1) := by rw [e, List.length_append, l1, l2]
  unfold Vt.bytes
  rw [List.length_append, flat8_len, hL]
  show 3 + _ ≤ _
  omega
theorem flat8_num8 {ys : List Int} (hb : Bytes ys) : ∀ k, 8 * k ≤ ys.length → flat8 ((List.range k).map (num8 ys)) = ys.take (8 * k)
  | 0, _ => by simp [flat8]
  | k + 1, h => by
    rw [List.range_succ, List.map_append, show flat8 ((List.range k).map (num8 ys) ++ [k].map (num8 ys)) = flat8 ((List.range k).map (num8 ys)) ++ be8 (num8 ys k) by simp [flat8], flat8_num8 hb k (by omega), num8, be8_beN (by rw [List.length_take, List.length_drop]; omega) (fun b hb' => hb b (List.mem_of_mem_drop (List.mem_of_mem_take hb'))), show 8 * (k + 1) = 8 * k + 8 by omega, List.take_add]
theorem boxes_nums (ys : List Int) : ∀ n, (boxesN ys n).flatMap (fun q => [q.1, q.2]) = (List.range (2 * n)).map (num8 ys)
  | 0 => rfl
  | n + 1 => by
    rw [boxesN_succ, List.flatMap_append, boxes_nums ys n, show 2 * (n + 1) = 2 * n + 1 + 1 by omega, List.range_succ, List.range_succ]
    simp
theorem bitN_bns (zs : List Int) : bns (bitN zs) = (List.range 8).map (num8 zs) := rfl
theorem bits_nums (ys : List Int) (n : Nat) : ∀ k, (bitsN ys n k).flatMap bns = (List.range (8 * k)).map fun i => num8 ys (2 * n + i)
  | 0 => rfl
  | k + 1 => by
    rw [bitsN_succ, List.flatMap_append, bits_nums ys n k, show 8 * (k + 1) = 8 * k + 8 by omega, List.range_add, List.map_append, List.map_map]
    congr 1
    show bns (bitN (ys.drop (16 * n + 64 * k))) ++ [] = _
    rw [List.append_nil, bitN_bns]
    refine List.map_congr_left fun j _ => ?_
    rw [show 16 * n + 64 * k = 8 * (2 * n + 8 * k) by omega, num8_drop]
    show _ = num8 ys (2 * n + (8 * k + j))
    congr 1; omega
theorem readF_zero {T : List Int} (h : (readF T).1 = 0) : ∃ n m : Nat, n ≤ 10 ∧ m ≤ 10 ∧ (T.getD 0 0).toNat = n ∧ (T.getD 1 0).toNat = m ∧ T.getD 2 0 ≤ 1 ∧ T.length = 3 + 16 * n + 64 * (m + 1) ∧ readF T = (0, boxesN (T.drop 3) n, bitsN (T.drop 3) n m, decide (T.getD 2 0 = 1), bitN ((T.drop 3).drop (16 * n + 64 * m))) := by
  refine ⟨(T.getD 0 0).toNat, (T.getD 1 0).toNat, ?_⟩
  simp only [readF] at h ⊢
  split at h
  · cases h
  · split at h
    · cases h
    · split at h
      · cases h
      · split at h
        · cases h
        · next h1 h2 h3 h4 =>
          rw [if_neg h1, if_neg h2, if_neg h3, if_neg h4]
          exact ⟨by omega, by omega, trivial, trivial, by omega, by omega, rfl⟩
theorem bytes_read {w : World} {T : List Int} {W : Vt} (hb : Bytes T) (h : (readF T).1 = 0) (hW : VtIn w W) (h1 : W.bs = (readF T).2.1) (h2 : W.ps = (readF T).2.2.1) (h3 : W.one = (readF T).2.2.2.1) (h4 : W.z = (readF T).2.2.2.2) : bytesF W = (0, T) := by
  obtain ⟨n, m, hn, hm, e0, e1, e2, hl, hr⟩ := readF_zero h
  rw [hr] at h1 h2 h3 h4
  simp only at h1 h2 h3 h4
  have wn : W.n = n := by rw [hW.h1.len, h1, boxesN_len]
  have wm : W.m = m := by rw [hW.h2.len, h2, bitsN_len]
  have hys : (T.drop 3).length = 8 * (2 * n + 8 * (m + 1)) := by rw [List.length_drop, hl]; omega
  have hT : T = [T.getD 0 0, T.getD 1 0, T.getD 2 0] ++ T.drop 3 := by
    match T, hl with
    | a :: b :: c :: r, _ => rfl
    | [], hl => simp at hl <;> omega
    | [a], hl => simp at hl <;> omega
    | [a, b], hl => simp at hl <;> omega
  have b0 := hb.get 0
  have b1 := hb.get 1
  have b2 := hb.get 2
  unfold bytesF
  rw [if_neg (by omega)]
  refine Prod.ext rfl ?_
  show W.bytes = T
  unfold Vt.bytes
  rw [W.nums_eq, h1, h2, h3, h4, wn, wm, hT]
  congr 1
  · rw [← hT]
    have : (if decide (T.getD 2 0 = 1) = true then (1 : Int) else 0) = T.getD 2 0 := by
      by_cases h : T.getD 2 0 = 1
      · rw [if_pos (by simpa using h), h]
      · rw [if_neg (by simpa using h)]; omega
    rw [this]
    congr 1
    · omega
    · congr 1; omega
  · rw [← hT]
    have hby : Bytes (T.drop 3) := hb.drop 3
    generalize T.drop 3 = ys at hys hby ⊢
    rw [← bitsN_succ, boxes_nums, bits_nums]
    have e : (List.range (2 * n)).map (num8 ys) ++ (List.range (8 * (m + 1))).map (fun i => num8 ys (2 * n + i)) = (List.range (2 * n + 8 * (m + 1))).map (num8 ys) := by
      rw [List.range_add, List.map_append, List.map_map]
      rfl
    rw [e, flat8_num8 hby _ (by omega), List.take_of_length_le (by omega)]
end Go.Proofs.YtlbldpkgnonbpaaDoor
namespace Go.Proofs.YtlbldpkgnonbpaaDoor.lawRt
open Go Sha Go.ChangeShapes Go.WideShapes Go.ChangeAt Go.RowKit Num
set_option linter.unusedSimpArgs false
set_option linter.unusedVariables false

theorem own_caps {w : World} {base n : Nat} {v : Value} {xs : List Int} {e : TypeId} {k : IntKind} (h : w.ownsRow base e 1 v n (xs.map (Value.int k))) : ∃ a c, v = .slice a n c ∧ ShI k w a n xs ∧ (a = none → c = 0) ∧ n ≤ c := by
  obtain ⟨a, c, rfl, h1, h2⟩ := ShI.of_owned2 h
  refine ⟨a, c, rfl, h1, h2, ?_⟩
  rcases h.2 with ⟨e1, e2⟩ | ⟨g, cap, cur, e1, -, -, h3, -⟩
  · rw [e2]; exact Nat.zero_le _
  · injection e1 with _ _ e3; rw [e3]; exact h3
set_option maxRecDepth 100000 in
set_option maxHeartbeats 6400000 in
theorem walk (V : Vt) (tx : Option Addr) (n cp : Nat) (T : List Int) (w : World) (hV : VtIn w V) (ht : ShI .u8 w tx n T) (hb : ByteL T) (hz : tx = none → cp = 0) (hnc : n ≤ cp) (hT : Tabs w) :
    Calls Tryd.prog 8 #[V.v, .slice tx n cp] w fun e w' => e = .returned (.bool true) ∧ Below w.heap.size w w' := by
  have HV := Lib.hid hV
  have HS := Lib.hid ht
  have HUB := Lib.hid hb
  have HT := Lib.hid hT
  clear hV ht hb hT
  unfold Vt.v
  have F_v := Lib.hid (Cl.at w [.slice V.a V.n V.c, .slice V.b V.m V.d, .bool V.one, .int .u64 V.z.r0, .int .u64 V.z.r1, .int .u64 V.z.s0, .int .u64 V.z.s1, .int .u64 V.z.c0, .int .u64 V.z.c1, .int .u64 V.z.z0, .int .u64 V.z.z1] 29 w.heap.size rfl)
  have HBW := Lib.hid (show Below w.heap.size w (w.alloc (.cells #[.slice V.a V.n V.c, .slice V.b V.m V.d, .bool V.one, .int .u64 V.z.r0, .int .u64 V.z.r1, .int .u64 V.z.s0, .int .u64 V.z.s1, .int .u64 V.z.c0, .int .u64 V.z.c1, .int .u64 V.z.z0, .int .u64 V.z.z1] 29)) from (Below.refl _ _).alloc (Nat.le_refl _) _)
  go_enter Tryd.func8, Tryd.ntmps8
  go_wp2_with fail
  refine (alive_any _ (HT.out.below HBW.out)).mono ?_
  rintro e w1 ⟨rfl, hb1⟩
  replace F_v := Lib.hid (F_v.out.keep hb1)
  replace HBW := Lib.hid (HBW.out.trans (hb1.mono HBW.out.size))
  clear hb1
  obtain ⟨⟨q0, q1, q2, q3, q4, q5, q6, q7, q8, q9, q10⟩, -⟩ := F_v.out.k11
  go_wp2_with fail
  clear q0 q1 q2 q3 q4 q5 q6 q7 q8 q9 q10
  refine (greatV_any (V := V) _).mono ?_
  rintro e w2 ⟨rfl, hb2⟩
  replace F_v := Lib.hid (F_v.out.keep hb2)
  replace HBW := Lib.hid (HBW.out.trans (hb2.mono HBW.out.size))
  clear hb2
  by_cases hg : greatV V = true
  case pos =>
    rw [hg]
    go_wp2_with fail
    go_ret
    exact ⟨rfl, HBW.out⟩
  case neg =>
  replace hg : greatV V = false := by simpa using hg
  have hVn : V.n ≤ 20 ∧ V.m ≤ 20 := by simp [greatV] at hg; omega
  rw [hg]
  by_cases hl : 2000 < n
  case pos =>
    have hd : decide ((2000 : Int) < (n : Int)) = true := decide_eq_true (by omega)
    go_wp2_with fail
    go_ret
    exact ⟨rfl, HBW.out⟩
  case neg =>
  have hd : decide ((2000 : Int) < (n : Int)) = false := decide_eq_false (by omega)
  obtain ⟨er, bs, hbf⟩ : ∃ er bs, bytesF V = (er, bs) := ⟨_, _, rfl⟩
  have HBF := Lib.hid hbf
  clear hbf
  obtain ⟨⟨q0, q1, q2, q3, q4, q5, q6, q7, q8, q9, q10⟩, -⟩ := F_v.out.k11
  go_wp2_with fail
  clear q0 q1 q2 q3 q4 q5 q6 q7 q8 q9 q10
  refine (bBytes_any _ (HV.out.keep HBW.out) HBF.out).mono ?_
  rintro e w3 ⟨v3, rfl, ho3, hb3⟩
  obtain ⟨a3, c3, rfl, s3, -, hcc⟩ := own_caps (show w3.ownsRow _ _ 1 _ bs.length (bs.map (Value.int .u8)) from ho3)
  replace F_v := Lib.hid (F_v.out.keep hb3)
  replace HBW := Lib.hid (HBW.out.trans (hb3.mono HBW.out.size))
  have HS3 := Lib.hid s3
  clear ho3 hb3 s3 hd
  go_upto_if 33 with fail
  go_cut [8, 9] from 34 to 46 (fun _ _ wx => Hid (Below w3.heap.size w3 wx))
  case first =>
    by_cases h10 : V.n ≤ 10 ∧ V.m ≤ 10
    case neg =>
      have hE : er = 4 := by have := HBF.out; unfold bytesF at this; rw [if_pos (by omega)] at this; exact (Prod.mk.inj this).1.symm
      subst hE
      go_wp2_with fail
      go_meet
      exact Lib.hid (Below.refl _ _)
    case pos =>
      have hE : er = 0 ∧ bs = V.bytes := by have := HBF.out; unfold bytesF at this; rw [if_neg (by omega)] at this; exact ⟨(Prod.mk.inj this).1.symm, (Prod.mk.inj this).2.symm⟩
      obtain ⟨rfl, hbs⟩ := hE
      have HB1 := Lib.hid (show Bytes bs by rw [hbs]; exact bytes_ok HV.out h10.1 h10.2)
      have HRD := Lib.hid (show readF bs = (0, V.bs, V.ps, V.one, V.z) by rw [hbs]; exact read_bytes HV.out h10.1 h10.2)
      have hlb : bs.length ≤ 2000 := by rw [hbs]; exact bytes_small HV.out h10.1 h10.2
      clear hbs
      go_wp2_with fail
      refine (bRead_any HS3.out HB1.out hcc hlb).mono ?_
      rintro e w4 ⟨U, rfl, hU, U1, U2, U3, U4, hb4⟩
      rw [HRD.out] at U1 U2 U3 U4 ⊢
      simp only at U1 U2 U3 U4 ⊢
      have HU := Lib.hid hU
      have HUS := Lib.hid (And.intro U1 (And.intro U2 (And.intro U3 U4)))
      replace F_v := Lib.hid ((F_v.out.keep hb4).alloc (.cells #[.slice U.a U.n U.c, .slice U.b U.m U.d, .bool U.one, .int .u64 U.z.r0, .int .u64 U.z.r1, .int .u64 U.z.s0, .int .u64 U.z.s1, .int .u64 U.z.c0, .int .u64 U.z.c1, .int .u64 U.z.z0, .int .u64 U.z.z1] 29))
      have F_x := Lib.hid (Cl.at w4 [.slice U.a U.n U.c, .slice U.b U.m U.d, .bool U.one, .int .u64 U.z.r0, .int .u64 U.z.r1, .int .u64 U.z.s0, .int .u64 U.z.s1, .int .u64 U.z.c0, .int .u64 U.z.c1, .int .u64 U.z.z0, .int .u64 U.z.z1] 29 w4.heap.size rfl)
      have HB4 := Lib.hid (show Below w3.heap.size w3 (w4.alloc (.cells #[.slice U.a U.n U.c, .slice U.b U.m U.d, .bool U.one, .int .u64 U.z.r0, .int .u64 U.z.r1, .int .u64 U.z.s0, .int .u64 U.z.s1, .int .u64 U.z.c0, .int .u64 U.z.c1, .int .u64 U.z.z0, .int .u64 U.z.z1] 29)) from hb4.alloc hb4.size _)
      have HB34 := Lib.hid hb4
      clear hU U1 U2 U3 U4 hb4
      unfold Vt.v
      obtain ⟨⟨q0, q1, q2, q3, q4, q5, q6, q7, q8, q9, q10⟩, -⟩ := F_v.out.k11
      obtain ⟨⟨r0, r1, r2, r3, r4, r5, r6, r7, r8, r9, r10⟩, -⟩ := F_x.out.k11
      go_wp2_with fail
      clear q0 q1 q2 q3 q4 q5 q6 q7 q8 q9 q10
      clear r0 r1 r2 r3 r4 r5 r6 r7 r8 r9 r10
      refine (rSame_any _ (HV.out.keep (HBW.out.trans (HB4.out.mono HBW.out.size))) (HU.out.keep ((Below.refl _ _).alloc (Nat.le_refl _) _)) HUS.out.1.symm HUS.out.2.1.symm HUS.out.2.2.1.symm HUS.out.2.2.2.symm (by omega) (by omega)).mono ?_
      rintro e w5 ⟨rfl, hb5⟩
      have HB5 := Lib.hid (HB4.out.trans (hb5.mono HB4.out.size))
      clear hb5
      go_wp2_with fail
      go_meet
      exact HB5
  case rest =>
  replace F_v := Lib.hid (F_v.out.keep hcut.out)
  replace HBW := Lib.hid (HBW.out.trans (hcut.out.mono HBW.out.size))
  clear hcut HS3
  go_wp2_with fail
  refine (bRead_any (HS.out.keep HBW.out) HUB.out hnc (by omega)).mono ?_
  rintro e w6 ⟨U, rfl, hU, U1, U2, U3, U4, hb6⟩
  have HU := Lib.hid hU
  have HUS := Lib.hid (And.intro U1 (And.intro U2 (And.intro U3 U4)))
  have HB6 := Lib.hid ((HBW.out.trans (hb6.mono HBW.out.size)).alloc (Nat.le_trans HBW.out.size hb6.size) (.cells #[.slice U.a U.n U.c, .slice U.b U.m U.d, .bool U.one, .int .u64 U.z.r0, .int .u64 U.z.r1, .int .u64 U.z.s0, .int .u64 U.z.s1, .int .u64 U.z.c0, .int .u64 U.z.c1, .int .u64 U.z.z0, .int .u64 U.z.z1] 29))
  have F_x := Lib.hid (Cl.at w6 [.slice U.a U.n U.c, .slice U.b U.m U.d, .bool U.one, .int .u64 U.z.r0, .int .u64 U.z.r1, .int .u64 U.z.s0, .int .u64 U.z.s1, .int .u64 U.z.c0, .int .u64 U.z.c1, .int .u64 U.z.z0, .int .u64 U.z.z1] 29 w6.heap.size rfl)
  clear hU U1 U2 U3 U4 hb6 HBW F_v
  obtain ⟨er6, he6⟩ : ∃ er6, (readF T).1 = er6 := ⟨_, rfl⟩
  have HE6 := Lib.hid he6
  rw [he6]
  clear he6
  unfold Vt.v
  by_cases hz6 : er6 = 0
  case neg =>
    have HZ := Lib.hid hz6
    go_wp2_with fail
    go_ret
    exact ⟨rfl, HB6.out⟩
  case pos =>
  subst hz6
  have HBF6 := Lib.hid (bytes_read HUB.out HE6.out HU.out HUS.out.1 HUS.out.2.1 HUS.out.2.2.1 HUS.out.2.2.2)
  obtain ⟨⟨r0, r1, r2, r3, r4, r5, r6, r7, r8, r9, r10⟩, -⟩ := F_x.out.k11
  go_wp2_with fail
  clear r0 r1 r2 r3 r4 r5 r6 r7 r8 r9 r10
  refine (bBytes_any _ (HU.out.keep ((Below.refl _ _).alloc (Nat.le_refl _) _)) HBF6.out).mono ?_
  rintro e w7 ⟨v7, rfl, ho7, hb7⟩
  obtain ⟨a7, c7, rfl, s7⟩ := ShI.of_owned (show w7.ownsRow _ _ 1 _ T.length (T.map (Value.int .u8)) from ho7)
  have HBW := Lib.hid (HB6.out.trans (hb7.mono HB6.out.size))
  have hcv1 := conv_text (c := c7) s7
  have hcv2 := conv_text (c := cp) (HS.out.keep HBW.out)
  clear ho7 hb7 s7
  go_wp2_with fail
  go_ret
  exact ⟨rfl, HBW.out⟩


set_option maxRecDepth 100000 in
theorem lifted (os : Os) (started : os.Started) (H : Type) (enc : TypeId × Value → H) :
    ReturnsInHanded {} Tryd.checked os 8 .any (fun w args => (Rows.boothRoundTripSpec.pre enc Tryd.prog Tryd.f8 [] false w args ∧ laidMetH Tryd.prog laidL w) ∧ sizedMet enc Tryd.prog Tryd.f8 (OpenSpec.ofChange Rows.boothRoundTripSpec) false w args) (Rows.boothRoundTripSpec.post enc Tryd.prog Tryd.f8 false true false false) := by
  refine returnsInHanded_of_change_and (C := Tryd.checked) (X := fun w _ => laidMetH Tryd.prog laidL w) (fun _ _ _ hh h => h.of_heap hh) own started (by kernel_rfl) Tryd.func8
    (ChangeSpec.witness_shaped (enc := enc) (C := Tryd.checked) (os := os) (X := fun w _ => laidMetH Tryd.prog laidL w) false (World.doorLaid Tryd.prog 19 os) #[.agg #[.slice none 0 0, .slice none 0 0, .bool false, .int .u64 0, .int .u64 0, .int .u64 0, .int .u64 0, .int .u64 0, .int .u64 0, .int .u64 0, .int .u64 0], .slice none 0 0] 8 rfl (World.shaped_of_RefB (by kernel_rfl) (by kernel_rfl)) (by kernel_rfl) (by kernel_rfl) (by kernel_rfl) (door_met os _)) ?_
  intro W base args ds gs before hval0 hW _ _ hL _
  have hT := tabs_of_laid hL
  clear hL
  have hval : ∀ (j : Nat) t v, Tryd.f8.params[j]? = some t → args[j]? = some v → Value.okWide Tryd.prog W .any base t v := hval0
  have hW' := hW
  obtain ⟨p, q, hA0, hV, rfl, hfz, hnd⟩ := hW
  have hA : DataW.TrodAll enc Tryd.prog W 0 (fun _ => true) true Tryd.f8.params.toList args.toList ds p := hA0
  rw [Tryd.params8] at hA hval
  have hK := hA
  obtain ⟨v0, vs0, d0, ds0, p0, q0, hargs, rfl, rfl, h0, r0⟩ := trodAll_cons hA
  obtain ⟨v1, vs1, d1, ds1, p1, q1, rfl, rfl, rfl, h1, r1⟩ := trodAll_cons r0
  obtain ⟨rfl, rfl, rfl⟩ := trodAll_nil r1
  obtain rfl : args = #[v0, v1] := by cases args; simp_all
  obtain ⟨rfl, rfl⟩ := trodVars_none hV
  obtain ⟨V, rfl, hV⟩ := open_vote (hval 0 29 v0 rfl rfl) h0
  obtain ⟨tx, n, cp, T, rfl, ht, hb, hz, hnc⟩ := open_bytes (hval 1 30 v1 rfl rfl) h1
  clear hA0 hval0
  refine (walk V tx n cp T W hV ht hb hz hnc hT).mono fun e W' ⟨he, bel⟩ => ?_
  subst he
  exact ⟨_, rfl, _, _, _, [], _, [], hW', trodAll_mk1 (shut_bool Tryd.underlying4 _), trodAll_stays laidOut (by kernel_rfl) hK bel, rfl, bel.frame _, fun h => by cases h⟩

theorem over : Rows.boothRoundTripRow.holds Tryd.pinned (OpenSpec.ofChange Rows.boothRoundTripSpec) :=
  OpenClaim.holds_of_wide 8 Tryd.f8 rfl rfl rfl rfl rfl rfl rfl ⟨rfl, rfl, rfl, rfl, rfl⟩ rfl rfl rfl rfl rfl (by kernel_rfl) Tryd.func8 (by kernel_rfl)
    (of_decide_eq_true (by kernel_rfl)) (by unfold Func.isWrapper; first | (rw [if_pos (by decide +kernel)]; kernel_rfl) | (rw [if_neg (by decide +kernel)]; exact ⟨rfl, rfl⟩))
    (fun os started H enc _ => lifted os started H enc)

theorem proved : Rows.BoothRoundTripCardSaid :=
  Claim7.holds_tied_plain_at .later [] [.data, .data] true (true, "5c00805133dfe0492bef048290696ebc112b228b3b9245def032e3bbb51dd56e") false
    over (fun _ h => by cases h) (by kernel_rfl) (fun _ h => by cases h) boothRoundTrip_row_tie rfl ⟨rfl, rfl⟩ (by kernel_rfl) rfl
    (fun f fn hf hfn => by
      obtain rfl : f = 8 := Option.some.inj ((show Tryd.prog.funcNamed "suffrage/suffragelaw36.BoothRoundTrip" = some 8 by kernel_rfl).symm.trans hf) |>.symm
      obtain rfl : fn = Tryd.f8 := (Option.some.inj (Tryd.func8.symm.trans hfn)).symm
      exact ⟨by kernel_rfl, fun j t ht => by
        rw [Tryd.params8] at ht
        have hm : t ∈ ([29, 30] : List TypeId) := by simpa using Array.mem_of_getElem? ht
        have hall : (([29, 30] : List TypeId).all fun u => !Tryd.prog.wantsStandIn u) = true := by kernel_rfl
        exact (show Tryd.prog.wantsStandIn t = false by simpa using List.all_eq_true.1 hall t hm)⟩)
    (by kernel_rfl)
#print axioms proved
end Go.Proofs.YtlbldpkgnonbpaaDoor.lawRt
