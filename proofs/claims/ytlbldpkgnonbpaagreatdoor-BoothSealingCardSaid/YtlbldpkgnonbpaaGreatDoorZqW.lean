/- The reference's numbers in bytes: Digits, Number, Try, Drawn, Number. -/
import Derived.Test.YtlbldpkgnonbpaaGreatDoorZqM
set_option linter.unusedSimpArgs false
set_option linter.unusedVariables false
set_option maxRecDepth 100000
namespace Go.Proofs.YtlbldpkgnonbpaaGreatDoor
open Go Go.RowKit Num Sha
theorem be4_cons (x : Int) {k : Nat} (hk : k < 4) : (be4 x).drop (4 - (k + 1)) = (x / 256 ^ k % 256) :: (be4 x).drop (4 - k) := by
 have : k = 0 ∨ k = 1 ∨ k = 2 ∨ k = 3 := by omega
 rcases this with rfl | rfl | rfl | rfl <;> simp [be4, List.range_succ]
theorem div_step (x : Int) {k : Nat} (hk : k < 4) : x / 256 ^ k / 256 = x / 256 ^ (k + 1) := by
 have p0 : (256 : Int) ^ 0 = 1 := by decide
 have p1 : (256 : Int) ^ 1 = 256 := by decide
 have p2 : (256 : Int) ^ 2 = 65536 := by decide
 have p3 : (256 : Int) ^ 3 = 16777216 := by decide
 have p4 : (256 : Int) ^ 4 = 4294967296 := by decide
 have : k = 0 ∨ k = 1 ∨ k = 2 ∨ k = 3 := by omega
 rcases this with rfl | rfl | rfl | rfl
 · rw [p0, p1]; omega
 · rw [p1, p2]; omega
 · rw [p2, p3]; omega
 · rw [p3, p4]; omega
set_option maxHeartbeats 8000000 in
theorem rDigits_any {x : Int} (w : World) (h0 : 0 ≤ x) (h1 : x < 4294967296) :
    Calls Tryz.prog 147 #[.int .u64 x, .int .i64 4] w fun e w' => ∃ v, e = .returned v ∧ Grew w w' w.heap.size v (be4 x) := by
  have HG := Lh (show Grew w w w.heap.size (.slice none 0 0) ((be4 x).drop (4 - 0)) from ⟨World.ownsRow_nil _ _ _ _, Below.refl _ _, Nat.le_refl _⟩)
  have HX := Lh (And.intro h0 h1)
  clear h0 h1
  go_enter Tryz.func147, Tryz.ntmps147
  go_wp2_with fail
  go_loopw [0, 5, 6] (fun c0 c5 c6 wr => ∃ (k : Nat) (y : Int), k ≤ 4 ∧ c6 = .int .i64 k ∧ c0 = .int .u64 y ∧ Hid (y = x / 256 ^ k ∧ 0 ≤ y ∧ y < 4294967296) ∧ Hid (Grew w wr w.heap.size c5 ((be4 x).drop (4 - k)))) (fun _ _ c6 _ => 4 - (intOf c6).toNat)
  case atStart => exact ⟨0, x, by omega, rfl, rfl, ⟨by simp, HX.o⟩, HG.o⟩
  case round =>
   clear HG
   obtain ⟨k, y, hk, rfl, rfl, HY, HG⟩ := hrel
   by_cases hlt : k < 4
   case neg =>
    obtain rfl : k = 4 := by omega
    have HZ := Lh (show Grew w wr w.heap.size _ (be4 x) from HG.o)
    clear HG hlt
    simp only [Int.cast_ofNat_Int]
    go_wp2_with fail
    go_ret
    exact ⟨_, rfl, HZ.o⟩
   case pos =>
    have hd : decide ((k : Int) < 4) = true := by simp; omega
    have w3 : IntKind.i64.wrap ((k : Int) + 1) = (k : Int) + 1 := IntWalk.i64_in _ (by omega)
    have HN := Lh (show (be4 x).drop (4 - (k + 1)) = (y % 256) :: (be4 x).drop (4 - k) by rw [be4_cons x hlt, ← HY.o.1])
    have HD := Lh (show y / 256 = x / 256 ^ (k + 1) by rw [← div_step x hlt, ← HY.o.1])
    have y0 := HY.o.2.1
    have yu := HY.o.2.2
    have w5 : IntKind.u64.wrap (y.tdiv 256) = y / 256 := by rw [Int.tdiv_eq_ediv_of_nonneg y0]; exact IntWalk.u64_in _ (by omega)
    have y1 : 0 ≤ y % 256 ∧ y % 256 < 256 := by omega
    have w4 : IntKind.u8.wrap (y % 256) = y % 256 := IntWalk.u8_in _ (by omega)
    obtain ⟨ys, hys⟩ : ∃ ys, (be4 x).drop (4 - k) = ys := ⟨_, rfl⟩
    have hly : ys.length = k := by rw [← hys, List.length_drop, be4_len]; omega
    rw [hys] at HG HN
    obtain ⟨a5, c5, rfl, hs5⟩ := ShI.of_owned (show wr.ownsRow w.heap.size 5 1 _ k (ys.map (Value.int .u8)) by have h := HG.o.own; unfold OwnB at h; rw [hly] at h; exact h)
    have HS5 := Lh (hs5.keep ((Below.refl _ _).alloc (Nat.le_refl _) (.cells #[.int .u8 (y % 256)] 5)))
    have HGA := Lh (show Grew w (wr.alloc (.cells #[.int .u8 (y % 256)] 5)) w.heap.size (.slice (some ⟨wr.heap.size, 0, none⟩) 1 1) [y % 256] from
      ⟨World.ownsRow_lit wr #[.int .u8 (y % 256)] 1 HG.o.bel.size (by decide) rfl, HG.o.bel.alloc HG.o.bel.size _, by simp; have := HG.o.bel.size; omega⟩)
    have HL := Lh hly
    clear hs5 hys hly HG
    go_wp2_with (at_builtin; refine wpL_append_sh rfl _ _ rfl w.heap.size _ [y % 256] ys a5 k c5 rfl rfl HGA.o.own HS5.o (by omega) (by simp) HGA.o.le ?_; intro v1 w1 hown hgr; have HG1 := Lh (HGA.o.app hown hgr); clear hown hgr; simp only [sY])
    go_roundw
    case rel => exact ⟨k + 1, y / 256, by omega, by go_num, rfl, ⟨HD.o, by omega⟩, by rw [HN.o]; exact HG1.o⟩
    case measure => simp [intOf] <;> omega
theorem ShI.front {q : IntKind} {w : World} {a : Option Addr} {n m : Nat} {xs : List Int} (h : ShI q w a n xs) (hm : m ≤ n) : ShI q w a m (xs.take m) := by
 have hl := h.len
 rcases h with ⟨h1, h2⟩ | ⟨s, o, h0, h1, h2, h3⟩
 · exact .inl ⟨by omega, by rw [h2]; simp⟩
 · refine .inr ⟨s, o, h0, by rw [List.length_take]; omega, h2, fun i hi => ?_⟩
   rw [List.length_take] at hi
   rw [h3 i (by omega)]
   congr 2
   rw [List.getD_eq_getElem?_getD, List.getD_eq_getElem?_getD, List.getElem?_take_of_lt (by omega)]
set_option maxHeartbeats 8000000 in
theorem rNumber_any {a : Option Addr} {c : Nat} {xs : List Int} (w : World) (hS : ShI .u8 w a 8 (xs.take 8)) (hu : Bytes xs) (hl : 8 ≤ xs.length) :
    Calls Tryz.prog 148 #[.slice a 8 c] w fun e w' => e = .returned (.int .u64 (beN (xs.take 8))) ∧ w' = w := by
  have HB := Lh hu
  have HL := Lh hl
  obtain ⟨s, o, rfl, hs, HC⟩ : ∃ s o, a = some ⟨s, o, none⟩ ∧ s < w.heap.size ∧ Hid (∀ i, i < 8 → w.cell? ⟨s, o + i, none⟩ = some (.int .u8 (xs.getD i 0))) := by
   rcases hS with ⟨h1, _⟩ | ⟨s, o, h0, h1, h2, h3⟩
   · omega
   · refine ⟨s, o, h0, h2, fun i hi => ?_⟩
     rw [h3 i (by rw [List.length_take]; omega)]
     congr 2
     rw [List.getD_eq_getElem?_getD, List.getD_eq_getElem?_getD, List.getElem?_take_of_lt hi]
  clear hS hu hl
  go_enter Tryz.func148, Tryz.ntmps148
  go_wp2_with fail
  go_loop [3, 4] (fun c3 c4 => ∃ k : Nat, k ≤ 8 ∧ c4 = .int .i64 k ∧ c3 = .int .u64 (beN (xs.take k))) (fun _ i => 8 - (intOf i).toNat)
  case atStart => exact ⟨0, by omega, rfl, rfl⟩
  case round =>
   obtain ⟨k, hk, rfl, rfl⟩ := hrel
   by_cases hlt : k < 8
   · have hck := HC.o k hlt
     have HN := Lh (beN_snoc xs k (by have := HL.o; omega))
     obtain ⟨n0, n1⟩ := beN_bound HB.o k (by have := HL.o; omega)
     have n2 := pow256_le k hlt
     obtain ⟨c0, c1⟩ := HB.o.get k
     generalize xs.getD k 0 = b at hck HN c0 c1
     generalize beN (xs.take k) = m at HN n0 n1
     have n3 : m < 72057594037927936 := by omega
     clear n1 n2
     have hm : IntKind.u64.wrap (m * 256) = m * 256 := IntWalk.u64_in _ (by omega)
     have hbw : IntKind.u64.wrap b = b := IntWalk.u64_in _ (by omega)
     have hs2 : IntKind.u64.wrap (m * 256 + b) = m * 256 + b := IntWalk.u64_in _ (by omega)
     have w3 : IntKind.i64.wrap ((k : Int) + 1) = (k : Int) + 1 := IntWalk.i64_in _ (by omega)
     have i2 : (k : Int) < 8 := by omega
     have i3 : (0 : Int) ≤ (k : Int) := by omega
     have hd : decide ((k : Int) < 8) = true := by simp; omega
     go_wp2_with fail
     go_round
     case rel => exact ⟨k + 1, by omega, by go_num, by rw [HN.o]⟩
     case measure => simp [intOf]; omega
   · obtain rfl : k = 8 := by omega
     simp only [Int.cast_ofNat_Int]
     go_wp2_with fail
     go_ret
     exact ⟨rfl, rfl⟩
set_option maxHeartbeats 8000000 in
theorem rTry_any {seed : List Int} {i : Int} {k : Nat} (w : World) (hT : Tabs w) (hi0 : 0 ≤ i) (hi1 : i < 4294967296) (hk : k < 16) (hsl : seed.length = 32) (hby : ByteL seed) :
    Calls Tryz.prog 126 #[.agg (valV .u8 seed), .int .u32 i, .int .i64 (k : Int)] w fun e w' => e = .returned (.int .u64 (tryS seed i k)) ∧ Below w.heap.size w w' := by
  have HT := Lh hT
  clear hT
  have HSL := Lh hsl
  have HB := Lh (show ByteL (seed ++ be4 i ++ be4 (k : Int)) from fun x hx => by
   rcases List.mem_append.1 hx with hx | hx
   · rcases List.mem_append.1 hx with hx | hx
     · exact hby x hx
     · exact be4_bytes _ x hx
   · exact be4_bytes _ x hx)
  have HTS := Lh (show tryS seed i k = beN ((shaS (seed ++ be4 i ++ be4 (k : Int))).take 8) from rfl)
  have HBB := Lh (show Bytes (shaS (seed ++ be4 i ++ be4 (k : Int))) from shaS_bytes _)
  have HLS := Lh (show (shaS (seed ++ be4 i ++ be4 (k : Int))).length = 32 from shaS_len _)
  have hwi : IntKind.u64.wrap i = i := IntWalk.u64_in _ (by omega)
  have hwk : IntKind.u64.wrap (k : Int) = (k : Int) := IntWalk.u64_in _ (by omega)
  clear hsl hby
  go_enter Tryz.func126, Tryz.ntmps126
  go_wp2_with (first
    | (refine wpL_boxArr rfl 26 .u8 _ seed rfl rfl ?_; intro w1 h1; have F_s := Lh (show ShI .u8 w1 (some ⟨w.heap.size, 0, none⟩) 32 seed from .inr ⟨_, _, rfl, HSL.o.symm, h1.arr.lt, fun j hj => by rw [Nat.zero_add]; exact h1.arr.c j hj⟩); have HG0 := Lh (show Grew w w1 w.heap.size (.slice none 0 0) [] from ⟨World.ownsRow_nil _ _ _ _, h1.below _ (Nat.le_refl _), (h1.below _ (Nat.le_refl _)).size⟩); clear h1; simp only [sY])
    | (at_builtin; refine wpL_append_sh rfl _ _ rfl w.heap.size _ [] seed _ 32 32 rfl rfl HG0.o.own F_s.o (by decide) (by simp) HG0.o.le ?_; intro v2 w2 hown hgr; have HG1 := Lh (show Grew w w2 w.heap.size v2 ([] ++ seed) from HG0.o.app hown hgr); rw [List.nil_append] at HG1; clear hown hgr F_s HG0; simp only [sY]))
  refine (rDigits_any _ hi0 hi1).mono ?_
  rintro e w3 ⟨v3, rfl, hg3⟩
  have hgk := (HG1.o.keep (by first | exact Below.refl _ _ | exact (Below.refl _ _).drew)).keep hg3.bel
  have HD1 := Lh hg3.own
  have HG2 := Lh hgk
  clear hg3 hgk HG1
  obtain ⟨a3, c3, rfl, hs3⟩ := HD1.o.shi
  rw [be4_len] at hs3 HD1 ⊢
  have HS3 := Lh hs3
  clear hs3 HD1
  go_wp2_with (at_builtin; refine wpL_append_sh rfl _ _ rfl w.heap.size _ seed (be4 i) a3 4 c3 rfl rfl HG2.o.own HS3.o (by decide) (by have := HSL.o; omega) HG2.o.le ?_; intro v4 w4 hown hgr; have HG3 := Lh (HG2.o.app hown hgr); clear hown hgr HS3 HG2; simp only [sY])
  refine (rDigits_any (x := (k : Int)) _ (by omega) (by omega)).mono ?_
  rintro e w5 ⟨v5, rfl, hg5⟩
  have hgk := (HG3.o.keep (by first | exact Below.refl _ _ | exact (Below.refl _ _).drew)).keep hg5.bel
  have HD2 := Lh hg5.own
  have HG4 := Lh hgk
  clear hg5 hgk HG3
  obtain ⟨a5, c5, rfl, hs5⟩ := HD2.o.shi
  rw [be4_len] at hs5 HD2 ⊢
  have HS5 := Lh hs5
  clear hs5 HD2
  go_wp2_with (at_builtin; refine wpL_append_sh rfl _ _ rfl w.heap.size _ (seed ++ be4 i) (be4 (k : Int)) a5 4 c5 rfl rfl HG4.o.own HS5.o (by decide) (by rw [List.length_append, be4_len]; have := HSL.o; omega) HG4.o.le ?_; intro v6 w6 hown hgr; have HG5 := Lh (HG4.o.app hown hgr); clear hown hgr HS5 HG4; simp only [sY])
  have HT5 := Lh (HT.o.below HG5.o.bel)
  obtain ⟨X, hX⟩ : ∃ X, seed ++ be4 i ++ be4 (k : Int) = X := ⟨_, rfl⟩
  have hlx : X.length = 40 := by rw [← hX, List.length_append, List.length_append, be4_len, be4_len, HSL.o]
  rw [hX] at HG5 HTS HBB HLS HB
  obtain ⟨g6, c6, rfl, hs6⟩ := HG5.o.own.shs (by omega)
  rw [hlx] at hs6 ⊢
  have HS6 := Lh hs6
  have HBW := Lh HG5.o.bel
  clear hs6 hlx HG5 hX
  go_wp2_with fail
  refine (rOf5_any _ HS6.o (by decide) HB.o).mono ?_
  rintro e w7 ⟨rfl, hb7⟩
  replace HBW := Lh (HBW.o.trans (hb7.mono HBW.o.size))
  clear hb7
  go_wp2_with (first
    | (refine wpL_allocArr rfl 26 .u8 32 rfl (by kernel_rfl) ?_; intro wa h1; have F_a := Lh h1.arr; have HBA := Lh (HBW.o.trans (h1.below _ HBW.o.size)); clear h1; simp only [sY])
    | (refine wpL_storeArr rfl 26 .u8 _ _ w7.heap.size (shaS X) _ rfl rfl rfl rfl (by kernel_rfl) F_a.o rfl ?_; intro wb h9; have F_b := Lh (show ShI .u8 wb (some ⟨w7.heap.size, 0, none⟩) 32 (shaS X) from .inr ⟨_, _, rfl, rfl, by rw [h9.size]; exact F_a.o.lt, fun j hj => h9.row j hj⟩); have HB9 := Lh (HBA.o.trans (h9.below _ HBW.o.size)); clear h9))
  refine (rNumber_any _ (F_b.o.front (by decide)) HBB.o (by rw [HLS.o]; decide)).mono ?_
  rintro e w8 ⟨rfl, rfl⟩
  rw [← HTS.o]
  go_wp2_with fail
  go_ret
  exact ⟨rfl, HB9.o⟩
def drawB (o : Option Int) : Value := match o with
  | some x => .tuple #[.int .u64 x, .bool true]
  | none => .tuple #[.int .u64 0, .bool false]
theorem rest_eq (q : Int) (hq : 0 < q) : (18446744073709551615 % q + 1) % q = restS q := by
 unfold restS
 rw [Int.emod_add_emod]; rfl
set_option maxHeartbeats 8000000 in
theorem rDrawn_any {seed : List Int} {i q : Int} (w : World) (hT : Tabs w) (hi0 : 0 ≤ i) (hi1 : i < 4294967296) (hsl : seed.length = 32) (hby : ByteL seed) (hq0 : 0 < q) (hq1 : q ≤ 4294967296) :
    Calls Tryz.prog 105 #[.agg (valV .u8 seed), .int .u32 i, .int .u64 q] w fun e w' => e = .returned (drawB (drawS seed i q)) ∧ Below w.heap.size w w' := by
  have HT := Lh hT
  have HSL := Lh hsl
  have HBY := Lh hby
  have hqn : ¬ (q = 0) := by omega
  have m0 := Int.emod_nonneg 18446744073709551615 hqn
  have m1 := Int.emod_lt_of_pos 18446744073709551615 hq0
  have wa : IntKind.u64.wrap (18446744073709551615 % q + 1) = 18446744073709551615 % q + 1 := IntWalk.u64_in _ (by omega)
  have hrr := rest_eq q hq0
  have r0 : 0 ≤ restS q := by rw [← hrr]; exact Int.emod_nonneg _ hqn
  have r1 : restS q < q := by rw [← hrr]; exact Int.emod_lt_of_pos _ hq0
  have HR := Lh (And.intro r0 r1)
  have wt0 : Int.tmod 18446744073709551615 q = 18446744073709551615 % q := Int.tmod_eq_emod_of_nonneg (by omega)
  have wt1 : Int.tmod (18446744073709551615 % q + 1) q = restS q := by rw [Int.tmod_eq_emod_of_nonneg (by omega), hrr]
  have ws : IntKind.u64.wrap (18446744073709551615 - restS q) = 18446744073709551615 - restS q := IntWalk.u64_in _ (by omega)
  clear hT hsl hby
  go_enter Tryz.func105, Tryz.ntmps105
  go_wp2_with (refine wpL_boxArr rfl 26 .u8 _ seed rfl rfl ?_; intro w1 h1; have F_s := Lh h1.arr; have HBW := Lh (h1.below _ (Nat.le_refl _)); clear h1; simp only [sY])
  clear wa wt0 wt1 m0 m1 hrr
  go_loopw [9] (fun c9 wr => ∃ k : Nat, k ≤ 16 ∧ c9 = .int .i64 k ∧ Hid (∀ y, y < k → skipS seed i q y = true) ∧ Hid (Arr .u8 wr w.heap.size seed) ∧ Hid (Below w.heap.size w wr)) (fun c9 _ => 16 - (intOf c9).toNat)
  case atStart => exact ⟨0, by omega, rfl, fun y hy => by omega, F_s.o, HBW.o⟩
  case round =>
   clear F_s HBW
   obtain ⟨k, hk, rfl, HK, F_s, HBW⟩ := hrel
   by_cases hlt : k < 16
   case neg =>
    obtain rfl : k = 16 := by omega
    have HZ := Lh (show drawS seed i q = none from drawS_none fun y hy => HK.o y (by simpa using hy))
    simp only [Int.cast_ofNat_Int]
    go_wp2_with fail
    go_ret2
    exact ⟨by rw [HZ.o]; rfl, HBW.o⟩
   case pos =>
    have hd : decide ((k : Int) < 16) = true := by simp; omega
    have w3 : IntKind.i64.wrap ((k : Int) + 1) = (k : Int) + 1 := IntWalk.i64_in _ (by omega)
    go_wp2_with (refine wpL_loadArr rfl 26 .u8 (.tmp 3) w.heap.size seed 32 5 rfl rfl Tryz.underlying26 (by rw [HSL.o]; kernel_rfl) F_s.o ?_; simp only [sY])
    refine (rTry_any _ (HT.o.below HBW.o) hi0 hi1 hlt HSL.o HBY.o).mono ?_
    rintro e w5 ⟨rfl, hb5⟩
    replace F_s := Lh (F_s.o.keep hb5)
    replace HBW := Lh (HBW.o.trans (hb5.mono HBW.o.size))
    clear hb5
    have HU := Lh (show U64 (tryS seed i k) by
     obtain ⟨n0, n1⟩ := beN_bound (show Bytes (shaS (tryB seed i k)) from shaS_bytes _) 8 (by rw [shaS_len]; decide)
     have p8 : (256 : Int) ^ 8 = 18446744073709551616 := by decide
     rw [p8] at n1
     exact ⟨n0, by show beN (List.take 8 (shaS (tryB seed i k))) ≤ _; omega⟩)
    have HSK := Lh (show skipS seed i q k = (decide (0 < restS q) && decide (18446744073709551616 - restS q ≤ tryS seed i k)) from rfl)
    have HHIT := Lh (show skipS seed i q k = false → drawS seed i q = some (tryS seed i k % q) from fun h => drawS_hit (k := k + 1) (x := k) (pre := List.range k) (by omega) (by rw [List.range_succ]) (fun y hy => HK.o y (by simpa using hy)) h)
    have HX2 := Lh (show Int.tmod (tryS seed i k) q = tryS seed i k % q from Int.tmod_eq_emod_of_nonneg HU.o.1)
    generalize tryS seed i k = x at HU HSK HHIT HX2 ⊢
    by_cases hx : x ≤ 18446744073709551615 - restS q
    case pos =>
     have hd2 : decide (x ≤ 18446744073709551615 - restS q) = true := decide_eq_true hx
     have HZ := Lh (HHIT.o (by rw [HSK.o]; rw [decide_eq_false (show ¬ (18446744073709551616 - restS q ≤ x) by omega), Bool.and_false]))
     have hx2 := HX2.o
     go_wp2_with fail
     go_ret2
     exact ⟨by rw [HZ.o]; rfl, HBW.o⟩
    case neg =>
     have hd2 : decide (x ≤ 18446744073709551615 - restS q) = false := decide_eq_false hx
     have HN := Lh (show ∀ y, y < k + 1 → skipS seed i q y = true from fun y hy => by
      by_cases e : y < k
      · exact HK.o y e
      · obtain rfl : y = k := by omega
        rw [HSK.o, decide_eq_true (show 0 < restS q by have := HU.o.2; have := HR.o; omega), decide_eq_true (show 18446744073709551616 - restS q ≤ x by omega)]; rfl)
     go_wp2_with fail
     go_roundw
     case rel => exact ⟨k + 1, by omega, by go_num, HN.o, F_s.o, HBW.o⟩
     case measure => simp [intOf] <;> omega
set_option maxHeartbeats 8000000 in
theorem rNumb_any {seed : List Int} {i q : Int} (w : World) (hT : Tabs w) (hi0 : 0 ≤ i) (hi1 : i < 4294967296) (hsl : seed.length = 32) (hby : ByteL seed) (hq0 : 0 < q) (hq1 : q ≤ 4294967296) :
    Calls Tryz.prog 76 #[.agg (valV .u8 seed), .int .u32 i, .int .u64 q] w fun e w' => e = .returned (drawV (drawS seed i q)) ∧ Below w.heap.size w w' := by
  have HT := Lh hT
  have HSL := Lh hsl
  have HBY := Lh hby
  have d3 : decide (q < 1) = false := decide_eq_false (by omega)
  have d4 : decide ((4294967296 : Int) < q) = false := decide_eq_false (by omega)
  clear hT hsl hby
  go_enter Tryz.func76, Tryz.ntmps76
  go_wp2_with (first
    | (refine wpL_boxArr rfl 26 .u8 _ seed rfl rfl ?_; intro w1 h1; have F_s := Lh h1.arr; have HBW := Lh (h1.below _ (Nat.le_refl _)); clear h1; simp only [sY])
    | (refine wpL_loadArr rfl 26 .u8 (.tmp 3) w.heap.size seed 32 5 rfl rfl Tryz.underlying26 (by rw [HSL.o]; kernel_rfl) F_s.o ?_; simp only [sY]))
  refine (rDrawn_any _ (HT.o.below HBW.o) hi0 hi1 HSL.o HBY.o hq0 hq1).mono ?_
  rintro e w5 ⟨rfl, hb5⟩
  replace HBW := Lh (HBW.o.trans (hb5.mono HBW.o.size))
  clear hb5 F_s
  cases ho : drawS seed i q with
  | none =>
   unfold drawB
   go_wp2_with fail
   go_ret2
   exact ⟨by rw [ho]; rfl, HBW.o⟩
  | some x =>
   unfold drawB
   go_wp2_with fail
   go_ret2
   exact ⟨by rw [ho]; rfl, HBW.o⟩
open Go Go.RowKit Num Sha
theorem askS_chkB (P Q G y n : Int) : (if askS P Q G [] [y] = 0 then (if n < 1 ∨ 10 < n then 2 else 0) else askS P Q G [] [y]) = chkB P Q G y n := by
 unfold askS chkB
 by_cases hH : Has P Q G
 · by_cases hy : y < P
   · have h1 : okAll P [y] = true := by simp [okAll, hy]
     simp [hH, h1, okAll, hy, show ¬ P ≤ y by omega]
   · have h1 : okAll P [y] = false := by simp [okAll]; omega
     simp [hH, h1, show P ≤ y by omega]
 · simp [hH]
set_option maxHeartbeats 8000000 in
theorem rAsked36_any {P Q G y n : Int} (w : World) (hP : 0 ≤ P) (hQ : 0 ≤ Q) (hG : 0 ≤ G) (hy : 0 ≤ y) :
    Calls Tryz.prog 32 #[.agg #[.int .u64 P, .int .u64 Q, .int .u64 G], .int .u64 y, .int .i64 n] w fun e w' => e = .returned (.int .i64 (chkB P Q G y n)) ∧ Below w.heap.size w w' := by
  have HC := Lh (askS_chkB P Q G y n)
  have F_g := Lh (Cl.at w [.int .u64 P, .int .u64 Q, .int .u64 G] 24 w.heap.size rfl)
  have HBW := Lh (show Below w.heap.size w (w.alloc (.cells #[.int .u64 P, .int .u64 Q, .int .u64 G] 24)) from (Below.refl _ _).alloc (Nat.le_refl _) _)
  have c0 := F_g.o.c 0 _ rfl
  have c1 := F_g.o.c 1 _ rfl
  have c2 := F_g.o.c 2 _ rfl
  go_enter Tryz.func32, Tryz.ntmps32
  go_wp2_with fail
  clear c0 c1 c2
  obtain ⟨r, hr⟩ : ∃ r, askS P Q G [] [y] = r := ⟨_, rfl⟩
  refine (rAsked_any _ hP hQ hG (ShL.nil _) (by have h := ShL.new (w.alloc (.cells #[.int .u64 P, .int .u64 Q, .int .u64 G] 24)) [y] #[.int .u64 y] 22 1 1 rfl rfl; simpa using h) (by decide) (by decide) hr).mono ?_
  rintro e w1 ⟨rfl, hb1⟩
  replace HBW := Lh ((HBW.o.alloc HBW.o.size _).trans (hb1.mono (Nat.le_trans HBW.o.size (by simp))))
  rw [hr] at HC
  clear hb1 hr
  by_cases h0 : r = 0
  case neg =>
   have d0 : decide (r = 0) = false := decide_eq_false h0
   have HZ := Lh (show r = chkB P Q G y n by rw [← HC.o, if_neg h0])
   go_wp2_with fail
   go_ret
   exact ⟨by rw [← HZ.o]; rfl, HBW.o⟩
  case pos =>
   subst h0
   by_cases h1 : n < 1
   case pos =>
    have d1 : decide (n < 1) = true := decide_eq_true h1
    have HZ := Lh (show 2 = chkB P Q G y n by rw [← HC.o, if_pos rfl, if_pos (.inl h1)])
    go_wp2_with fail
    go_ret
    exact ⟨by rw [← HZ.o]; rfl, HBW.o⟩
   case neg =>
    have d1 : decide (n < 1) = false := decide_eq_false h1
    by_cases h2 : 10 < n
    case pos =>
     have d2 : decide (10 < n) = true := decide_eq_true h2
     have HZ := Lh (show 2 = chkB P Q G y n by rw [← HC.o, if_pos rfl, if_pos (.inr h2)])
     go_wp2_with fail
     go_ret
     exact ⟨by rw [← HZ.o]; rfl, HBW.o⟩
    case neg =>
     have d2 : decide (10 < n) = false := decide_eq_false h2
     have HZ := Lh (show 0 = chkB P Q G y n by rw [← HC.o, if_pos rfl, if_neg (by omega)])
     go_wp2_with fail
     go_ret
     exact ⟨by rw [← HZ.o]; rfl, HBW.o⟩
theorem msgS_not {l : List Int} {i : Int} {k : Nat} (hk : l.length ≤ k) (h : ∀ j, j < k → l.getD j 0 ≠ i) : msgS l i = 0 := by
 unfold msgS
 rw [if_neg]
 intro hm
 obtain ⟨j, hj, e⟩ := List.getElem_of_mem hm
 exact h j (by omega) (by rw [List.getD_eq_getElem?_getD, List.getElem?_eq_getElem hj]; exact e)
theorem msgS_hit {l : List Int} {i : Int} {k : Nat} (hk : k < l.length) (h : l.getD k 0 = i) : msgS l i = 1 := by
 unfold msgS
 rw [if_pos]
 rw [← h, List.getD_eq_getElem?_getD, List.getElem?_eq_getElem hk]
 exact List.getElem_mem hk
set_option maxHeartbeats 4000000 in
theorem rbit_any {i : Int} {a : Option Addr} {m c : Nat} {l : List Int} (w : World) (hS : ShI .i64 w a m l) (hm : m ≤ 100000) :
    Calls Tryz.prog 77 #[.slice a m c, .int .i64 i] w fun e w' => e = .returned (.int .i64 (msgS l i)) ∧ w' = w := by
  have HS := Lh hS
  have HL := Lh hS.len
  clear hS
  go_enter Tryz.func77, Tryz.ntmps77
  go_wp2_with fail
  go_loop [5] (fun c5 => ∃ k : Nat, k ≤ m ∧ c5 = .int .i64 k ∧ Hid (∀ j, j < k → l.getD j 0 ≠ i)) (fun c5 => m - (intOf c5).toNat)
  case atStart => exact ⟨0, Nat.zero_le _, rfl, fun j hj => by omega⟩
  case round =>
   obtain ⟨k, hk, rfl, HK⟩ := hrel
   by_cases hlt : k < m
   case neg =>
    have HZ := Lh (msgS_not (by rw [← HL.o]; omega) HK.o)
    have d5 : decide ((k : Int) < (m : Int)) = false := by simp; omega
    go_wp2_with fail
    go_ret
    exact ⟨by rw [HZ.o]; rfl, rfl⟩
   case pos =>
    obtain ⟨s, o, hsa, hsl, hck, -⟩ := HS.o.at k hlt
    subst hsa
    have hk0 : (0 : Int) ≤ (k : Int) := by omega
    have hk1 : (k : Int) < (m : Int) := by omega
    have d5 : decide ((k : Int) < (m : Int)) = true := by simp; omega
    by_cases hx : l.getD k 0 = i
    case pos =>
     have HZ := Lh (msgS_hit (by rw [← HL.o]; exact hlt) hx)
     have hd2 : (l.getD k 0 == i) = true := beq_iff_eq.2 hx
     generalize l.getD k 0 = x at hck hd2
     clear hx
     go_wp2_with fail
     go_ret
     exact ⟨by rw [HZ.o]; rfl, rfl⟩
    case neg =>
     have HN := Lh (show ∀ j, j < k + 1 → l.getD j 0 ≠ i from fun j hj => by
      by_cases e : j < k
      · exact HK.o j e
      · obtain rfl : j = k := by omega
        exact hx)
     have hd2 : (l.getD k 0 == i) = false := beq_eq_false_iff_ne.2 hx
     generalize l.getD k 0 = x at hck hd2
     clear hx
     go_wp2_with fail
     go_round
     case rel => exact ⟨k + 1, by omega, by go_num, HN.o⟩
     case measure => simp [intOf]; omega
def lastS (l : List Int) : Nat → Int
  | 0 => -1
  | k + 1 => l.getD k 0
theorem drop_cons {l : List Int} {k : Nat} (h : k < l.length) : l.drop k = l.getD k 0 :: l.drop (k + 1) := by
 rw [List.drop_eq_getElem_cons h, List.getD_eq_getElem?_getD, List.getElem?_eq_getElem h]; rfl
set_option maxHeartbeats 8000000 in
theorem rMarks_any {n : Int} {a : Option Addr} {m c : Nat} {l : List Int} (w : World) (hS : ShI .i64 w a m l) (hm : m ≤ 1000000) :
    Calls Tryz.prog 33 #[.int .i64 n, .slice a m c] w fun e w' => e = .returned (.bool (markedS n l)) ∧ Below w.heap.size w w' := by
  have HS := Lh hS
  have HL := Lh hS.len
  clear hS
  go_enter Tryz.func33, Tryz.ntmps33
  go_wp2_with fail
  go_loopw [5] (fun c5 wr => ∃ k : Nat, k ≤ m ∧ c5 = .int .i64 k ∧ Hid (markedS n l = markedFrom n (lastS l k) (l.drop k) ∧ -1 ≤ lastS l k) ∧ Hid (Below w.heap.size w wr)) (fun c5 _ => m - (intOf c5).toNat)
  case atStart => exact ⟨0, Nat.zero_le _, rfl, ⟨rfl, Int.le_refl _⟩, Below.refl _ _⟩
  case round =>
   obtain ⟨k, hk, rfl, HK, HBW⟩ := hrel
   by_cases hlt : k < m
   case neg =>
    have HZ := Lh (show markedS n l = true by rw [HK.o.1, List.drop_eq_nil_of_le (by rw [← HL.o]; omega)]; rfl)
    have d5 : decide ((k : Int) < (m : Int)) = false := by simp; omega
    go_wp2_with fail
    go_ret
    exact ⟨by rw [HZ.o]; rfl, HBW.o⟩
   case pos =>
    obtain ⟨s, o, hsa, hsl, hck, -⟩ := (HS.o.keep HBW.o).at k hlt
    have HM := Lh (show markedS n l = if l.getD k 0 ≤ lastS l k ∨ n ≤ l.getD k 0 then false else markedFrom n (l.getD k 0) (l.drop (k + 1)) by rw [HK.o.1, drop_cons (by rw [← HL.o]; exact hlt)]; rfl)
    have HLA := Lh (show lastS l (k + 1) = l.getD k 0 from rfl)
    have HKL := Lh HK.o.2
    clear HK
    subst hsa
    have hk0 : (0 : Int) ≤ (k : Int) := by omega
    have hk1 : (k : Int) < (m : Int) := by omega
    have d5 : decide ((k : Int) < (m : Int)) = true := by simp; omega
    have w3 : IntKind.i64.wrap ((k : Int) + 1) = (k : Int) + 1 := IntWalk.i64_in _ (by omega)
    generalize l.getD k 0 = x at hck HM HLA
    by_cases h1 : x < 0
    case pos =>
     have d1 : decide (x < 0) = true := decide_eq_true h1
     have HZ := Lh (show markedS n l = false by rw [HM.o, if_pos (.inl (by have := HKL.o; omega))])
     go_wp2_with fail
     go_quiet (fail)
     go_wp2_with fail
     go_ret
     exact ⟨by rw [HZ.o]; rfl, below_drewN HBW.o _⟩
    case neg =>
     have d1 : decide (x < 0) = false := decide_eq_false h1
     by_cases h2 : n ≤ x
     case pos =>
      have d2 : decide (n ≤ x) = true := decide_eq_true h2
      have HZ := Lh (show markedS n l = false by rw [HM.o, if_pos (.inr h2)])
      go_wp2_with fail
      go_quiet (fail)
      go_wp2_with fail
      go_ret
      exact ⟨by rw [HZ.o]; rfl, below_drewN HBW.o _⟩
     case neg =>
      have d2 : decide (n ≤ x) = false := decide_eq_false h2
      by_cases hz : k = 0
      case pos =>
       have d3 : decide (0 < k) = false := decide_eq_false (by omega)
       have HZ := Lh (show markedS n l = markedFrom n (lastS l (k + 1)) (l.drop (k + 1)) by rw [HM.o, HLA.o, if_neg (show ¬ (x ≤ lastS l k ∨ n ≤ x) by rw [hz]; simp only [lastS]; omega)])
       have HX := Lh (show -1 ≤ lastS l (k + 1) by rw [HLA.o]; omega)
       clear hz
       go_wp2_with fail
       go_quiet (fail)
       go_wp2_with fail
       go_roundw
       case rel => exact ⟨k + 1, by omega, by go_num, ⟨HZ.o, HX.o⟩, below_drewN HBW.o _⟩
       case measure => simp [intOf] <;> omega
      case neg =>
       obtain ⟨j, rfl⟩ : ∃ j, k = j + 1 := ⟨k - 1, by omega⟩
       obtain ⟨s', o', hsa', hsl', hcj, -⟩ := (HS.o.keep HBW.o).at j (by omega)
       cases hsa'
       have HLJ := Lh (show lastS l (j + 1) = l.getD j 0 from rfl)
       generalize l.getD j 0 = p at hcj HLJ
       have d3 : decide (0 < j + 1) = true := decide_eq_true (by omega)
       have w4 : IntKind.i64.wrap (((j + 1 : Nat) : Int) - 1) = (j : Int) := by rw [IntWalk.i64_in _ (by omega)]; omega
       have hj0 : (0 : Int) ≤ (j : Int) := by omega
       have hj1 : (j : Int) < (m : Int) := by omega
       by_cases h3 : x ≤ p
       case pos =>
        have d4 : decide (x ≤ p) = true := decide_eq_true h3
        have HZ := Lh (show markedS n l = false by rw [HM.o, if_pos (.inl (by rw [HLJ.o]; exact h3))])
        go_wp2_with fail
        go_quiet (fail)
        go_wp2_with fail
        go_ret
        exact ⟨by rw [HZ.o]; rfl, below_drewN HBW.o _⟩
       case neg =>
        have d4 : decide (x ≤ p) = false := decide_eq_false h3
        have HZ := Lh (show markedS n l = markedFrom n (lastS l (j + 1 + 1)) (l.drop (j + 1 + 1)) by rw [HM.o, HLA.o, if_neg (show ¬ (x ≤ lastS l (j + 1) ∨ n ≤ x) by rw [HLJ.o]; omega)])
        have HX := Lh (show -1 ≤ lastS l (j + 1 + 1) by rw [HLA.o]; omega)
        go_wp2_with fail
        go_quiet (fail)
        go_wp2_with fail
        go_roundw
        case rel => exact ⟨j + 1 + 1, by omega, by go_num, ⟨HZ.o, HX.o⟩, below_drewN HBW.o _⟩
        case measure => simp [intOf] <;> omega
open Go Go.RowKit Num Sha
theorem own_mono {w : World} {base base' : Nat} {e : TypeId} {sz n : Nat} {v : Value} {xs : List Value} (h : w.ownsRow base e sz v n xs) (hb : base' ≤ base) : w.ownsRow base' e sz v n xs :=
  ⟨h.1, h.2.imp id fun ⟨g, cap, cur, e1, h1, r⟩ => ⟨g, cap, cur, e1, Nat.le_trans hb h1, r⟩⟩
theorem Arr.keepN {k : IntKind} {w w' : World} {b n : Nat} {xs : List Int} (h : Arr k w b xs) (hb : Below n w w') (hn : b < n) : Arr k w' b xs :=
  ⟨fun i hi => (hb.cell (p := ⟨b, i, none⟩) hn).trans (h.c i hi), fun i => (hb.frozen (p := ⟨b, i, none⟩) hn).trans (h.f i), Nat.lt_of_lt_of_le h.lt hb.size⟩
def RetNo (w : World) (o : Option (List Int)) (e : Ending) (w' : World) : Prop := Below w.heap.size w w' ∧ match o with
  | some xs => ∃ v, e = .returned (.tuple #[v, .bool true]) ∧ OwnU8 w' w.heap.size v xs
  | none => e = .returned (.tuple #[.slice none 0 0, .bool false])
set_option maxHeartbeats 8000000 in
theorem rnonces_any {P Q G : Int} {seed : List Int} {n : Nat} (w : World) (hT : Tabs w) (hsl : seed.length = 32) (hby : ByteL seed) (hq0 : 0 < Q) (hq1 : Q ≤ 4294967296) (hn : n ≤ 10) :
    Calls Tryz.prog 34 #[.agg #[.int .u64 P, .int .u64 Q, .int .u64 G], .int .i64 (n : Int), .agg (valV .u8 seed)] w (RetNo w (sampS seed Q (4 * n + 3))) := by
  obtain ⟨i0, hi, hz0, hz1, hz2⟩ := info_parts (P := Tryz.prog) (e := 22) (z := .int .u64 0) (size := 1) (bytes := 8) (by kernel_rfl)
  have HSL := Lh hsl
  have HBY := Lh hby
  have F_g := Lh (Cl.at w [.int .u64 P, .int .u64 Q, .int .u64 G] 24 w.heap.size rfl)
  have HBW := Lh (show Below w.heap.size w (w.alloc (.cells #[.int .u64 P, .int .u64 Q, .int .u64 G] 24)) from (Below.refl _ _).alloc (Nat.le_refl _) _)
  have HT := Lh hT
  clear hsl hby hT
  go_enter Tryz.func34, Tryz.ntmps34
  go_wp2_with (refine wpL_boxArr rfl 26 .u8 _ seed rfl rfl ?_; intro w1 h1; have F_s := Lh (show Arr .u8 w1 (w.heap.size + 1) seed by have h2 := h1.arr; rw [World.size_alloc] at h2; exact h2); have hb1 := h1.below _ (Nat.le_refl _); replace F_g := Lh (F_g.o.keep hb1); replace HBW := Lh (HBW.o.trans (hb1.mono HBW.o.size)); clear h1 hb1; simp only [sY])
  simp only [World.size_alloc]
  have wm : IntKind.i64.wrap (4 * (n : Int)) = 4 * (n : Int) := IntWalk.i64_in _ (by omega)
  have wm2 : IntKind.i64.wrap (4 * (n : Int) + 3) = 4 * (n : Int) + 3 := IntWalk.i64_in _ (by omega)
  obtain ⟨many, hmany⟩ : ∃ many, many = 4 * n + 3 := ⟨_, rfl⟩
  have HMY := Lh hmany
  rw [← hmany]
  have hM : (4 * (n : Int) + 3) = (many : Int) := by rw [hmany]; omega
  clear hmany
  have HLS := Lh F_s.o.lt
  have HLG := Lh (show w.heap.size < w1.heap.size from F_g.o.lt)
  have HLW := Lh (show w.heap.size ≤ w1.heap.size from HBW.o.size)
  go_loopw [8, 9] (fun c8 c9 wr => ∃ (j : Nat) (ys : List Int), j ≤ many ∧ c9 = .int .i64 j ∧ Hid (sampS seed Q j = some ys) ∧ Hid (OwnU8 wr w1.heap.size c8 ys) ∧ Hid (Arr .u8 wr (w.heap.size + 1) seed) ∧ Hid (Cl wr w.heap.size [.int .u64 P, .int .u64 Q, .int .u64 G]) ∧ Hid (Below w.heap.size w wr) ∧ Hid (w1.heap.size ≤ wr.heap.size)) (fun _ c9 _ => many - (intOf c9).toNat)
  case atStart => exact ⟨0, [], by omega, rfl, rfl, OwnU8.nil _ _, F_s.o, F_g.o, HBW.o, Nat.le_refl _⟩
  case round =>
   clear HBW F_s F_g
   obtain ⟨j, ys, hj, rfl, HS, HO, F_s, F_g, HBW, HLE⟩ := hrel
   have HMB := Lh (show many ≤ 43 by have := HMY.o; omega)
   by_cases hlt : j < many
   case neg =>
    obtain rfl : j = many := by omega
    have hd : decide ((j : Int) < (j : Int)) = false := decide_eq_false (by omega)
    have hd2 : decide ((j : Int) < (4 * (n : Int) + 3)) = false := by rw [hM]; exact hd
    go_wp2_with fail
    go_ret2
    exact ⟨HBW.o, by first | (rw [HS.o]; exact ⟨_, rfl, own_mono HO.o HLW.o⟩) | (rw [← HMY.o, HS.o]; exact ⟨_, rfl, own_mono HO.o HLW.o⟩)⟩
   case pos =>
    have hd : decide ((j : Int) < (4 * (n : Int) + 3)) = true := by rw [hM]; exact decide_eq_true (by omega)
    have wj1 : IntKind.u32.wrap (j : Int) = j := IntWalk.u32_in _ (by have := HMB.o; omega)
    have wj2 : IntKind.i64.wrap ((j : Int) + 1) = (j : Int) + 1 := IntWalk.i64_in _ (by have := HMB.o; omega)
    have hzw := HBW.o.size
    have q1 := F_g.o.c 1 _ rfl
    go_wp2_with (refine wpL_loadArr rfl 26 .u8 (.tmp 5) (w.heap.size + 1) seed 32 5 rfl rfl Tryz.underlying26 (by rw [HSL.o]; kernel_rfl) F_s.o ?_; simp only [sY])
    clear q1
    refine (rNumb_any _ (HT.o.below HBW.o) (by omega) (by have := HMB.o; omega) HSL.o HBY.o hq0 hq1).mono ?_
    rintro e w5 ⟨rfl, hb5⟩
    replace HO := Lh (HO.o.keep hb5)
    replace F_s := Lh (F_s.o.keep hb5)
    replace F_g := Lh (F_g.o.keep hb5)
    replace HBW := Lh (HBW.o.trans (hb5.mono HBW.o.size))
    replace HLE := Lh (Nat.le_trans HLE.o hb5.size)
    have hzw5 := HLE.o
    clear hb5
    obtain ⟨o, ho⟩ : ∃ o, drawS seed (j : Int) Q = o := ⟨_, rfl⟩
    rw [ho]
    have HD := Lh ho
    clear ho
    cases o with
    | none =>
     have HN := Lh (show sampS seed Q many = none from sampS_none (j := j + 1) (by simp only [sampS, HS.o, HD.o]) (by omega))
     unfold drawV
     go_wp2_with fail
     go_ret2
     exact ⟨HBW.o, by first | (rw [HN.o]; rfl) | (rw [← HMY.o, HN.o]; rfl)⟩
    | some x =>
     have HN := Lh (show sampS seed Q (j + 1) = some (ys ++ [x]) by simp only [sampS, HS.o, HD.o])
     have HLY := Lh (sampS_len HS.o)
     have HXM := Lh (show ys.length + 1 ≤ maxLen by have := HLY.o; have := HMB.o; unfold maxLen; omega)
     have HXB := Lh (show (ys.length + 1) * 8 ≤ 140737488355328 by have := HLY.o; have := HMB.o; omega)
     unfold drawV
     go_wp2_with (at_builtin; (refine wpList_append_own _ rfl _ _ 34 rfl w1.heap.size 22 i0 (.int .u64 0) 1 8 Tryz.underlying34 hi hz0 hz1 hz2 rfl (by decide) _ ys.length (ys.map (Value.int .u64)) rfl (HO.o.keep ((Below.refl _ _).alloc (Nat.le_refl _) _)) _ 1 1 [.int .u64 x] rfl rfl (fun j u hj => by cases j with | zero => simp at hj; subst hj; simp [go_sem] | succ j => simp at hj) (fun u hu => by simp at hu; subst hu; rfl) HXM.o HXB.o (by simp; omega) ?_); intro v4 w4 hown hgr hnil; have HO4 := Lh (show OwnU8 w4 w1.heap.size v4 (ys ++ [x]) by unfold OwnU8; rw [List.length_append, List.map_append]; exact hown); have HB4 := Lh (Below.rowT (n := w1.heap.size) hgr (fun k hk => (World.ownsRow.lt HO.o k hk).1) (by simp; omega)); clear hown hgr hnil)
     go_roundw
     case rel => exact ⟨j + 1, ys ++ [x], by omega, by go_num, HN.o, HO4.o, (F_s.o.alloc _).keepN HB4.o HLS.o, (F_g.o.alloc _).keepN HB4.o HLG.o, (HBW.o.alloc HBW.o.size _).trans (HB4.o.mono HLW.o), Nat.le_trans HLE.o (Nat.le_trans (by simp) HB4.o.size)⟩
     case measure => simp [intOf] <;> omega
set_option maxHeartbeats 8000000 in
theorem rsome_any {P Q G : Int} {seed : List Int} {n : Nat} (w : World) (hT : Tabs w) (hsl : seed.length = 32) (hby : ByteL seed) (hq0 : 0 < Q) (hq1 : Q ≤ 4294967296) (hn : n ≤ 10) :
    Calls Tryz.prog 35 #[.agg #[.int .u64 P, .int .u64 Q, .int .u64 G], .int .i64 (n : Int), .agg (valV .u8 seed)] w (RetNo w (sampS seed Q (4 * n))) := by
  obtain ⟨i0, hi, hz0, hz1, hz2⟩ := info_parts (P := Tryz.prog) (e := 22) (z := .int .u64 0) (size := 1) (bytes := 8) (by kernel_rfl)
  have HSL := Lh hsl
  have HBY := Lh hby
  have F_g := Lh (Cl.at w [.int .u64 P, .int .u64 Q, .int .u64 G] 24 w.heap.size rfl)
  have HBW := Lh (show Below w.heap.size w (w.alloc (.cells #[.int .u64 P, .int .u64 Q, .int .u64 G] 24)) from (Below.refl _ _).alloc (Nat.le_refl _) _)
  have HT := Lh hT
  clear hsl hby hT
  go_enter Tryz.func35, Tryz.ntmps35
  go_wp2_with (refine wpL_boxArr rfl 26 .u8 _ seed rfl rfl ?_; intro w1 h1; have F_s := Lh (show Arr .u8 w1 (w.heap.size + 1) seed by have h2 := h1.arr; rw [World.size_alloc] at h2; exact h2); have hb1 := h1.below _ (Nat.le_refl _); replace F_g := Lh (F_g.o.keep hb1); replace HBW := Lh (HBW.o.trans (hb1.mono HBW.o.size)); clear h1 hb1; simp only [sY])
  simp only [World.size_alloc]
  have wm : IntKind.i64.wrap (4 * (n : Int)) = 4 * (n : Int) := IntWalk.i64_in _ (by omega)
  obtain ⟨many, hmany⟩ : ∃ many, many = 4 * n := ⟨_, rfl⟩
  have HMY := Lh hmany
  rw [← hmany]
  have hM : (4 * (n : Int)) = (many : Int) := by rw [hmany]; omega
  clear hmany
  have HLS := Lh F_s.o.lt
  have HLG := Lh (show w.heap.size < w1.heap.size from F_g.o.lt)
  have HLW := Lh (show w.heap.size ≤ w1.heap.size from HBW.o.size)
  go_loopw [8, 9] (fun c8 c9 wr => ∃ (j : Nat) (ys : List Int), j ≤ many ∧ c9 = .int .i64 j ∧ Hid (sampS seed Q j = some ys) ∧ Hid (OwnU8 wr w1.heap.size c8 ys) ∧ Hid (Arr .u8 wr (w.heap.size + 1) seed) ∧ Hid (Cl wr w.heap.size [.int .u64 P, .int .u64 Q, .int .u64 G]) ∧ Hid (Below w.heap.size w wr) ∧ Hid (w1.heap.size ≤ wr.heap.size)) (fun _ c9 _ => many - (intOf c9).toNat)
  case atStart => exact ⟨0, [], by omega, rfl, rfl, OwnU8.nil _ _, F_s.o, F_g.o, HBW.o, Nat.le_refl _⟩
  case round =>
   clear HBW F_s F_g
   obtain ⟨j, ys, hj, rfl, HS, HO, F_s, F_g, HBW, HLE⟩ := hrel
   have HMB := Lh (show many ≤ 43 by have := HMY.o; omega)
   by_cases hlt : j < many
   case neg =>
    obtain rfl : j = many := by omega
    have hd : decide ((j : Int) < (j : Int)) = false := decide_eq_false (by omega)
    have hd2 : decide ((j : Int) < (4 * (n : Int))) = false := by rw [hM]; exact hd
    go_wp2_with fail
    go_ret2
    exact ⟨HBW.o, by first | (rw [HS.o]; exact ⟨_, rfl, own_mono HO.o HLW.o⟩) | (rw [← HMY.o, HS.o]; exact ⟨_, rfl, own_mono HO.o HLW.o⟩)⟩
   case pos =>
    have hd : decide ((j : Int) < (4 * (n : Int))) = true := by rw [hM]; exact decide_eq_true (by omega)
    have wj1 : IntKind.u32.wrap (j : Int) = j := IntWalk.u32_in _ (by have := HMB.o; omega)
    have wj2 : IntKind.i64.wrap ((j : Int) + 1) = (j : Int) + 1 := IntWalk.i64_in _ (by have := HMB.o; omega)
    have hzw := HBW.o.size
    have q1 := F_g.o.c 1 _ rfl
    go_wp2_with (refine wpL_loadArr rfl 26 .u8 (.tmp 5) (w.heap.size + 1) seed 32 5 rfl rfl Tryz.underlying26 (by rw [HSL.o]; kernel_rfl) F_s.o ?_; simp only [sY])
    clear q1
    refine (rNumb_any _ (HT.o.below HBW.o) (by omega) (by have := HMB.o; omega) HSL.o HBY.o hq0 hq1).mono ?_
    rintro e w5 ⟨rfl, hb5⟩
    replace HO := Lh (HO.o.keep hb5)
    replace F_s := Lh (F_s.o.keep hb5)
    replace F_g := Lh (F_g.o.keep hb5)
    replace HBW := Lh (HBW.o.trans (hb5.mono HBW.o.size))
    replace HLE := Lh (Nat.le_trans HLE.o hb5.size)
    have hzw5 := HLE.o
    clear hb5
    obtain ⟨o, ho⟩ : ∃ o, drawS seed (j : Int) Q = o := ⟨_, rfl⟩
    rw [ho]
    have HD := Lh ho
    clear ho
    cases o with
    | none =>
     have HN := Lh (show sampS seed Q many = none from sampS_none (j := j + 1) (by simp only [sampS, HS.o, HD.o]) (by omega))
     unfold drawV
     go_wp2_with fail
     go_ret2
     exact ⟨HBW.o, by first | (rw [HN.o]; rfl) | (rw [← HMY.o, HN.o]; rfl)⟩
    | some x =>
     have HN := Lh (show sampS seed Q (j + 1) = some (ys ++ [x]) by simp only [sampS, HS.o, HD.o])
     have HLY := Lh (sampS_len HS.o)
     have HXM := Lh (show ys.length + 1 ≤ maxLen by have := HLY.o; have := HMB.o; unfold maxLen; omega)
     have HXB := Lh (show (ys.length + 1) * 8 ≤ 140737488355328 by have := HLY.o; have := HMB.o; omega)
     unfold drawV
     go_wp2_with (at_builtin; (refine wpList_append_own _ rfl _ _ 34 rfl w1.heap.size 22 i0 (.int .u64 0) 1 8 Tryz.underlying34 hi hz0 hz1 hz2 rfl (by decide) _ ys.length (ys.map (Value.int .u64)) rfl (HO.o.keep ((Below.refl _ _).alloc (Nat.le_refl _) _)) _ 1 1 [.int .u64 x] rfl rfl (fun j u hj => by cases j with | zero => simp at hj; subst hj; simp [go_sem] | succ j => simp at hj) (fun u hu => by simp at hu; subst hu; rfl) HXM.o HXB.o (by simp; omega) ?_); intro v4 w4 hown hgr hnil; have HO4 := Lh (show OwnU8 w4 w1.heap.size v4 (ys ++ [x]) by unfold OwnU8; rw [List.length_append, List.map_append]; exact hown); have HB4 := Lh (Below.rowT (n := w1.heap.size) hgr (fun k hk => (World.ownsRow.lt HO.o k hk).1) (by simp; omega)); clear hown hgr hnil)
     go_roundw
     case rel => exact ⟨j + 1, ys ++ [x], by omega, by go_num, HN.o, HO4.o, (F_s.o.alloc _).keepN HB4.o HLS.o, (F_g.o.alloc _).keepN HB4.o HLG.o, (HBW.o.alloc HBW.o.size _).trans (HB4.o.mono HLW.o), Nat.le_trans HLE.o (Nat.le_trans (by simp) HB4.o.size)⟩
     case measure => simp [intOf] <;> omega
end Go.Proofs.YtlbldpkgnonbpaaGreatDoor
