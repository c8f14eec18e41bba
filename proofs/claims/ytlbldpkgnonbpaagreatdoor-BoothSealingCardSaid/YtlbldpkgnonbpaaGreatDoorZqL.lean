/- proof.total, BitProve. -/
import Derived.Test.YtlbldpkgnonbpaaGreatDoorZqH
import Derived.Test.YtlbldpkgnonbpaaGreatDoorZqJ
import Derived.Test.YtlbldpkgnonbpaaGreatDoorZqK
set_option linter.unusedSimpArgs false
set_option linter.unusedVariables false
set_option maxRecDepth 100000
namespace Go.Proofs.YtlbldpkgnonbpaaGreatDoor
open Go Go.RowKit Num Sha
theorem Arr.k8 {w : World} {b : Nat} {r0 r1 s0 s1 c0 c1 z0 z1 : Int} (h : Arr .u64 w b [r0, r1, s0, s1, c0, c1, z0, z1]) : w.cell? ⟨b, 0, none⟩ = some (.int .u64 r0) ∧ w.cell? ⟨b, 1, none⟩ = some (.int .u64 r1) ∧ w.cell? ⟨b, 2, none⟩ = some (.int .u64 s0) ∧ w.cell? ⟨b, 3, none⟩ = some (.int .u64 s1) ∧ w.cell? ⟨b, 4, none⟩ = some (.int .u64 c0) ∧ w.cell? ⟨b, 5, none⟩ = some (.int .u64 c1) ∧ w.cell? ⟨b, 6, none⟩ = some (.int .u64 z0) ∧ w.cell? ⟨b, 7, none⟩ = some (.int .u64 z1) ∧ w.frozen? ⟨b, 0, none⟩ = false ∧ w.frozen? ⟨b, 1, none⟩ = false ∧ w.frozen? ⟨b, 2, none⟩ = false ∧ w.frozen? ⟨b, 3, none⟩ = false ∧ w.frozen? ⟨b, 4, none⟩ = false ∧ w.frozen? ⟨b, 5, none⟩ = false ∧ w.frozen? ⟨b, 6, none⟩ = false ∧ w.frozen? ⟨b, 7, none⟩ = false :=
  ⟨h.c 0 (by simp), h.c 1 (by simp), h.c 2 (by simp), h.c 3 (by simp), h.c 4 (by simp), h.c 5 (by simp), h.c 6 (by simp), h.c 7 (by simp), h.f 0, h.f 1, h.f 2, h.f 3, h.f 4, h.f 5, h.f 6, h.f 7⟩
theorem Arr.s8 {w : World} {b : Nat} {r0 r1 s0 s1 c0 c1 z0 z1 : Int} (h : Arr .u64 w b [r0, r1, s0, s1, c0, c1, z0, z1]) : S8 w b r0 r1 s0 s1 c0 c1 z0 z1 := ⟨h.c 0 (by simp), h.c 1 (by simp), h.c 2 (by simp), h.c 3 (by simp), h.c 4 (by simp), h.c 5 (by simp), h.c 6 (by simp), h.c 7 (by simp)⟩
theorem Arr.st8 {w : World} {b : Nat} {r0 r1 s0 s1 c0 c1 z0 z1 : Int} (h : Arr .u64 w b [r0, r1, s0, s1, c0, c1, z0, z1]) (r0' r1' s0' s1' c0' c1' z0' z1' : Int) : Arr .u64 ((((((((w.setCell ⟨b, 0, none⟩ (.int .u64 r0')).setCell ⟨b, 1, none⟩ (.int .u64 r1')).setCell ⟨b, 2, none⟩ (.int .u64 s0')).setCell ⟨b, 3, none⟩ (.int .u64 s1')).setCell ⟨b, 4, none⟩ (.int .u64 c0')).setCell ⟨b, 5, none⟩ (.int .u64 c1')).setCell ⟨b, 6, none⟩ (.int .u64 z0')).setCell ⟨b, 7, none⟩ (.int .u64 z1')) b [r0', r1', s0', s1', c0', c1', z0', z1'] :=
  ((((((((h.set (ys := [r0', r1, s0, s1, c0, c1, z0, z1]) 0 (by simp) rfl).set (ys := [r0', r1', s0, s1, c0, c1, z0, z1]) 1 (by simp) rfl).set (ys := [r0', r1', s0', s1, c0, c1, z0, z1]) 2 (by simp) rfl).set (ys := [r0', r1', s0', s1', c0, c1, z0, z1]) 3 (by simp) rfl).set (ys := [r0', r1', s0', s1', c0', c1, z0, z1]) 4 (by simp) rfl).set (ys := [r0', r1', s0', s1', c0', c1', z0, z1]) 5 (by simp) rfl).set (ys := [r0', r1', s0', s1', c0', c1', z0', z1]) 6 (by simp) rfl).set (ys := [r0', r1', s0', s1', c0', c1', z0', z1']) 7 (by simp) rfl)
theorem Pair.under {w w' : World} {b n : Nat} {x y : Int} (h : Pair w b x y) (hb : Below n w w') (hn : b < n) : Pair w' b x y := pair_below h hb hn
theorem res_bit {w : World} {fn : Func} {c t : Tmp} {b : Nat} {r0 r1 s0 s1 c0 c1 z0 z1 : Int} {v : Value} (h : fn.results = #[.cell c 31, .tmp t]) (hp : Arr .u64 w b [r0, r1, s0, s1, c0, c1, z0, z1]) (tmps : Array Value)
    (hc : tmps[c]?.getD undef = .pointer (some ⟨b, 0, none⟩)) (ht : tmps[t]?.getD undef = v) : (results fn tmps).run Tryz.prog w = .ok (.tuple #[.agg #[.int .u64 r0, .int .u64 r1, .int .u64 s0, .int .u64 s1, .int .u64 c0, .int .u64 c1, .int .u64 z0, .int .u64 z1], v]) w := by
  obtain ⟨h0, h1, h2, h3, h4, h5, h6, h7⟩ := hp.s8
  simp [results, h, hc, ht, go_sem, h0, h1, h2, h3, h4, h5, h6, h7]
theorem res_bit1 {w : World} {fn : Func} {c : Tmp} {b : Nat} {r0 r1 s0 s1 c0 c1 z0 z1 : Int} (h : fn.results = #[.cell c 31]) (hp : Arr .u64 w b [r0, r1, s0, s1, c0, c1, z0, z1]) (tmps : Array Value)
    (hc : tmps[c]?.getD undef = .pointer (some ⟨b, 0, none⟩)) : (results fn tmps).run Tryz.prog w = .ok (.agg #[.int .u64 r0, .int .u64 r1, .int .u64 s0, .int .u64 s1, .int .u64 c0, .int .u64 c1, .int .u64 z0, .int .u64 z1]) w := by
  obtain ⟨h0, h1, h2, h3, h4, h5, h6, h7⟩ := hp.s8
  simp [results, h, hc, go_sem, h0, h1, h2, h3, h4, h5, h6, h7]
def BitZ (P Q G y m r k c z : Int) (T : List Int) (r0 r1 s0 s1 c0 c1 z0 z1 : Int) : Prop :=
  ∃ a b nn pp t1 mi g1 g2 Rj h1 h2 Sj Rm Sm tot Cm Zm : Int, powm G r P = a ∧ powm G m P * powm y r P % P = b ∧ (0 - 1) % Q = nn ∧ powm G nn P = pp ∧ b * pp % P = t1 ∧ (0 - c) % Q = mi ∧ powm G z P = g1 ∧ powm a mi P = g2 ∧ g1 * g2 % P = Rj ∧
    powm y z P = h1 ∧ powm (if m = 0 then t1 else b) mi P = h2 ∧ h1 * h2 % P = Sj ∧ powm G k P = Rm ∧ powm y k P = Sm ∧ chV Q (if m = 0 then [y, a, b, Rm, Sm, Rj, Sj] else [y, a, b, Rj, Sj, Rm, Sm]) T = tot ∧ (tot - c) % Q = Cm ∧ (k + Cm * r % Q) % Q = Zm ∧
    (if m = 0 then (r0 = Rm ∧ r1 = Rj ∧ s0 = Sm ∧ s1 = Sj ∧ c0 = Cm ∧ c1 = c ∧ z0 = Zm ∧ z1 = z) else (r0 = Rj ∧ r1 = Rm ∧ s0 = Sj ∧ s1 = Sm ∧ c0 = c ∧ c1 = Cm ∧ z0 = z ∧ z1 = Zm))
theorem BitZ.exists (P Q G y m r k c z : Int) (T : List Int) : ∃ r0 r1 s0 s1 c0 c1 z0 z1, BitZ P Q G y m r k c z T r0 r1 s0 s1 c0 c1 z0 z1 := by
 by_cases h : m = 0
 · exact ⟨_, _, _, _, _, _, _, _, _, _, _, _, _, _, _, _, _, _, _, _, _, _, _, _, _, rfl, rfl, rfl, rfl, rfl, rfl, rfl, rfl, rfl, rfl, rfl, rfl, rfl, rfl, rfl, rfl, rfl, by rw [if_pos h]; exact ⟨rfl, rfl, rfl, rfl, rfl, rfl, rfl, rfl⟩⟩
 · exact ⟨_, _, _, _, _, _, _, _, _, _, _, _, _, _, _, _, _, _, _, _, _, _, _, _, _, rfl, rfl, rfl, rfl, rfl, rfl, rfl, rfl, rfl, rfl, rfl, rfl, rfl, rfl, rfl, rfl, rfl, by rw [if_neg h]; exact ⟨rfl, rfl, rfl, rfl, rfl, rfl, rfl, rfl⟩⟩
def bitChk (P Q G y m r k c z : Int) : Int := if askS P Q G [r, k, c, z] [y] = 0 then (if m = 0 ∨ m = 1 then 0 else 2) else askS P Q G [r, k, c, z] [y]
def RetBit (chk P Q G y m r k c z : Int) (T : List Int) (r0 r1 s0 s1 c0 c1 z0 z1 e : Int) : Prop :=
  (chk = 0 ∧ BitZ P Q G y m r k c z T r0 r1 s0 s1 c0 c1 z0 z1 ∧ e = 0) ∨ (chk ≠ 0 ∧ (r0 = 0 ∧ r1 = 0 ∧ s0 = 0 ∧ s1 = 0 ∧ c0 = 0 ∧ c1 = 0 ∧ z0 = 0 ∧ z1 = 0) ∧ e = chk)
theorem RetBit.exists (chk P Q G y m r k c z : Int) (T : List Int) : ∃ r0 r1 s0 s1 c0 c1 z0 z1 e, RetBit chk P Q G y m r k c z T r0 r1 s0 s1 c0 c1 z0 z1 e := by
 by_cases h : chk = 0
 · obtain ⟨r0, r1, s0, s1, c0, c1, z0, z1, hz⟩ := BitZ.exists P Q G y m r k c z T
   exact ⟨r0, r1, s0, s1, c0, c1, z0, z1, 0, .inl ⟨h, hz, rfl⟩⟩
 · exact ⟨0, 0, 0, 0, 0, 0, 0, 0, chk, .inr ⟨h, ⟨rfl, rfl, rfl, rfl, rfl, rfl, rfl, rfl⟩, rfl⟩⟩
theorem BitZ.rng {P Q G y m r k c z r0 r1 s0 s1 c0 c1 z0 z1 : Int} {T : List Int} (h : BitZ P Q G y m r k c z T r0 r1 s0 s1 c0 c1 z0 z1) (hP : 1 ≤ P) (hQ : 1 ≤ Q) (c0' : 0 ≤ c) (cQ : c < Q) (z0' : 0 ≤ z) (zQ : z < Q) : (0 ≤ r0 ∧ r0 < P) ∧ (0 ≤ r1 ∧ r1 < P) ∧ (0 ≤ s0 ∧ s0 < P) ∧ (0 ≤ s1 ∧ s1 < P) ∧ (0 ≤ c0 ∧ c0 < Q) ∧ (0 ≤ c1 ∧ c1 < Q) ∧ (0 ≤ z0 ∧ z0 < Q) ∧ (0 ≤ z1 ∧ z1 < Q) := by
 obtain ⟨a, b, nn, pp, t1, mi, g1, g2, Rj, h1, h2, Sj, Rm, Sm, tot, Cm, Zm, -, -, -, -, -, -, -, -, e1, -, -, e2, e3, e4, -, e5, e6, e7⟩ := h
 have f1 : 0 ≤ Rj ∧ Rj < P := by rw [← e1]; exact ⟨Int.emod_nonneg _ (by omega), Int.emod_lt_of_pos _ (by omega)⟩
 have f2 : 0 ≤ Sj ∧ Sj < P := by rw [← e2]; exact ⟨Int.emod_nonneg _ (by omega), Int.emod_lt_of_pos _ (by omega)⟩
 have f3 : 0 ≤ Rm ∧ Rm < P := by rw [← e3]; exact ⟨powm_nonneg (by omega), powm_lt (by omega)⟩
 have f4 : 0 ≤ Sm ∧ Sm < P := by rw [← e4]; exact ⟨powm_nonneg (by omega), powm_lt (by omega)⟩
 have f5 : 0 ≤ Cm ∧ Cm < Q := by rw [← e5]; exact ⟨Int.emod_nonneg _ (by omega), Int.emod_lt_of_pos _ (by omega)⟩
 have f6 : 0 ≤ Zm ∧ Zm < Q := by rw [← e6]; exact ⟨Int.emod_nonneg _ (by omega), Int.emod_lt_of_pos _ (by omega)⟩
 split at e7
 · obtain ⟨rfl, rfl, rfl, rfl, rfl, rfl, rfl, rfl⟩ := e7
   exact ⟨f3, f1, f4, f2, f5, ⟨c0', cQ⟩, f6, ⟨z0', zQ⟩⟩
 · obtain ⟨rfl, rfl, rfl, rfl, rfl, rfl, rfl, rfl⟩ := e7
   exact ⟨f1, f3, f2, f4, ⟨c0', cQ⟩, f5, ⟨z0', zQ⟩, f6⟩
set_option maxHeartbeats 4000000 in
theorem ptotal_any {P Q G y a b v r0 r1 s0 s1 c0 c1 z0 z1 : Int} {tx : Option Addr} {n cp : Nat} {T : List Int} (w : World) (hT : Txt w tx n T) (hH : Has P Q G) (hu : ∀ x, x ∈ [y, a, b, r0, s0, r1, s1] → U64 x) (hn8 : n ≤ 8000) (hv : chV Q [y, a, b, r0, s0, r1, s1] T = v) :
    Calls Tryz.prog 71 #[.agg #[.int .u64 P, .int .u64 Q, .int .u64 G], .int .u64 y, .agg #[.int .u64 a, .int .u64 b], .agg #[.int .u64 r0, .int .u64 r1, .int .u64 s0, .int .u64 s1, .int .u64 c0, .int .u64 c1, .int .u64 z0, .int .u64 z1], .slice tx n cp] w fun e w' => e = .returned (.int .u64 v) ∧ Below w.heap.size w w' := by
  have HT := Lh hT
  have HV := Lh hv
  have HUS := Lh hu
  clear hT hv hu
  obtain ⟨p5, p3, hQ', pq, g2, gP⟩ := id hH
  have hP1 : 1 ≤ P := by omega
  have hGM : G < 2147483648 := by omega
  have q3 : Q < 1073741824 := by omega
  have q2 : 2 ≤ Q := by omega
  have HH := Lh hH
  clear hH pq
  have F_g := Lh (show Boxed ((((w.alloc (.cells #[.int .u64 P, .int .u64 Q, .int .u64 G] 24)).alloc (.cells #[.int .u64 a, .int .u64 b] 75)).alloc (.cells #[.int .u64 r0, .int .u64 r1, .int .u64 s0, .int .u64 s1, .int .u64 c0, .int .u64 c1, .int .u64 z0, .int .u64 z1] 31)).alloc (.cells #[.int .u64 y, .int .u64 a, .int .u64 b, .int .u64 r0, .int .u64 s0, .int .u64 r1, .int .u64 s1] 22)) (w.heap.size) P Q G from (((Boxed.at _ P Q G _ (w.heap.size) (by simp)).alloc _).alloc _).alloc _)
  have F_s := Lh (show Pair ((((w.alloc (.cells #[.int .u64 P, .int .u64 Q, .int .u64 G] 24)).alloc (.cells #[.int .u64 a, .int .u64 b] 75)).alloc (.cells #[.int .u64 r0, .int .u64 r1, .int .u64 s0, .int .u64 s1, .int .u64 c0, .int .u64 c1, .int .u64 z0, .int .u64 z1] 31)).alloc (.cells #[.int .u64 y, .int .u64 a, .int .u64 b, .int .u64 r0, .int .u64 s0, .int .u64 r1, .int .u64 s1] 22)) (w.heap.size + 1) a b from ((Pair.at _ a b _ (w.heap.size + 1) (by simp)).alloc _).alloc _)
  have F_ms := Lh (show ShL ((((w.alloc (.cells #[.int .u64 P, .int .u64 Q, .int .u64 G] 24)).alloc (.cells #[.int .u64 a, .int .u64 b] 75)).alloc (.cells #[.int .u64 r0, .int .u64 r1, .int .u64 s0, .int .u64 s1, .int .u64 c0, .int .u64 c1, .int .u64 z0, .int .u64 z1] 31)).alloc (.cells #[.int .u64 y, .int .u64 a, .int .u64 b, .int .u64 r0, .int .u64 s0, .int .u64 r1, .int .u64 s1] 22)) (some ⟨w.heap.size + 1 + 1 + 1, 0, none⟩) 7 7 [y, a, b, r0, s0, r1, s1] from ShL.laid _ [y, a, b, r0, s0, r1, s1] _ _ (w.heap.size + 1 + 1 + 1) _ _ (by simp) rfl rfl)
  have F_p := Lh (show Arr .u64 ((((w.alloc (.cells #[.int .u64 P, .int .u64 Q, .int .u64 G] 24)).alloc (.cells #[.int .u64 a, .int .u64 b] 75)).alloc (.cells #[.int .u64 r0, .int .u64 r1, .int .u64 s0, .int .u64 s1, .int .u64 c0, .int .u64 c1, .int .u64 z0, .int .u64 z1] 31)).alloc (.cells #[.int .u64 y, .int .u64 a, .int .u64 b, .int .u64 r0, .int .u64 s0, .int .u64 r1, .int .u64 s1] 22)) (w.heap.size + 1 + 1) [r0, r1, s0, s1, c0, c1, z0, z1] from (Arr.new .u64 _ [r0, r1, s0, s1, c0, c1, z0, z1] _ (w.heap.size + 1 + 1) (by simp)).alloc _)
  have HBW := Lh (show Below w.heap.size w ((((w.alloc (.cells #[.int .u64 P, .int .u64 Q, .int .u64 G] 24)).alloc (.cells #[.int .u64 a, .int .u64 b] 75)).alloc (.cells #[.int .u64 r0, .int .u64 r1, .int .u64 s0, .int .u64 s1, .int .u64 c0, .int .u64 c1, .int .u64 z0, .int .u64 z1] 31)).alloc (.cells #[.int .u64 y, .int .u64 a, .int .u64 b, .int .u64 r0, .int .u64 s0, .int .u64 r1, .int .u64 s1] 22)) from ((((Below.refl _ _).alloc (by simp <;> omega) _).alloc (by simp <;> omega) _).alloc (by simp <;> omega) _).alloc (by simp <;> omega) _)
  go_enter Tryz.func71, Tryz.ntmps71
  obtain ⟨q2_0, q2_1, q2_2, q2_3, q2_4, q2_5, q2_6, q2_7, q2_8, q2_9, q2_10, q2_11, q2_12, q2_13, q2_14, q2_15⟩ := Arr.k8 F_p.o
  obtain ⟨x0a, x0b, x0c, -⟩ := id F_g.o
  obtain ⟨x1a, x1b, x1c, x1d, -⟩ := id F_s.o
  go_wp2_with fail
  clear x0a x0b x0c x1a x1b x1c x1d q2_0 q2_1 q2_2 q2_3 q2_4 q2_5 q2_6 q2_7 q2_8 q2_9 q2_10 q2_11 q2_12 q2_13 q2_14 q2_15
  refine (pchallenge_any _ (HT.o.keep HBW.o) HH.o F_ms.o HUS.o (by simp) hn8 HV.o).mono ?_
  rintro e w1 ⟨rfl, hb1⟩
  replace F_g := Lh (F_g.o.keep hb1)
  replace F_s := Lh (F_s.o.keep hb1)
  replace F_p := Lh (F_p.o.keep hb1)
  replace F_ms := Lh (F_ms.o.keep hb1)
  replace HBW := Lh (HBW.o.trans (hb1.mono HBW.o.size))
  clear hb1
  clear F_ms
  obtain ⟨q2_0, q2_1, q2_2, q2_3, q2_4, q2_5, q2_6, q2_7, q2_8, q2_9, q2_10, q2_11, q2_12, q2_13, q2_14, q2_15⟩ := Arr.k8 F_p.o
  obtain ⟨x0a, x0b, x0c, -⟩ := id F_g.o
  obtain ⟨x1a, x1b, x1c, x1d, -⟩ := id F_s.o
  go_wp2_with fail
  go_ret
  exact ⟨rfl, HBW.o⟩
set_option maxHeartbeats 16000000 in
theorem pbitProve_any {P Q G y bm r k c z r0 r1 s0 s1 c0 c1 z0 z1 e' : Int} {tx : Option Addr} {n cp : Nat} {T : List Int} (w : World) (hT : Txt w tx n T) (hP : 0 ≤ P) (hQ : 0 ≤ Q) (hG : 0 ≤ G) (y0 : 0 ≤ y) (r0_ : 0 ≤ r) (k0_ : 0 ≤ k) (c0_ : 0 ≤ c) (z0_ : 0 ≤ z) (hn : n ≤ 8100) (h : RetBit (lgS (bitChk P Q G y bm r k c z) n) P Q G y bm r k c z T r0 r1 s0 s1 c0 c1 z0 z1 e') :
    Calls Tryz.prog 30 #[.agg #[.int .u64 P, .int .u64 Q, .int .u64 G], .int .u64 y, .int .i64 bm, .int .u64 r, .int .u64 k, .int .u64 c, .int .u64 z, .slice tx n cp] w fun e w' => e = .returned (.tuple #[.agg #[.int .u64 r0, .int .u64 r1, .int .u64 s0, .int .u64 s1, .int .u64 c0, .int .u64 c1, .int .u64 z0, .int .u64 z1], .int .i64 e']) ∧ Below w.heap.size w w' := by
  have HT := Lh hT
  clear hT
  by_cases ha : askS P Q G [r, k, c, z] [y] = 0
  · obtain ⟨hH, he, hnn⟩ := askS_zero ha
    have rQ := he r (by simp)
    have kQ := he k (by simp)
    have cQ := he c (by simp)
    have zQ := he z (by simp)
    have yP := hnn y (by simp)
    have HR := Lh ha
    clear he hnn
    by_cases hm : bm = 0 ∨ bm = 1
    · have hck : bitChk P Q G y bm r k c z = 0 := by rw [bitChk, if_pos ha, if_pos hm]
      rcases h with ⟨h, hZ, rfl⟩ | ⟨h, ⟨rfl, rfl, rfl, rfl, rfl, rfl, rfl, rfl⟩, hc⟩
      · obtain ⟨-, hn8⟩ := lgS_zero h
        have HLG := Lh (show lgS 0 n = 0 from lgS_ok rfl hn8)
        clear h hck ha
        obtain ⟨p5, p3, hQ', pq, g2, gP⟩ := id hH
        have hP1 : 1 ≤ P := by omega
        have hGM : G < 2147483648 := by omega
        have q3 : Q < 1073741824 := by omega
        have q2 : 2 ≤ Q := by omega
        have HH := Lh hH
        clear hH pq
        rcases hm with rfl | rfl
        · skip
          obtain ⟨a, b, nn, pp, t1, mi, g1, g2, Rj, h1, h2, Sj, Rm, Sm, tot, Cm, Zm, ha, hb, hnn, hpp, ht1, hmi, hg1, hg2, hrj, hh1, hh2, hsj, hrm, hsm, htt, hcm, hzm, hf⟩ := hZ
          rw [if_pos rfl] at hh2 htt hf
          obtain ⟨q1, q2, q3_, q4, q5, q6, q7, q8⟩ := hf
          replace q1 := q1.symm
          subst q1
          replace q2 := q2.symm
          subst q2
          replace q3_ := q3_.symm
          subst q3_
          replace q4 := q4.symm
          subst q4
          replace q5 := q5.symm
          subst q5
          replace q6 := q6.symm
          subst q6
          replace q7 := q7.symm
          subst q7
          replace q8 := q8.symm
          subst q8
          have y0_ := y0
          have aa0 : 0 ≤ a := by rw [← ha]; exact powm_nonneg (by omega)
          have aaP : a < P := by rw [← ha]; exact powm_lt (by omega)
          have bb0 : 0 ≤ b := by rw [← hb]; exact Int.emod_nonneg _ (by omega)
          have bbP : b < P := by rw [← hb]; exact Int.emod_lt_of_pos _ (by omega)
          have t10 : 0 ≤ t1 := by rw [← ht1]; exact Int.emod_nonneg _ (by omega)
          have t1P : t1 < P := by rw [← ht1]; exact Int.emod_lt_of_pos _ (by omega)
          have tj0 : 0 ≤ t1 := by assumption
          have tjP : t1 < P := by assumption
          have mi0 : 0 ≤ mi := by rw [← hmi]; exact Int.emod_nonneg _ (by omega)
          have miQ : mi < Q := by rw [← hmi]; exact Int.emod_lt_of_pos _ (by omega)
          have g10 : 0 ≤ g1 := by rw [← hg1]; exact powm_nonneg (by omega)
          have g1P : g1 < P := by rw [← hg1]; exact powm_lt (by omega)
          have g20 : 0 ≤ g2 := by rw [← hg2]; exact powm_nonneg (by omega)
          have g2P : g2 < P := by rw [← hg2]; exact powm_lt (by omega)
          have h10 : 0 ≤ h1 := by rw [← hh1]; exact powm_nonneg (by omega)
          have h1P : h1 < P := by rw [← hh1]; exact powm_lt (by omega)
          have h20 : 0 ≤ h2 := by rw [← hh2]; exact powm_nonneg (by omega)
          have h2P : h2 < P := by rw [← hh2]; exact powm_lt (by omega)
          have rj0 : 0 ≤ Rj := by rw [← hrj]; exact Int.emod_nonneg _ (by omega)
          have rjP : Rj < P := by rw [← hrj]; exact Int.emod_lt_of_pos _ (by omega)
          have sj0 : 0 ≤ Sj := by rw [← hsj]; exact Int.emod_nonneg _ (by omega)
          have sjP : Sj < P := by rw [← hsj]; exact Int.emod_lt_of_pos _ (by omega)
          have rm0 : 0 ≤ Rm := by rw [← hrm]; exact powm_nonneg (by omega)
          have rmP : Rm < P := by rw [← hrm]; exact powm_lt (by omega)
          have sm0 : 0 ≤ Sm := by rw [← hsm]; exact powm_nonneg (by omega)
          have smP : Sm < P := by rw [← hsm]; exact powm_lt (by omega)
          obtain ⟨tot0, totQ⟩ : 0 ≤ tot ∧ tot < Q := by rw [← htt]; exact chV_range (by omega) _ _
          have cm0 : 0 ≤ Cm := by rw [← hcm]; exact Int.emod_nonneg _ (by omega)
          have cmQ : Cm < Q := by rw [← hcm]; exact Int.emod_lt_of_pos _ (by omega)
          have UZ := Lh (U64.of_lt z0_ (by omega))
          have UK := Lh (U64.of_lt k0_ (by omega))
          have UM := Lh (U64.of_lt mi0 (by omega))
          have HUS := Lh (show ∀ x, x ∈ [y, a, b, Rm, Sm, Rj, Sj] → U64 x from fun x hx => by
           simp at hx
           rcases hx with rfl | rfl | rfl | rfl | rfl | rfl | rfl <;> exact U64.of_lt (by assumption) (by omega))
          have HA := Lh ha
          have HB := Lh hb
          have HNN := Lh hnn
          have HPP := Lh hpp
          have HT1 := Lh ht1
          have HMI := Lh hmi
          have HG1 := Lh hg1
          have HG2 := Lh hg2
          have HRJ := Lh hrj
          have HH1 := Lh hh1
          have HH2 := Lh hh2
          have HSJ := Lh hsj
          have HRM := Lh hrm
          have HSM := Lh hsm
          have HTT := Lh htt
          have HCM := Lh hcm
          have HZS := Lh (show RetS (askS P Q G [r, k, Cm] []) ((k + Cm * r % Q) % Q) Zm 0 from .inl ⟨askS_ok HH.o (by simp; omega) (by simp), hzm.symm, rfl⟩)
          clear y0_ ha hb hnn hpp ht1 hmi hg1 hg2 hrj hh1 hh2 hsj hrm hsm htt hcm hzm
          have F_g := Lh (show Boxed ((((w.alloc (.cells #[.int .u64 P, .int .u64 Q, .int .u64 G] 24)).alloc (.cells #[.int .u64 0, .int .u64 0, .int .u64 0, .int .u64 0, .int .u64 0, .int .u64 0, .int .u64 0, .int .u64 0] 31)).alloc (.cells #[.int .u64 r, .int .u64 k, .int .u64 c, .int .u64 z] 22)).alloc (.cells #[.int .u64 y] 22)) (w.heap.size) P Q G from (((Boxed.at _ P Q G _ (w.heap.size) (by simp)).alloc _).alloc _).alloc _)
          have F_es := Lh (show ShL ((((w.alloc (.cells #[.int .u64 P, .int .u64 Q, .int .u64 G] 24)).alloc (.cells #[.int .u64 0, .int .u64 0, .int .u64 0, .int .u64 0, .int .u64 0, .int .u64 0, .int .u64 0, .int .u64 0] 31)).alloc (.cells #[.int .u64 r, .int .u64 k, .int .u64 c, .int .u64 z] 22)).alloc (.cells #[.int .u64 y] 22)) (some ⟨w.heap.size + 1 + 1, 0, none⟩) 4 4 [r, k, c, z] from (ShL.laid _ [r, k, c, z] _ _ (w.heap.size + 1 + 1) _ _ (by simp) rfl rfl).alloc _)
          have F_ns := Lh (show ShL ((((w.alloc (.cells #[.int .u64 P, .int .u64 Q, .int .u64 G] 24)).alloc (.cells #[.int .u64 0, .int .u64 0, .int .u64 0, .int .u64 0, .int .u64 0, .int .u64 0, .int .u64 0, .int .u64 0] 31)).alloc (.cells #[.int .u64 r, .int .u64 k, .int .u64 c, .int .u64 z] 22)).alloc (.cells #[.int .u64 y] 22)) (some ⟨w.heap.size + 1 + 1 + 1, 0, none⟩) 1 1 [y] from ShL.laid _ [y] _ _ (w.heap.size + 1 + 1 + 1) _ _ (by simp) rfl rfl)
          have F_r := Lh (show Arr .u64 ((((w.alloc (.cells #[.int .u64 P, .int .u64 Q, .int .u64 G] 24)).alloc (.cells #[.int .u64 0, .int .u64 0, .int .u64 0, .int .u64 0, .int .u64 0, .int .u64 0, .int .u64 0, .int .u64 0] 31)).alloc (.cells #[.int .u64 r, .int .u64 k, .int .u64 c, .int .u64 z] 22)).alloc (.cells #[.int .u64 y] 22)) (w.heap.size + 1) [0, 0, 0, 0, 0, 0, 0, 0] from ((Arr.new .u64 _ [0, 0, 0, 0, 0, 0, 0, 0] _ (w.heap.size + 1) (by simp)).alloc _).alloc _)
          have HBW := Lh (show Below w.heap.size w ((((w.alloc (.cells #[.int .u64 P, .int .u64 Q, .int .u64 G] 24)).alloc (.cells #[.int .u64 0, .int .u64 0, .int .u64 0, .int .u64 0, .int .u64 0, .int .u64 0, .int .u64 0, .int .u64 0] 31)).alloc (.cells #[.int .u64 r, .int .u64 k, .int .u64 c, .int .u64 z] 22)).alloc (.cells #[.int .u64 y] 22)) from ((((Below.refl _ _).alloc (by simp <;> omega) _).alloc (by simp <;> omega) _).alloc (by simp <;> omega) _).alloc (by simp <;> omega) _)
          go_enter Tryz.func30, Tryz.ntmps30
          obtain ⟨q1_0, q1_1, q1_2, q1_3, q1_4, q1_5, q1_6, q1_7, q1_8, q1_9, q1_10, q1_11, q1_12, q1_13, q1_14, q1_15⟩ := Arr.k8 F_r.o
          obtain ⟨x0a, x0b, x0c, -⟩ := id F_g.o
          go_wp2_with fail
          clear x0a x0b x0c q1_0 q1_1 q1_2 q1_3 q1_4 q1_5 q1_6 q1_7 q1_8 q1_9 q1_10 q1_11 q1_12 q1_13 q1_14 q1_15
          refine (pcheck_any _ hP hQ hG F_es.o F_ns.o (by simp) (by simp) HR.o).mono ?_
          rintro e w1 ⟨rfl, hb1⟩
          replace F_g := Lh (F_g.o.keep hb1)
          replace F_r := Lh (F_r.o.keep hb1)
          replace F_es := Lh (F_es.o.keep hb1)
          replace F_ns := Lh (F_ns.o.keep hb1)
          replace HBW := Lh (HBW.o.trans (hb1.mono HBW.o.size))
          clear hb1
          clear F_es
          clear F_ns
          obtain ⟨q1_0, q1_1, q1_2, q1_3, q1_4, q1_5, q1_6, q1_7, q1_8, q1_9, q1_10, q1_11, q1_12, q1_13, q1_14, q1_15⟩ := Arr.k8 F_r.o
          obtain ⟨x0a, x0b, x0c, -⟩ := id F_g.o
          go_wp2_with fail
          clear x0a x0b x0c q1_0 q1_1 q1_2 q1_3 q1_4 q1_5 q1_6 q1_7 q1_8 q1_9 q1_10 q1_11 q1_12 q1_13 q1_14 q1_15
          refine (plong_any _ HLG.o).mono ?_
          rintro e w2 ⟨rfl, rfl⟩
          obtain ⟨q1_0, q1_1, q1_2, q1_3, q1_4, q1_5, q1_6, q1_7, q1_8, q1_9, q1_10, q1_11, q1_12, q1_13, q1_14, q1_15⟩ := Arr.k8 F_r.o
          obtain ⟨x0a, x0b, x0c, -⟩ := id F_g.o
          go_wp2_with fail
          clear x0a x0b x0c q1_0 q1_1 q1_2 q1_3 q1_4 q1_5 q1_6 q1_7 q1_8 q1_9 q1_10 q1_11 q1_12 q1_13 q1_14 q1_15
          refine (encrypt_ok _ HH.o y0 yP (by omega) (by omega) r0_ rQ HA.o HB.o).mono ?_
          rintro e w3 ⟨rfl, hb3⟩
          replace F_g := Lh (F_g.o.keep hb3)
          replace F_r := Lh (F_r.o.keep hb3)
          replace HBW := Lh (HBW.o.trans (hb3.mono HBW.o.size))
          clear hb3
          have hzg := F_g.o.lt
          have hzr := F_r.o.lt
          obtain ⟨q1_0, q1_1, q1_2, q1_3, q1_4, q1_5, q1_6, q1_7, q1_8, q1_9, q1_10, q1_11, q1_12, q1_13, q1_14, q1_15⟩ := Arr.k8 F_r.o
          obtain ⟨x0a, x0b, x0c, -⟩ := id F_g.o
          go_wp2_with fail
          clear hzg hzr
          replace F_g := Lh (F_g.o.alloc (.cells #[.int .u64 a, .int .u64 b] 75))
          replace F_r := Lh (F_r.o.alloc (.cells #[.int .u64 a, .int .u64 b] 75))
          have F_s := Lh (Pair.new w3 a b 75)
          replace HBW := Lh (HBW.o.alloc HBW.o.size (.cells #[.int .u64 a, .int .u64 b] 75))
          clear x0a x0b x0c q1_0 q1_1 q1_2 q1_3 q1_4 q1_5 q1_6 q1_7 q1_8 q1_9 q1_10 q1_11 q1_12 q1_13 q1_14 q1_15
          refine (pneg_ok _ HH.o c0_ cQ HMI.o).mono ?_
          rintro e w4 ⟨rfl, hb4⟩
          replace F_g := Lh (F_g.o.keep hb4)
          replace F_r := Lh (F_r.o.keep hb4)
          replace F_s := Lh (F_s.o.keep hb4)
          replace HBW := Lh (HBW.o.trans (hb4.mono HBW.o.size))
          clear hb4
          have lt_g := F_g.o.lt
          have lt_r := F_r.o.lt
          have lt_s := F_s.o.lt
          obtain ⟨q1_0, q1_1, q1_2, q1_3, q1_4, q1_5, q1_6, q1_7, q1_8, q1_9, q1_10, q1_11, q1_12, q1_13, q1_14, q1_15⟩ := Arr.k8 F_r.o
          obtain ⟨x0a, x0b, x0c, -⟩ := id F_g.o
          obtain ⟨x2a, x2b, x2c, x2d, -⟩ := id F_s.o
          go_wp2_with fail
          clear x0a x0b x0c x2a x2b x2c x2d q1_0 q1_1 q1_2 q1_3 q1_4 q1_5 q1_6 q1_7 q1_8 q1_9 q1_10 q1_11 q1_12 q1_13 q1_14 q1_15
          replace F_g := Lh (F_g.o.alloc (.cells #[.int .u64 0, .int .u64 0, .int .u64 0, .int .u64 0, .int .u64 0, .int .u64 c, .int .u64 0, .int .u64 z] 31))
          replace F_r := Lh (F_r.o.alloc (.cells #[.int .u64 0, .int .u64 0, .int .u64 0, .int .u64 0, .int .u64 0, .int .u64 c, .int .u64 0, .int .u64 z] 31))
          replace F_s := Lh (F_s.o.alloc (.cells #[.int .u64 0, .int .u64 0, .int .u64 0, .int .u64 0, .int .u64 0, .int .u64 c, .int .u64 0, .int .u64 z] 31))
          have F_p := Lh (show Arr .u64 (w4.alloc (.cells #[.int .u64 0, .int .u64 0, .int .u64 0, .int .u64 0, .int .u64 0, .int .u64 c, .int .u64 0, .int .u64 z] 31)) (w4.heap.size) [0, 0, 0, 0, 0, c, 0, z] from Arr.new .u64 w4 [0, 0, 0, 0, 0, c, 0, z] _ _ rfl)
          replace HBW := Lh (HBW.o.alloc HBW.o.size (.cells #[.int .u64 0, .int .u64 0, .int .u64 0, .int .u64 0, .int .u64 0, .int .u64 c, .int .u64 0, .int .u64 z] 31))
          generalize (w4.alloc (.cells #[.int .u64 0, .int .u64 0, .int .u64 0, .int .u64 0, .int .u64 0, .int .u64 c, .int .u64 0, .int .u64 z] 31)) = wp at F_g F_r F_s F_p HBW ⊢
          generalize hbp : w4.heap.size = Bp at F_p lt_g lt_r lt_s ⊢
          clear hbp
          have hle : w.heap.size ≤ Bp := Nat.le_of_lt lt_g
          go_wp2_with fail
          replace F_g := Lh F_g.o.drew
          replace F_r := Lh F_r.o.drew
          replace F_s := Lh F_s.o.drew
          replace F_p := Lh F_p.o.drew
          replace HBW := Lh HBW.o.drew
          have hS := And.intro F_g.o.s (And.intro F_s.o.s F_p.o.s8)
          refine wp_region_stage 12 (fun w' => SBox w' w.heap.size P Q G ∧ SPair w' (w3.heap.size) a b ∧ S8 w' Bp 0 0 0 0 0 c 0 z) (by kernel_rfl) ?_
          refine tkQ 0 (some 73) (.move (.tmp 22)) 3 ?_
          simp only [sY]
          refine tk8 1 (some 74) (.load 24 (.tmp 8)) 24 [12] ?_
          simp only [sY]
          refine tk8 2 (some 75) (.load 24 (.tmp 8)) 24 [6, 11, 12] ?_
          simp only [sY]
          refine tkQ 3 (some 76) (.fieldAddr 24 (.tmp 8) 2) 0 ?_
          simp only [sY]
          refine tk8 4 (some 77) (.load 22 (.tmp 76)) 22 [6, 11, 12] ?_
          simp only [sY]
          refine tkQ 5 (some 78) (.move (.tmp 6)) 22 ?_
          simp only [sY]
          refine tk8 7 (some 80) (.load 24 (.tmp 8)) 24 [11, 12] ?_
          simp only [sY]
          refine tkQ 8 (some 81) (.fieldAddr 75 (.tmp 20) 0) 0 ?_
          simp only [sY]
          refine tk8 9 (some 82) (.load 22 (.tmp 81)) 22 [11, 12] ?_
          simp only [sY]
          refine tkQ 10 (some 83) (.move (.tmp 23)) 22 ?_
          simp only [sY]
          refine tkQ 13 (some 86) (.fieldAddr 31 (.tmp 24) 0) 0 ?_
          simp only [sY]
          refine onl (i := 6) (some 79) (.call { callee := .value (.func 68), args := #[.tmp 75, .tmp 77, .tmp 78], argTypes := #[24, 22, 22] }) 22 (fun K hK => ?_)
          unfold bareOp
          go_wp2_with (go_at_call 68; refine (ppow_ok _ HH.o hG gP UZ.o HG1.o).mono ?_; rintro e w5 ⟨rfl, hb5⟩)
          replace F_g := Lh (F_g.o.keep hb5)
          replace F_r := Lh (F_r.o.keep hb5)
          replace F_s := Lh (F_s.o.keep hb5)
          replace F_p := Lh (F_p.o.keep hb5)
          replace HBW := Lh (HBW.o.trans (hb5.mono HBW.o.size))
          replace hS := And.intro F_g.o.s (And.intro F_s.o.s F_p.o.s8)
          clear hb5
          refine hK.o _ _ (fun _ => hS) ?_
          clear hK K
          try simp only [sY]
          refine onl (i := 11) (some 84) (.call { callee := .value (.func 68), args := #[.tmp 80, .tmp 82, .tmp 83], argTypes := #[24, 22, 22] }) 22 (fun K hK => ?_)
          unfold bareOp
          go_wp2_with (go_at_call 68; refine (ppow_ok _ HH.o aa0 aaP UM.o HG2.o).mono ?_; rintro e w6 ⟨rfl, hb6⟩)
          replace F_g := Lh (F_g.o.keep hb6)
          replace F_r := Lh (F_r.o.keep hb6)
          replace F_s := Lh (F_s.o.keep hb6)
          replace F_p := Lh (F_p.o.keep hb6)
          replace HBW := Lh (HBW.o.trans (hb6.mono HBW.o.size))
          replace hS := And.intro F_g.o.s (And.intro F_s.o.s F_p.o.s8)
          clear hb6
          refine hK.o _ _ (fun _ => hS) ?_
          clear hK K
          try simp only [sY]
          refine onl (i := 12) (some 85) (.call { callee := .value (.func 67), args := #[.tmp 74, .tmp 79, .tmp 84], argTypes := #[24, 22, 22] }) 22 (fun K hK => ?_)
          unfold bareOp
          go_wp2_with (go_at_call 67; refine (pmul_ok _ HH.o g10 g1P g20 g2P HRJ.o).mono ?_; rintro e w7 ⟨rfl, hb7⟩)
          replace F_g := Lh (F_g.o.keep hb7)
          replace F_r := Lh (F_r.o.keep hb7)
          replace F_s := Lh (F_s.o.keep hb7)
          replace F_p := Lh (F_p.o.keep hb7)
          replace HBW := Lh (HBW.o.trans (hb7.mono HBW.o.size))
          replace hS := And.intro F_g.o.s (And.intro F_s.o.s F_p.o.s8)
          clear hb7
          obtain ⟨z0_, z1_, z2_, z3_, z4_, z5_, z6_, z7_, z8_, z9_, z10_, z11_, z12_, z13_, z14_, z15_⟩ := Arr.k8 F_p.o
          refine hK.o _ _ lt8 ?_
          clear hK K
          try simp only [sY]
          refine tkP (i := 14) (some 87) (.indexAddr 29 (.tmp 86) (.tmp 73)) 0 lt8 ?_
          simp only [sY]
          refine onl (i := 15) none (.store 22 (.tmp 87) (.tmp 85)) 0 (fun K hK => ?_)
          unfold bareOp
          go_wp2_with fail
          refine hK.o _ _ lt8 ?_
          clear hK K
          try simp only [sY]
          refine wpAnyB_done (by kernel_rfl) ?_ _
          clear hS z0_ z1_ z2_ z3_ z4_ z5_ z6_ z7_ z8_ z9_ z10_ z11_ z12_ z13_ z14_ z15_
          have hbS := ((Below.refl Bp w7).setCell (p := ⟨Bp, 1, none⟩) (Nat.le_refl _) (.int .u64 Rj))
          replace F_g := Lh (F_g.o.under hbS lt_g)
          replace F_r := Lh (F_r.o.under hbS lt_r)
          replace F_s := Lh (F_s.o.under hbS lt_s)
          replace F_p := Lh (F_p.o.set (ys := [0, Rj, 0, 0, 0, c, 0, z]) 1 (by simp) rfl)
          replace HBW := Lh (HBW.o.trans (hbS.mono hle))
          clear hbS
          generalize (w7.setCell ⟨Bp, 1, none⟩ (.int .u64 Rj)) = wq1 at F_g F_r F_s F_p HBW ⊢
          go_wp2_with fail
          have hix : ∀ w' : World, (Instr.index 29 (.agg #[.int .u64 b, .int .u64 t1]) (.int .i64 1)).run Tryz.prog w' = .ok (.int .u64 t1) w' := fun w' => rfl
          replace F_g := Lh F_g.o.drew
          replace F_r := Lh F_r.o.drew
          replace F_s := Lh F_s.o.drew
          replace F_p := Lh F_p.o.drew
          replace HBW := Lh HBW.o.drew
          have hS := And.intro F_g.o.s (And.intro F_s.o.s F_p.o.s8)
          refine wp_region_stage 14 (fun w' => SBox w' w.heap.size P Q G ∧ SPair w' (w3.heap.size) a b ∧ S8 w' Bp 0 Rj 0 0 0 c 0 z) (by kernel_rfl) ?_
          refine tkQ 0 (some 88) (.move (.tmp 22)) 3 ?_
          simp only [sY]
          refine tk8 1 (some 89) (.load 24 (.tmp 8)) 24 [14] ?_
          simp only [sY]
          refine tk8 2 (some 90) (.load 24 (.tmp 8)) 24 [5, 9, 11, 13, 14] ?_
          simp only [sY]
          refine tkQ 3 (some 91) (.move (.tmp 1)) 22 ?_
          simp only [sY]
          refine tkQ 4 (some 92) (.move (.tmp 6)) 22 ?_
          simp only [sY]
          refine tk8 6 (some 94) (.load 24 (.tmp 8)) 24 [13, 14] ?_
          simp only [sY]
          refine tk8 7 (some 95) (.load 24 (.tmp 8)) 24 [9, 11, 13, 14] ?_
          simp only [sY]
          refine tk8 8 (some 96) (.load 75 (.tmp 20)) 75 [9, 11, 13, 14] ?_
          simp only [sY]
          refine tkQ 10 (some 98) (.move (.tmp 22)) 3 ?_
          simp only [sY]
          refine tkQ 12 (some 100) (.move (.tmp 23)) 22 ?_
          simp only [sY]
          refine tkQ 15 (some 103) (.fieldAddr 31 (.tmp 24) 1) 0 ?_
          simp only [sY]
          refine onl (i := 5) (some 93) (.call { callee := .value (.func 68), args := #[.tmp 90, .tmp 91, .tmp 92], argTypes := #[24, 22, 22] }) 22 (fun K hK => ?_)
          unfold bareOp
          go_wp2_with (go_at_call 68; refine (ppow_ok _ HH.o y0 yP UZ.o HH1.o).mono ?_; rintro e w8 ⟨rfl, hb8⟩)
          replace F_g := Lh (F_g.o.keep hb8)
          replace F_r := Lh (F_r.o.keep hb8)
          replace F_s := Lh (F_s.o.keep hb8)
          replace F_p := Lh (F_p.o.keep hb8)
          replace HBW := Lh (HBW.o.trans (hb8.mono HBW.o.size))
          replace hS := And.intro F_g.o.s (And.intro F_s.o.s F_p.o.s8)
          clear hb8
          refine hK.o _ _ (fun _ => hS) ?_
          clear hK K
          try simp only [sY]
          refine onl (i := 9) (some 97) (.call { callee := .value (.func 69), args := #[.tmp 95, .tmp 96], argTypes := #[24, 75] }) 29 (fun K hK => ?_)
          unfold bareOp
          go_wp2_with (go_at_call 69; refine (targets_any _ HH.o bb0 bbP HNN.o HPP.o HT1.o).mono ?_; rintro e w9 ⟨rfl, hb9⟩)
          replace F_g := Lh (F_g.o.keep hb9)
          replace F_r := Lh (F_r.o.keep hb9)
          replace F_s := Lh (F_s.o.keep hb9)
          replace F_p := Lh (F_p.o.keep hb9)
          replace HBW := Lh (HBW.o.trans (hb9.mono HBW.o.size))
          replace hS := And.intro F_g.o.s (And.intro F_s.o.s F_p.o.s8)
          clear hb9
          refine hK.o _ _ (fun _ => hS) ?_
          clear hK K
          try simp only [sY]
          refine tkQ 11 (some 99) (.index 29 (.tmp 97) (.tmp 98)) 22 ?_
          simp only [sY]
          refine onl (i := 13) (some 101) (.call { callee := .value (.func 68), args := #[.tmp 94, .tmp 99, .tmp 100], argTypes := #[24, 22, 22] }) 22 (fun K hK => ?_)
          unfold bareOp
          go_wp2_with (go_at_call 68; refine (ppow_ok _ HH.o tj0 tjP UM.o HH2.o).mono ?_; rintro e w10 ⟨rfl, hb10⟩)
          replace F_g := Lh (F_g.o.keep hb10)
          replace F_r := Lh (F_r.o.keep hb10)
          replace F_s := Lh (F_s.o.keep hb10)
          replace F_p := Lh (F_p.o.keep hb10)
          replace HBW := Lh (HBW.o.trans (hb10.mono HBW.o.size))
          replace hS := And.intro F_g.o.s (And.intro F_s.o.s F_p.o.s8)
          clear hb10
          refine hK.o _ _ (fun _ => hS) ?_
          clear hK K
          try simp only [sY]
          refine onl (i := 14) (some 102) (.call { callee := .value (.func 67), args := #[.tmp 89, .tmp 93, .tmp 101], argTypes := #[24, 22, 22] }) 22 (fun K hK => ?_)
          unfold bareOp
          go_wp2_with (go_at_call 67; refine (pmul_ok _ HH.o h10 h1P h20 h2P HSJ.o).mono ?_; rintro e w11 ⟨rfl, hb11⟩)
          replace F_g := Lh (F_g.o.keep hb11)
          replace F_r := Lh (F_r.o.keep hb11)
          replace F_s := Lh (F_s.o.keep hb11)
          replace F_p := Lh (F_p.o.keep hb11)
          replace HBW := Lh (HBW.o.trans (hb11.mono HBW.o.size))
          replace hS := And.intro F_g.o.s (And.intro F_s.o.s F_p.o.s8)
          clear hb11
          obtain ⟨z0_, z1_, z2_, z3_, z4_, z5_, z6_, z7_, z8_, z9_, z10_, z11_, z12_, z13_, z14_, z15_⟩ := Arr.k8 F_p.o
          refine hK.o _ _ lt8 ?_
          clear hK K
          try simp only [sY]
          refine tkP (i := 16) (some 104) (.indexAddr 29 (.tmp 103) (.tmp 88)) 0 lt8 ?_
          simp only [sY]
          refine onl (i := 17) none (.store 22 (.tmp 104) (.tmp 102)) 0 (fun K hK => ?_)
          unfold bareOp
          go_wp2_with fail
          refine hK.o _ _ lt8 ?_
          clear hK K
          try simp only [sY]
          refine wpAnyB_done (by kernel_rfl) ?_ _
          clear hS z0_ z1_ z2_ z3_ z4_ z5_ z6_ z7_ z8_ z9_ z10_ z11_ z12_ z13_ z14_ z15_
          have hbS := ((Below.refl Bp w11).setCell (p := ⟨Bp, 3, none⟩) (Nat.le_refl _) (.int .u64 Sj))
          replace F_g := Lh (F_g.o.under hbS lt_g)
          replace F_r := Lh (F_r.o.under hbS lt_r)
          replace F_s := Lh (F_s.o.under hbS lt_s)
          replace F_p := Lh (F_p.o.set (ys := [0, Rj, 0, Sj, 0, c, 0, z]) 3 (by simp) rfl)
          replace HBW := Lh (HBW.o.trans (hbS.mono hle))
          clear hbS
          generalize (w11.setCell ⟨Bp, 3, none⟩ (.int .u64 Sj)) = wq2 at F_g F_r F_s F_p HBW ⊢
          go_wp2_with fail
          replace F_g := Lh F_g.o.drew
          replace F_r := Lh F_r.o.drew
          replace F_s := Lh F_s.o.drew
          replace F_p := Lh F_p.o.drew
          replace HBW := Lh HBW.o.drew
          have hS := And.intro F_g.o.s (And.intro F_s.o.s F_p.o.s8)
          refine wp_region_stage 10 (fun w' => SBox w' w.heap.size P Q G ∧ SPair w' (w3.heap.size) a b ∧ S8 w' Bp 0 Rj 0 Sj 0 c 0 z) (by kernel_rfl) ?_
          refine tkQ 0 (some 105) (.move (.tmp 2)) 3 ?_
          simp only [sY]
          refine tkQ 1 (some 106) (.move (.tmp 2)) 3 ?_
          simp only [sY]
          refine tk8 2 (some 107) (.load 24 (.tmp 8)) 24 [6, 10] ?_
          simp only [sY]
          refine tkQ 3 (some 108) (.fieldAddr 24 (.tmp 8) 2) 0 ?_
          simp only [sY]
          refine tk8 4 (some 109) (.load 22 (.tmp 108)) 22 [6, 10] ?_
          simp only [sY]
          refine tkQ 5 (some 110) (.move (.tmp 4)) 22 ?_
          simp only [sY]
          refine tk8 7 (some 112) (.load 24 (.tmp 8)) 24 [10] ?_
          simp only [sY]
          refine tkQ 8 (some 113) (.move (.tmp 1)) 22 ?_
          simp only [sY]
          refine tkQ 9 (some 114) (.move (.tmp 4)) 22 ?_
          simp only [sY]
          refine tkQ 11 (some 116) (.fieldAddr 31 (.tmp 24) 0) 0 ?_
          simp only [sY]
          refine tkQ 14 (some 118) (.fieldAddr 31 (.tmp 24) 1) 0 ?_
          simp only [sY]
          refine onl (i := 6) (some 111) (.call { callee := .value (.func 68), args := #[.tmp 107, .tmp 109, .tmp 110], argTypes := #[24, 22, 22] }) 22 (fun K hK => ?_)
          unfold bareOp
          go_wp2_with (go_at_call 68; refine (ppow_ok _ HH.o hG gP UK.o HRM.o).mono ?_; rintro e w12 ⟨rfl, hb12⟩)
          replace F_g := Lh (F_g.o.keep hb12)
          replace F_r := Lh (F_r.o.keep hb12)
          replace F_s := Lh (F_s.o.keep hb12)
          replace F_p := Lh (F_p.o.keep hb12)
          replace HBW := Lh (HBW.o.trans (hb12.mono HBW.o.size))
          replace hS := And.intro F_g.o.s (And.intro F_s.o.s F_p.o.s8)
          clear hb12
          refine hK.o _ _ (fun _ => hS) ?_
          clear hK K
          try simp only [sY]
          refine tkQ 12 (some 117) (.indexAddr 29 (.tmp 116) (.tmp 105)) 0 ?_
          simp only [sY]
          refine onl (i := 10) (some 115) (.call { callee := .value (.func 68), args := #[.tmp 112, .tmp 113, .tmp 114], argTypes := #[24, 22, 22] }) 22 (fun K hK => ?_)
          unfold bareOp
          go_wp2_with (go_at_call 68; refine (ppow_ok _ HH.o y0 yP UK.o HSM.o).mono ?_; rintro e w13 ⟨rfl, hb13⟩)
          replace F_g := Lh (F_g.o.keep hb13)
          replace F_r := Lh (F_r.o.keep hb13)
          replace F_s := Lh (F_s.o.keep hb13)
          replace F_p := Lh (F_p.o.keep hb13)
          replace HBW := Lh (HBW.o.trans (hb13.mono HBW.o.size))
          replace hS := And.intro F_g.o.s (And.intro F_s.o.s F_p.o.s8)
          clear hb13
          obtain ⟨z0_, z1_, z2_, z3_, z4_, z5_, z6_, z7_, z8_, z9_, z10_, z11_, z12_, z13_, z14_, z15_⟩ := Arr.k8 F_p.o
          refine hK.o _ _ lt8 ?_
          clear hK K
          try simp only [sY]
          refine onl (i := 13) none (.store 22 (.tmp 117) (.tmp 111)) 0 (fun K hK => ?_)
          unfold bareOp
          go_wp2_with fail
          refine hK.o _ _ lt8 ?_
          clear hK K
          try simp only [sY]
          refine tkP (i := 15) (some 119) (.indexAddr 29 (.tmp 118) (.tmp 106)) 0 lt8 ?_
          simp only [sY]
          refine onl (i := 16) none (.store 22 (.tmp 119) (.tmp 115)) 0 (fun K hK => ?_)
          unfold bareOp
          go_wp2_with fail
          refine hK.o _ _ lt8 ?_
          clear hK K
          try simp only [sY]
          refine wpAnyB_done (by kernel_rfl) ?_ _
          clear hS z0_ z1_ z2_ z3_ z4_ z5_ z6_ z7_ z8_ z9_ z10_ z11_ z12_ z13_ z14_ z15_
          have hbS := (((Below.refl Bp w13).setCell (p := ⟨Bp, 0, none⟩) (Nat.le_refl _) (.int .u64 Rm)).setCell (p := ⟨Bp, 2, none⟩) (Nat.le_refl _) (.int .u64 Sm))
          replace F_g := Lh (F_g.o.under hbS lt_g)
          replace F_r := Lh (F_r.o.under hbS lt_r)
          replace F_s := Lh (F_s.o.under hbS lt_s)
          replace F_p := Lh ((F_p.o.set (ys := [Rm, Rj, 0, Sj, 0, c, 0, z]) 0 (by simp) rfl).set (ys := [Rm, Rj, Sm, Sj, 0, c, 0, z]) 2 (by simp) rfl)
          replace HBW := Lh (HBW.o.trans (hbS.mono hle))
          clear hbS
          generalize ((w13.setCell ⟨Bp, 0, none⟩ (.int .u64 Rm)).setCell ⟨Bp, 2, none⟩ (.int .u64 Sm)) = wq3 at F_g F_r F_s F_p HBW ⊢
          go_wp2_with fail
          replace F_g := Lh F_g.o.drew
          replace F_r := Lh F_r.o.drew
          replace F_s := Lh F_s.o.drew
          replace F_p := Lh F_p.o.drew
          replace HBW := Lh HBW.o.drew
          have hS := And.intro F_g.o.s (And.intro F_s.o.s F_p.o.s8)
          refine wp_region_stage 9 (fun w' => SBox w' w.heap.size P Q G ∧ SPair w' (w3.heap.size) a b ∧ S8 w' Bp Rm Rj Sm Sj 0 c 0 z) (by kernel_rfl) ?_
          refine tkQ 0 (some 121) (.move (.tmp 2)) 3 ?_
          simp only [sY]
          refine tk8 1 (some 122) (.load 24 (.tmp 8)) 24 [9] ?_
          simp only [sY]
          refine tk8 2 (some 123) (.load 24 (.tmp 8)) 24 [7, 9] ?_
          simp only [sY]
          refine tkQ 3 (some 124) (.move (.tmp 1)) 22 ?_
          simp only [sY]
          refine tk8 4 (some 125) (.load 75 (.tmp 20)) 75 [7, 9] ?_
          simp only [sY]
          refine tk8 5 (some 126) (.load 31 (.tmp 24)) 31 [7, 9] ?_
          simp only [sY]
          refine tkQ 6 (some 127) (.move (.tmp 7)) 80 ?_
          simp only [sY]
          refine tkQ 8 (some 129) (.move (.tmp 5)) 22 ?_
          simp only [sY]
          refine tkQ 13 (some 133) (.fieldAddr 31 (.tmp 24) 2) 0 ?_
          simp only [sY]
          refine onl (i := 7) (some 128) (.call { callee := .value (.func 71), args := #[.tmp 123, .tmp 124, .tmp 125, .tmp 126, .tmp 127], argTypes := #[24, 22, 75, 31, 80] }) 22 (fun K hK => ?_)
          unfold bareOp
          go_wp2_with (go_at_call 71; refine (ptotal_any _ (HT.o.keep HBW.o) HH.o HUS.o hn8 HTT.o).mono ?_; rintro e w14 ⟨rfl, hb14⟩)
          replace F_g := Lh (F_g.o.keep hb14)
          replace F_r := Lh (F_r.o.keep hb14)
          replace F_s := Lh (F_s.o.keep hb14)
          replace F_p := Lh (F_p.o.keep hb14)
          replace HBW := Lh (HBW.o.trans (hb14.mono HBW.o.size))
          replace hS := And.intro F_g.o.s (And.intro F_s.o.s F_p.o.s8)
          clear hb14
          refine hK.o _ _ (fun _ => hS) ?_
          clear hK K
          try simp only [sY]
          refine onl (i := 9) (some 130) (.call { callee := .value (.func 70), args := #[.tmp 122, .tmp 128, .tmp 129], argTypes := #[24, 22, 22] }) 81 (fun K hK => ?_)
          unfold bareOp
          go_wp2_with (go_at_call 70; refine (subExp_ok P Q G tot c Cm _ HH.o tot0 totQ c0_ cQ HCM.o).mono ?_; rintro e w15 ⟨rfl, hb15⟩)
          replace F_g := Lh (F_g.o.keep hb15)
          replace F_r := Lh (F_r.o.keep hb15)
          replace F_s := Lh (F_s.o.keep hb15)
          replace F_p := Lh (F_p.o.keep hb15)
          replace HBW := Lh (HBW.o.trans (hb15.mono HBW.o.size))
          replace hS := And.intro F_g.o.s (And.intro F_s.o.s F_p.o.s8)
          clear hb15
          obtain ⟨z0_, z1_, z2_, z3_, z4_, z5_, z6_, z7_, z8_, z9_, z10_, z11_, z12_, z13_, z14_, z15_⟩ := Arr.k8 F_p.o
          refine hK.o _ _ lt8 ?_
          clear hK K
          try simp only [sY]
          refine tkP (i := 10) (some 120) (.move (.tmp 130)) 81 lt8 ?_
          simp only [sY]
          refine tkP (i := 11) (some 131) (.extract (.tmp 120) 0) 22 lt8 ?_
          simp only [sY]
          refine tkP (i := 12) (some 132) (.extract (.tmp 120) 1) 38 lt8 ?_
          simp only [sY]
          refine tkP (i := 14) (some 134) (.indexAddr 29 (.tmp 133) (.tmp 121)) 0 lt8 ?_
          simp only [sY]
          refine onl (i := 15) none (.store 22 (.tmp 134) (.tmp 131)) 0 (fun K hK => ?_)
          unfold bareOp
          go_wp2_with fail
          refine hK.o _ _ lt8 ?_
          clear hK K
          try simp only [sY]
          refine wpAnyB_done (by kernel_rfl) ?_ _
          clear hS z0_ z1_ z2_ z3_ z4_ z5_ z6_ z7_ z8_ z9_ z10_ z11_ z12_ z13_ z14_ z15_
          have hbS := ((Below.refl Bp w15).setCell (p := ⟨Bp, 4, none⟩) (Nat.le_refl _) (.int .u64 Cm))
          replace F_g := Lh (F_g.o.under hbS lt_g)
          replace F_r := Lh (F_r.o.under hbS lt_r)
          replace F_s := Lh (F_s.o.under hbS lt_s)
          replace F_p := Lh (F_p.o.set (ys := [Rm, Rj, Sm, Sj, Cm, c, 0, z]) 4 (by simp) rfl)
          replace HBW := Lh (HBW.o.trans (hbS.mono hle))
          clear hbS
          generalize (w15.setCell ⟨Bp, 4, none⟩ (.int .u64 Cm)) = wq4 at F_g F_r F_s F_p HBW ⊢
          go_wp2_with fail
          replace F_g := Lh F_g.o.drew
          replace F_r := Lh F_r.o.drew
          replace F_s := Lh F_s.o.drew
          replace F_p := Lh F_p.o.drew
          replace HBW := Lh HBW.o.drew
          have hS := And.intro F_g.o.s (And.intro F_s.o.s F_p.o.s8)
          refine wp_region_stage 8 (fun w' => SBox w' w.heap.size P Q G ∧ SPair w' (w3.heap.size) a b ∧ S8 w' Bp Rm Rj Sm Sj Cm c 0 z) (by kernel_rfl) ?_
          refine tkQ 0 (some 136) (.move (.tmp 2)) 3 ?_
          simp only [sY]
          refine tk8 1 (some 137) (.load 24 (.tmp 8)) 24 [8] ?_
          simp only [sY]
          refine tkQ 2 (some 138) (.move (.tmp 3)) 22 ?_
          simp only [sY]
          refine tkQ 3 (some 139) (.move (.tmp 4)) 22 ?_
          simp only [sY]
          refine tkQ 4 (some 140) (.move (.tmp 2)) 3 ?_
          simp only [sY]
          refine tkQ 5 (some 141) (.fieldAddr 31 (.tmp 24) 2) 0 ?_
          simp only [sY]
          refine tkQ 6 (some 142) (.indexAddr 29 (.tmp 141) (.tmp 140)) 0 ?_
          simp only [sY]
          refine tk8 7 (some 143) (.load 22 (.tmp 142)) 22 [8] ?_
          simp only [sY]
          refine tkQ 12 (some 147) (.fieldAddr 31 (.tmp 24) 3) 0 ?_
          simp only [sY]
          refine onl (i := 8) (some 144) (.call { callee := .value (.func 72), args := #[.tmp 137, .tmp 138, .tmp 139, .tmp 143], argTypes := #[24, 22, 22, 22] }) 81 (fun K hK => ?_)
          unfold bareOp
          go_wp2_with (go_at_call 72; refine (srespond_any (v := Zm) (r := 0) _ hP hQ hG r0_ k0_ cm0 HZS.o).mono ?_; rintro e w16 ⟨rfl, hb16⟩)
          replace F_g := Lh (F_g.o.keep hb16)
          replace F_r := Lh (F_r.o.keep hb16)
          replace F_s := Lh (F_s.o.keep hb16)
          replace F_p := Lh (F_p.o.keep hb16)
          replace HBW := Lh (HBW.o.trans (hb16.mono HBW.o.size))
          replace hS := And.intro F_g.o.s (And.intro F_s.o.s F_p.o.s8)
          clear hb16
          obtain ⟨z0_, z1_, z2_, z3_, z4_, z5_, z6_, z7_, z8_, z9_, z10_, z11_, z12_, z13_, z14_, z15_⟩ := Arr.k8 F_p.o
          refine hK.o _ _ lt8 ?_
          clear hK K
          try simp only [sY]
          refine tkP (i := 9) (some 135) (.move (.tmp 144)) 81 lt8 ?_
          simp only [sY]
          refine tkP (i := 10) (some 145) (.extract (.tmp 135) 0) 22 lt8 ?_
          simp only [sY]
          refine tkP (i := 11) (some 146) (.extract (.tmp 135) 1) 38 lt8 ?_
          simp only [sY]
          refine tkP (i := 13) (some 148) (.indexAddr 29 (.tmp 147) (.tmp 136)) 0 lt8 ?_
          simp only [sY]
          refine onl (i := 14) none (.store 22 (.tmp 148) (.tmp 145)) 0 (fun K hK => ?_)
          unfold bareOp
          go_wp2_with fail
          refine hK.o _ _ lt8 ?_
          clear hK K
          try simp only [sY]
          refine wpAnyB_done (by kernel_rfl) ?_ _
          clear hS z0_ z1_ z2_ z3_ z4_ z5_ z6_ z7_ z8_ z9_ z10_ z11_ z12_ z13_ z14_ z15_
          have hbS := ((Below.refl Bp w16).setCell (p := ⟨Bp, 6, none⟩) (Nat.le_refl _) (.int .u64 Zm))
          replace F_g := Lh (F_g.o.under hbS lt_g)
          replace F_r := Lh (F_r.o.under hbS lt_r)
          replace F_s := Lh (F_s.o.under hbS lt_s)
          replace F_p := Lh (F_p.o.set (ys := [Rm, Rj, Sm, Sj, Cm, c, Zm, z]) 6 (by simp) rfl)
          replace HBW := Lh (HBW.o.trans (hbS.mono hle))
          clear hbS
          generalize (w16.setCell ⟨Bp, 6, none⟩ (.int .u64 Zm)) = wq5 at F_g F_r F_s F_p HBW ⊢
          obtain ⟨q1_0, q1_1, q1_2, q1_3, q1_4, q1_5, q1_6, q1_7, q1_8, q1_9, q1_10, q1_11, q1_12, q1_13, q1_14, q1_15⟩ := Arr.k8 F_r.o
          obtain ⟨q3_0, q3_1, q3_2, q3_3, q3_4, q3_5, q3_6, q3_7, q3_8, q3_9, q3_10, q3_11, q3_12, q3_13, q3_14, q3_15⟩ := Arr.k8 F_p.o
          obtain ⟨x0a, x0b, x0c, -⟩ := id F_g.o
          obtain ⟨x2a, x2b, x2c, x2d, -⟩ := id F_s.o
          go_wp2_with fail
          clear x0a x0b x0c x2a x2b x2c x2d q1_0 q1_1 q1_2 q1_3 q1_4 q1_5 q1_6 q1_7 q1_8 q1_9 q1_10 q1_11 q1_12 q1_13 q1_14 q1_15 q3_0 q3_1 q3_2 q3_3 q3_4 q3_5 q3_6 q3_7 q3_8 q3_9 q3_10 q3_11 q3_12 q3_13 q3_14 q3_15
          exact bodyPost_ret (res_bit rfl (F_r.o.st8 Rm Rj Sm Sj Cm c Zm z) _ rfl rfl) rfl ⟨rfl, ((((((((HBW.o).setCell (by simp <;> omega) _).setCell (by simp <;> omega) _).setCell (by simp <;> omega) _).setCell (by simp <;> omega) _).setCell (by simp <;> omega) _).setCell (by simp <;> omega) _).setCell (by simp <;> omega) _).setCell (by simp <;> omega) _⟩
        · skip
          obtain ⟨a, b, nn, pp, t1, mi, g1, g2, Rj, h1, h2, Sj, Rm, Sm, tot, Cm, Zm, ha, hb, hnn, hpp, ht1, hmi, hg1, hg2, hrj, hh1, hh2, hsj, hrm, hsm, htt, hcm, hzm, hf⟩ := hZ
          rw [if_neg (by decide)] at hh2 htt hf
          obtain ⟨q1, q2, q3_, q4, q5, q6, q7, q8⟩ := hf
          replace q1 := q1.symm
          subst q1
          replace q2 := q2.symm
          subst q2
          replace q3_ := q3_.symm
          subst q3_
          replace q4 := q4.symm
          subst q4
          replace q5 := q5.symm
          subst q5
          replace q6 := q6.symm
          subst q6
          replace q7 := q7.symm
          subst q7
          replace q8 := q8.symm
          subst q8
          have y0_ := y0
          have aa0 : 0 ≤ a := by rw [← ha]; exact powm_nonneg (by omega)
          have aaP : a < P := by rw [← ha]; exact powm_lt (by omega)
          have bb0 : 0 ≤ b := by rw [← hb]; exact Int.emod_nonneg _ (by omega)
          have bbP : b < P := by rw [← hb]; exact Int.emod_lt_of_pos _ (by omega)
          have t10 : 0 ≤ t1 := by rw [← ht1]; exact Int.emod_nonneg _ (by omega)
          have t1P : t1 < P := by rw [← ht1]; exact Int.emod_lt_of_pos _ (by omega)
          have tj0 : 0 ≤ b := by assumption
          have tjP : b < P := by assumption
          have mi0 : 0 ≤ mi := by rw [← hmi]; exact Int.emod_nonneg _ (by omega)
          have miQ : mi < Q := by rw [← hmi]; exact Int.emod_lt_of_pos _ (by omega)
          have g10 : 0 ≤ g1 := by rw [← hg1]; exact powm_nonneg (by omega)
          have g1P : g1 < P := by rw [← hg1]; exact powm_lt (by omega)
          have g20 : 0 ≤ g2 := by rw [← hg2]; exact powm_nonneg (by omega)
          have g2P : g2 < P := by rw [← hg2]; exact powm_lt (by omega)
          have h10 : 0 ≤ h1 := by rw [← hh1]; exact powm_nonneg (by omega)
          have h1P : h1 < P := by rw [← hh1]; exact powm_lt (by omega)
          have h20 : 0 ≤ h2 := by rw [← hh2]; exact powm_nonneg (by omega)
          have h2P : h2 < P := by rw [← hh2]; exact powm_lt (by omega)
          have rj0 : 0 ≤ Rj := by rw [← hrj]; exact Int.emod_nonneg _ (by omega)
          have rjP : Rj < P := by rw [← hrj]; exact Int.emod_lt_of_pos _ (by omega)
          have sj0 : 0 ≤ Sj := by rw [← hsj]; exact Int.emod_nonneg _ (by omega)
          have sjP : Sj < P := by rw [← hsj]; exact Int.emod_lt_of_pos _ (by omega)
          have rm0 : 0 ≤ Rm := by rw [← hrm]; exact powm_nonneg (by omega)
          have rmP : Rm < P := by rw [← hrm]; exact powm_lt (by omega)
          have sm0 : 0 ≤ Sm := by rw [← hsm]; exact powm_nonneg (by omega)
          have smP : Sm < P := by rw [← hsm]; exact powm_lt (by omega)
          obtain ⟨tot0, totQ⟩ : 0 ≤ tot ∧ tot < Q := by rw [← htt]; exact chV_range (by omega) _ _
          have cm0 : 0 ≤ Cm := by rw [← hcm]; exact Int.emod_nonneg _ (by omega)
          have cmQ : Cm < Q := by rw [← hcm]; exact Int.emod_lt_of_pos _ (by omega)
          have UZ := Lh (U64.of_lt z0_ (by omega))
          have UK := Lh (U64.of_lt k0_ (by omega))
          have UM := Lh (U64.of_lt mi0 (by omega))
          have HUS := Lh (show ∀ x, x ∈ [y, a, b, Rj, Sj, Rm, Sm] → U64 x from fun x hx => by
           simp at hx
           rcases hx with rfl | rfl | rfl | rfl | rfl | rfl | rfl <;> exact U64.of_lt (by assumption) (by omega))
          have HA := Lh ha
          have HB := Lh hb
          have HNN := Lh hnn
          have HPP := Lh hpp
          have HT1 := Lh ht1
          have HMI := Lh hmi
          have HG1 := Lh hg1
          have HG2 := Lh hg2
          have HRJ := Lh hrj
          have HH1 := Lh hh1
          have HH2 := Lh hh2
          have HSJ := Lh hsj
          have HRM := Lh hrm
          have HSM := Lh hsm
          have HTT := Lh htt
          have HCM := Lh hcm
          have HZS := Lh (show RetS (askS P Q G [r, k, Cm] []) ((k + Cm * r % Q) % Q) Zm 0 from .inl ⟨askS_ok HH.o (by simp; omega) (by simp), hzm.symm, rfl⟩)
          clear y0_ ha hb hnn hpp ht1 hmi hg1 hg2 hrj hh1 hh2 hsj hrm hsm htt hcm hzm
          have F_g := Lh (show Boxed ((((w.alloc (.cells #[.int .u64 P, .int .u64 Q, .int .u64 G] 24)).alloc (.cells #[.int .u64 0, .int .u64 0, .int .u64 0, .int .u64 0, .int .u64 0, .int .u64 0, .int .u64 0, .int .u64 0] 31)).alloc (.cells #[.int .u64 r, .int .u64 k, .int .u64 c, .int .u64 z] 22)).alloc (.cells #[.int .u64 y] 22)) (w.heap.size) P Q G from (((Boxed.at _ P Q G _ (w.heap.size) (by simp)).alloc _).alloc _).alloc _)
          have F_es := Lh (show ShL ((((w.alloc (.cells #[.int .u64 P, .int .u64 Q, .int .u64 G] 24)).alloc (.cells #[.int .u64 0, .int .u64 0, .int .u64 0, .int .u64 0, .int .u64 0, .int .u64 0, .int .u64 0, .int .u64 0] 31)).alloc (.cells #[.int .u64 r, .int .u64 k, .int .u64 c, .int .u64 z] 22)).alloc (.cells #[.int .u64 y] 22)) (some ⟨w.heap.size + 1 + 1, 0, none⟩) 4 4 [r, k, c, z] from (ShL.laid _ [r, k, c, z] _ _ (w.heap.size + 1 + 1) _ _ (by simp) rfl rfl).alloc _)
          have F_ns := Lh (show ShL ((((w.alloc (.cells #[.int .u64 P, .int .u64 Q, .int .u64 G] 24)).alloc (.cells #[.int .u64 0, .int .u64 0, .int .u64 0, .int .u64 0, .int .u64 0, .int .u64 0, .int .u64 0, .int .u64 0] 31)).alloc (.cells #[.int .u64 r, .int .u64 k, .int .u64 c, .int .u64 z] 22)).alloc (.cells #[.int .u64 y] 22)) (some ⟨w.heap.size + 1 + 1 + 1, 0, none⟩) 1 1 [y] from ShL.laid _ [y] _ _ (w.heap.size + 1 + 1 + 1) _ _ (by simp) rfl rfl)
          have F_r := Lh (show Arr .u64 ((((w.alloc (.cells #[.int .u64 P, .int .u64 Q, .int .u64 G] 24)).alloc (.cells #[.int .u64 0, .int .u64 0, .int .u64 0, .int .u64 0, .int .u64 0, .int .u64 0, .int .u64 0, .int .u64 0] 31)).alloc (.cells #[.int .u64 r, .int .u64 k, .int .u64 c, .int .u64 z] 22)).alloc (.cells #[.int .u64 y] 22)) (w.heap.size + 1) [0, 0, 0, 0, 0, 0, 0, 0] from ((Arr.new .u64 _ [0, 0, 0, 0, 0, 0, 0, 0] _ (w.heap.size + 1) (by simp)).alloc _).alloc _)
          have HBW := Lh (show Below w.heap.size w ((((w.alloc (.cells #[.int .u64 P, .int .u64 Q, .int .u64 G] 24)).alloc (.cells #[.int .u64 0, .int .u64 0, .int .u64 0, .int .u64 0, .int .u64 0, .int .u64 0, .int .u64 0, .int .u64 0] 31)).alloc (.cells #[.int .u64 r, .int .u64 k, .int .u64 c, .int .u64 z] 22)).alloc (.cells #[.int .u64 y] 22)) from ((((Below.refl _ _).alloc (by simp <;> omega) _).alloc (by simp <;> omega) _).alloc (by simp <;> omega) _).alloc (by simp <;> omega) _)
          go_enter Tryz.func30, Tryz.ntmps30
          obtain ⟨q1_0, q1_1, q1_2, q1_3, q1_4, q1_5, q1_6, q1_7, q1_8, q1_9, q1_10, q1_11, q1_12, q1_13, q1_14, q1_15⟩ := Arr.k8 F_r.o
          obtain ⟨x0a, x0b, x0c, -⟩ := id F_g.o
          go_wp2_with fail
          clear x0a x0b x0c q1_0 q1_1 q1_2 q1_3 q1_4 q1_5 q1_6 q1_7 q1_8 q1_9 q1_10 q1_11 q1_12 q1_13 q1_14 q1_15
          refine (pcheck_any _ hP hQ hG F_es.o F_ns.o (by simp) (by simp) HR.o).mono ?_
          rintro e w1 ⟨rfl, hb1⟩
          replace F_g := Lh (F_g.o.keep hb1)
          replace F_r := Lh (F_r.o.keep hb1)
          replace F_es := Lh (F_es.o.keep hb1)
          replace F_ns := Lh (F_ns.o.keep hb1)
          replace HBW := Lh (HBW.o.trans (hb1.mono HBW.o.size))
          clear hb1
          clear F_es
          clear F_ns
          obtain ⟨q1_0, q1_1, q1_2, q1_3, q1_4, q1_5, q1_6, q1_7, q1_8, q1_9, q1_10, q1_11, q1_12, q1_13, q1_14, q1_15⟩ := Arr.k8 F_r.o
          obtain ⟨x0a, x0b, x0c, -⟩ := id F_g.o
          go_wp2_with fail
          clear x0a x0b x0c q1_0 q1_1 q1_2 q1_3 q1_4 q1_5 q1_6 q1_7 q1_8 q1_9 q1_10 q1_11 q1_12 q1_13 q1_14 q1_15
          refine (plong_any _ HLG.o).mono ?_
          rintro e w2 ⟨rfl, rfl⟩
          obtain ⟨q1_0, q1_1, q1_2, q1_3, q1_4, q1_5, q1_6, q1_7, q1_8, q1_9, q1_10, q1_11, q1_12, q1_13, q1_14, q1_15⟩ := Arr.k8 F_r.o
          obtain ⟨x0a, x0b, x0c, -⟩ := id F_g.o
          go_wp2_with fail
          clear x0a x0b x0c q1_0 q1_1 q1_2 q1_3 q1_4 q1_5 q1_6 q1_7 q1_8 q1_9 q1_10 q1_11 q1_12 q1_13 q1_14 q1_15
          refine (encrypt_ok _ HH.o y0 yP (by omega) (by omega) r0_ rQ HA.o HB.o).mono ?_
          rintro e w3 ⟨rfl, hb3⟩
          replace F_g := Lh (F_g.o.keep hb3)
          replace F_r := Lh (F_r.o.keep hb3)
          replace HBW := Lh (HBW.o.trans (hb3.mono HBW.o.size))
          clear hb3
          have hzg := F_g.o.lt
          have hzr := F_r.o.lt
          obtain ⟨q1_0, q1_1, q1_2, q1_3, q1_4, q1_5, q1_6, q1_7, q1_8, q1_9, q1_10, q1_11, q1_12, q1_13, q1_14, q1_15⟩ := Arr.k8 F_r.o
          obtain ⟨x0a, x0b, x0c, -⟩ := id F_g.o
          go_wp2_with fail
          clear hzg hzr
          replace F_g := Lh (F_g.o.alloc (.cells #[.int .u64 a, .int .u64 b] 75))
          replace F_r := Lh (F_r.o.alloc (.cells #[.int .u64 a, .int .u64 b] 75))
          have F_s := Lh (Pair.new w3 a b 75)
          replace HBW := Lh (HBW.o.alloc HBW.o.size (.cells #[.int .u64 a, .int .u64 b] 75))
          clear x0a x0b x0c q1_0 q1_1 q1_2 q1_3 q1_4 q1_5 q1_6 q1_7 q1_8 q1_9 q1_10 q1_11 q1_12 q1_13 q1_14 q1_15
          refine (pneg_ok _ HH.o c0_ cQ HMI.o).mono ?_
          rintro e w4 ⟨rfl, hb4⟩
          replace F_g := Lh (F_g.o.keep hb4)
          replace F_r := Lh (F_r.o.keep hb4)
          replace F_s := Lh (F_s.o.keep hb4)
          replace HBW := Lh (HBW.o.trans (hb4.mono HBW.o.size))
          clear hb4
          have lt_g := F_g.o.lt
          have lt_r := F_r.o.lt
          have lt_s := F_s.o.lt
          obtain ⟨q1_0, q1_1, q1_2, q1_3, q1_4, q1_5, q1_6, q1_7, q1_8, q1_9, q1_10, q1_11, q1_12, q1_13, q1_14, q1_15⟩ := Arr.k8 F_r.o
          obtain ⟨x0a, x0b, x0c, -⟩ := id F_g.o
          obtain ⟨x2a, x2b, x2c, x2d, -⟩ := id F_s.o
          go_wp2_with fail
          clear x0a x0b x0c x2a x2b x2c x2d q1_0 q1_1 q1_2 q1_3 q1_4 q1_5 q1_6 q1_7 q1_8 q1_9 q1_10 q1_11 q1_12 q1_13 q1_14 q1_15
          replace F_g := Lh (F_g.o.alloc (.cells #[.int .u64 0, .int .u64 0, .int .u64 0, .int .u64 0, .int .u64 c, .int .u64 0, .int .u64 z, .int .u64 0] 31))
          replace F_r := Lh (F_r.o.alloc (.cells #[.int .u64 0, .int .u64 0, .int .u64 0, .int .u64 0, .int .u64 c, .int .u64 0, .int .u64 z, .int .u64 0] 31))
          replace F_s := Lh (F_s.o.alloc (.cells #[.int .u64 0, .int .u64 0, .int .u64 0, .int .u64 0, .int .u64 c, .int .u64 0, .int .u64 z, .int .u64 0] 31))
          have F_p := Lh (show Arr .u64 (w4.alloc (.cells #[.int .u64 0, .int .u64 0, .int .u64 0, .int .u64 0, .int .u64 c, .int .u64 0, .int .u64 z, .int .u64 0] 31)) (w4.heap.size) [0, 0, 0, 0, c, 0, z, 0] from Arr.new .u64 w4 [0, 0, 0, 0, c, 0, z, 0] _ _ rfl)
          replace HBW := Lh (HBW.o.alloc HBW.o.size (.cells #[.int .u64 0, .int .u64 0, .int .u64 0, .int .u64 0, .int .u64 c, .int .u64 0, .int .u64 z, .int .u64 0] 31))
          generalize (w4.alloc (.cells #[.int .u64 0, .int .u64 0, .int .u64 0, .int .u64 0, .int .u64 c, .int .u64 0, .int .u64 z, .int .u64 0] 31)) = wp at F_g F_r F_s F_p HBW ⊢
          generalize hbp : w4.heap.size = Bp at F_p lt_g lt_r lt_s ⊢
          clear hbp
          have hle : w.heap.size ≤ Bp := Nat.le_of_lt lt_g
          go_wp2_with fail
          replace F_g := Lh F_g.o.drew
          replace F_r := Lh F_r.o.drew
          replace F_s := Lh F_s.o.drew
          replace F_p := Lh F_p.o.drew
          replace HBW := Lh HBW.o.drew
          have hS := And.intro F_g.o.s (And.intro F_s.o.s F_p.o.s8)
          refine wp_region_stage 12 (fun w' => SBox w' w.heap.size P Q G ∧ SPair w' (w3.heap.size) a b ∧ S8 w' Bp 0 0 0 0 c 0 z 0) (by kernel_rfl) ?_
          refine tkQ 0 (some 73) (.move (.tmp 22)) 3 ?_
          simp only [sY]
          refine tk8 1 (some 74) (.load 24 (.tmp 8)) 24 [12] ?_
          simp only [sY]
          refine tk8 2 (some 75) (.load 24 (.tmp 8)) 24 [6, 11, 12] ?_
          simp only [sY]
          refine tkQ 3 (some 76) (.fieldAddr 24 (.tmp 8) 2) 0 ?_
          simp only [sY]
          refine tk8 4 (some 77) (.load 22 (.tmp 76)) 22 [6, 11, 12] ?_
          simp only [sY]
          refine tkQ 5 (some 78) (.move (.tmp 6)) 22 ?_
          simp only [sY]
          refine tk8 7 (some 80) (.load 24 (.tmp 8)) 24 [11, 12] ?_
          simp only [sY]
          refine tkQ 8 (some 81) (.fieldAddr 75 (.tmp 20) 0) 0 ?_
          simp only [sY]
          refine tk8 9 (some 82) (.load 22 (.tmp 81)) 22 [11, 12] ?_
          simp only [sY]
          refine tkQ 10 (some 83) (.move (.tmp 23)) 22 ?_
          simp only [sY]
          refine tkQ 13 (some 86) (.fieldAddr 31 (.tmp 24) 0) 0 ?_
          simp only [sY]
          refine onl (i := 6) (some 79) (.call { callee := .value (.func 68), args := #[.tmp 75, .tmp 77, .tmp 78], argTypes := #[24, 22, 22] }) 22 (fun K hK => ?_)
          unfold bareOp
          go_wp2_with (go_at_call 68; refine (ppow_ok _ HH.o hG gP UZ.o HG1.o).mono ?_; rintro e w5 ⟨rfl, hb5⟩)
          replace F_g := Lh (F_g.o.keep hb5)
          replace F_r := Lh (F_r.o.keep hb5)
          replace F_s := Lh (F_s.o.keep hb5)
          replace F_p := Lh (F_p.o.keep hb5)
          replace HBW := Lh (HBW.o.trans (hb5.mono HBW.o.size))
          replace hS := And.intro F_g.o.s (And.intro F_s.o.s F_p.o.s8)
          clear hb5
          refine hK.o _ _ (fun _ => hS) ?_
          clear hK K
          try simp only [sY]
          refine onl (i := 11) (some 84) (.call { callee := .value (.func 68), args := #[.tmp 80, .tmp 82, .tmp 83], argTypes := #[24, 22, 22] }) 22 (fun K hK => ?_)
          unfold bareOp
          go_wp2_with (go_at_call 68; refine (ppow_ok _ HH.o aa0 aaP UM.o HG2.o).mono ?_; rintro e w6 ⟨rfl, hb6⟩)
          replace F_g := Lh (F_g.o.keep hb6)
          replace F_r := Lh (F_r.o.keep hb6)
          replace F_s := Lh (F_s.o.keep hb6)
          replace F_p := Lh (F_p.o.keep hb6)
          replace HBW := Lh (HBW.o.trans (hb6.mono HBW.o.size))
          replace hS := And.intro F_g.o.s (And.intro F_s.o.s F_p.o.s8)
          clear hb6
          refine hK.o _ _ (fun _ => hS) ?_
          clear hK K
          try simp only [sY]
          refine onl (i := 12) (some 85) (.call { callee := .value (.func 67), args := #[.tmp 74, .tmp 79, .tmp 84], argTypes := #[24, 22, 22] }) 22 (fun K hK => ?_)
          unfold bareOp
          go_wp2_with (go_at_call 67; refine (pmul_ok _ HH.o g10 g1P g20 g2P HRJ.o).mono ?_; rintro e w7 ⟨rfl, hb7⟩)
          replace F_g := Lh (F_g.o.keep hb7)
          replace F_r := Lh (F_r.o.keep hb7)
          replace F_s := Lh (F_s.o.keep hb7)
          replace F_p := Lh (F_p.o.keep hb7)
          replace HBW := Lh (HBW.o.trans (hb7.mono HBW.o.size))
          replace hS := And.intro F_g.o.s (And.intro F_s.o.s F_p.o.s8)
          clear hb7
          obtain ⟨z0_, z1_, z2_, z3_, z4_, z5_, z6_, z7_, z8_, z9_, z10_, z11_, z12_, z13_, z14_, z15_⟩ := Arr.k8 F_p.o
          refine hK.o _ _ lt8 ?_
          clear hK K
          try simp only [sY]
          refine tkP (i := 14) (some 87) (.indexAddr 29 (.tmp 86) (.tmp 73)) 0 lt8 ?_
          simp only [sY]
          refine onl (i := 15) none (.store 22 (.tmp 87) (.tmp 85)) 0 (fun K hK => ?_)
          unfold bareOp
          go_wp2_with fail
          refine hK.o _ _ lt8 ?_
          clear hK K
          try simp only [sY]
          refine wpAnyB_done (by kernel_rfl) ?_ _
          clear hS z0_ z1_ z2_ z3_ z4_ z5_ z6_ z7_ z8_ z9_ z10_ z11_ z12_ z13_ z14_ z15_
          have hbS := ((Below.refl Bp w7).setCell (p := ⟨Bp, 0, none⟩) (Nat.le_refl _) (.int .u64 Rj))
          replace F_g := Lh (F_g.o.under hbS lt_g)
          replace F_r := Lh (F_r.o.under hbS lt_r)
          replace F_s := Lh (F_s.o.under hbS lt_s)
          replace F_p := Lh (F_p.o.set (ys := [Rj, 0, 0, 0, c, 0, z, 0]) 0 (by simp) rfl)
          replace HBW := Lh (HBW.o.trans (hbS.mono hle))
          clear hbS
          generalize (w7.setCell ⟨Bp, 0, none⟩ (.int .u64 Rj)) = wq1 at F_g F_r F_s F_p HBW ⊢
          go_wp2_with fail
          have hix : ∀ w' : World, (Instr.index 29 (.agg #[.int .u64 b, .int .u64 t1]) (.int .i64 0)).run Tryz.prog w' = .ok (.int .u64 b) w' := fun w' => rfl
          replace F_g := Lh F_g.o.drew
          replace F_r := Lh F_r.o.drew
          replace F_s := Lh F_s.o.drew
          replace F_p := Lh F_p.o.drew
          replace HBW := Lh HBW.o.drew
          have hS := And.intro F_g.o.s (And.intro F_s.o.s F_p.o.s8)
          refine wp_region_stage 14 (fun w' => SBox w' w.heap.size P Q G ∧ SPair w' (w3.heap.size) a b ∧ S8 w' Bp Rj 0 0 0 c 0 z 0) (by kernel_rfl) ?_
          refine tkQ 0 (some 88) (.move (.tmp 22)) 3 ?_
          simp only [sY]
          refine tk8 1 (some 89) (.load 24 (.tmp 8)) 24 [14] ?_
          simp only [sY]
          refine tk8 2 (some 90) (.load 24 (.tmp 8)) 24 [5, 9, 11, 13, 14] ?_
          simp only [sY]
          refine tkQ 3 (some 91) (.move (.tmp 1)) 22 ?_
          simp only [sY]
          refine tkQ 4 (some 92) (.move (.tmp 6)) 22 ?_
          simp only [sY]
          refine tk8 6 (some 94) (.load 24 (.tmp 8)) 24 [13, 14] ?_
          simp only [sY]
          refine tk8 7 (some 95) (.load 24 (.tmp 8)) 24 [9, 11, 13, 14] ?_
          simp only [sY]
          refine tk8 8 (some 96) (.load 75 (.tmp 20)) 75 [9, 11, 13, 14] ?_
          simp only [sY]
          refine tkQ 10 (some 98) (.move (.tmp 22)) 3 ?_
          simp only [sY]
          refine tkQ 12 (some 100) (.move (.tmp 23)) 22 ?_
          simp only [sY]
          refine tkQ 15 (some 103) (.fieldAddr 31 (.tmp 24) 1) 0 ?_
          simp only [sY]
          refine onl (i := 5) (some 93) (.call { callee := .value (.func 68), args := #[.tmp 90, .tmp 91, .tmp 92], argTypes := #[24, 22, 22] }) 22 (fun K hK => ?_)
          unfold bareOp
          go_wp2_with (go_at_call 68; refine (ppow_ok _ HH.o y0 yP UZ.o HH1.o).mono ?_; rintro e w8 ⟨rfl, hb8⟩)
          replace F_g := Lh (F_g.o.keep hb8)
          replace F_r := Lh (F_r.o.keep hb8)
          replace F_s := Lh (F_s.o.keep hb8)
          replace F_p := Lh (F_p.o.keep hb8)
          replace HBW := Lh (HBW.o.trans (hb8.mono HBW.o.size))
          replace hS := And.intro F_g.o.s (And.intro F_s.o.s F_p.o.s8)
          clear hb8
          refine hK.o _ _ (fun _ => hS) ?_
          clear hK K
          try simp only [sY]
          refine onl (i := 9) (some 97) (.call { callee := .value (.func 69), args := #[.tmp 95, .tmp 96], argTypes := #[24, 75] }) 29 (fun K hK => ?_)
          unfold bareOp
          go_wp2_with (go_at_call 69; refine (targets_any _ HH.o bb0 bbP HNN.o HPP.o HT1.o).mono ?_; rintro e w9 ⟨rfl, hb9⟩)
          replace F_g := Lh (F_g.o.keep hb9)
          replace F_r := Lh (F_r.o.keep hb9)
          replace F_s := Lh (F_s.o.keep hb9)
          replace F_p := Lh (F_p.o.keep hb9)
          replace HBW := Lh (HBW.o.trans (hb9.mono HBW.o.size))
          replace hS := And.intro F_g.o.s (And.intro F_s.o.s F_p.o.s8)
          clear hb9
          refine hK.o _ _ (fun _ => hS) ?_
          clear hK K
          try simp only [sY]
          refine tkQ 11 (some 99) (.index 29 (.tmp 97) (.tmp 98)) 22 ?_
          simp only [sY]
          refine onl (i := 13) (some 101) (.call { callee := .value (.func 68), args := #[.tmp 94, .tmp 99, .tmp 100], argTypes := #[24, 22, 22] }) 22 (fun K hK => ?_)
          unfold bareOp
          go_wp2_with (go_at_call 68; refine (ppow_ok _ HH.o tj0 tjP UM.o HH2.o).mono ?_; rintro e w10 ⟨rfl, hb10⟩)
          replace F_g := Lh (F_g.o.keep hb10)
          replace F_r := Lh (F_r.o.keep hb10)
          replace F_s := Lh (F_s.o.keep hb10)
          replace F_p := Lh (F_p.o.keep hb10)
          replace HBW := Lh (HBW.o.trans (hb10.mono HBW.o.size))
          replace hS := And.intro F_g.o.s (And.intro F_s.o.s F_p.o.s8)
          clear hb10
          refine hK.o _ _ (fun _ => hS) ?_
          clear hK K
          try simp only [sY]
          refine onl (i := 14) (some 102) (.call { callee := .value (.func 67), args := #[.tmp 89, .tmp 93, .tmp 101], argTypes := #[24, 22, 22] }) 22 (fun K hK => ?_)
          unfold bareOp
          go_wp2_with (go_at_call 67; refine (pmul_ok _ HH.o h10 h1P h20 h2P HSJ.o).mono ?_; rintro e w11 ⟨rfl, hb11⟩)
          replace F_g := Lh (F_g.o.keep hb11)
          replace F_r := Lh (F_r.o.keep hb11)
          replace F_s := Lh (F_s.o.keep hb11)
          replace F_p := Lh (F_p.o.keep hb11)
          replace HBW := Lh (HBW.o.trans (hb11.mono HBW.o.size))
          replace hS := And.intro F_g.o.s (And.intro F_s.o.s F_p.o.s8)
          clear hb11
          obtain ⟨z0_, z1_, z2_, z3_, z4_, z5_, z6_, z7_, z8_, z9_, z10_, z11_, z12_, z13_, z14_, z15_⟩ := Arr.k8 F_p.o
          refine hK.o _ _ lt8 ?_
          clear hK K
          try simp only [sY]
          refine tkP (i := 16) (some 104) (.indexAddr 29 (.tmp 103) (.tmp 88)) 0 lt8 ?_
          simp only [sY]
          refine onl (i := 17) none (.store 22 (.tmp 104) (.tmp 102)) 0 (fun K hK => ?_)
          unfold bareOp
          go_wp2_with fail
          refine hK.o _ _ lt8 ?_
          clear hK K
          try simp only [sY]
          refine wpAnyB_done (by kernel_rfl) ?_ _
          clear hS z0_ z1_ z2_ z3_ z4_ z5_ z6_ z7_ z8_ z9_ z10_ z11_ z12_ z13_ z14_ z15_
          have hbS := ((Below.refl Bp w11).setCell (p := ⟨Bp, 2, none⟩) (Nat.le_refl _) (.int .u64 Sj))
          replace F_g := Lh (F_g.o.under hbS lt_g)
          replace F_r := Lh (F_r.o.under hbS lt_r)
          replace F_s := Lh (F_s.o.under hbS lt_s)
          replace F_p := Lh (F_p.o.set (ys := [Rj, 0, Sj, 0, c, 0, z, 0]) 2 (by simp) rfl)
          replace HBW := Lh (HBW.o.trans (hbS.mono hle))
          clear hbS
          generalize (w11.setCell ⟨Bp, 2, none⟩ (.int .u64 Sj)) = wq2 at F_g F_r F_s F_p HBW ⊢
          go_wp2_with fail
          replace F_g := Lh F_g.o.drew
          replace F_r := Lh F_r.o.drew
          replace F_s := Lh F_s.o.drew
          replace F_p := Lh F_p.o.drew
          replace HBW := Lh HBW.o.drew
          have hS := And.intro F_g.o.s (And.intro F_s.o.s F_p.o.s8)
          refine wp_region_stage 10 (fun w' => SBox w' w.heap.size P Q G ∧ SPair w' (w3.heap.size) a b ∧ S8 w' Bp Rj 0 Sj 0 c 0 z 0) (by kernel_rfl) ?_
          refine tkQ 0 (some 105) (.move (.tmp 2)) 3 ?_
          simp only [sY]
          refine tkQ 1 (some 106) (.move (.tmp 2)) 3 ?_
          simp only [sY]
          refine tk8 2 (some 107) (.load 24 (.tmp 8)) 24 [6, 10] ?_
          simp only [sY]
          refine tkQ 3 (some 108) (.fieldAddr 24 (.tmp 8) 2) 0 ?_
          simp only [sY]
          refine tk8 4 (some 109) (.load 22 (.tmp 108)) 22 [6, 10] ?_
          simp only [sY]
          refine tkQ 5 (some 110) (.move (.tmp 4)) 22 ?_
          simp only [sY]
          refine tk8 7 (some 112) (.load 24 (.tmp 8)) 24 [10] ?_
          simp only [sY]
          refine tkQ 8 (some 113) (.move (.tmp 1)) 22 ?_
          simp only [sY]
          refine tkQ 9 (some 114) (.move (.tmp 4)) 22 ?_
          simp only [sY]
          refine tkQ 11 (some 116) (.fieldAddr 31 (.tmp 24) 0) 0 ?_
          simp only [sY]
          refine tkQ 14 (some 118) (.fieldAddr 31 (.tmp 24) 1) 0 ?_
          simp only [sY]
          refine onl (i := 6) (some 111) (.call { callee := .value (.func 68), args := #[.tmp 107, .tmp 109, .tmp 110], argTypes := #[24, 22, 22] }) 22 (fun K hK => ?_)
          unfold bareOp
          go_wp2_with (go_at_call 68; refine (ppow_ok _ HH.o hG gP UK.o HRM.o).mono ?_; rintro e w12 ⟨rfl, hb12⟩)
          replace F_g := Lh (F_g.o.keep hb12)
          replace F_r := Lh (F_r.o.keep hb12)
          replace F_s := Lh (F_s.o.keep hb12)
          replace F_p := Lh (F_p.o.keep hb12)
          replace HBW := Lh (HBW.o.trans (hb12.mono HBW.o.size))
          replace hS := And.intro F_g.o.s (And.intro F_s.o.s F_p.o.s8)
          clear hb12
          refine hK.o _ _ (fun _ => hS) ?_
          clear hK K
          try simp only [sY]
          refine tkQ 12 (some 117) (.indexAddr 29 (.tmp 116) (.tmp 105)) 0 ?_
          simp only [sY]
          refine onl (i := 10) (some 115) (.call { callee := .value (.func 68), args := #[.tmp 112, .tmp 113, .tmp 114], argTypes := #[24, 22, 22] }) 22 (fun K hK => ?_)
          unfold bareOp
          go_wp2_with (go_at_call 68; refine (ppow_ok _ HH.o y0 yP UK.o HSM.o).mono ?_; rintro e w13 ⟨rfl, hb13⟩)
          replace F_g := Lh (F_g.o.keep hb13)
          replace F_r := Lh (F_r.o.keep hb13)
          replace F_s := Lh (F_s.o.keep hb13)
          replace F_p := Lh (F_p.o.keep hb13)
          replace HBW := Lh (HBW.o.trans (hb13.mono HBW.o.size))
          replace hS := And.intro F_g.o.s (And.intro F_s.o.s F_p.o.s8)
          clear hb13
          obtain ⟨z0_, z1_, z2_, z3_, z4_, z5_, z6_, z7_, z8_, z9_, z10_, z11_, z12_, z13_, z14_, z15_⟩ := Arr.k8 F_p.o
          refine hK.o _ _ lt8 ?_
          clear hK K
          try simp only [sY]
          refine onl (i := 13) none (.store 22 (.tmp 117) (.tmp 111)) 0 (fun K hK => ?_)
          unfold bareOp
          go_wp2_with fail
          refine hK.o _ _ lt8 ?_
          clear hK K
          try simp only [sY]
          refine tkP (i := 15) (some 119) (.indexAddr 29 (.tmp 118) (.tmp 106)) 0 lt8 ?_
          simp only [sY]
          refine onl (i := 16) none (.store 22 (.tmp 119) (.tmp 115)) 0 (fun K hK => ?_)
          unfold bareOp
          go_wp2_with fail
          refine hK.o _ _ lt8 ?_
          clear hK K
          try simp only [sY]
          refine wpAnyB_done (by kernel_rfl) ?_ _
          clear hS z0_ z1_ z2_ z3_ z4_ z5_ z6_ z7_ z8_ z9_ z10_ z11_ z12_ z13_ z14_ z15_
          have hbS := (((Below.refl Bp w13).setCell (p := ⟨Bp, 1, none⟩) (Nat.le_refl _) (.int .u64 Rm)).setCell (p := ⟨Bp, 3, none⟩) (Nat.le_refl _) (.int .u64 Sm))
          replace F_g := Lh (F_g.o.under hbS lt_g)
          replace F_r := Lh (F_r.o.under hbS lt_r)
          replace F_s := Lh (F_s.o.under hbS lt_s)
          replace F_p := Lh ((F_p.o.set (ys := [Rj, Rm, Sj, 0, c, 0, z, 0]) 1 (by simp) rfl).set (ys := [Rj, Rm, Sj, Sm, c, 0, z, 0]) 3 (by simp) rfl)
          replace HBW := Lh (HBW.o.trans (hbS.mono hle))
          clear hbS
          generalize ((w13.setCell ⟨Bp, 1, none⟩ (.int .u64 Rm)).setCell ⟨Bp, 3, none⟩ (.int .u64 Sm)) = wq3 at F_g F_r F_s F_p HBW ⊢
          go_wp2_with fail
          replace F_g := Lh F_g.o.drew
          replace F_r := Lh F_r.o.drew
          replace F_s := Lh F_s.o.drew
          replace F_p := Lh F_p.o.drew
          replace HBW := Lh HBW.o.drew
          have hS := And.intro F_g.o.s (And.intro F_s.o.s F_p.o.s8)
          refine wp_region_stage 9 (fun w' => SBox w' w.heap.size P Q G ∧ SPair w' (w3.heap.size) a b ∧ S8 w' Bp Rj Rm Sj Sm c 0 z 0) (by kernel_rfl) ?_
          refine tkQ 0 (some 121) (.move (.tmp 2)) 3 ?_
          simp only [sY]
          refine tk8 1 (some 122) (.load 24 (.tmp 8)) 24 [9] ?_
          simp only [sY]
          refine tk8 2 (some 123) (.load 24 (.tmp 8)) 24 [7, 9] ?_
          simp only [sY]
          refine tkQ 3 (some 124) (.move (.tmp 1)) 22 ?_
          simp only [sY]
          refine tk8 4 (some 125) (.load 75 (.tmp 20)) 75 [7, 9] ?_
          simp only [sY]
          refine tk8 5 (some 126) (.load 31 (.tmp 24)) 31 [7, 9] ?_
          simp only [sY]
          refine tkQ 6 (some 127) (.move (.tmp 7)) 80 ?_
          simp only [sY]
          refine tkQ 8 (some 129) (.move (.tmp 5)) 22 ?_
          simp only [sY]
          refine tkQ 13 (some 133) (.fieldAddr 31 (.tmp 24) 2) 0 ?_
          simp only [sY]
          refine onl (i := 7) (some 128) (.call { callee := .value (.func 71), args := #[.tmp 123, .tmp 124, .tmp 125, .tmp 126, .tmp 127], argTypes := #[24, 22, 75, 31, 80] }) 22 (fun K hK => ?_)
          unfold bareOp
          go_wp2_with (go_at_call 71; refine (ptotal_any _ (HT.o.keep HBW.o) HH.o HUS.o hn8 HTT.o).mono ?_; rintro e w14 ⟨rfl, hb14⟩)
          replace F_g := Lh (F_g.o.keep hb14)
          replace F_r := Lh (F_r.o.keep hb14)
          replace F_s := Lh (F_s.o.keep hb14)
          replace F_p := Lh (F_p.o.keep hb14)
          replace HBW := Lh (HBW.o.trans (hb14.mono HBW.o.size))
          replace hS := And.intro F_g.o.s (And.intro F_s.o.s F_p.o.s8)
          clear hb14
          refine hK.o _ _ (fun _ => hS) ?_
          clear hK K
          try simp only [sY]
          refine onl (i := 9) (some 130) (.call { callee := .value (.func 70), args := #[.tmp 122, .tmp 128, .tmp 129], argTypes := #[24, 22, 22] }) 81 (fun K hK => ?_)
          unfold bareOp
          go_wp2_with (go_at_call 70; refine (subExp_ok P Q G tot c Cm _ HH.o tot0 totQ c0_ cQ HCM.o).mono ?_; rintro e w15 ⟨rfl, hb15⟩)
          replace F_g := Lh (F_g.o.keep hb15)
          replace F_r := Lh (F_r.o.keep hb15)
          replace F_s := Lh (F_s.o.keep hb15)
          replace F_p := Lh (F_p.o.keep hb15)
          replace HBW := Lh (HBW.o.trans (hb15.mono HBW.o.size))
          replace hS := And.intro F_g.o.s (And.intro F_s.o.s F_p.o.s8)
          clear hb15
          obtain ⟨z0_, z1_, z2_, z3_, z4_, z5_, z6_, z7_, z8_, z9_, z10_, z11_, z12_, z13_, z14_, z15_⟩ := Arr.k8 F_p.o
          refine hK.o _ _ lt8 ?_
          clear hK K
          try simp only [sY]
          refine tkP (i := 10) (some 120) (.move (.tmp 130)) 81 lt8 ?_
          simp only [sY]
          refine tkP (i := 11) (some 131) (.extract (.tmp 120) 0) 22 lt8 ?_
          simp only [sY]
          refine tkP (i := 12) (some 132) (.extract (.tmp 120) 1) 38 lt8 ?_
          simp only [sY]
          refine tkP (i := 14) (some 134) (.indexAddr 29 (.tmp 133) (.tmp 121)) 0 lt8 ?_
          simp only [sY]
          refine onl (i := 15) none (.store 22 (.tmp 134) (.tmp 131)) 0 (fun K hK => ?_)
          unfold bareOp
          go_wp2_with fail
          refine hK.o _ _ lt8 ?_
          clear hK K
          try simp only [sY]
          refine wpAnyB_done (by kernel_rfl) ?_ _
          clear hS z0_ z1_ z2_ z3_ z4_ z5_ z6_ z7_ z8_ z9_ z10_ z11_ z12_ z13_ z14_ z15_
          have hbS := ((Below.refl Bp w15).setCell (p := ⟨Bp, 5, none⟩) (Nat.le_refl _) (.int .u64 Cm))
          replace F_g := Lh (F_g.o.under hbS lt_g)
          replace F_r := Lh (F_r.o.under hbS lt_r)
          replace F_s := Lh (F_s.o.under hbS lt_s)
          replace F_p := Lh (F_p.o.set (ys := [Rj, Rm, Sj, Sm, c, Cm, z, 0]) 5 (by simp) rfl)
          replace HBW := Lh (HBW.o.trans (hbS.mono hle))
          clear hbS
          generalize (w15.setCell ⟨Bp, 5, none⟩ (.int .u64 Cm)) = wq4 at F_g F_r F_s F_p HBW ⊢
          go_wp2_with fail
          replace F_g := Lh F_g.o.drew
          replace F_r := Lh F_r.o.drew
          replace F_s := Lh F_s.o.drew
          replace F_p := Lh F_p.o.drew
          replace HBW := Lh HBW.o.drew
          have hS := And.intro F_g.o.s (And.intro F_s.o.s F_p.o.s8)
          refine wp_region_stage 8 (fun w' => SBox w' w.heap.size P Q G ∧ SPair w' (w3.heap.size) a b ∧ S8 w' Bp Rj Rm Sj Sm c Cm z 0) (by kernel_rfl) ?_
          refine tkQ 0 (some 136) (.move (.tmp 2)) 3 ?_
          simp only [sY]
          refine tk8 1 (some 137) (.load 24 (.tmp 8)) 24 [8] ?_
          simp only [sY]
          refine tkQ 2 (some 138) (.move (.tmp 3)) 22 ?_
          simp only [sY]
          refine tkQ 3 (some 139) (.move (.tmp 4)) 22 ?_
          simp only [sY]
          refine tkQ 4 (some 140) (.move (.tmp 2)) 3 ?_
          simp only [sY]
          refine tkQ 5 (some 141) (.fieldAddr 31 (.tmp 24) 2) 0 ?_
          simp only [sY]
          refine tkQ 6 (some 142) (.indexAddr 29 (.tmp 141) (.tmp 140)) 0 ?_
          simp only [sY]
          refine tk8 7 (some 143) (.load 22 (.tmp 142)) 22 [8] ?_
          simp only [sY]
          refine tkQ 12 (some 147) (.fieldAddr 31 (.tmp 24) 3) 0 ?_
          simp only [sY]
          refine onl (i := 8) (some 144) (.call { callee := .value (.func 72), args := #[.tmp 137, .tmp 138, .tmp 139, .tmp 143], argTypes := #[24, 22, 22, 22] }) 81 (fun K hK => ?_)
          unfold bareOp
          go_wp2_with (go_at_call 72; refine (srespond_any (v := Zm) (r := 0) _ hP hQ hG r0_ k0_ cm0 HZS.o).mono ?_; rintro e w16 ⟨rfl, hb16⟩)
          replace F_g := Lh (F_g.o.keep hb16)
          replace F_r := Lh (F_r.o.keep hb16)
          replace F_s := Lh (F_s.o.keep hb16)
          replace F_p := Lh (F_p.o.keep hb16)
          replace HBW := Lh (HBW.o.trans (hb16.mono HBW.o.size))
          replace hS := And.intro F_g.o.s (And.intro F_s.o.s F_p.o.s8)
          clear hb16
          obtain ⟨z0_, z1_, z2_, z3_, z4_, z5_, z6_, z7_, z8_, z9_, z10_, z11_, z12_, z13_, z14_, z15_⟩ := Arr.k8 F_p.o
          refine hK.o _ _ lt8 ?_
          clear hK K
          try simp only [sY]
          refine tkP (i := 9) (some 135) (.move (.tmp 144)) 81 lt8 ?_
          simp only [sY]
          refine tkP (i := 10) (some 145) (.extract (.tmp 135) 0) 22 lt8 ?_
          simp only [sY]
          refine tkP (i := 11) (some 146) (.extract (.tmp 135) 1) 38 lt8 ?_
          simp only [sY]
          refine tkP (i := 13) (some 148) (.indexAddr 29 (.tmp 147) (.tmp 136)) 0 lt8 ?_
          simp only [sY]
          refine onl (i := 14) none (.store 22 (.tmp 148) (.tmp 145)) 0 (fun K hK => ?_)
          unfold bareOp
          go_wp2_with fail
          refine hK.o _ _ lt8 ?_
          clear hK K
          try simp only [sY]
          refine wpAnyB_done (by kernel_rfl) ?_ _
          clear hS z0_ z1_ z2_ z3_ z4_ z5_ z6_ z7_ z8_ z9_ z10_ z11_ z12_ z13_ z14_ z15_
          have hbS := ((Below.refl Bp w16).setCell (p := ⟨Bp, 7, none⟩) (Nat.le_refl _) (.int .u64 Zm))
          replace F_g := Lh (F_g.o.under hbS lt_g)
          replace F_r := Lh (F_r.o.under hbS lt_r)
          replace F_s := Lh (F_s.o.under hbS lt_s)
          replace F_p := Lh (F_p.o.set (ys := [Rj, Rm, Sj, Sm, c, Cm, z, Zm]) 7 (by simp) rfl)
          replace HBW := Lh (HBW.o.trans (hbS.mono hle))
          clear hbS
          generalize (w16.setCell ⟨Bp, 7, none⟩ (.int .u64 Zm)) = wq5 at F_g F_r F_s F_p HBW ⊢
          obtain ⟨q1_0, q1_1, q1_2, q1_3, q1_4, q1_5, q1_6, q1_7, q1_8, q1_9, q1_10, q1_11, q1_12, q1_13, q1_14, q1_15⟩ := Arr.k8 F_r.o
          obtain ⟨q3_0, q3_1, q3_2, q3_3, q3_4, q3_5, q3_6, q3_7, q3_8, q3_9, q3_10, q3_11, q3_12, q3_13, q3_14, q3_15⟩ := Arr.k8 F_p.o
          obtain ⟨x0a, x0b, x0c, -⟩ := id F_g.o
          obtain ⟨x2a, x2b, x2c, x2d, -⟩ := id F_s.o
          go_wp2_with fail
          clear x0a x0b x0c x2a x2b x2c x2d q1_0 q1_1 q1_2 q1_3 q1_4 q1_5 q1_6 q1_7 q1_8 q1_9 q1_10 q1_11 q1_12 q1_13 q1_14 q1_15 q3_0 q3_1 q3_2 q3_3 q3_4 q3_5 q3_6 q3_7 q3_8 q3_9 q3_10 q3_11 q3_12 q3_13 q3_14 q3_15
          exact bodyPost_ret (res_bit rfl (F_r.o.st8 Rj Rm Sj Sm c Cm z Zm) _ rfl rfl) rfl ⟨rfl, ((((((((HBW.o).setCell (by simp <;> omega) _).setCell (by simp <;> omega) _).setCell (by simp <;> omega) _).setCell (by simp <;> omega) _).setCell (by simp <;> omega) _).setCell (by simp <;> omega) _).setCell (by simp <;> omega) _).setCell (by simp <;> omega) _⟩
      · have hn8 := lgS_long hck h
        obtain rfl : e' = 4 := by rw [hc]; exact lgS_four hck hn8
        have HLG := Lh (show lgS 0 n = 4 from lgS_four rfl hn8)
        clear h hc hck ha hH
        rcases hm with rfl | rfl
        · skip
          have F_g := Lh (show Boxed ((((w.alloc (.cells #[.int .u64 P, .int .u64 Q, .int .u64 G] 24)).alloc (.cells #[.int .u64 0, .int .u64 0, .int .u64 0, .int .u64 0, .int .u64 0, .int .u64 0, .int .u64 0, .int .u64 0] 31)).alloc (.cells #[.int .u64 r, .int .u64 k, .int .u64 c, .int .u64 z] 22)).alloc (.cells #[.int .u64 y] 22)) (w.heap.size) P Q G from (((Boxed.at _ P Q G _ (w.heap.size) (by simp)).alloc _).alloc _).alloc _)
          have F_es := Lh (show ShL ((((w.alloc (.cells #[.int .u64 P, .int .u64 Q, .int .u64 G] 24)).alloc (.cells #[.int .u64 0, .int .u64 0, .int .u64 0, .int .u64 0, .int .u64 0, .int .u64 0, .int .u64 0, .int .u64 0] 31)).alloc (.cells #[.int .u64 r, .int .u64 k, .int .u64 c, .int .u64 z] 22)).alloc (.cells #[.int .u64 y] 22)) (some ⟨w.heap.size + 1 + 1, 0, none⟩) 4 4 [r, k, c, z] from (ShL.laid _ [r, k, c, z] _ _ (w.heap.size + 1 + 1) _ _ (by simp) rfl rfl).alloc _)
          have F_ns := Lh (show ShL ((((w.alloc (.cells #[.int .u64 P, .int .u64 Q, .int .u64 G] 24)).alloc (.cells #[.int .u64 0, .int .u64 0, .int .u64 0, .int .u64 0, .int .u64 0, .int .u64 0, .int .u64 0, .int .u64 0] 31)).alloc (.cells #[.int .u64 r, .int .u64 k, .int .u64 c, .int .u64 z] 22)).alloc (.cells #[.int .u64 y] 22)) (some ⟨w.heap.size + 1 + 1 + 1, 0, none⟩) 1 1 [y] from ShL.laid _ [y] _ _ (w.heap.size + 1 + 1 + 1) _ _ (by simp) rfl rfl)
          have F_r := Lh (show Arr .u64 ((((w.alloc (.cells #[.int .u64 P, .int .u64 Q, .int .u64 G] 24)).alloc (.cells #[.int .u64 0, .int .u64 0, .int .u64 0, .int .u64 0, .int .u64 0, .int .u64 0, .int .u64 0, .int .u64 0] 31)).alloc (.cells #[.int .u64 r, .int .u64 k, .int .u64 c, .int .u64 z] 22)).alloc (.cells #[.int .u64 y] 22)) (w.heap.size + 1) [0, 0, 0, 0, 0, 0, 0, 0] from ((Arr.new .u64 _ [0, 0, 0, 0, 0, 0, 0, 0] _ (w.heap.size + 1) (by simp)).alloc _).alloc _)
          have HBW := Lh (show Below w.heap.size w ((((w.alloc (.cells #[.int .u64 P, .int .u64 Q, .int .u64 G] 24)).alloc (.cells #[.int .u64 0, .int .u64 0, .int .u64 0, .int .u64 0, .int .u64 0, .int .u64 0, .int .u64 0, .int .u64 0] 31)).alloc (.cells #[.int .u64 r, .int .u64 k, .int .u64 c, .int .u64 z] 22)).alloc (.cells #[.int .u64 y] 22)) from ((((Below.refl _ _).alloc (by simp <;> omega) _).alloc (by simp <;> omega) _).alloc (by simp <;> omega) _).alloc (by simp <;> omega) _)
          go_enter Tryz.func30, Tryz.ntmps30
          obtain ⟨q1_0, q1_1, q1_2, q1_3, q1_4, q1_5, q1_6, q1_7, q1_8, q1_9, q1_10, q1_11, q1_12, q1_13, q1_14, q1_15⟩ := Arr.k8 F_r.o
          obtain ⟨x0a, x0b, x0c, -⟩ := id F_g.o
          go_wp2_with fail
          clear x0a x0b x0c q1_0 q1_1 q1_2 q1_3 q1_4 q1_5 q1_6 q1_7 q1_8 q1_9 q1_10 q1_11 q1_12 q1_13 q1_14 q1_15
          refine (pcheck_any _ hP hQ hG F_es.o F_ns.o (by simp) (by simp) HR.o).mono ?_
          rintro e w1 ⟨rfl, hb1⟩
          replace F_g := Lh (F_g.o.keep hb1)
          replace F_r := Lh (F_r.o.keep hb1)
          replace F_es := Lh (F_es.o.keep hb1)
          replace F_ns := Lh (F_ns.o.keep hb1)
          replace HBW := Lh (HBW.o.trans (hb1.mono HBW.o.size))
          clear hb1
          clear F_es
          clear F_ns
          obtain ⟨q1_0, q1_1, q1_2, q1_3, q1_4, q1_5, q1_6, q1_7, q1_8, q1_9, q1_10, q1_11, q1_12, q1_13, q1_14, q1_15⟩ := Arr.k8 F_r.o
          obtain ⟨x0a, x0b, x0c, -⟩ := id F_g.o
          go_wp2_with fail
          clear x0a x0b x0c q1_0 q1_1 q1_2 q1_3 q1_4 q1_5 q1_6 q1_7 q1_8 q1_9 q1_10 q1_11 q1_12 q1_13 q1_14 q1_15
          refine (plong_any _ HLG.o).mono ?_
          rintro e w2 ⟨rfl, rfl⟩
          obtain ⟨q1_0, q1_1, q1_2, q1_3, q1_4, q1_5, q1_6, q1_7, q1_8, q1_9, q1_10, q1_11, q1_12, q1_13, q1_14, q1_15⟩ := Arr.k8 F_r.o
          obtain ⟨x0a, x0b, x0c, -⟩ := id F_g.o
          go_wp2_with fail
          exact bodyPost_ret (res_bit rfl (F_r.o.st8 0 0 0 0 0 0 0 0) _ rfl rfl) rfl ⟨rfl, ((((((((HBW.o).setCell (by simp <;> omega) _).setCell (by simp <;> omega) _).setCell (by simp <;> omega) _).setCell (by simp <;> omega) _).setCell (by simp <;> omega) _).setCell (by simp <;> omega) _).setCell (by simp <;> omega) _).setCell (by simp <;> omega) _⟩
        · skip
          have F_g := Lh (show Boxed ((((w.alloc (.cells #[.int .u64 P, .int .u64 Q, .int .u64 G] 24)).alloc (.cells #[.int .u64 0, .int .u64 0, .int .u64 0, .int .u64 0, .int .u64 0, .int .u64 0, .int .u64 0, .int .u64 0] 31)).alloc (.cells #[.int .u64 r, .int .u64 k, .int .u64 c, .int .u64 z] 22)).alloc (.cells #[.int .u64 y] 22)) (w.heap.size) P Q G from (((Boxed.at _ P Q G _ (w.heap.size) (by simp)).alloc _).alloc _).alloc _)
          have F_es := Lh (show ShL ((((w.alloc (.cells #[.int .u64 P, .int .u64 Q, .int .u64 G] 24)).alloc (.cells #[.int .u64 0, .int .u64 0, .int .u64 0, .int .u64 0, .int .u64 0, .int .u64 0, .int .u64 0, .int .u64 0] 31)).alloc (.cells #[.int .u64 r, .int .u64 k, .int .u64 c, .int .u64 z] 22)).alloc (.cells #[.int .u64 y] 22)) (some ⟨w.heap.size + 1 + 1, 0, none⟩) 4 4 [r, k, c, z] from (ShL.laid _ [r, k, c, z] _ _ (w.heap.size + 1 + 1) _ _ (by simp) rfl rfl).alloc _)
          have F_ns := Lh (show ShL ((((w.alloc (.cells #[.int .u64 P, .int .u64 Q, .int .u64 G] 24)).alloc (.cells #[.int .u64 0, .int .u64 0, .int .u64 0, .int .u64 0, .int .u64 0, .int .u64 0, .int .u64 0, .int .u64 0] 31)).alloc (.cells #[.int .u64 r, .int .u64 k, .int .u64 c, .int .u64 z] 22)).alloc (.cells #[.int .u64 y] 22)) (some ⟨w.heap.size + 1 + 1 + 1, 0, none⟩) 1 1 [y] from ShL.laid _ [y] _ _ (w.heap.size + 1 + 1 + 1) _ _ (by simp) rfl rfl)
          have F_r := Lh (show Arr .u64 ((((w.alloc (.cells #[.int .u64 P, .int .u64 Q, .int .u64 G] 24)).alloc (.cells #[.int .u64 0, .int .u64 0, .int .u64 0, .int .u64 0, .int .u64 0, .int .u64 0, .int .u64 0, .int .u64 0] 31)).alloc (.cells #[.int .u64 r, .int .u64 k, .int .u64 c, .int .u64 z] 22)).alloc (.cells #[.int .u64 y] 22)) (w.heap.size + 1) [0, 0, 0, 0, 0, 0, 0, 0] from ((Arr.new .u64 _ [0, 0, 0, 0, 0, 0, 0, 0] _ (w.heap.size + 1) (by simp)).alloc _).alloc _)
          have HBW := Lh (show Below w.heap.size w ((((w.alloc (.cells #[.int .u64 P, .int .u64 Q, .int .u64 G] 24)).alloc (.cells #[.int .u64 0, .int .u64 0, .int .u64 0, .int .u64 0, .int .u64 0, .int .u64 0, .int .u64 0, .int .u64 0] 31)).alloc (.cells #[.int .u64 r, .int .u64 k, .int .u64 c, .int .u64 z] 22)).alloc (.cells #[.int .u64 y] 22)) from ((((Below.refl _ _).alloc (by simp <;> omega) _).alloc (by simp <;> omega) _).alloc (by simp <;> omega) _).alloc (by simp <;> omega) _)
          go_enter Tryz.func30, Tryz.ntmps30
          obtain ⟨q1_0, q1_1, q1_2, q1_3, q1_4, q1_5, q1_6, q1_7, q1_8, q1_9, q1_10, q1_11, q1_12, q1_13, q1_14, q1_15⟩ := Arr.k8 F_r.o
          obtain ⟨x0a, x0b, x0c, -⟩ := id F_g.o
          go_wp2_with fail
          clear x0a x0b x0c q1_0 q1_1 q1_2 q1_3 q1_4 q1_5 q1_6 q1_7 q1_8 q1_9 q1_10 q1_11 q1_12 q1_13 q1_14 q1_15
          refine (pcheck_any _ hP hQ hG F_es.o F_ns.o (by simp) (by simp) HR.o).mono ?_
          rintro e w1 ⟨rfl, hb1⟩
          replace F_g := Lh (F_g.o.keep hb1)
          replace F_r := Lh (F_r.o.keep hb1)
          replace F_es := Lh (F_es.o.keep hb1)
          replace F_ns := Lh (F_ns.o.keep hb1)
          replace HBW := Lh (HBW.o.trans (hb1.mono HBW.o.size))
          clear hb1
          clear F_es
          clear F_ns
          obtain ⟨q1_0, q1_1, q1_2, q1_3, q1_4, q1_5, q1_6, q1_7, q1_8, q1_9, q1_10, q1_11, q1_12, q1_13, q1_14, q1_15⟩ := Arr.k8 F_r.o
          obtain ⟨x0a, x0b, x0c, -⟩ := id F_g.o
          go_wp2_with fail
          clear x0a x0b x0c q1_0 q1_1 q1_2 q1_3 q1_4 q1_5 q1_6 q1_7 q1_8 q1_9 q1_10 q1_11 q1_12 q1_13 q1_14 q1_15
          refine (plong_any _ HLG.o).mono ?_
          rintro e w2 ⟨rfl, rfl⟩
          obtain ⟨q1_0, q1_1, q1_2, q1_3, q1_4, q1_5, q1_6, q1_7, q1_8, q1_9, q1_10, q1_11, q1_12, q1_13, q1_14, q1_15⟩ := Arr.k8 F_r.o
          obtain ⟨x0a, x0b, x0c, -⟩ := id F_g.o
          go_wp2_with fail
          exact bodyPost_ret (res_bit rfl (F_r.o.st8 0 0 0 0 0 0 0 0) _ rfl rfl) rfl ⟨rfl, ((((((((HBW.o).setCell (by simp <;> omega) _).setCell (by simp <;> omega) _).setCell (by simp <;> omega) _).setCell (by simp <;> omega) _).setCell (by simp <;> omega) _).setCell (by simp <;> omega) _).setCell (by simp <;> omega) _).setCell (by simp <;> omega) _⟩
    · have hck : bitChk P Q G y bm r k c z = 2 := by rw [bitChk, if_pos ha, if_neg hm]
      rcases h with ⟨h, -⟩ | ⟨h, ⟨rfl, rfl, rfl, rfl, rfl, rfl, rfl, rfl⟩, hc⟩
      · rw [hck, lgS_ne (by decide)] at h
        exact absurd h (by decide)
      · obtain rfl : e' = 2 := by rw [hc, hck]; exact lgS_ne (by decide)
        have hm0 : (bm != 0) = true := by simp; omega
        have hm1 : (bm != 1) = true := by simp; omega
        have hm2 : (bm == 0) = false := by simp; omega
        have hm3 : (bm == 1) = false := by simp; omega
        have HLG := Lh (show lgS 2 n = 2 from lgS_ne (by decide))
        clear h hc hck ha hH hm
        have F_g := Lh (show Boxed ((((w.alloc (.cells #[.int .u64 P, .int .u64 Q, .int .u64 G] 24)).alloc (.cells #[.int .u64 0, .int .u64 0, .int .u64 0, .int .u64 0, .int .u64 0, .int .u64 0, .int .u64 0, .int .u64 0] 31)).alloc (.cells #[.int .u64 r, .int .u64 k, .int .u64 c, .int .u64 z] 22)).alloc (.cells #[.int .u64 y] 22)) (w.heap.size) P Q G from (((Boxed.at _ P Q G _ (w.heap.size) (by simp)).alloc _).alloc _).alloc _)
        have F_es := Lh (show ShL ((((w.alloc (.cells #[.int .u64 P, .int .u64 Q, .int .u64 G] 24)).alloc (.cells #[.int .u64 0, .int .u64 0, .int .u64 0, .int .u64 0, .int .u64 0, .int .u64 0, .int .u64 0, .int .u64 0] 31)).alloc (.cells #[.int .u64 r, .int .u64 k, .int .u64 c, .int .u64 z] 22)).alloc (.cells #[.int .u64 y] 22)) (some ⟨w.heap.size + 1 + 1, 0, none⟩) 4 4 [r, k, c, z] from (ShL.laid _ [r, k, c, z] _ _ (w.heap.size + 1 + 1) _ _ (by simp) rfl rfl).alloc _)
        have F_ns := Lh (show ShL ((((w.alloc (.cells #[.int .u64 P, .int .u64 Q, .int .u64 G] 24)).alloc (.cells #[.int .u64 0, .int .u64 0, .int .u64 0, .int .u64 0, .int .u64 0, .int .u64 0, .int .u64 0, .int .u64 0] 31)).alloc (.cells #[.int .u64 r, .int .u64 k, .int .u64 c, .int .u64 z] 22)).alloc (.cells #[.int .u64 y] 22)) (some ⟨w.heap.size + 1 + 1 + 1, 0, none⟩) 1 1 [y] from ShL.laid _ [y] _ _ (w.heap.size + 1 + 1 + 1) _ _ (by simp) rfl rfl)
        have F_r := Lh (show Arr .u64 ((((w.alloc (.cells #[.int .u64 P, .int .u64 Q, .int .u64 G] 24)).alloc (.cells #[.int .u64 0, .int .u64 0, .int .u64 0, .int .u64 0, .int .u64 0, .int .u64 0, .int .u64 0, .int .u64 0] 31)).alloc (.cells #[.int .u64 r, .int .u64 k, .int .u64 c, .int .u64 z] 22)).alloc (.cells #[.int .u64 y] 22)) (w.heap.size + 1) [0, 0, 0, 0, 0, 0, 0, 0] from ((Arr.new .u64 _ [0, 0, 0, 0, 0, 0, 0, 0] _ (w.heap.size + 1) (by simp)).alloc _).alloc _)
        have HBW := Lh (show Below w.heap.size w ((((w.alloc (.cells #[.int .u64 P, .int .u64 Q, .int .u64 G] 24)).alloc (.cells #[.int .u64 0, .int .u64 0, .int .u64 0, .int .u64 0, .int .u64 0, .int .u64 0, .int .u64 0, .int .u64 0] 31)).alloc (.cells #[.int .u64 r, .int .u64 k, .int .u64 c, .int .u64 z] 22)).alloc (.cells #[.int .u64 y] 22)) from ((((Below.refl _ _).alloc (by simp <;> omega) _).alloc (by simp <;> omega) _).alloc (by simp <;> omega) _).alloc (by simp <;> omega) _)
        go_enter Tryz.func30, Tryz.ntmps30
        obtain ⟨q1_0, q1_1, q1_2, q1_3, q1_4, q1_5, q1_6, q1_7, q1_8, q1_9, q1_10, q1_11, q1_12, q1_13, q1_14, q1_15⟩ := Arr.k8 F_r.o
        obtain ⟨x0a, x0b, x0c, -⟩ := id F_g.o
        go_wp2_with fail
        clear x0a x0b x0c q1_0 q1_1 q1_2 q1_3 q1_4 q1_5 q1_6 q1_7 q1_8 q1_9 q1_10 q1_11 q1_12 q1_13 q1_14 q1_15
        refine (pcheck_any _ hP hQ hG F_es.o F_ns.o (by simp) (by simp) HR.o).mono ?_
        rintro e w1 ⟨rfl, hb1⟩
        replace F_g := Lh (F_g.o.keep hb1)
        replace F_r := Lh (F_r.o.keep hb1)
        replace F_es := Lh (F_es.o.keep hb1)
        replace F_ns := Lh (F_ns.o.keep hb1)
        replace HBW := Lh (HBW.o.trans (hb1.mono HBW.o.size))
        clear hb1
        clear F_es
        clear F_ns
        obtain ⟨q1_0, q1_1, q1_2, q1_3, q1_4, q1_5, q1_6, q1_7, q1_8, q1_9, q1_10, q1_11, q1_12, q1_13, q1_14, q1_15⟩ := Arr.k8 F_r.o
        obtain ⟨x0a, x0b, x0c, -⟩ := id F_g.o
        go_wp2_with fail
        exact bodyPost_ret (res_bit rfl (F_r.o.st8 0 0 0 0 0 0 0 0) _ rfl rfl) rfl ⟨rfl, ((((((((HBW.o).setCell (by simp <;> omega) _).setCell (by simp <;> omega) _).setCell (by simp <;> omega) _).setCell (by simp <;> omega) _).setCell (by simp <;> omega) _).setCell (by simp <;> omega) _).setCell (by simp <;> omega) _).setCell (by simp <;> omega) _⟩
  · have hck : bitChk P Q G y bm r k c z = askS P Q G [r, k, c, z] [y] := by rw [bitChk, if_neg ha]
    rcases h with ⟨h, -⟩ | ⟨h, ⟨rfl, rfl, rfl, rfl, rfl, rfl, rfl, rfl⟩, hc⟩
    · rw [hck, lgS_ne ha] at h
      exact absurd h ha
    · have hc' : e' = askS P Q G [r, k, c, z] [y] := by rw [hc, hck]; exact lgS_ne ha
      have hnc : e' ≠ 0 := by rw [hc']; exact ha
      have hn1 : (e' != 0) = true := by simpa using hnc
      have hn2 : (e' == 0) = false := by simpa using hnc
      have HR := Lh hc'.symm
      have HLG := Lh (show lgS e' n = e' from lgS_ne hnc)
      clear h hc ha hck hc' hnc
      have F_g := Lh (show Boxed ((((w.alloc (.cells #[.int .u64 P, .int .u64 Q, .int .u64 G] 24)).alloc (.cells #[.int .u64 0, .int .u64 0, .int .u64 0, .int .u64 0, .int .u64 0, .int .u64 0, .int .u64 0, .int .u64 0] 31)).alloc (.cells #[.int .u64 r, .int .u64 k, .int .u64 c, .int .u64 z] 22)).alloc (.cells #[.int .u64 y] 22)) (w.heap.size) P Q G from (((Boxed.at _ P Q G _ (w.heap.size) (by simp)).alloc _).alloc _).alloc _)
      have F_es := Lh (show ShL ((((w.alloc (.cells #[.int .u64 P, .int .u64 Q, .int .u64 G] 24)).alloc (.cells #[.int .u64 0, .int .u64 0, .int .u64 0, .int .u64 0, .int .u64 0, .int .u64 0, .int .u64 0, .int .u64 0] 31)).alloc (.cells #[.int .u64 r, .int .u64 k, .int .u64 c, .int .u64 z] 22)).alloc (.cells #[.int .u64 y] 22)) (some ⟨w.heap.size + 1 + 1, 0, none⟩) 4 4 [r, k, c, z] from (ShL.laid _ [r, k, c, z] _ _ (w.heap.size + 1 + 1) _ _ (by simp) rfl rfl).alloc _)
      have F_ns := Lh (show ShL ((((w.alloc (.cells #[.int .u64 P, .int .u64 Q, .int .u64 G] 24)).alloc (.cells #[.int .u64 0, .int .u64 0, .int .u64 0, .int .u64 0, .int .u64 0, .int .u64 0, .int .u64 0, .int .u64 0] 31)).alloc (.cells #[.int .u64 r, .int .u64 k, .int .u64 c, .int .u64 z] 22)).alloc (.cells #[.int .u64 y] 22)) (some ⟨w.heap.size + 1 + 1 + 1, 0, none⟩) 1 1 [y] from ShL.laid _ [y] _ _ (w.heap.size + 1 + 1 + 1) _ _ (by simp) rfl rfl)
      have F_r := Lh (show Arr .u64 ((((w.alloc (.cells #[.int .u64 P, .int .u64 Q, .int .u64 G] 24)).alloc (.cells #[.int .u64 0, .int .u64 0, .int .u64 0, .int .u64 0, .int .u64 0, .int .u64 0, .int .u64 0, .int .u64 0] 31)).alloc (.cells #[.int .u64 r, .int .u64 k, .int .u64 c, .int .u64 z] 22)).alloc (.cells #[.int .u64 y] 22)) (w.heap.size + 1) [0, 0, 0, 0, 0, 0, 0, 0] from ((Arr.new .u64 _ [0, 0, 0, 0, 0, 0, 0, 0] _ (w.heap.size + 1) (by simp)).alloc _).alloc _)
      have HBW := Lh (show Below w.heap.size w ((((w.alloc (.cells #[.int .u64 P, .int .u64 Q, .int .u64 G] 24)).alloc (.cells #[.int .u64 0, .int .u64 0, .int .u64 0, .int .u64 0, .int .u64 0, .int .u64 0, .int .u64 0, .int .u64 0] 31)).alloc (.cells #[.int .u64 r, .int .u64 k, .int .u64 c, .int .u64 z] 22)).alloc (.cells #[.int .u64 y] 22)) from ((((Below.refl _ _).alloc (by simp <;> omega) _).alloc (by simp <;> omega) _).alloc (by simp <;> omega) _).alloc (by simp <;> omega) _)
      go_enter Tryz.func30, Tryz.ntmps30
      obtain ⟨q1_0, q1_1, q1_2, q1_3, q1_4, q1_5, q1_6, q1_7, q1_8, q1_9, q1_10, q1_11, q1_12, q1_13, q1_14, q1_15⟩ := Arr.k8 F_r.o
      obtain ⟨x0a, x0b, x0c, -⟩ := id F_g.o
      go_wp2_with fail
      clear x0a x0b x0c q1_0 q1_1 q1_2 q1_3 q1_4 q1_5 q1_6 q1_7 q1_8 q1_9 q1_10 q1_11 q1_12 q1_13 q1_14 q1_15
      refine (pcheck_any _ hP hQ hG F_es.o F_ns.o (by simp) (by simp) HR.o).mono ?_
      rintro e w1 ⟨rfl, hb1⟩
      replace F_g := Lh (F_g.o.keep hb1)
      replace F_r := Lh (F_r.o.keep hb1)
      replace F_es := Lh (F_es.o.keep hb1)
      replace F_ns := Lh (F_ns.o.keep hb1)
      replace HBW := Lh (HBW.o.trans (hb1.mono HBW.o.size))
      clear hb1
      clear F_es
      clear F_ns
      obtain ⟨q1_0, q1_1, q1_2, q1_3, q1_4, q1_5, q1_6, q1_7, q1_8, q1_9, q1_10, q1_11, q1_12, q1_13, q1_14, q1_15⟩ := Arr.k8 F_r.o
      obtain ⟨x0a, x0b, x0c, -⟩ := id F_g.o
      go_wp2_with fail
      exact bodyPost_ret (res_bit rfl (F_r.o.st8 0 0 0 0 0 0 0 0) _ rfl rfl) rfl ⟨rfl, ((((((((HBW.o).setCell (by simp <;> omega) _).setCell (by simp <;> omega) _).setCell (by simp <;> omega) _).setCell (by simp <;> omega) _).setCell (by simp <;> omega) _).setCell (by simp <;> omega) _).setCell (by simp <;> omega) _).setCell (by simp <;> omega) _⟩
end Go.Proofs.YtlbldpkgnonbpaaGreatDoor
