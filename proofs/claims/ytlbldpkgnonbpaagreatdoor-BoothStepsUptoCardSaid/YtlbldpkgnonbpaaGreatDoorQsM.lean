/- elgamal.Encrypt and its fellows. -/
import Derived.Test.YtlbldpkgnonbpaaGreatDoorQsB
import Derived.Test.YtlbldpkgnonbpaaGreatDoorQsJ
import Derived.Test.YtlbldpkgnonbpaaGreatDoorQsL
import Derived.Test.YtlbldpkgnonbpaaGreatDoorQsI
import Derived.Deep.Cut
import Derived.WalkMore
import Derived.Test.YtlbldpkgnonbpaaGreatDoorQsC
import Derived.Test.YtlbldpkgnonbpaaGreatDoorQsA
set_option linter.unusedSimpArgs false
set_option linter.unusedVariables false
set_option maxRecDepth 100000
namespace Go.Proofs.YtlbldpkgnonbpaaGreatDoor
open Go.RowKit Num
set_option maxHeartbeats 4000000 in
theorem encrypt_ok {P Q G y m x a b : Int} (w : World) (hH : Has P Q G) (y0 : 0 ≤ y) (yP : y < P) (m0 : 0 ≤ m) (mQ : m < Q) (x0 : 0 ≤ x) (xQ : x < Q) (ha : powm G x P = a) (hb : powm G m P * powm y x P % P = b) :
 Calls Tryz.prog 29 #[.agg #[υ P, υ Q, υ G], υ y, υ m, υ x] w fun e w' => e = .returned (.tuple #[.agg #[υ a, υ b], .int .i64 0]) ∧ Below w.heap.size w w' := by
 have HR := Lh (askS_ok (es := [m, x]) (ns := [y]) hH (by simp; omega) (by simp; omega))
 have hP : 0 ≤ P := by have := hH.1; omega
 have hP1 : 1 < P := by have := hH.1; omega
 have hQ : 0 ≤ Q := hH.2.2.1
 have hG : 0 ≤ G := by have := hH.2.2.2.2.1; omega
 have hGP : G < P := hH.2.2.2.2.2
 have hQm : Q < 2147483648 := by have h1 := hH.2.2.2.1; have h2 := hH.2.1; omega
 have HH := Lh hH
 clear hH
 have HA := Lh ha
 have UX := Lh (U64.of_lt x0 (by omega))
 have UM := Lh (U64.of_lt m0 (by omega))
 generalize hgm : powm G m P = gm at hb
 generalize hyr : powm y x P = yr at hb
 have gm0 : 0 ≤ gm := hgm ▸ Int.emod_nonneg _ (by omega)
 have gmP : gm < P := hgm ▸ Int.emod_lt_of_pos _ (by omega)
 have yr0 : 0 ≤ yr := hyr ▸ Int.emod_nonneg _ (by omega)
 have yrP : yr < P := hyr ▸ Int.emod_lt_of_pos _ (by omega)
 have HM := Lh hgm
 have HY := Lh hyr
 have HB := Lh hb
 clear ha hb hgm hyr
 have F_g := Lh (show Boxed ((((w.alloc (.cells #[υ P, υ Q, υ G] 24)).alloc (.cells #[υ 0, υ 0] 75)).alloc (.cells #[υ m, υ x] 22)).alloc (.cells #[υ y] 22)) (w.heap.size) P Q G from (((Boxed.at _ P Q G _ (w.heap.size) (by simp)).alloc _).alloc _).alloc _)
 have F_r := Lh (show Pair ((((w.alloc (.cells #[υ P, υ Q, υ G] 24)).alloc (.cells #[υ 0, υ 0] 75)).alloc (.cells #[υ m, υ x] 22)).alloc (.cells #[υ y] 22)) (w.heap.size + 1) 0 0 from ((Pair.at _ 0 0 _ (w.heap.size + 1) (by simp)).alloc _).alloc _)
 have F_es := Lh (show ShL ((((w.alloc (.cells #[υ P, υ Q, υ G] 24)).alloc (.cells #[υ 0, υ 0] 75)).alloc (.cells #[υ m, υ x] 22)).alloc (.cells #[υ y] 22)) (some ⟨w.heap.size + 1 + 1, 0, none⟩) 2 2 [m, x] from (ShL.laid _ [m, x] _ _ (w.heap.size + 1 + 1) _ _ (by simp) rfl rfl).alloc _)
 have F_ns := Lh (show ShL ((((w.alloc (.cells #[υ P, υ Q, υ G] 24)).alloc (.cells #[υ 0, υ 0] 75)).alloc (.cells #[υ m, υ x] 22)).alloc (.cells #[υ y] 22)) (some ⟨w.heap.size + 1 + 1 + 1, 0, none⟩) 1 1 [y] from ShL.laid _ [y] _ _ (w.heap.size + 1 + 1 + 1) _ _ (by simp) rfl rfl)
 have HBW := Lh (show Below w.heap.size w ((((w.alloc (.cells #[υ P, υ Q, υ G] 24)).alloc (.cells #[υ 0, υ 0] 75)).alloc (.cells #[υ m, υ x] 22)).alloc (.cells #[υ y] 22)) from ((((Below.refl _ _).alloc (by simp <;> omega) _).alloc (by simp <;> omega) _).alloc (by simp <;> omega) _).alloc (by simp <;> omega) _)
 go_enter Tryz.func29, Tryz.ntmps29
 obtain ⟨xa, xb, xc, -⟩ := id F_g.o
 obtain ⟨ya, yb, yc, yd, -⟩ := id F_r.o
 go_wp2_with fail
 clear xa xb xc ya yb yc yd
 refine (echeck_any _ hP hQ hG F_es.o F_ns.o (by simp) (by simp) HR.o).mono ?_
 rintro e w1 ⟨rfl, hb1⟩
 replace F_g := Lh (F_g.o.keep hb1)
 replace F_r := Lh (F_r.o.keep hb1)
 replace F_es := Lh (F_es.o.keep hb1)
 replace F_ns := Lh (F_ns.o.keep hb1)
 replace HBW := Kt HBW hb1
 clear hb1
 clear F_es
 clear F_ns
 obtain ⟨xa, xb, xc, -⟩ := id F_g.o
 go_wp2_with fail
 clear xa xb xc
 refine (pow_ok P Q G G x a _ HH.o hG hGP UX.o HA.o).mono ?_
 rintro e w2 ⟨rfl, hb2⟩
 replace F_g := Lh (F_g.o.keep hb2)
 replace F_r := Lh (F_r.o.keep hb2)
 replace HBW := Kt HBW hb2
 clear hb2
 obtain ⟨xa, xb, xc, -⟩ := id F_g.o
 go_wp2_with fail
 clear xa xb xc
 refine (pow_ok P Q G G m gm _ HH.o hG hGP UM.o HM.o).mono ?_
 rintro e w3 ⟨rfl, hb3⟩
 replace F_g := Lh (F_g.o.keep hb3)
 replace F_r := Lh (F_r.o.keep hb3)
 replace HBW := Kt HBW hb3
 clear hb3
 obtain ⟨xa, xb, xc, -⟩ := id F_g.o
 go_wp2_with fail
 clear xa xb xc
 refine (pow_ok P Q G y x yr _ HH.o y0 yP UX.o HY.o).mono ?_
 rintro e w4 ⟨rfl, hb4⟩
 replace F_g := Lh (F_g.o.keep hb4)
 replace F_r := Lh (F_r.o.keep hb4)
 replace HBW := Kt HBW hb4
 clear hb4
 obtain ⟨xa, xb, xc, -⟩ := id F_g.o
 go_wp2_with fail
 clear xa xb xc
 refine (mul_ok P Q G gm yr b _ HH.o gm0 gmP yr0 yrP HB.o).mono ?_
 rintro e w5 ⟨rfl, hb5⟩
 replace F_g := Lh (F_g.o.keep hb5)
 replace F_r := Lh (F_r.o.keep hb5)
 replace HBW := Kt HBW hb5
 clear hb5
 obtain ⟨xa, xb, xc, -⟩ := id F_g.o
 obtain ⟨ya, yb, yc, yd, -⟩ := id F_r.o
 go_wp2_with fail
 exact bodyPost_ret (res_pair rfl (F_r.o.stored a b) _ rfl rfl) rfl ⟨rfl, (HBW.o.setCell (by simp <;> omega) _).setCell (by simp <;> omega) _⟩
def EncS (P Q G y m x a b e : Int) : Prop := (askS P Q G [m, x] [y] = 0 ∧ powm G x P = a ∧ powm G m P * powm y x P % P = b ∧ e = 0) ∨ (askS P Q G [m, x] [y] ≠ 0 ∧ a = 0 ∧ b = 0 ∧ e = askS P Q G [m, x] [y])
theorem EncS.exists (P Q G y m x : Int) : ∃ a b e, EncS P Q G y m x a b e := by
 by_cases h : askS P Q G [m, x] [y] = 0
 · exact ⟨_, _, _, .inl ⟨h, rfl, rfl, rfl⟩⟩
 · exact ⟨_, _, _, .inr ⟨h, rfl, rfl, rfl⟩⟩
def ValS (P Q G a b : Int) (r : Bool) (e : Int) : Prop := (askS P Q G [] [a, b] = 0 ∧ (r = true ↔ Mem P Q a ∧ Mem P Q b) ∧ e = 0) ∨ (askS P Q G [] [a, b] ≠ 0 ∧ r = false ∧ e = askS P Q G [] [a, b])
theorem ValS.exists (P Q G a b : Int) : ∃ r e, ValS P Q G a b r e := by
 classical
 by_cases h : askS P Q G [] [a, b] = 0
 · exact ⟨decide (Mem P Q a ∧ Mem P Q b), _, .inl ⟨h, by simp, rfl⟩⟩
 · exact ⟨_, _, .inr ⟨h, rfl, rfl⟩⟩
def StripS (P Q G a b p r e : Int) : Prop := (askS P Q G [] [a, b, p] = 0 ∧ ∃ ok u, InvS P p ok u ∧ ((ok = true ∧ b * u % P = r ∧ e = 0) ∨ (ok = false ∧ r = 0 ∧ e = 6))) ∨ (askS P Q G [] [a, b, p] ≠ 0 ∧ r = 0 ∧ e = askS P Q G [] [a, b, p])
theorem StripS.exists (P Q G a b p : Int) : ∃ r e, StripS P Q G a b p r e := by
 by_cases h : askS P Q G [] [a, b, p] = 0
 · obtain ⟨ok, u, hi⟩ := InvS.exists P p (by have := (askS_zero h).1.1; omega)
   cases ok
   · exact ⟨_, _, .inl ⟨h, _, _, hi, .inr ⟨rfl, rfl, rfl⟩⟩⟩
   · exact ⟨_, _, .inl ⟨h, _, _, hi, .inl ⟨rfl, rfl, rfl⟩⟩⟩
 · exact ⟨_, _, .inr ⟨h, rfl, rfl⟩⟩
open Go Go.RowKit Num Sha
theorem Arr.k8 {w : World} {b : Nat} {r0 r1 s0 s1 c0 c1 z0 z1 : Int} (h : Arr .u64 w b [r0, r1, s0, s1, c0, c1, z0, z1]) : w.cell? ⟨b, 0, none⟩ = some (υ r0) ∧ w.cell? ⟨b, 1, none⟩ = some (υ r1) ∧ w.cell? ⟨b, 2, none⟩ = some (υ s0) ∧ w.cell? ⟨b, 3, none⟩ = some (υ s1) ∧ w.cell? ⟨b, 4, none⟩ = some (υ c0) ∧ w.cell? ⟨b, 5, none⟩ = some (υ c1) ∧ w.cell? ⟨b, 6, none⟩ = some (υ z0) ∧ w.cell? ⟨b, 7, none⟩ = some (υ z1) ∧ w.frozen? ⟨b, 0, none⟩ = false ∧ w.frozen? ⟨b, 1, none⟩ = false ∧ w.frozen? ⟨b, 2, none⟩ = false ∧ w.frozen? ⟨b, 3, none⟩ = false ∧ w.frozen? ⟨b, 4, none⟩ = false ∧ w.frozen? ⟨b, 5, none⟩ = false ∧ w.frozen? ⟨b, 6, none⟩ = false ∧ w.frozen? ⟨b, 7, none⟩ = false :=
 ⟨h.c 0 (by simp), h.c 1 (by simp), h.c 2 (by simp), h.c 3 (by simp), h.c 4 (by simp), h.c 5 (by simp), h.c 6 (by simp), h.c 7 (by simp), h.f 0, h.f 1, h.f 2, h.f 3, h.f 4, h.f 5, h.f 6, h.f 7⟩
theorem Arr.s8 {w : World} {b : Nat} {r0 r1 s0 s1 c0 c1 z0 z1 : Int} (h : Arr .u64 w b [r0, r1, s0, s1, c0, c1, z0, z1]) : S8 w b r0 r1 s0 s1 c0 c1 z0 z1 := ⟨h.c 0 (by simp), h.c 1 (by simp), h.c 2 (by simp), h.c 3 (by simp), h.c 4 (by simp), h.c 5 (by simp), h.c 6 (by simp), h.c 7 (by simp)⟩
theorem Pair.under {w w' : World} {b n : Nat} {x y : Int} (h : Pair w b x y) (hb : Below n w w') (hn : b < n) : Pair w' b x y := pair_below h hb hn
def BitZ (P Q G y m r k c z : Int) (T : List Int) (r0 r1 s0 s1 c0 c1 z0 z1 : Int) : Prop :=
 ∃ a b nn pp t1 mi g1 g2 Rj h1 h2 Sj Rm Sm tot Cm Zm : Int, powm G r P = a ∧ powm G m P * powm y r P % P = b ∧ (0 - 1) % Q = nn ∧ powm G nn P = pp ∧ b * pp % P = t1 ∧ (0 - c) % Q = mi ∧ powm G z P = g1 ∧ powm a mi P = g2 ∧ g1 * g2 % P = Rj ∧
  powm y z P = h1 ∧ powm (if m = 0 then t1 else b) mi P = h2 ∧ h1 * h2 % P = Sj ∧ powm G k P = Rm ∧ powm y k P = Sm ∧ chV Q (if m = 0 then [y, a, b, Rm, Sm, Rj, Sj] else [y, a, b, Rj, Sj, Rm, Sm]) T = tot ∧ (tot - c) % Q = Cm ∧ (k + Cm * r % Q) % Q = Zm ∧
  (if m = 0 then (r0 = Rm ∧ r1 = Rj ∧ s0 = Sm ∧ s1 = Sj ∧ c0 = Cm ∧ c1 = c ∧ z0 = Zm ∧ z1 = z) else (r0 = Rj ∧ r1 = Rm ∧ s0 = Sj ∧ s1 = Sm ∧ c0 = c ∧ c1 = Cm ∧ z0 = z ∧ z1 = Zm))
theorem BitZ.exists (P Q G y m r k c z : Int) (T : List Int) : ∃ r0 r1 s0 s1 c0 c1 z0 z1, BitZ P Q G y m r k c z T r0 r1 s0 s1 c0 c1 z0 z1 := by
 by_cases h : m = 0
 · exact ⟨_, _, _, _, _, _, _, _, _, _, _, _, _, _, _, _, _, _, _, _, _, _, _, _, _, rfl, rfl, rfl, rfl, rfl, rfl, rfl, rfl, rfl, rfl, rfl, rfl, rfl, rfl, rfl, rfl, rfl, by rw [if_pos h]; exact ⟨rfl, rfl, rfl, rfl, rfl, rfl, rfl, rfl⟩⟩
 · exact ⟨_, _, _, _, _, _, _, _, _, _, _, _, _, _, _, _, _, _, _, _, _, _, _, _, _, rfl, rfl, rfl, rfl, rfl, rfl, rfl, rfl, rfl, rfl, rfl, rfl, rfl, rfl, rfl, rfl, rfl, by rw [if_neg h]; exact ⟨rfl, rfl, rfl, rfl, rfl, rfl, rfl, rfl⟩⟩
def bitChk (P Q G y m r k c z : Int) : Int := if askS P Q G [r, k, c, z] [y] = 0 then (if m = 0 ∨ m = 1 then 0 else 2) else askS P Q G [r, k, c, z] [y]
def RetBit (chk P Q G y m r k c z : Int) (T : List Int) (r0 r1 s0 s1 c0 c1 z0 z1 e : Int) : Prop :=
 (chk = 0 ∧ BitZ P Q G y m r k c z T r0 r1 s0 s1 c0 c1 z0 z1 ∧ e = 0) ∨ (chk ≠ 0 ∧ (r0 = 0 ∧ r1 = 0 ∧ s0 = 0 ∧ s1 = 0 ∧ c0 = 0 ∧ c1 = 0 ∧ z0 = 0 ∧ z1 = 0) ∧ e = chk)
theorem RetBit.exists (chk P Q G y m r k c z : Int) (T : List Int) : ∃ r0 r1 s0 s1 c0 c1 z0 z1 e, RetBit chk P Q G y m r k c z T r0 r1 s0 s1 c0 c1 z0 z1 e := by
 by_cases h : chk = 0
 · obtain ⟨r0, r1, s0, s1, c0, c1, z0, z1, hz⟩ := BitZ.exists P Q G y m r k c z T
   exact ⟨r0, r1, s0, s1, c0, c1, z0, z1, 0, .inl ⟨h, hz, rfl⟩⟩
 · exact ⟨0, 0, 0, 0, 0, 0, 0, 0, chk, .inr ⟨h, ⟨rfl, rfl, rfl, rfl, rfl, rfl, rfl, rfl⟩, rfl⟩⟩
set_option maxHeartbeats 4000000 in
theorem ptotal_any {P Q G y a b v r0 r1 s0 s1 c0 c1 z0 z1 : Int} {tx : Option Addr} {n cp : Nat} {T : List Int} (w : World) (hT : Txt w tx n T) (hH : Has P Q G) (hu : ∀ x, x ∈ [y, a, b, r0, s0, r1, s1] → U64 x) (hn8 : n ≤ 8000) (hv : chV Q [y, a, b, r0, s0, r1, s1] T = v) :
 Calls Tryz.prog 71 #[.agg #[υ P, υ Q, υ G], υ y, .agg #[υ a, υ b], .agg #[υ r0, υ r1, υ s0, υ s1, υ c0, υ c1, υ z0, υ z1], .slice tx n cp] w fun e w' => e = .returned (υ v) ∧ Below w.heap.size w w' := by
 have HT := Lh hT
 have HV := Lh hv
 have HUS := Lh hu
 clear hT hv hu
 obtain ⟨p5, p3, hQ', pq, g2, gP⟩ := id hH
 have hP1 : 1 ≤ P := by omega
 have hGM : G < 2147483648 := by omega
 have q3 : Q < 1073741824 := by omega
 have q2 : 2 ≤ Q := by omega
 have HH := Lh hH
 clear hH pq
 have F_g := Lh (show Boxed ((((w.alloc (.cells #[υ P, υ Q, υ G] 24)).alloc (.cells #[υ a, υ b] 75)).alloc (.cells #[υ r0, υ r1, υ s0, υ s1, υ c0, υ c1, υ z0, υ z1] 31)).alloc (.cells #[υ y, υ a, υ b, υ r0, υ s0, υ r1, υ s1] 22)) (w.heap.size) P Q G from (((Boxed.at _ P Q G _ (w.heap.size) (by simp)).alloc _).alloc _).alloc _)
 have F_s := Lh (show Pair ((((w.alloc (.cells #[υ P, υ Q, υ G] 24)).alloc (.cells #[υ a, υ b] 75)).alloc (.cells #[υ r0, υ r1, υ s0, υ s1, υ c0, υ c1, υ z0, υ z1] 31)).alloc (.cells #[υ y, υ a, υ b, υ r0, υ s0, υ r1, υ s1] 22)) (w.heap.size + 1) a b from ((Pair.at _ a b _ (w.heap.size + 1) (by simp)).alloc _).alloc _)
 have F_ms := Lh (show ShL ((((w.alloc (.cells #[υ P, υ Q, υ G] 24)).alloc (.cells #[υ a, υ b] 75)).alloc (.cells #[υ r0, υ r1, υ s0, υ s1, υ c0, υ c1, υ z0, υ z1] 31)).alloc (.cells #[υ y, υ a, υ b, υ r0, υ s0, υ r1, υ s1] 22)) (some ⟨w.heap.size + 1 + 1 + 1, 0, none⟩) 7 7 [y, a, b, r0, s0, r1, s1] from ShL.laid _ [y, a, b, r0, s0, r1, s1] _ _ (w.heap.size + 1 + 1 + 1) _ _ (by simp) rfl rfl)
 have F_p := Lh (show Arr .u64 ((((w.alloc (.cells #[υ P, υ Q, υ G] 24)).alloc (.cells #[υ a, υ b] 75)).alloc (.cells #[υ r0, υ r1, υ s0, υ s1, υ c0, υ c1, υ z0, υ z1] 31)).alloc (.cells #[υ y, υ a, υ b, υ r0, υ s0, υ r1, υ s1] 22)) (w.heap.size + 1 + 1) [r0, r1, s0, s1, c0, c1, z0, z1] from (Arr.new .u64 _ [r0, r1, s0, s1, c0, c1, z0, z1] _ (w.heap.size + 1 + 1) (by simp)).alloc _)
 have HBW := Lh (show Below w.heap.size w ((((w.alloc (.cells #[υ P, υ Q, υ G] 24)).alloc (.cells #[υ a, υ b] 75)).alloc (.cells #[υ r0, υ r1, υ s0, υ s1, υ c0, υ c1, υ z0, υ z1] 31)).alloc (.cells #[υ y, υ a, υ b, υ r0, υ s0, υ r1, υ s1] 22)) from ((((Below.refl _ _).alloc (by simp <;> omega) _).alloc (by simp <;> omega) _).alloc (by simp <;> omega) _).alloc (by simp <;> omega) _)
 go_enter Tryz.func71, Tryz.ntmps71
 obtain ⟨Q0, Q1, Q2, Q3, Q4, Q5, Q6, Q7, Q8, Q9, Qa, Qb, Qc, Qd, Qe, Qf⟩ := Arr.k8 F_p.o
 obtain ⟨xa, xb, xc, -⟩ := id F_g.o
 obtain ⟨ya, yb, yc, yd, -⟩ := id F_s.o
 go_wp2_with fail
 clear xa xb xc ya yb yc yd Q0 Q1 Q2 Q3 Q4 Q5 Q6 Q7 Q8 Q9 Qa Qb Qc Qd Qe Qf
 refine (pchallenge_any _ (HT.o.keep HBW.o) HH.o F_ms.o HUS.o (by simp) hn8 HV.o).mono ?_
 rintro e w1 ⟨rfl, hb1⟩
 replace F_g := Lh (F_g.o.keep hb1)
 replace F_s := Lh (F_s.o.keep hb1)
 replace F_p := Lh (F_p.o.keep hb1)
 replace F_ms := Lh (F_ms.o.keep hb1)
 replace HBW := Kt HBW hb1
 clear hb1
 clear F_ms
 obtain ⟨Q0, Q1, Q2, Q3, Q4, Q5, Q6, Q7, Q8, Q9, Qa, Qb, Qc, Qd, Qe, Qf⟩ := Arr.k8 F_p.o
 obtain ⟨xa, xb, xc, -⟩ := id F_g.o
 obtain ⟨ya, yb, yc, yd, -⟩ := id F_s.o
 go_wp2_with fail
 go_ret
 exact ⟨rfl, HBW.o⟩
open Go Go.RowKit Num Sha
abbrev Gro (r : Nat) (w w' : World) : Prop := w.grownBy w' (some r)
theorem Gro.refl (r : Nat) (w : World) : Gro r w w := ⟨rfl, rfl, rfl, Nat.le_refl _, fun _ _ _ => rfl⟩
theorem Gro.trans {r : Nat} {a b c : World} (h : Gro r a b) (k : Gro r b c) : Gro r a c :=
 ⟨k.os.trans h.os, k.tape.trans h.tape, k.output.trans h.output, Nat.le_trans h.size k.size, fun i hi hn => (k.block i (Nat.lt_of_lt_of_le hi h.size) hn).trans (h.block i hi hn)⟩
theorem Gro.below {r : Nat} {a b c : World} (h : Gro r a b) (k : Below b.heap.size b c) : Gro r a c :=
 ⟨k.os.trans h.os, k.tape.trans h.tape, k.output.trans h.output, Nat.le_trans h.size k.size, fun i hi hn => (k.block i (Nat.lt_of_lt_of_le hi h.size)).trans (h.block i hi hn)⟩
theorem Gro.drew {r : Nat} {a b : World} (h : Gro r a b) : Gro r a b.drew := ⟨h.os, h.tape, h.output, h.size, h.block⟩
theorem Gro.alloc {r : Nat} {a b : World} (h : Gro r a b) (o : Obj) : Gro r a (b.alloc o) := h.below ((Below.refl _ _).alloc (Nat.le_refl _) o)
theorem Gro.set {r : Nat} {a b : World} (h : Gro r a b) (p : Addr) (hp : p.block = r ∨ a.heap.size ≤ p.block) (v : Value) : Gro r a (b.setCell p v) :=
 ⟨h.os, h.tape, h.output, by simpa using h.size, fun i hi hn => by
  rw [Below.heap_setCell b p v i (by rcases hp with hp | hp; · intro e; apply hn; rw [e, hp]
                                     · omega)]
  exact h.block i hi hn⟩
theorem Gro.blw {r n : Nat} {a b : World} (h : Gro r a b) (hn : n ≤ r) (hz : n ≤ a.heap.size) : Below n a b :=
 ⟨h.os, h.tape, h.output, h.size, fun k hk => h.block k (by omega) (by intro e; injection e with e; omega)⟩
def Rd (w0 W : World) (Br : Nat) (xs : List Int) : Prop := ∃ a c, RBox W Br (.slice a xs.length c) ∧ ShI .u8 w0 a xs.length xs ∧ xs.length ≤ c
theorem Rd.keepN {w0 W W' : World} {Br n : Nat} {xs : List Int} (h : Rd w0 W Br xs) (hb : Below n W W') (hn : Br < n) : Rd w0 W' Br xs := by
 obtain ⟨a, c, h1, h2, h3⟩ := h
 exact ⟨a, c, h1.keepN hb hn, h2, h3⟩
theorem Rd.lt {w0 W : World} {Br : Nat} {xs : List Int} (h : Rd w0 W Br xs) : Br < W.heap.size := by
 obtain ⟨a, c, h1, h2, h3⟩ := h
 exact h1.lt
theorem Rd.keep {w0 W W' : World} {Br : Nat} {xs : List Int} (h : Rd w0 W Br xs) (hb : Below W.heap.size W W') : Rd w0 W' Br xs := h.keepN hb h.lt
theorem Rd.drew {w0 W : World} {Br : Nat} {xs : List Int} (h : Rd w0 W Br xs) : Rd w0 W.drew Br xs := h.keep (Below.refl _ _).drew
theorem Rd.alloc {w0 W : World} {Br : Nat} {xs : List Int} (h : Rd w0 W Br xs) (o : Obj) : Rd w0 (W.alloc o) Br xs := h.keep ((Below.refl _ _).alloc (Nat.le_refl _) o)
theorem Rd.set {w0 W : World} {Br : Nat} {xs : List Int} (h : Rd w0 W Br xs) (p : Addr) (u : Value) (hp : p.block ≠ Br) : Rd w0 (W.setCell p u) Br xs := by
 obtain ⟨a, c, h1, h2, h3⟩ := h
 exact ⟨a, c, h1.other p u hp, h2, h3⟩
theorem Bytes.drop {xs : List Int} (h : Bytes xs) (k : Nat) : Bytes (xs.drop k) := fun x hx => h x (List.mem_of_mem_drop hx)
def num8 (xs : List Int) (j : Nat) : Int := beN ((xs.drop (8 * j)).take 8)
def bitN (xs : List Int) : Bt := ⟨num8 xs 0, num8 xs 2, num8 xs 1, num8 xs 3, num8 xs 4, num8 xs 5, num8 xs 6, num8 xs 7⟩
def Bt.l (z : Bt) : List Int := [z.r0, z.r1, z.s0, z.s1, z.c0, z.c1, z.z0, z.z1]
structure TwoB (W : World) (B : Nat) (v1 v2 : Value) : Prop where
 c0 : W.cell? ⟨B, 0, none⟩ = some v1
 c1 : W.cell? ⟨B, 1, none⟩ = some v2
 lt : B < W.heap.size
theorem TwoB.at (W : World) (v1 v2 : Value) (T : TypeId) (b : Nat) (hb : b = W.heap.size) : TwoB (W.alloc (.cells #[v1, v2] T)) b v1 v2 := by
 subst hb
 refine ⟨?_, ?_, by simp⟩
 · rw [World.cell?_alloc_new]; rfl
 · rw [World.cell?_alloc_new]; rfl
theorem TwoB.keep {W W' : World} {B : Nat} {v1 v2 : Value} (h : TwoB W B v1 v2) (hb : Below W.heap.size W W') : TwoB W' B v1 v2 :=
 ⟨(hb.cell (p := ⟨B, 0, none⟩) h.lt).trans h.c0, (hb.cell (p := ⟨B, 1, none⟩) h.lt).trans h.c1, Nat.lt_of_lt_of_le h.lt hb.size⟩
theorem TwoB.drew {W : World} {B : Nat} {v1 v2 : Value} (h : TwoB W B v1 v2) : TwoB W.drew B v1 v2 := h.keep (Below.refl _ _).drew
theorem TwoB.set {W : World} {B : Nat} {v1 v2 : Value} (h : TwoB W B v1 v2) (p : Addr) (u : Value) (hp : p.block ≠ B) : TwoB (W.setCell p u) B v1 v2 :=
 ⟨by rw [World.cell?_setCell_other _ _ _ _ (show p ≠ ⟨B, 0, none⟩ from fun e => hp (by rw [e]))]; exact h.c0, by rw [World.cell?_setCell_other _ _ _ _ (show p ≠ ⟨B, 1, none⟩ from fun e => hp (by rw [e]))]; exact h.c1, by simpa using h.lt⟩
open Go Go.RowKit Num Sha
structure Cl (w : World) (B : Nat) (l : List Value) : Prop where
 c : ∀ i u, l[i]? = some u → w.cell? ⟨B, i, none⟩ = some u
 f : ∀ i, w.frozen? ⟨B, i, none⟩ = false
 lt : B < w.heap.size
theorem Cl.at (w : World) (l : List Value) (t : TypeId) (b : Nat) (hb : b = w.heap.size) : Cl (w.alloc (.cells l.toArray t)) b l := by
 subst hb
 refine ⟨fun i u hu => ?_, fun i => by simp, by simp⟩
 rw [World.cell?_alloc_new]; simpa using hu
theorem Cl.keepN {w w' : World} {B n : Nat} {l : List Value} (h : Cl w B l) (hb : Below n w w') (hn : B < n) : Cl w' B l :=
 ⟨fun i u hu => (hb.cell (p := ⟨B, i, none⟩) hn).trans (h.c i u hu), fun i => (hb.frozen (p := ⟨B, i, none⟩) hn).trans (h.f i), Nat.lt_of_lt_of_le h.lt hb.size⟩
theorem Cl.keep {w w' : World} {B : Nat} {l : List Value} (h : Cl w B l) (hb : Below w.heap.size w w') : Cl w' B l := h.keepN hb h.lt
theorem Cl.drew {w : World} {B : Nat} {l : List Value} (h : Cl w B l) : Cl w.drew B l := h.keep (Below.refl _ _).drew
theorem Cl.alloc {w : World} {B : Nat} {l : List Value} (h : Cl w B l) (o : Obj) : Cl (w.alloc o) B l := h.keep ((Below.refl _ _).alloc (Nat.le_refl _) o)
theorem Cl.far {w : World} {B : Nat} {l : List Value} (h : Cl w B l) (p : Addr) (u : Value) (hp : p.block ≠ B) : Cl (w.setCell p u) B l :=
 ⟨fun i v hv => by rw [World.cell?_setCell_other _ _ _ _ (show p ≠ ⟨B, i, none⟩ from fun e => hp (by rw [e]))]; exact h.c i v hv, fun i => by rw [World.frozen?_setCell]; exact h.f i, by simpa using h.lt⟩
theorem Cl.set {w : World} {B : Nat} {l m : List Value} (h : Cl w B l) (i : Nat) (u : Value) (hi : i < l.length) (hm : l.set i u = m) : Cl (w.setCell ⟨B, i, none⟩ u) B m := by
 subst hm
 refine ⟨fun j v hv => ?_, fun j => by rw [World.frozen?_setCell]; exact h.f j, by simpa using h.lt⟩
 by_cases e : j = i
 · subst e
   rw [List.getElem?_set_self hi] at hv
   cases hv
   refine World.cell?_setCell_same' _ _ _ ?_
   rw [h.c j l[j] (List.getElem?_eq_getElem hi)]; try rfl
 · rw [List.getElem?_set_ne (Ne.symm e)] at hv
   rw [World.cell?_setCell_other _ _ _ _ (show (⟨B, i, none⟩ : Addr) ≠ ⟨B, j, none⟩ from fun h0 => e (by injection h0 with _ h1; exact h1.symm))]
   exact h.c j v hv
theorem Cl.k11 {w : World} {B : Nat} {v0 v1 v2 v3 v4 v5 v6 v7 v8 v9 v10 : Value} (h : Cl w B [v0, v1, v2, v3, v4, v5, v6, v7, v8, v9, v10]) : (w.cell? ⟨B, 0, none⟩ = some v0 ∧ w.cell? ⟨B, 1, none⟩ = some v1 ∧ w.cell? ⟨B, 2, none⟩ = some v2 ∧ w.cell? ⟨B, 3, none⟩ = some v3 ∧ w.cell? ⟨B, 4, none⟩ = some v4 ∧ w.cell? ⟨B, 5, none⟩ = some v5 ∧ w.cell? ⟨B, 6, none⟩ = some v6 ∧ w.cell? ⟨B, 7, none⟩ = some v7 ∧ w.cell? ⟨B, 8, none⟩ = some v8 ∧ w.cell? ⟨B, 9, none⟩ = some v9 ∧ w.cell? ⟨B, 10, none⟩ = some v10) ∧ (w.frozen? ⟨B, 0, none⟩ = false ∧ w.frozen? ⟨B, 1, none⟩ = false ∧ w.frozen? ⟨B, 2, none⟩ = false ∧ w.frozen? ⟨B, 3, none⟩ = false ∧ w.frozen? ⟨B, 4, none⟩ = false ∧ w.frozen? ⟨B, 5, none⟩ = false ∧ w.frozen? ⟨B, 6, none⟩ = false ∧ w.frozen? ⟨B, 7, none⟩ = false ∧ w.frozen? ⟨B, 8, none⟩ = false ∧ w.frozen? ⟨B, 9, none⟩ = false ∧ w.frozen? ⟨B, 10, none⟩ = false) :=
 ⟨⟨h.c 0 _ rfl, h.c 1 _ rfl, h.c 2 _ rfl, h.c 3 _ rfl, h.c 4 _ rfl, h.c 5 _ rfl, h.c 6 _ rfl, h.c 7 _ rfl, h.c 8 _ rfl, h.c 9 _ rfl, h.c 10 _ rfl⟩, h.f 0, h.f 1, h.f 2, h.f 3, h.f 4, h.f 5, h.f 6, h.f 7, h.f 8, h.f 9, h.f 10⟩
theorem Cl.k3 {w : World} {B : Nat} {x y z : Value} (h : Cl w B [x, y, z]) : w.cell? ⟨B, 0, none⟩ = some x ∧ w.cell? ⟨B, 1, none⟩ = some y ∧ w.cell? ⟨B, 2, none⟩ = some z := ⟨h.c 0 _ rfl, h.c 1 _ rfl, h.c 2 _ rfl⟩
theorem Cl.k2 {w : World} {B : Nat} {x y : Value} (h : Cl w B [x, y]) : w.cell? ⟨B, 0, none⟩ = some x ∧ w.cell? ⟨B, 1, none⟩ = some y := ⟨h.c 0 _ rfl, h.c 1 _ rfl⟩
theorem Kd {B : Nat} {l : List Value} {w1 w2 : World} (h : Hid (Cl w1 B l)) (g : Below w1.heap.size w1 w2) : Hid (Cl w2 B l) := Lh (h.out.keep g)
theorem bx1 (w : World) (c0 : List Value) (t0 : TypeId) : Hid (Cl (w.alloc (.cells c0.toArray t0)) (w.heap.size) c0) ∧ Hid (Below w.heap.size w (w.alloc (.cells c0.toArray t0))) :=
  ⟨Lh (Cl.at w c0 t0 _ rfl), Lh ((Below.refl _ _).alloc (Nat.le_refl _) _)⟩
theorem bx2 (w : World) (c0 : List Value) (t0 : TypeId) (c1 : List Value) (t1 : TypeId) : Hid (Cl ((w.alloc (.cells c0.toArray t0)).alloc (.cells c1.toArray t1)) (w.heap.size) c0) ∧ Hid (Cl ((w.alloc (.cells c0.toArray t0)).alloc (.cells c1.toArray t1)) (w.heap.size + 1) c1) ∧ Hid (Below w.heap.size w ((w.alloc (.cells c0.toArray t0)).alloc (.cells c1.toArray t1))) :=
  let ⟨a0, b⟩ := bx1 w c0 t0
  ⟨Lh (a0.out.alloc _), Lh (Cl.at _ c1 t1 _ (by simp)), Lh (b.out.alloc (by simp <;> omega) _)⟩
theorem bx3 (w : World) (c0 : List Value) (t0 : TypeId) (c1 : List Value) (t1 : TypeId) (c2 : List Value) (t2 : TypeId) : Hid (Cl (((w.alloc (.cells c0.toArray t0)).alloc (.cells c1.toArray t1)).alloc (.cells c2.toArray t2)) (w.heap.size) c0) ∧ Hid (Cl (((w.alloc (.cells c0.toArray t0)).alloc (.cells c1.toArray t1)).alloc (.cells c2.toArray t2)) (w.heap.size + 1) c1) ∧ Hid (Cl (((w.alloc (.cells c0.toArray t0)).alloc (.cells c1.toArray t1)).alloc (.cells c2.toArray t2)) (w.heap.size + 1 + 1) c2) ∧ Hid (Below w.heap.size w (((w.alloc (.cells c0.toArray t0)).alloc (.cells c1.toArray t1)).alloc (.cells c2.toArray t2))) :=
  let ⟨a0, a1, b⟩ := bx2 w c0 t0 c1 t1
  ⟨Lh (a0.out.alloc _), Lh (a1.out.alloc _), Lh (Cl.at _ c2 t2 _ (by simp)), Lh (b.out.alloc (by simp <;> omega) _)⟩
theorem bx4 (w : World) (c0 : List Value) (t0 : TypeId) (c1 : List Value) (t1 : TypeId) (c2 : List Value) (t2 : TypeId) (c3 : List Value) (t3 : TypeId) : Hid (Cl ((((w.alloc (.cells c0.toArray t0)).alloc (.cells c1.toArray t1)).alloc (.cells c2.toArray t2)).alloc (.cells c3.toArray t3)) (w.heap.size) c0) ∧ Hid (Cl ((((w.alloc (.cells c0.toArray t0)).alloc (.cells c1.toArray t1)).alloc (.cells c2.toArray t2)).alloc (.cells c3.toArray t3)) (w.heap.size + 1) c1) ∧ Hid (Cl ((((w.alloc (.cells c0.toArray t0)).alloc (.cells c1.toArray t1)).alloc (.cells c2.toArray t2)).alloc (.cells c3.toArray t3)) (w.heap.size + 1 + 1) c2) ∧ Hid (Cl ((((w.alloc (.cells c0.toArray t0)).alloc (.cells c1.toArray t1)).alloc (.cells c2.toArray t2)).alloc (.cells c3.toArray t3)) (w.heap.size + 1 + 1 + 1) c3) ∧ Hid (Below w.heap.size w ((((w.alloc (.cells c0.toArray t0)).alloc (.cells c1.toArray t1)).alloc (.cells c2.toArray t2)).alloc (.cells c3.toArray t3))) :=
  let ⟨a0, a1, a2, b⟩ := bx3 w c0 t0 c1 t1 c2 t2
  ⟨Lh (a0.out.alloc _), Lh (a1.out.alloc _), Lh (a2.out.alloc _), Lh (Cl.at _ c3 t3 _ (by simp)), Lh (b.out.alloc (by simp <;> omega) _)⟩
theorem bx5 (w : World) (c0 : List Value) (t0 : TypeId) (c1 : List Value) (t1 : TypeId) (c2 : List Value) (t2 : TypeId) (c3 : List Value) (t3 : TypeId) (c4 : List Value) (t4 : TypeId) : Hid (Cl (((((w.alloc (.cells c0.toArray t0)).alloc (.cells c1.toArray t1)).alloc (.cells c2.toArray t2)).alloc (.cells c3.toArray t3)).alloc (.cells c4.toArray t4)) (w.heap.size) c0) ∧ Hid (Cl (((((w.alloc (.cells c0.toArray t0)).alloc (.cells c1.toArray t1)).alloc (.cells c2.toArray t2)).alloc (.cells c3.toArray t3)).alloc (.cells c4.toArray t4)) (w.heap.size + 1) c1) ∧ Hid (Cl (((((w.alloc (.cells c0.toArray t0)).alloc (.cells c1.toArray t1)).alloc (.cells c2.toArray t2)).alloc (.cells c3.toArray t3)).alloc (.cells c4.toArray t4)) (w.heap.size + 1 + 1) c2) ∧ Hid (Cl (((((w.alloc (.cells c0.toArray t0)).alloc (.cells c1.toArray t1)).alloc (.cells c2.toArray t2)).alloc (.cells c3.toArray t3)).alloc (.cells c4.toArray t4)) (w.heap.size + 1 + 1 + 1) c3) ∧ Hid (Cl (((((w.alloc (.cells c0.toArray t0)).alloc (.cells c1.toArray t1)).alloc (.cells c2.toArray t2)).alloc (.cells c3.toArray t3)).alloc (.cells c4.toArray t4)) (w.heap.size + 1 + 1 + 1 + 1) c4) ∧ Hid (Below w.heap.size w (((((w.alloc (.cells c0.toArray t0)).alloc (.cells c1.toArray t1)).alloc (.cells c2.toArray t2)).alloc (.cells c3.toArray t3)).alloc (.cells c4.toArray t4))) :=
  let ⟨a0, a1, a2, a3, b⟩ := bx4 w c0 t0 c1 t1 c2 t2 c3 t3
  ⟨Lh (a0.out.alloc _), Lh (a1.out.alloc _), Lh (a2.out.alloc _), Lh (a3.out.alloc _), Lh (Cl.at _ c4 t4 _ (by simp)), Lh (b.out.alloc (by simp <;> omega) _)⟩
theorem own_gro {W W' : World} {r n₀ : Nat} {e : TypeId} {sz n : Nat} {v : Value} {xs : List Value} (h : W.ownsRow n₀ e sz v n xs) (g : Gro r W W') (hn : r < n₀) : W'.ownsRow n₀ e sz v n xs := by
 refine World.ownsRow.kept h g ?_
 cases hv : v.ownBlock with
 | none => exact .inl rfl
 | some k => exact .inr (by have := (h.lt k hv).1; intro e; injection e with e; omega)
theorem own_far {W : World} {n₀ : Nat} {e : TypeId} {sz n : Nat} {v : Value} {xs : List Value} (h : W.ownsRow n₀ e sz v n xs) (p : Addr) (u : Value) (hn : p.block < n₀) : (W.setCell p u).ownsRow n₀ e sz v n xs :=
 own_gro h ((Gro.refl p.block W).set p (.inl rfl) u) hn
def boxesN (ys : List Int) (k : Nat) : List (Int × Int) := (List.range k).map fun i => (num8 ys (2 * i), num8 ys (2 * i + 1))
def bitsN (ys : List Int) (n k : Nat) : List Bt := (List.range k).map fun i => bitN (ys.drop (16 * n + 64 * i))
def readF (xs : List Int) : Int × List (Int × Int) × List Bt × Bool × Bt :=
 let n := (xs.getD 0 0).toNat
 let m := (xs.getD 1 0).toNat
 if xs.length < 3 then (10, [], [], false, Bt.zero)
 else if 10 < n ∨ 10 < m ∨ 1 < xs.getD 2 0 then (11, [], [], false, Bt.zero)
 else if xs.length < 3 + 16 * n + 64 * (m + 1) then (10, [], [], false, Bt.zero)
 else if 3 + 16 * n + 64 * (m + 1) < xs.length then (11, [], [], false, Bt.zero)
 else (0, boxesN (xs.drop 3) n, bitsN (xs.drop 3) n m, decide (xs.getD 2 0 = 1), bitN ((xs.drop 3).drop (16 * n + 64 * m)))
def RetRd (w : World) (xs : List Int) (e : Ending) (w' : World) : Prop :=
 ∃ V : Vt, e = .returned (.tuple #[V.v, .int .i64 (readF xs).1]) ∧ VtIn w' V ∧ V.bs = (readF xs).2.1 ∧ V.ps = (readF xs).2.2.1 ∧ V.one = (readF xs).2.2.2.1 ∧ V.z = (readF xs).2.2.2.2 ∧ Below w.heap.size w w'
def zeroV : Vt := ⟨none, 0, 0, [], none, 0, 0, [], false, Bt.zero⟩
open Go Go.RowKit Go.Shelf Num Sha
attribute [local go_sem] Oper.semAt_some
def restS (q : Int) : Int := 18446744073709551616 % q
def skipS (seed : List Int) (i q : Int) (k : Nat) : Bool := decide (0 < restS q) && decide (18446744073709551616 - restS q ≤ tryS seed i k)
def drawS (seed : List Int) (i q : Int) : Option Int := ((List.range 16).find? fun k => !skipS seed i q k).map fun k => tryS seed i k % q
def drawV (o : Option Int) : Value := match o with
 | some x => .tuple #[υ x, .int .i64 0]
 | none => .tuple #[υ 0, .int .i64 6]
structure DBx (W : World) (b : Nat) (q R u e : Int) : Prop where
 q : Cl W (b + 1) [υ q]
 u : Cl W (b + 1 + 1) [υ u]
 e : Cl W (b + 1 + 1 + 1) [.int .i64 e]
 r : Cl W (b + 1 + 1 + 1 + 1) [υ R]
theorem DBx.keepN {W W' : World} {b n : Nat} {q R u e : Int} (h : DBx W b q R u e) (hb : Below n W W') (hn : b + 5 ≤ n) : DBx W' b q R u e :=
 ⟨h.q.keepN hb (by omega), h.u.keepN hb (by omega), h.e.keepN hb (by omega), h.r.keepN hb (by omega)⟩
open Go Go.RowKit Num Sha
def sampS (seed : List Int) (q : Int) : Nat → Option (List Int)
 | 0 => some []
 | k + 1 => match sampS seed q k with
   | none => none
   | some xs => match drawS seed (k : Int) q with
     | none => none
     | some x => some (xs ++ [x])
def RetSm (w : World) (o : Option (List Int)) (e : Ending) (w' : World) : Prop := Below w.heap.size w w' ∧ match o with
 | some xs => ∃ v, e = .returned (.tuple #[v, .int .i64 0]) ∧ OwnU8 w' w.heap.size v xs
 | none => e = .returned (.tuple #[.slice none 0 0, .int .i64 6])
open Go Go.RowKit Num Sha
def chkB (P Q G y n : Int) : Int := if ¬ Has P Q G then 300 else if P ≤ y ∨ n < 1 ∨ 10 < n then 2 else 0
theorem chkB_ok {P Q G y n : Int} (h : chkB P Q G y n = 0) : Has P Q G ∧ y < P ∧ 1 ≤ n ∧ n ≤ 10 := by
 unfold chkB at h
 split at h
 · cases h
 · next hh =>
   split at h
   · cases h
   · exact ⟨Classical.not_not.1 hh, by omega, by omega, by omega⟩
def markedFrom (n last : Int) : List Int → Bool
 | [] => true
 | i :: l => if i ≤ last ∨ n ≤ i then false else markedFrom n i l
def markedS (n : Int) (l : List Int) : Bool := markedFrom n (-1) l
def msgS (l : List Int) (i : Int) : Int := if i ∈ l then 1 else 0
set_option maxHeartbeats 8000000 in
theorem bcheck_any {P Q G y n : Int} (w : World) (hP : 0 ≤ P) (hQ : 0 ≤ Q) (hG : 0 ≤ G) (hy : 0 ≤ y) :
 Calls Tryz.prog 24 #[.agg #[υ P, υ Q, υ G], υ y, .int .i64 n] w fun e w' => e = .returned (.int .i64 (chkB P Q G y n)) ∧ Below w.heap.size w w' := by
 have F_g := Lh (Cl.at w [υ P, υ Q, υ G] 24 w.heap.size rfl)
 have HBW := Lh (show Below w.heap.size w (w.alloc (.cells #[υ P, υ Q, υ G] 24)) from (Below.refl _ _).alloc (Nat.le_refl _) _)
 have c0 := F_g.o.c 0 _ rfl
 have c1 := F_g.o.c 1 _ rfl
 have c2 := F_g.o.c 2 _ rfl
 go_enter Tryz.func24, Tryz.ntmps24
 go_wp2_with fail
 clear c0 c1 c2
 refine (form_any P Q G _ hP hQ hG).mono ?_
 rintro e w1 ⟨rfl, hb1⟩
 replace F_g := Lh (F_g.o.keep hb1)
 replace HBW := Kt HBW hb1
 clear hb1
 have c0 := F_g.o.c 0 _ rfl
 by_cases hh : Has P Q G
 case neg =>
  have hf : formS P Q G = 300 := by unfold formS; rw [if_neg hh]
  rw [hf]
  go_wp2_with fail
  go_ret
  exact ⟨by unfold chkB; rw [if_pos hh]; rfl, HBW.o⟩
 case pos =>
  have hf : formS P Q G = 0 := by unfold formS; rw [if_pos hh]
  rw [hf]
  have HC := Lh (show chkB P Q G y n = if P ≤ y ∨ n < 1 ∨ 10 < n then 2 else 0 by unfold chkB; rw [if_neg (fun h => h hh)])
  clear hf
  by_cases h1 : P ≤ y
  case pos =>
   have d1 : decide (P ≤ y) = true := decide_eq_true h1
   go_wp2_with fail
   go_ret
   exact ⟨by rw [HC.o, if_pos (.inl h1)]; rfl, HBW.o⟩
  case neg =>
  have d1 : decide (P ≤ y) = false := decide_eq_false h1
  by_cases h2 : n < 1
  case pos =>
   have d2 : decide (n < 1) = true := decide_eq_true h2
   go_wp2_with fail
   go_ret
   exact ⟨by rw [HC.o, if_pos (.inr (.inl h2))]; rfl, HBW.o⟩
  case neg =>
  have d2 : decide (n < 1) = false := decide_eq_false h2
  by_cases h3 : 10 < n
  case pos =>
   have d3 : decide (10 < n) = true := decide_eq_true h3
   go_wp2_with fail
   go_ret
   exact ⟨by rw [HC.o, if_pos (.inr (.inr h3))]; rfl, HBW.o⟩
  case neg =>
  have d3 : decide (10 < n) = false := decide_eq_false h3
  go_wp2_with fail
  go_ret
  exact ⟨by rw [HC.o, if_neg (by omega)]; rfl, HBW.o⟩
set_option maxHeartbeats 8000000 in
theorem marked_any {n : Int} {a : Option Addr} {m c : Nat} {l : List Int} (w : World) (hS : ShI .i64 w a m l) (hm : m ≤ 9223372036854775807) :
 Calls Tryz.prog 25 #[.int .i64 n, .slice a m c] w fun e w' => e = .returned (.bool (markedS n l)) ∧ w' = w := by
 have HL := Lh hS.len
 have HS := Lh hS
 have HR := Lh (show markedS n l = markedFrom n (-1) (l.drop 0) from rfl)
 clear hS
 go_enter Tryz.func25, Tryz.ntmps25
 go_wp2_with fail
 go_loop [5, 7, 10] (fun c5 _ c10 => ∃ (k : Nat) (last : Int), k ≤ m ∧ c10 = .int .i64 k ∧ c5 = .int .i64 last ∧ Hid (markedS n l = markedFrom n last (l.drop k))) (fun _ _ c10 => m - (intOf c10).toNat)
 case atStart => exact ⟨0, -1, by omega, rfl, rfl, HR.o⟩
 case round =>
  clear HR
  obtain ⟨k, last, hk, rfl, rfl, HR⟩ := hrel
  by_cases hlt : k < m
  case neg =>
   obtain rfl : k = m := by omega
   have hd : decide ((k : Int) < (k : Int)) = false := decide_eq_false (by omega)
   go_wp2_with fail
   go_ret
   exact ⟨by rw [HR.o, List.drop_eq_nil_of_le (by rw [← HL.o]; exact Nat.le_refl _)]; rfl, rfl⟩
  case pos =>
   have hd : decide ((k : Int) < (m : Int)) = true := decide_eq_true (by omega)
   have i0 : (0 : Int) ≤ (k : Int) := by omega
   have i1 : (k : Int) < (m : Int) := by omega
   have w1 : IntKind.i64.wrap ((k : Int) + 1) = (k : Int) + 1 := IntWalk.i64_in _ (by omega)
   obtain ⟨s, o, rfl, hc⟩ : ∃ s o, a = some ⟨s, o, none⟩ ∧ w.cell? ⟨s, o + k, none⟩ = some (.int .i64 (l.getD k 0)) := by
    rcases HS.o with ⟨h1, _⟩ | ⟨s, o, h0, h1, h2, h3⟩
    · omega
    · exact ⟨s, o, h0, h3 k (by omega)⟩
   have HD := Lh (show l.drop k = l.getD k 0 :: l.drop (k + 1) by
    have hl : k < l.length := by rw [← HL.o]; exact hlt
    rw [List.drop_eq_getElem_cons hl, List.getD_eq_getElem?_getD, List.getElem?_eq_getElem hl]; rfl)
   generalize l.getD k 0 = x at hc HD
   by_cases h1 : x ≤ last
   case pos =>
    have d1 : decide (x ≤ last) = true := decide_eq_true h1
    go_wp2_with fail
    go_ret
    exact ⟨by rw [HR.o, HD.o, markedFrom, if_pos (.inl h1)]; rfl, rfl⟩
   case neg =>
   have d1 : decide (x ≤ last) = false := decide_eq_false h1
   by_cases h2 : n ≤ x
   case pos =>
    have d2 : decide (n ≤ x) = true := decide_eq_true h2
    go_wp2_with fail
    go_ret
    exact ⟨by rw [HR.o, HD.o, markedFrom, if_pos (.inr h2)]; rfl, rfl⟩
   case neg =>
   have d2 : decide (n ≤ x) = false := decide_eq_false h2
   go_wp2_with fail
   go_round
   case rel => exact ⟨k + 1, x, by omega, by go_num, rfl, Lh (by rw [HR.o, HD.o, markedFrom, if_neg (by omega)])⟩
   case measure => simp [intOf]; omega
set_option maxHeartbeats 8000000 in
theorem index_any {i : Int} {a : Option Addr} {m c : Nat} {l : List Int} (w : World) (hS : ShI .i64 w a m l) (hm : m ≤ 100000) :
 Calls Tryz.prog 98 #[.slice a m c, .int .i64 i] w fun e w' => (∃ r : Int, e = .returned (.int .i64 r) ∧ (0 ≤ r ↔ i ∈ l)) ∧ w' = w := by
 have HL := Lh hS.len
 have HS := Lh hS
 clear hS
 go_enter Tryz.func98, Tryz.ntmps98
 go_wp2_with fail
 go_loop [5, 8] (fun _ c8 => ∃ (k : Nat), k ≤ m ∧ c8 = .int .i64 k ∧ Hid (i ∉ l.take k)) (fun _ c8 => m - (intOf c8).toNat)
 case atStart => exact ⟨0, by omega, rfl, Lh (by rw [List.take_zero]; exact List.not_mem_nil)⟩
 case round =>
  obtain ⟨k, hk, rfl, HR⟩ := hrel
  by_cases hlt : k < m
  case neg =>
   obtain rfl : k = m := by omega
   have hd : decide ((k : Int) < (k : Int)) = false := decide_eq_false (by omega)
   go_wp2_with fail
   go_ret
   have h := HR.o
   rw [List.take_of_length_le (by rw [← HL.o]; exact Nat.le_refl _)] at h
   exact ⟨⟨_, rfl, fun h' => absurd h' (by simp), fun h' => absurd h' h⟩, rfl⟩
  case pos =>
   have hd : decide ((k : Int) < (m : Int)) = true := decide_eq_true (by omega)
   have i0 : (0 : Int) ≤ (k : Int) := by omega
   have i1 : (k : Int) < (m : Int) := by omega
   have w1 : IntKind.i64.wrap ((k : Int) + 1) = (k : Int) + 1 := IntWalk.i64_in _ (by omega)
   obtain ⟨s, o, rfl, hc⟩ : ∃ s o, a = some ⟨s, o, none⟩ ∧ w.cell? ⟨s, o + k, none⟩ = some (.int .i64 (l.getD k 0)) := by
    rcases HS.o with ⟨h1, _⟩ | ⟨s, o, h0, h1, h2, h3⟩
    · omega
    · exact ⟨s, o, h0, h3 k (by omega)⟩
   have HD := Lh (show l.take (k + 1) = l.take k ++ [l.getD k 0] ∧ l.getD k 0 ∈ l by
    have hl : k < l.length := by rw [← HL.o]; exact hlt
    rw [List.take_succ_eq_append_getElem hl, List.getD_eq_getElem?_getD, List.getElem?_eq_getElem hl]; exact ⟨rfl, List.getElem_mem hl⟩)
   generalize l.getD k 0 = x at hc HD
   by_cases h1 : i = x
   case pos =>
    subst h1
    go_wp2_with fail
    go_ret
    exact ⟨⟨_, rfl, fun _ => HD.o.2, fun _ => by simp⟩, rfl⟩
   case neg =>
   go_wp2_with fail
   go_round
   case rel => exact ⟨k + 1, by omega, by go_num, Lh (by rw [HD.o.1]; intro h; rcases List.mem_append.1 h with h | h; exact HR.o h; simp at h; exact h1 h)⟩
   case measure => simp [intOf]; omega
theorem contains_any {i : Int} {a : Option Addr} {m c : Nat} {l : List Int} (w : World) (hS : ShI .i64 w a m l) (hm : m ≤ 100000) :
 Calls Tryz.prog 60 #[.slice a m c, .int .i64 i] w fun e w' => e = .returned (.bool (decide (i ∈ l))) ∧ w' = w := by
 have HS := Lh hS
 clear hS
 go_enter Tryz.func60, Tryz.ntmps60
 go_wp2_with fail
 refine (index_any _ HS.o hm).mono ?_
 rintro e w1 ⟨⟨r, rfl, hr⟩, rfl⟩
 have HR := Lh hr
 clear hr
 go_wp2_with fail
 go_ret
 exact ⟨by rw [← show decide (0 ≤ r) = decide (i ∈ l) from decide_eq_decide.2 HR.o]; rfl, rfl⟩
theorem message_any {i : Int} {a : Option Addr} {m c : Nat} {l : List Int} (w : World) (hS : ShI .i64 w a m l) (hm : m ≤ 100000) :
 Calls Tryz.prog 28 #[.slice a m c, .int .i64 i] w fun e w' => e = .returned (.int .i64 (msgS l i)) ∧ w' = w := by
 have HS := Lh hS
 clear hS
 go_enter Tryz.func28, Tryz.ntmps28
 go_wp2_with fail
 refine (contains_any _ HS.o hm).mono ?_
 rintro e w1 ⟨rfl, rfl⟩
 by_cases h : i ∈ l
 · rw [decide_eq_true h]
   go_wp2_with fail
   go_ret
   exact ⟨by unfold msgS; rw [if_pos h]; rfl, rfl⟩
 · rw [decide_eq_false h]
   go_wp2_with fail
   go_ret
   exact ⟨by unfold msgS; rw [if_neg h]; rfl, rfl⟩
open Go.RowKit Num
@[go_sem] theorem run_store_fn (P : Program) (w : World) (a : Addr) (fn : Fn) (first cap : Array Value) (m : Mode) : (store a (.func fn first cap) m).run P w = stored P w a (.func fn first cap) m := run_store P w a _ m rfl
set_option maxHeartbeats 1000000 in
theorem smul_any {P Q G x y z : Int} {B : Nat} (w : World) (hB : Boxed w B P Q G) (hH : Has P Q G) (x0 : 0 ≤ x) (xP : x < P) (y0 : 0 ≤ y) (yP : y < P) (hz : x * y % P = z) :
 Calls Tryz.prog 134 #[υ x, υ y, .pointer (some ⟨B, 0, none⟩)] w fun e w' => e = .returned (υ z) ∧ Below w.heap.size w w' := by
 obtain ⟨g0, g1, g2, gl⟩ := hB
 have HZ := Lh hz
 clear hz
 have HH := Lh hH
 clear hH
 go_enter Tryz.func134, Tryz.ntmps134
 go_wp2_with (go_at_call 63; refine (mul_ok P Q G x y z _ HH.o x0 xP y0 yP HZ.o).mono ?_; rintro e w1 ⟨rfl, hb1⟩)
 go_ret
 exact ⟨rfl, hb1⟩
set_option maxHeartbeats 1000000 in
theorem start_any (P Q G : Int) (w : World) :
 Calls Tryz.prog 114 #[.agg #[υ P, υ Q, υ G]] w fun e w' => e = .returned (.agg #[υ 1, υ 1, .func (.func 134) #[] #[.pointer (some ⟨w.heap.size, 0, none⟩)]]) ∧ Below w.heap.size w w' ∧ Boxed w' w.heap.size P Q G := by
 have hmf : ∀ (fn : Fn) (first cap : Array Value) (w : World), (Instr.makeFunc fn first cap).run Tryz.prog w = .ok (.func fn first cap) w := fun _ _ _ _ => rfl
 have hB := Lh (Boxed.new w P Q G 24)
 go_enter Tryz.func114, Tryz.ntmps114
 go_wp2_with fail
 refine bodyPost_ret (v := .agg #[υ 1, υ 1, .func (.func 134) #[] #[.pointer (some ⟨w.heap.size, 0, none⟩)]]) (by simp [results, Tryz.results114, go_sem]) rfl ⟨rfl, ?_, hB.o.alloc _⟩
 exact Below.alloc (Below.alloc (Below.refl _ _) (by simp) _) (by simp) _
structure Eng (w : World) (E B : Nat) (P Q G a b : Int) : Prop where
 c0 : w.cell? ⟨E, 0, none⟩ = some (υ a)
 c1 : w.cell? ⟨E, 1, none⟩ = some (υ b)
 c2 : w.cell? ⟨E, 2, none⟩ = some (.func (.func 134) #[] #[.pointer (some ⟨B, 0, none⟩)])
 f0 : w.frozen? ⟨E, 0, none⟩ = false
 f1 : w.frozen? ⟨E, 1, none⟩ = false
 lt : E < w.heap.size
 box : Boxed w B P Q G
 ne : B ≠ E
theorem Eng.keep {w w' : World} {E B : Nat} {P Q G a b : Int} (h : Eng w E B P Q G a b) (hb : Below w.heap.size w w') : Eng w' E B P Q G a b :=
 ⟨(hb.cell (p := ⟨E, 0, none⟩) h.lt).trans h.c0, (hb.cell (p := ⟨E, 1, none⟩) h.lt).trans h.c1, (hb.cell (p := ⟨E, 2, none⟩) h.lt).trans h.c2, (hb.frozen (p := ⟨E, 0, none⟩) h.lt).trans h.f0, (hb.frozen (p := ⟨E, 1, none⟩) h.lt).trans h.f1, Nat.lt_of_lt_of_le h.lt hb.size, h.box.keep hb, h.ne⟩
structure Added (w w' : World) (E : Nat) : Prop where
 below : ∀ n, n ≤ w.heap.size → n ≤ E → Below n w w'
 cell : ∀ b o, b < w.heap.size → b ≠ E → w'.cell? ⟨b, o, none⟩ = w.cell? ⟨b, o, none⟩
 frozen : ∀ b o, b < w.heap.size → b ≠ E → w'.frozen? ⟨b, o, none⟩ = w.frozen? ⟨b, o, none⟩
theorem Added.of {w w1 : World} {E : Nat} (hb : Below w.heap.size w w1) (u v : Value) : Added w ((w1.setCell ⟨E, 0, none⟩ u).setCell ⟨E, 1, none⟩ v) E := by
 refine ⟨fun n h1 h2 => ((hb.mono h1).setCell (p := ⟨E, 0, none⟩) h2 u).setCell (p := ⟨E, 1, none⟩) h2 v, fun b o h1 h2 => ?_, fun b o h1 h2 => ?_⟩
 · rw [World.cell?_setCell_other _ _ _ _ (fun h => h2 (congrArg Addr.block h).symm), World.cell?_setCell_other _ _ _ _ (fun h => h2 (congrArg Addr.block h).symm)]
   exact hb.cell (p := ⟨b, o, none⟩) h1
 · rw [World.frozen?_setCell, World.frozen?_setCell]
   exact hb.frozen (p := ⟨b, o, none⟩) h1
def SAdd (w : World) (E B C : Nat) (a b c d : Int) : Prop :=
 w.cell? ⟨E, 0, none⟩ = some (υ a) ∧ w.cell? ⟨E, 1, none⟩ = some (υ b) ∧ w.cell? ⟨E, 2, none⟩ = some (.func (.func 134) #[] #[.pointer (some ⟨B, 0, none⟩)]) ∧ w.cell? ⟨C, 0, none⟩ = some (υ c) ∧ w.cell? ⟨C, 1, none⟩ = some (υ d)
theorem SAdd.keep {w w' : World} {E B C : Nat} {a b c d : Int} (h : SAdd w E B C a b c d) (hE : E < w.heap.size) (hC : C < w.heap.size) (hb : Below w.heap.size w w') : SAdd w' E B C a b c d :=
 ⟨(hb.cell (p := ⟨E, 0, none⟩) hE).trans h.1, (hb.cell (p := ⟨E, 1, none⟩) hE).trans h.2.1, (hb.cell (p := ⟨E, 2, none⟩) hE).trans h.2.2.1, (hb.cell (p := ⟨C, 0, none⟩) hC).trans h.2.2.2.1, (hb.cell (p := ⟨C, 1, none⟩) hC).trans h.2.2.2.2⟩
theorem Eng.stored {w : World} {E B : Nat} {P Q G a b a' b' : Int} (h : Eng w E B P Q G a b) : Eng ((w.setCell ⟨E, 0, none⟩ (υ a')).setCell ⟨E, 1, none⟩ (υ b')) E B P Q G a' b' := by
 have h0 : ((w.setCell ⟨E, 0, none⟩ (υ a')).cell? ⟨E, 0, none⟩) = some (υ a') := World.cell?_setCell_same _ _ _ h.c0
 have h1 : ((w.setCell ⟨E, 0, none⟩ (υ a')).cell? ⟨E, 1, none⟩) = some (υ b) := by rw [World.cell?_setCell_other _ _ _ _ (by simp)]; exact h.c1
 refine ⟨?_, World.cell?_setCell_same _ _ _ h1, ?_, ?_, ?_, by simpa using h.lt, ⟨?_, ?_, ?_, by simpa using h.box.lt⟩, h.ne⟩
 · rw [World.cell?_setCell_other _ _ _ _ (by simp)]; exact h0
 · rw [World.cell?_setCell_other _ _ _ _ (by simp), World.cell?_setCell_other _ _ _ _ (by simp)]; exact h.c2
 · rw [World.frozen?_setCell, World.frozen?_setCell]; exact h.f0
 · rw [World.frozen?_setCell, World.frozen?_setCell]; exact h.f1
 · rw [World.cell?_setCell_other _ _ _ _ (fun e => h.ne (congrArg Addr.block e).symm), World.cell?_setCell_other _ _ _ _ (fun e => h.ne (congrArg Addr.block e).symm)]; exact h.box.c0
 · rw [World.cell?_setCell_other _ _ _ _ (fun e => h.ne (congrArg Addr.block e).symm), World.cell?_setCell_other _ _ _ _ (fun e => h.ne (congrArg Addr.block e).symm)]; exact h.box.c1
 · rw [World.cell?_setCell_other _ _ _ _ (fun e => h.ne (congrArg Addr.block e).symm), World.cell?_setCell_other _ _ _ _ (fun e => h.ne (congrArg Addr.block e).symm)]; exact h.box.c2
set_option maxHeartbeats 4000000 in
theorem eadd_any {P Q G a b c d a' b' : Int} {E B : Nat} (w : World) (hE : Eng w E B P Q G a b) (hH : Has P Q G) (a0 : 0 ≤ a) (aP : a < P) (b0 : 0 ≤ b) (bP : b < P) (c0 : 0 ≤ c) (cP : c < P) (d0 : 0 ≤ d) (dP : d < P) (ha : a * c % P = a') (hb : b * d % P = b') :
 Calls Tryz.prog 115 #[.pointer (some ⟨E, 0, none⟩), .agg #[υ c, υ d]] w fun e w' => e = .returned (.tuple #[]) ∧ Eng w' E B P Q G a' b' ∧ Added w w' E := by
 have HE := Lh hE
 have HH := Lh hH
 have HA := Lh ha
 have HB := Lh hb
 have hlt := hE.lt
 clear hE hH ha hb
 go_enter Tryz.func115, Tryz.ntmps115
 go_wp2_with fail
 have HW := Lh (show Below w.heap.size w (w.alloc (.cells #[υ c, υ d] 75)) from Below.alloc (Below.refl _ _) (Nat.le_refl _) _)
 have hS : SAdd (w.alloc (.cells #[υ c, υ d] 75)).drew E B w.heap.size a b c d := by
  obtain ⟨e0, e1, e2, -⟩ := HE.o.keep HW.o.drew
  exact ⟨e0, e1, e2, by rw [World.cell?_drew, World.cell?_alloc_new]; rfl, by rw [World.cell?_drew, World.cell?_alloc_new]; rfl⟩
 have HE0 := Lh (HE.o.keep HW.o.drew)
 refine wp_region_stage 32 (fun w' => SAdd w' E B w.heap.size a b c d) (by kernel_rfl) ?_
 refine tkQ 0 (some 4) (.move (.tmp 0)) 181 ?_
 simp only [sY]
 refine tkQ 1 (some 5) (.move (.tmp 0)) 181 ?_
 simp only [sY]
 refine tkQ 2 (some 6) (.move (.tmp 0)) 181 ?_
 simp only [sY]
 refine tkQ 3 (some 7) (.nilCheck (.tmp 6)) 0 ?_
 simp only [sY]
 refine tkQ 4 (some 8) (.fieldAddr 157 (.tmp 7) 1) 0 ?_
 simp only [sY]
 refine tkL (i := 5) (some 9) (.load 155 (.tmp 8)) 155 [32] (v := ?_) hS (fun w' hSw => ?_) ?_
 rotate_left
 · obtain ⟨s0, s1, s2, s3, s4⟩ := hSw
   unfold bareOp; go_simp; try with_reducible rfl
 simp only [sY]
 refine tkQ 6 (some 10) (.move (.tmp 0)) 181 ?_
 simp only [sY]
 refine tkQ 7 (some 11) (.nilCheck (.tmp 10)) 0 ?_
 simp only [sY]
 refine tkQ 8 (some 12) (.fieldAddr 157 (.tmp 11) 0) 0 ?_
 simp only [sY]
 refine tkQ 9 (some 13) (.fieldAddr 154 (.tmp 12) 0) 0 ?_
 simp only [sY]
 refine tkQ 10 (some 14) (.fieldAddr 75 (.tmp 13) 0) 0 ?_
 simp only [sY]
 refine tkL (i := 11) (some 15) (.load 22 (.tmp 14)) 22 [32] (v := ?_) hS (fun w' hSw => ?_) ?_
 rotate_left
 · obtain ⟨s0, s1, s2, s3, s4⟩ := hSw
   unfold bareOp; go_simp; try with_reducible rfl
 simp only [sY]
 refine tkQ 12 (some 16) (.fieldAddr 75 (.tmp 3) 0) 0 ?_
 simp only [sY]
 refine tkL (i := 13) (some 17) (.load 22 (.tmp 16)) 22 [32] (v := ?_) hS (fun w' hSw => ?_) ?_
 rotate_left
 · obtain ⟨s0, s1, s2, s3, s4⟩ := hSw
   unfold bareOp; go_simp; try with_reducible rfl
 simp only [sY]
 refine tkQ 15 (some 19) (.move (.tmp 0)) 181 ?_
 simp only [sY]
 refine tkQ 16 (some 20) (.nilCheck (.tmp 19)) 0 ?_
 simp only [sY]
 refine tkQ 17 (some 21) (.fieldAddr 157 (.tmp 20) 1) 0 ?_
 simp only [sY]
 refine tkL (i := 18) (some 22) (.load 155 (.tmp 21)) 155 [32] (v := ?_) hS (fun w' hSw => ?_) ?_
 rotate_left
 · obtain ⟨s0, s1, s2, s3, s4⟩ := hSw
   unfold bareOp; go_simp; try with_reducible rfl
 simp only [sY]
 refine tkQ 19 (some 23) (.move (.tmp 0)) 181 ?_
 simp only [sY]
 refine tkQ 20 (some 24) (.nilCheck (.tmp 23)) 0 ?_
 simp only [sY]
 refine tkQ 21 (some 25) (.fieldAddr 157 (.tmp 24) 0) 0 ?_
 simp only [sY]
 refine tkQ 22 (some 26) (.fieldAddr 154 (.tmp 25) 0) 0 ?_
 simp only [sY]
 refine tkQ 23 (some 27) (.fieldAddr 75 (.tmp 26) 1) 0 ?_
 simp only [sY]
 refine tkL (i := 24) (some 28) (.load 22 (.tmp 27)) 22 [32] (v := ?_) hS (fun w' hSw => ?_) ?_
 rotate_left
 · obtain ⟨s0, s1, s2, s3, s4⟩ := hSw
   unfold bareOp; go_simp; try with_reducible rfl
 simp only [sY]
 refine tkQ 25 (some 29) (.fieldAddr 75 (.tmp 3) 1) 0 ?_
 simp only [sY]
 refine tkL (i := 26) (some 30) (.load 22 (.tmp 29)) 22 [27, 32] (v := ?_) hS (fun w' hSw => ?_) ?_
 rotate_left
 · obtain ⟨s0, s1, s2, s3, s4⟩ := hSw
   unfold bareOp; go_simp; try with_reducible rfl
 simp only [sY]
 refine onl (i := 14) (some 18) (.call { callee := .value (.tmp 9), args := #[.tmp 15, .tmp 17], argTypes := #[22, 22] }) 22 (fun K hK => ?_)
 unfold bareOp
 go_wp2_with (go_at_call 134; refine (smul_any _ HE0.o.box HH.o a0 aP c0 cP HA.o).mono ?_; rintro e w1 ⟨rfl, hb1⟩)
 have hS1 : SAdd w1 E B w.heap.size a b c d := hS.keep (Nat.lt_of_lt_of_le hlt HW.o.drew.size) (by simp) hb1
 have HE1 := Lh (HE0.o.keep hb1)
 have HB1 := Lh (HW.o.drew.trans (hb1.mono HW.o.drew.size))
 have hlt1 := HE1.o.lt
 have hz1 := Nat.lt_of_lt_of_le (show w.heap.size < (w.alloc (.cells #[υ c, υ d] 75)).drew.heap.size by simp) hb1.size
 refine hK.o _ _ (fun _ => hS1) ?_
 clear hK K hb1
 try simp only [sY]
 refine onl (i := 27) (some 31) (.call { callee := .value (.tmp 22), args := #[.tmp 28, .tmp 30], argTypes := #[22, 22] }) 22 (fun K hK => ?_)
 unfold bareOp
 go_wp2_with (go_at_call 134; refine (smul_any _ HE1.o.box HH.o b0 bP d0 dP HB.o).mono ?_; rintro e w2 ⟨rfl, hb2⟩)
 have hS2 : SAdd w2 E B w.heap.size a b c d := hS1.keep hlt1 hz1 hb2
 have HE2 := Lh (HE1.o.keep hb2)
 have HB2 := Lh (HB1.o.trans (hb2.mono HB1.o.size))
 refine hK.o _ _ (fun _ => hS2) ?_
 clear hK K hb2 hS1 hS hlt1 hz1
 try simp only [sY]
 refine tkP (i := 28) (some 32) (.nilCheck (.tmp 4)) 0 (fun _ => hS2) ?_
 simp only [sY]
 refine tkP (i := 29) (some 33) (.fieldAddr 157 (.tmp 32) 0) 0 (fun _ => hS2) ?_
 simp only [sY]
 refine tkP (i := 30) (some 34) (.fieldAddr 154 (.tmp 33) 0) 0 (fun _ => hS2) ?_
 simp only [sY]
 refine tkP (i := 31) (some 35) (.fieldAddr 75 (.tmp 34) 0) 0 (fun _ => hS2) ?_
 simp only [sY]
 have e0 := HE2.o.c0
 have e1 := HE2.o.c1
 have f0 := HE2.o.f0
 have f1 := HE2.o.f1
 refine onl (i := 32) none (.store 22 (.tmp 35) (.tmp 18)) 0 (fun K hK => ?_)
 unfold bareOp
 go_wp2_with fail
 refine hK.o _ _ lt8 ?_
 clear hK K
 try simp only [sY]
 refine tkP (i := 33) (some 36) (.nilCheck (.tmp 5)) 0 lt8 ?_
 simp only [sY]
 refine tkP (i := 34) (some 37) (.fieldAddr 157 (.tmp 36) 0) 0 lt8 ?_
 simp only [sY]
 refine tkP (i := 35) (some 38) (.fieldAddr 154 (.tmp 37) 0) 0 lt8 ?_
 simp only [sY]
 refine tkP (i := 36) (some 39) (.fieldAddr 75 (.tmp 38) 1) 0 lt8 ?_
 simp only [sY]
 refine onl (i := 37) none (.store 22 (.tmp 39) (.tmp 31)) 0 (fun K hK => ?_)
 unfold bareOp
 go_wp2_with fail
 refine hK.o _ _ lt8 ?_
 clear hK K
 try simp only [sY]
 refine wpAnyB_done (by kernel_rfl) ?_ _
 go_wp2_with fail
 go_end0
 exact ⟨rfl, HE2.o.stored, Added.of HB2.o _ _⟩
end Go.Proofs.YtlbldpkgnonbpaaGreatDoor
