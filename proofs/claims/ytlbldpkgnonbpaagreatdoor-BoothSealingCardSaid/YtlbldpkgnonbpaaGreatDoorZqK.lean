/- elgamal.Encrypt and its fellows. -/
import Derived.Test.YtlbldpkgnonbpaaGreatDoorZqB
set_option linter.unusedSimpArgs false
set_option linter.unusedVariables false
set_option maxRecDepth 100000
namespace Go.Proofs.YtlbldpkgnonbpaaGreatDoor
open Go.RowKit Num
set_option maxHeartbeats 4000000 in
theorem encrypt_ok {P Q G y m x a b : Int} (w : World) (hH : Has P Q G) (y0 : 0 ≤ y) (yP : y < P) (m0 : 0 ≤ m) (mQ : m < Q) (x0 : 0 ≤ x) (xQ : x < Q) (ha : powm G x P = a) (hb : powm G m P * powm y x P % P = b) :
    Calls Tryz.prog 29 #[.agg #[.int .u64 P, .int .u64 Q, .int .u64 G], .int .u64 y, .int .u64 m, .int .u64 x] w fun e w' => e = .returned (.tuple #[.agg #[.int .u64 a, .int .u64 b], .int .i64 0]) ∧ Below w.heap.size w w' := by
  have HR := Lh (askS_ok (es := [m, x]) (ns := [y]) hH (by simp; omega) (by simp; omega))
  have hP : 0 ≤ P := by have := hH.1; omega
  have hP1 : 1 < P := by have := hH.1; omega
  have hQ : 0 ≤ Q := hH.2.2.1
  have hG : 0 ≤ G := by have := hH.2.2.2.2.1; omega
  have hGP : G < P := hH.2.2.2.2.2
  have hQm : Q < 2147483648 := by have h1 := hH.2.2.2.1; have h2 := hH.2.1; omega
  have HH := Lh hH
  clear hH
  have HA := Lh ha
  have UX := Lh (U64.of_lt x0 (by omega))
  have UM := Lh (U64.of_lt m0 (by omega))
  generalize hgm : powm G m P = gm at hb
  generalize hyr : powm y x P = yr at hb
  have gm0 : 0 ≤ gm := hgm ▸ Int.emod_nonneg _ (by omega)
  have gmP : gm < P := hgm ▸ Int.emod_lt_of_pos _ (by omega)
  have yr0 : 0 ≤ yr := hyr ▸ Int.emod_nonneg _ (by omega)
  have yrP : yr < P := hyr ▸ Int.emod_lt_of_pos _ (by omega)
  have HM := Lh hgm
  have HY := Lh hyr
  have HB := Lh hb
  clear ha hb hgm hyr
  have F_g := Lh (show Boxed ((((w.alloc (.cells #[.int .u64 P, .int .u64 Q, .int .u64 G] 24)).alloc (.cells #[.int .u64 0, .int .u64 0] 75)).alloc (.cells #[.int .u64 m, .int .u64 x] 22)).alloc (.cells #[.int .u64 y] 22)) (w.heap.size) P Q G from (((Boxed.at _ P Q G _ (w.heap.size) (by simp)).alloc _).alloc _).alloc _)
  have F_r := Lh (show Pair ((((w.alloc (.cells #[.int .u64 P, .int .u64 Q, .int .u64 G] 24)).alloc (.cells #[.int .u64 0, .int .u64 0] 75)).alloc (.cells #[.int .u64 m, .int .u64 x] 22)).alloc (.cells #[.int .u64 y] 22)) (w.heap.size + 1) 0 0 from ((Pair.at _ 0 0 _ (w.heap.size + 1) (by simp)).alloc _).alloc _)
  have F_es := Lh (show ShL ((((w.alloc (.cells #[.int .u64 P, .int .u64 Q, .int .u64 G] 24)).alloc (.cells #[.int .u64 0, .int .u64 0] 75)).alloc (.cells #[.int .u64 m, .int .u64 x] 22)).alloc (.cells #[.int .u64 y] 22)) (some ⟨w.heap.size + 1 + 1, 0, none⟩) 2 2 [m, x] from (ShL.laid _ [m, x] _ _ (w.heap.size + 1 + 1) _ _ (by simp) rfl rfl).alloc _)
  have F_ns := Lh (show ShL ((((w.alloc (.cells #[.int .u64 P, .int .u64 Q, .int .u64 G] 24)).alloc (.cells #[.int .u64 0, .int .u64 0] 75)).alloc (.cells #[.int .u64 m, .int .u64 x] 22)).alloc (.cells #[.int .u64 y] 22)) (some ⟨w.heap.size + 1 + 1 + 1, 0, none⟩) 1 1 [y] from ShL.laid _ [y] _ _ (w.heap.size + 1 + 1 + 1) _ _ (by simp) rfl rfl)
  have HBW := Lh (show Below w.heap.size w ((((w.alloc (.cells #[.int .u64 P, .int .u64 Q, .int .u64 G] 24)).alloc (.cells #[.int .u64 0, .int .u64 0] 75)).alloc (.cells #[.int .u64 m, .int .u64 x] 22)).alloc (.cells #[.int .u64 y] 22)) from ((((Below.refl _ _).alloc (by simp <;> omega) _).alloc (by simp <;> omega) _).alloc (by simp <;> omega) _).alloc (by simp <;> omega) _)
  go_enter Tryz.func29, Tryz.ntmps29
  obtain ⟨x0a, x0b, x0c, -⟩ := id F_g.o
  obtain ⟨x1a, x1b, x1c, x1d, -⟩ := id F_r.o
  go_wp2_with fail
  clear x0a x0b x0c x1a x1b x1c x1d
  refine (echeck_any _ hP hQ hG F_es.o F_ns.o (by simp) (by simp) HR.o).mono ?_
  rintro e w1 ⟨rfl, hb1⟩
  replace F_g := Lh (F_g.o.keep hb1)
  replace F_r := Lh (F_r.o.keep hb1)
  replace F_es := Lh (F_es.o.keep hb1)
  replace F_ns := Lh (F_ns.o.keep hb1)
  replace HBW := Lh (HBW.o.trans (hb1.mono HBW.o.size))
  clear hb1
  clear F_es
  clear F_ns
  obtain ⟨x0a, x0b, x0c, -⟩ := id F_g.o
  go_wp2_with fail
  clear x0a x0b x0c
  refine (pow_ok P Q G G x a _ HH.o hG hGP UX.o HA.o).mono ?_
  rintro e w2 ⟨rfl, hb2⟩
  replace F_g := Lh (F_g.o.keep hb2)
  replace F_r := Lh (F_r.o.keep hb2)
  replace HBW := Lh (HBW.o.trans (hb2.mono HBW.o.size))
  clear hb2
  obtain ⟨x0a, x0b, x0c, -⟩ := id F_g.o
  go_wp2_with fail
  clear x0a x0b x0c
  refine (pow_ok P Q G G m gm _ HH.o hG hGP UM.o HM.o).mono ?_
  rintro e w3 ⟨rfl, hb3⟩
  replace F_g := Lh (F_g.o.keep hb3)
  replace F_r := Lh (F_r.o.keep hb3)
  replace HBW := Lh (HBW.o.trans (hb3.mono HBW.o.size))
  clear hb3
  obtain ⟨x0a, x0b, x0c, -⟩ := id F_g.o
  go_wp2_with fail
  clear x0a x0b x0c
  refine (pow_ok P Q G y x yr _ HH.o y0 yP UX.o HY.o).mono ?_
  rintro e w4 ⟨rfl, hb4⟩
  replace F_g := Lh (F_g.o.keep hb4)
  replace F_r := Lh (F_r.o.keep hb4)
  replace HBW := Lh (HBW.o.trans (hb4.mono HBW.o.size))
  clear hb4
  obtain ⟨x0a, x0b, x0c, -⟩ := id F_g.o
  go_wp2_with fail
  clear x0a x0b x0c
  refine (mul_ok P Q G gm yr b _ HH.o gm0 gmP yr0 yrP HB.o).mono ?_
  rintro e w5 ⟨rfl, hb5⟩
  replace F_g := Lh (F_g.o.keep hb5)
  replace F_r := Lh (F_r.o.keep hb5)
  replace HBW := Lh (HBW.o.trans (hb5.mono HBW.o.size))
  clear hb5
  obtain ⟨x0a, x0b, x0c, -⟩ := id F_g.o
  obtain ⟨x1a, x1b, x1c, x1d, -⟩ := id F_r.o
  go_wp2_with fail
  exact bodyPost_ret (res_pair rfl (F_r.o.stored a b) _ rfl rfl) rfl ⟨rfl, (HBW.o.setCell (by simp <;> omega) _).setCell (by simp <;> omega) _⟩
def EncS (P Q G y m x a b e : Int) : Prop := (askS P Q G [m, x] [y] = 0 ∧ powm G x P = a ∧ powm G m P * powm y x P % P = b ∧ e = 0) ∨ (askS P Q G [m, x] [y] ≠ 0 ∧ a = 0 ∧ b = 0 ∧ e = askS P Q G [m, x] [y])
theorem EncS.exists (P Q G y m x : Int) : ∃ a b e, EncS P Q G y m x a b e := by
 by_cases h : askS P Q G [m, x] [y] = 0
 · exact ⟨_, _, _, .inl ⟨h, rfl, rfl, rfl⟩⟩
 · exact ⟨_, _, _, .inr ⟨h, rfl, rfl, rfl⟩⟩
def ValS (P Q G a b : Int) (r : Bool) (e : Int) : Prop := (askS P Q G [] [a, b] = 0 ∧ (r = true ↔ Mem P Q a ∧ Mem P Q b) ∧ e = 0) ∨ (askS P Q G [] [a, b] ≠ 0 ∧ r = false ∧ e = askS P Q G [] [a, b])
theorem ValS.exists (P Q G a b : Int) : ∃ r e, ValS P Q G a b r e := by
 classical
 by_cases h : askS P Q G [] [a, b] = 0
 · exact ⟨decide (Mem P Q a ∧ Mem P Q b), _, .inl ⟨h, by simp, rfl⟩⟩
 · exact ⟨_, _, .inr ⟨h, rfl, rfl⟩⟩
def StripS (P Q G a b p r e : Int) : Prop := (askS P Q G [] [a, b, p] = 0 ∧ ∃ ok u, InvS P p ok u ∧ ((ok = true ∧ b * u % P = r ∧ e = 0) ∨ (ok = false ∧ r = 0 ∧ e = 6))) ∨ (askS P Q G [] [a, b, p] ≠ 0 ∧ r = 0 ∧ e = askS P Q G [] [a, b, p])
theorem StripS.exists (P Q G a b p : Int) : ∃ r e, StripS P Q G a b p r e := by
 by_cases h : askS P Q G [] [a, b, p] = 0
 · obtain ⟨ok, u, hi⟩ := InvS.exists P p (by have := (askS_zero h).1.1; omega)
   cases ok
   · exact ⟨_, _, .inl ⟨h, _, _, hi, .inr ⟨rfl, rfl, rfl⟩⟩⟩
   · exact ⟨_, _, .inl ⟨h, _, _, hi, .inl ⟨rfl, rfl, rfl⟩⟩⟩
 · exact ⟨_, _, .inr ⟨h, rfl, rfl⟩⟩
end Go.Proofs.YtlbldpkgnonbpaaGreatDoor
