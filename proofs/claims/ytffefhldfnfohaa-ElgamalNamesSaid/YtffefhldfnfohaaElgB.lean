/- elgamal.Decrypt and Refresh. -/
import Derived.Test.YtffefhldfnfohaaElgA
namespace Go.Proofs.Ytffefhldfnfohaa
open Go.RowKit Num
set_option linter.unusedSimpArgs false
set_option linter.unusedVariables false

set_option maxHeartbeats 2000000 in
theorem edecrypt_bad {P Q G x a b most r : Int} (w : World) (hP : 0 ≤ P) (hQ : 0 ≤ Q) (hG : 0 ≤ G) (hr : askS P Q G [x] [a, b] = r) (hne : r ≠ 0) :
    Calls Try.prog 27 #[.agg #[.int .u64 P, .int .u64 Q, .int .u64 G], .int .u64 x, .agg #[.int .u64 a, .int .u64 b], .int .i64 most] w fun e w' => e = .returned (.tuple #[.int .i64 0, .int .i64 r]) ∧ Below w.heap.size w w' := by
  have HR := Lib.hid hr
  clear hr
  have hnb : (r != 0) = true := by simpa using hne
  have F_g := Lib.hid (show Boxed ((((w.alloc (.cells #[.int .u64 P, .int .u64 Q, .int .u64 G] 24)).alloc (.cells #[.int .u64 a, .int .u64 b] 26)).alloc (.cells #[.int .u64 x] 22)).alloc (.cells #[.int .u64 a, .int .u64 b] 22)) (w.heap.size) P Q G from (((Boxed.at _ P Q G _ (w.heap.size) (by simp)).alloc _).alloc _).alloc _)
  have F_c := Lib.hid (show Pair ((((w.alloc (.cells #[.int .u64 P, .int .u64 Q, .int .u64 G] 24)).alloc (.cells #[.int .u64 a, .int .u64 b] 26)).alloc (.cells #[.int .u64 x] 22)).alloc (.cells #[.int .u64 a, .int .u64 b] 22)) (w.heap.size + 1) a b from ((Pair.at _ a b _ (w.heap.size + 1) (by simp)).alloc _).alloc _)
  have F_es := Lib.hid (show ShL ((((w.alloc (.cells #[.int .u64 P, .int .u64 Q, .int .u64 G] 24)).alloc (.cells #[.int .u64 a, .int .u64 b] 26)).alloc (.cells #[.int .u64 x] 22)).alloc (.cells #[.int .u64 a, .int .u64 b] 22)) (some ⟨w.heap.size + 1 + 1, 0, none⟩) 1 1 [x] from (ShL.laid _ [x] _ _ (w.heap.size + 1 + 1) _ _ (by simp) rfl rfl).alloc _)
  have F_ns := Lib.hid (show ShL ((((w.alloc (.cells #[.int .u64 P, .int .u64 Q, .int .u64 G] 24)).alloc (.cells #[.int .u64 a, .int .u64 b] 26)).alloc (.cells #[.int .u64 x] 22)).alloc (.cells #[.int .u64 a, .int .u64 b] 22)) (some ⟨w.heap.size + 1 + 1 + 1, 0, none⟩) 2 2 [a, b] from ShL.laid _ [a, b] _ _ (w.heap.size + 1 + 1 + 1) _ _ (by simp) rfl rfl)
  have HBW := Lib.hid (show Below w.heap.size w ((((w.alloc (.cells #[.int .u64 P, .int .u64 Q, .int .u64 G] 24)).alloc (.cells #[.int .u64 a, .int .u64 b] 26)).alloc (.cells #[.int .u64 x] 22)).alloc (.cells #[.int .u64 a, .int .u64 b] 22)) from ((((Below.refl _ _).alloc (by simp <;> omega) _).alloc (by simp <;> omega) _).alloc (by simp <;> omega) _).alloc (by simp <;> omega) _)
  go_enter Try.func27, Try.ntmps27
  obtain ⟨x0a, x0b, x0c, -⟩ := id F_g.out
  obtain ⟨x1a, x1b, x1c, x1d, -⟩ := id F_c.out
  go_wp2_with fail
  clear x0a x0b x0c x1a x1b x1c x1d
  refine (echeck_any _ hP hQ hG F_es.out F_ns.out (by simp) (by simp) HR.out).mono ?_
  rintro e w1 ⟨rfl, hb1⟩
  replace F_g := Lib.hid (F_g.out.keep hb1)
  replace F_c := Lib.hid (F_c.out.keep hb1)
  replace F_es := Lib.hid (F_es.out.keep hb1)
  replace F_ns := Lib.hid (F_ns.out.keep hb1)
  replace HBW := Lib.hid (HBW.out.trans (hb1.mono HBW.out.size))
  clear hb1
  clear F_es
  clear F_ns
  obtain ⟨x0a, x0b, x0c, -⟩ := id F_g.out
  obtain ⟨x1a, x1b, x1c, x1d, -⟩ := id F_c.out
  go_wp2_with fail
  go_ret2
  exact ⟨rfl, HBW.out⟩

set_option maxHeartbeats 2000000 in
theorem edecrypt_far {P Q G x a b most : Int} (w : World) (hH : Has P Q G) (x0 : 0 ≤ x) (xQ : x < Q) (a0 : 0 ≤ a) (aP : a < P) (b0 : 0 ≤ b) (bP : b < P) (hm : most < 0 ∨ 4096 < most) :
    Calls Try.prog 27 #[.agg #[.int .u64 P, .int .u64 Q, .int .u64 G], .int .u64 x, .agg #[.int .u64 a, .int .u64 b], .int .i64 most] w fun e w' => e = .returned (.tuple #[.int .i64 0, .int .i64 2]) ∧ Below w.heap.size w w' := by
  have HR := Lib.hid (askS_ok (es := [x]) (ns := [a, b]) hH (by simp; omega) (by simp; omega))
  have hP : 0 ≤ P := by have := hH.1; omega
  have hP1 : 1 < P := by have := hH.1; omega
  have hQ : 0 ≤ Q := hH.2.2.1
  have hG : 0 ≤ G := by have := hH.2.2.2.2.1; omega
  have hGP : G < P := hH.2.2.2.2.2
  have hQm : Q < 2147483648 := by have h1 := hH.2.2.2.1; have h2 := hH.2.1; omega
  have HH := Lib.hid hH
  clear hH
  have HM := Lib.hid hm
  clear hm
  have F_g := Lib.hid (show Boxed ((((w.alloc (.cells #[.int .u64 P, .int .u64 Q, .int .u64 G] 24)).alloc (.cells #[.int .u64 a, .int .u64 b] 26)).alloc (.cells #[.int .u64 x] 22)).alloc (.cells #[.int .u64 a, .int .u64 b] 22)) (w.heap.size) P Q G from (((Boxed.at _ P Q G _ (w.heap.size) (by simp)).alloc _).alloc _).alloc _)
  have F_c := Lib.hid (show Pair ((((w.alloc (.cells #[.int .u64 P, .int .u64 Q, .int .u64 G] 24)).alloc (.cells #[.int .u64 a, .int .u64 b] 26)).alloc (.cells #[.int .u64 x] 22)).alloc (.cells #[.int .u64 a, .int .u64 b] 22)) (w.heap.size + 1) a b from ((Pair.at _ a b _ (w.heap.size + 1) (by simp)).alloc _).alloc _)
  have F_es := Lib.hid (show ShL ((((w.alloc (.cells #[.int .u64 P, .int .u64 Q, .int .u64 G] 24)).alloc (.cells #[.int .u64 a, .int .u64 b] 26)).alloc (.cells #[.int .u64 x] 22)).alloc (.cells #[.int .u64 a, .int .u64 b] 22)) (some ⟨w.heap.size + 1 + 1, 0, none⟩) 1 1 [x] from (ShL.laid _ [x] _ _ (w.heap.size + 1 + 1) _ _ (by simp) rfl rfl).alloc _)
  have F_ns := Lib.hid (show ShL ((((w.alloc (.cells #[.int .u64 P, .int .u64 Q, .int .u64 G] 24)).alloc (.cells #[.int .u64 a, .int .u64 b] 26)).alloc (.cells #[.int .u64 x] 22)).alloc (.cells #[.int .u64 a, .int .u64 b] 22)) (some ⟨w.heap.size + 1 + 1 + 1, 0, none⟩) 2 2 [a, b] from ShL.laid _ [a, b] _ _ (w.heap.size + 1 + 1 + 1) _ _ (by simp) rfl rfl)
  have HBW := Lib.hid (show Below w.heap.size w ((((w.alloc (.cells #[.int .u64 P, .int .u64 Q, .int .u64 G] 24)).alloc (.cells #[.int .u64 a, .int .u64 b] 26)).alloc (.cells #[.int .u64 x] 22)).alloc (.cells #[.int .u64 a, .int .u64 b] 22)) from ((((Below.refl _ _).alloc (by simp <;> omega) _).alloc (by simp <;> omega) _).alloc (by simp <;> omega) _).alloc (by simp <;> omega) _)
  go_enter Try.func27, Try.ntmps27
  obtain ⟨x0a, x0b, x0c, -⟩ := id F_g.out
  obtain ⟨x1a, x1b, x1c, x1d, -⟩ := id F_c.out
  go_wp2_with fail
  clear x0a x0b x0c x1a x1b x1c x1d
  refine (echeck_any _ hP hQ hG F_es.out F_ns.out (by simp) (by simp) HR.out).mono ?_
  rintro e w1 ⟨rfl, hb1⟩
  replace F_g := Lib.hid (F_g.out.keep hb1)
  replace F_c := Lib.hid (F_c.out.keep hb1)
  replace F_es := Lib.hid (F_es.out.keep hb1)
  replace F_ns := Lib.hid (F_ns.out.keep hb1)
  replace HBW := Lib.hid (HBW.out.trans (hb1.mono HBW.out.size))
  clear hb1
  clear F_es
  clear F_ns
  by_cases h0 : most < 0
  · skip
    obtain ⟨x0a, x0b, x0c, -⟩ := id F_g.out
    obtain ⟨x1a, x1b, x1c, x1d, -⟩ := id F_c.out
    go_wp2_with fail
    go_ret2
    exact ⟨rfl, HBW.out⟩
  · have h1 : 4096 < most := HM.out.resolve_left h0
    obtain ⟨x0a, x0b, x0c, -⟩ := id F_g.out
    obtain ⟨x1a, x1b, x1c, x1d, -⟩ := id F_c.out
    go_wp2_with fail
    go_ret2
    exact ⟨rfl, HBW.out⟩

set_option maxHeartbeats 4000000 in
theorem edecrypt_none {P Q G x a b most p u : Int} (w : World) (hH : Has P Q G) (x0 : 0 ≤ x) (xQ : x < Q) (a0 : 0 ≤ a) (aP : a < P) (b0 : 0 ≤ b) (bP : b < P) (m0 : 0 ≤ most) (m1 : most ≤ 4096) (hp : powm a x P = p) (hi : InvS P p false u) :
    Calls Try.prog 27 #[.agg #[.int .u64 P, .int .u64 Q, .int .u64 G], .int .u64 x, .agg #[.int .u64 a, .int .u64 b], .int .i64 most] w fun e w' => e = .returned (.tuple #[.int .i64 0, .int .i64 6]) ∧ Below w.heap.size w w' := by
  have HR := Lib.hid (askS_ok (es := [x]) (ns := [a, b]) hH (by simp; omega) (by simp; omega))
  have hP : 0 ≤ P := by have := hH.1; omega
  have hP1 : 1 < P := by have := hH.1; omega
  have hQ : 0 ≤ Q := hH.2.2.1
  have hG : 0 ≤ G := by have := hH.2.2.2.2.1; omega
  have hGP : G < P := hH.2.2.2.2.2
  have hQm : Q < 2147483648 := by have h1 := hH.2.2.2.1; have h2 := hH.2.1; omega
  have HH := Lib.hid hH
  clear hH
  have UX := Lib.hid (U64.of_lt x0 (by omega))
  have p0 : 0 ≤ p := hp ▸ Int.emod_nonneg _ (by omega)
  have pP : p < P := hp ▸ Int.emod_lt_of_pos _ (by omega)
  have HPW := Lib.hid hp
  have HI := Lib.hid hi
  clear hp hi
  have F_g := Lib.hid (show Boxed ((((w.alloc (.cells #[.int .u64 P, .int .u64 Q, .int .u64 G] 24)).alloc (.cells #[.int .u64 a, .int .u64 b] 26)).alloc (.cells #[.int .u64 x] 22)).alloc (.cells #[.int .u64 a, .int .u64 b] 22)) (w.heap.size) P Q G from (((Boxed.at _ P Q G _ (w.heap.size) (by simp)).alloc _).alloc _).alloc _)
  have F_c := Lib.hid (show Pair ((((w.alloc (.cells #[.int .u64 P, .int .u64 Q, .int .u64 G] 24)).alloc (.cells #[.int .u64 a, .int .u64 b] 26)).alloc (.cells #[.int .u64 x] 22)).alloc (.cells #[.int .u64 a, .int .u64 b] 22)) (w.heap.size + 1) a b from ((Pair.at _ a b _ (w.heap.size + 1) (by simp)).alloc _).alloc _)
  have F_es := Lib.hid (show ShL ((((w.alloc (.cells #[.int .u64 P, .int .u64 Q, .int .u64 G] 24)).alloc (.cells #[.int .u64 a, .int .u64 b] 26)).alloc (.cells #[.int .u64 x] 22)).alloc (.cells #[.int .u64 a, .int .u64 b] 22)) (some ⟨w.heap.size + 1 + 1, 0, none⟩) 1 1 [x] from (ShL.laid _ [x] _ _ (w.heap.size + 1 + 1) _ _ (by simp) rfl rfl).alloc _)
  have F_ns := Lib.hid (show ShL ((((w.alloc (.cells #[.int .u64 P, .int .u64 Q, .int .u64 G] 24)).alloc (.cells #[.int .u64 a, .int .u64 b] 26)).alloc (.cells #[.int .u64 x] 22)).alloc (.cells #[.int .u64 a, .int .u64 b] 22)) (some ⟨w.heap.size + 1 + 1 + 1, 0, none⟩) 2 2 [a, b] from ShL.laid _ [a, b] _ _ (w.heap.size + 1 + 1 + 1) _ _ (by simp) rfl rfl)
  have HBW := Lib.hid (show Below w.heap.size w ((((w.alloc (.cells #[.int .u64 P, .int .u64 Q, .int .u64 G] 24)).alloc (.cells #[.int .u64 a, .int .u64 b] 26)).alloc (.cells #[.int .u64 x] 22)).alloc (.cells #[.int .u64 a, .int .u64 b] 22)) from ((((Below.refl _ _).alloc (by simp <;> omega) _).alloc (by simp <;> omega) _).alloc (by simp <;> omega) _).alloc (by simp <;> omega) _)
  go_enter Try.func27, Try.ntmps27
  obtain ⟨x0a, x0b, x0c, -⟩ := id F_g.out
  obtain ⟨x1a, x1b, x1c, x1d, -⟩ := id F_c.out
  go_wp2_with fail
  clear x0a x0b x0c x1a x1b x1c x1d
  refine (echeck_any _ hP hQ hG F_es.out F_ns.out (by simp) (by simp) HR.out).mono ?_
  rintro e w1 ⟨rfl, hb1⟩
  replace F_g := Lib.hid (F_g.out.keep hb1)
  replace F_c := Lib.hid (F_c.out.keep hb1)
  replace F_es := Lib.hid (F_es.out.keep hb1)
  replace F_ns := Lib.hid (F_ns.out.keep hb1)
  replace HBW := Lib.hid (HBW.out.trans (hb1.mono HBW.out.size))
  clear hb1
  clear F_es
  clear F_ns
  obtain ⟨x0a, x0b, x0c, -⟩ := id F_g.out
  obtain ⟨x1a, x1b, x1c, x1d, -⟩ := id F_c.out
  go_wp2_with fail
  clear x0a x0b x0c x1a x1b x1c x1d
  refine (pow_ok P Q G a x p _ HH.out a0 aP UX.out HPW.out).mono ?_
  rintro e w2 ⟨rfl, hb2⟩
  replace F_g := Lib.hid (F_g.out.keep hb2)
  replace F_c := Lib.hid (F_c.out.keep hb2)
  replace HBW := Lib.hid (HBW.out.trans (hb2.mono HBW.out.size))
  clear hb2
  obtain ⟨x0a, x0b, x0c, -⟩ := id F_g.out
  obtain ⟨x1a, x1b, x1c, x1d, -⟩ := id F_c.out
  go_wp2_with fail
  clear x0a x0b x0c x1a x1b x1c x1d
  refine (estrip_none _ HH.out a0 aP b0 bP p0 pP HI.out).mono ?_
  rintro e w3 ⟨rfl, hb3⟩
  replace F_g := Lib.hid (F_g.out.keep hb3)
  replace F_c := Lib.hid (F_c.out.keep hb3)
  replace HBW := Lib.hid (HBW.out.trans (hb3.mono HBW.out.size))
  clear hb3
  obtain ⟨x0a, x0b, x0c, -⟩ := id F_g.out
  obtain ⟨x1a, x1b, x1c, x1d, -⟩ := id F_c.out
  go_wp2_with fail
  go_ret2
  exact ⟨rfl, HBW.out⟩

set_option maxHeartbeats 4000000 in
theorem edecrypt_ok {P Q G x a b most p u r n c : Int} (w : World) (hH : Has P Q G) (x0 : 0 ≤ x) (xQ : x < Q) (a0 : 0 ≤ a) (aP : a < P) (b0 : 0 ≤ b) (bP : b < P) (m0 : 0 ≤ most) (m1 : most ≤ 4096) (hp : powm a x P = p) (hi : InvS P p true u) (u0 : 0 ≤ u) (uP : u < P) (hr : b * u % P = r) (hl : LogS P G r most n c) :
    Calls Try.prog 27 #[.agg #[.int .u64 P, .int .u64 Q, .int .u64 G], .int .u64 x, .agg #[.int .u64 a, .int .u64 b], .int .i64 most] w fun e w' => e = .returned (.tuple #[.int .i64 n, .int .i64 c]) ∧ Below w.heap.size w w' := by
  have HR := Lib.hid (askS_ok (es := [x]) (ns := [a, b]) hH (by simp; omega) (by simp; omega))
  have hP : 0 ≤ P := by have := hH.1; omega
  have hP1 : 1 < P := by have := hH.1; omega
  have hQ : 0 ≤ Q := hH.2.2.1
  have hG : 0 ≤ G := by have := hH.2.2.2.2.1; omega
  have hGP : G < P := hH.2.2.2.2.2
  have hQm : Q < 2147483648 := by have h1 := hH.2.2.2.1; have h2 := hH.2.1; omega
  have HH := Lib.hid hH
  clear hH
  have UX := Lib.hid (U64.of_lt x0 (by omega))
  have p0 : 0 ≤ p := hp ▸ Int.emod_nonneg _ (by omega)
  have pP : p < P := hp ▸ Int.emod_lt_of_pos _ (by omega)
  have HPW := Lib.hid hp
  have HI := Lib.hid hi
  clear hp hi
  have rP : r < P := hr ▸ Int.emod_lt_of_pos _ (by omega)
  have HZ := Lib.hid hr
  have HL := Lib.hid hl
  clear hr hl
  have F_g := Lib.hid (show Boxed ((((w.alloc (.cells #[.int .u64 P, .int .u64 Q, .int .u64 G] 24)).alloc (.cells #[.int .u64 a, .int .u64 b] 26)).alloc (.cells #[.int .u64 x] 22)).alloc (.cells #[.int .u64 a, .int .u64 b] 22)) (w.heap.size) P Q G from (((Boxed.at _ P Q G _ (w.heap.size) (by simp)).alloc _).alloc _).alloc _)
  have F_c := Lib.hid (show Pair ((((w.alloc (.cells #[.int .u64 P, .int .u64 Q, .int .u64 G] 24)).alloc (.cells #[.int .u64 a, .int .u64 b] 26)).alloc (.cells #[.int .u64 x] 22)).alloc (.cells #[.int .u64 a, .int .u64 b] 22)) (w.heap.size + 1) a b from ((Pair.at _ a b _ (w.heap.size + 1) (by simp)).alloc _).alloc _)
  have F_es := Lib.hid (show ShL ((((w.alloc (.cells #[.int .u64 P, .int .u64 Q, .int .u64 G] 24)).alloc (.cells #[.int .u64 a, .int .u64 b] 26)).alloc (.cells #[.int .u64 x] 22)).alloc (.cells #[.int .u64 a, .int .u64 b] 22)) (some ⟨w.heap.size + 1 + 1, 0, none⟩) 1 1 [x] from (ShL.laid _ [x] _ _ (w.heap.size + 1 + 1) _ _ (by simp) rfl rfl).alloc _)
  have F_ns := Lib.hid (show ShL ((((w.alloc (.cells #[.int .u64 P, .int .u64 Q, .int .u64 G] 24)).alloc (.cells #[.int .u64 a, .int .u64 b] 26)).alloc (.cells #[.int .u64 x] 22)).alloc (.cells #[.int .u64 a, .int .u64 b] 22)) (some ⟨w.heap.size + 1 + 1 + 1, 0, none⟩) 2 2 [a, b] from ShL.laid _ [a, b] _ _ (w.heap.size + 1 + 1 + 1) _ _ (by simp) rfl rfl)
  have HBW := Lib.hid (show Below w.heap.size w ((((w.alloc (.cells #[.int .u64 P, .int .u64 Q, .int .u64 G] 24)).alloc (.cells #[.int .u64 a, .int .u64 b] 26)).alloc (.cells #[.int .u64 x] 22)).alloc (.cells #[.int .u64 a, .int .u64 b] 22)) from ((((Below.refl _ _).alloc (by simp <;> omega) _).alloc (by simp <;> omega) _).alloc (by simp <;> omega) _).alloc (by simp <;> omega) _)
  go_enter Try.func27, Try.ntmps27
  obtain ⟨x0a, x0b, x0c, -⟩ := id F_g.out
  obtain ⟨x1a, x1b, x1c, x1d, -⟩ := id F_c.out
  go_wp2_with fail
  clear x0a x0b x0c x1a x1b x1c x1d
  refine (echeck_any _ hP hQ hG F_es.out F_ns.out (by simp) (by simp) HR.out).mono ?_
  rintro e w1 ⟨rfl, hb1⟩
  replace F_g := Lib.hid (F_g.out.keep hb1)
  replace F_c := Lib.hid (F_c.out.keep hb1)
  replace F_es := Lib.hid (F_es.out.keep hb1)
  replace F_ns := Lib.hid (F_ns.out.keep hb1)
  replace HBW := Lib.hid (HBW.out.trans (hb1.mono HBW.out.size))
  clear hb1
  clear F_es
  clear F_ns
  obtain ⟨x0a, x0b, x0c, -⟩ := id F_g.out
  obtain ⟨x1a, x1b, x1c, x1d, -⟩ := id F_c.out
  go_wp2_with fail
  clear x0a x0b x0c x1a x1b x1c x1d
  refine (pow_ok P Q G a x p _ HH.out a0 aP UX.out HPW.out).mono ?_
  rintro e w2 ⟨rfl, hb2⟩
  replace F_g := Lib.hid (F_g.out.keep hb2)
  replace F_c := Lib.hid (F_c.out.keep hb2)
  replace HBW := Lib.hid (HBW.out.trans (hb2.mono HBW.out.size))
  clear hb2
  obtain ⟨x0a, x0b, x0c, -⟩ := id F_g.out
  obtain ⟨x1a, x1b, x1c, x1d, -⟩ := id F_c.out
  go_wp2_with fail
  clear x0a x0b x0c x1a x1b x1c x1d
  refine (estrip_ok _ HH.out a0 aP b0 bP p0 pP HI.out u0 uP HZ.out).mono ?_
  rintro e w3 ⟨rfl, hb3⟩
  replace F_g := Lib.hid (F_g.out.keep hb3)
  replace F_c := Lib.hid (F_c.out.keep hb3)
  replace HBW := Lib.hid (HBW.out.trans (hb3.mono HBW.out.size))
  clear hb3
  obtain ⟨x0a, x0b, x0c, -⟩ := id F_g.out
  obtain ⟨x1a, x1b, x1c, x1d, -⟩ := id F_c.out
  go_wp2_with fail
  clear x0a x0b x0c x1a x1b x1c x1d
  refine (log_ok P Q G r most n c _ HH.out rP m0 m1 HL.out).mono ?_
  rintro e w4 ⟨rfl, hb4⟩
  replace F_g := Lib.hid (F_g.out.keep hb4)
  replace F_c := Lib.hid (F_c.out.keep hb4)
  replace HBW := Lib.hid (HBW.out.trans (hb4.mono HBW.out.size))
  clear hb4
  obtain ⟨x0a, x0b, x0c, -⟩ := id F_g.out
  obtain ⟨x1a, x1b, x1c, x1d, -⟩ := id F_c.out
  go_wp2_with fail
  go_ret2
  exact ⟨rfl, HBW.out⟩

set_option maxHeartbeats 2000000 in
theorem erefresh_bad {P Q G y a b x r : Int} (w : World) (hP : 0 ≤ P) (hQ : 0 ≤ Q) (hG : 0 ≤ G) (hr : askS P Q G [x] [y, a, b] = r) (hne : r ≠ 0) :
    Calls Try.prog 23 #[.agg #[.int .u64 P, .int .u64 Q, .int .u64 G], .int .u64 y, .agg #[.int .u64 a, .int .u64 b], .int .u64 x] w fun e w' => e = .returned (.tuple #[.agg #[.int .u64 0, .int .u64 0], .int .i64 r]) ∧ Below w.heap.size w w' := by
  have HR := Lib.hid hr
  clear hr
  have hnb : (r != 0) = true := by simpa using hne
  have F_g := Lib.hid (show Boxed (((((w.alloc (.cells #[.int .u64 P, .int .u64 Q, .int .u64 G] 24)).alloc (.cells #[.int .u64 a, .int .u64 b] 26)).alloc (.cells #[.int .u64 0, .int .u64 0] 26)).alloc (.cells #[.int .u64 x] 22)).alloc (.cells #[.int .u64 y, .int .u64 a, .int .u64 b] 22)) (w.heap.size) P Q G from ((((Boxed.at _ P Q G _ (w.heap.size) (by simp)).alloc _).alloc _).alloc _).alloc _)
  have F_c := Lib.hid (show Pair (((((w.alloc (.cells #[.int .u64 P, .int .u64 Q, .int .u64 G] 24)).alloc (.cells #[.int .u64 a, .int .u64 b] 26)).alloc (.cells #[.int .u64 0, .int .u64 0] 26)).alloc (.cells #[.int .u64 x] 22)).alloc (.cells #[.int .u64 y, .int .u64 a, .int .u64 b] 22)) (w.heap.size + 1) a b from (((Pair.at _ a b _ (w.heap.size + 1) (by simp)).alloc _).alloc _).alloc _)
  have F_r := Lib.hid (show Pair (((((w.alloc (.cells #[.int .u64 P, .int .u64 Q, .int .u64 G] 24)).alloc (.cells #[.int .u64 a, .int .u64 b] 26)).alloc (.cells #[.int .u64 0, .int .u64 0] 26)).alloc (.cells #[.int .u64 x] 22)).alloc (.cells #[.int .u64 y, .int .u64 a, .int .u64 b] 22)) (w.heap.size + 1 + 1) 0 0 from ((Pair.at _ 0 0 _ (w.heap.size + 1 + 1) (by simp)).alloc _).alloc _)
  have F_es := Lib.hid (show ShL (((((w.alloc (.cells #[.int .u64 P, .int .u64 Q, .int .u64 G] 24)).alloc (.cells #[.int .u64 a, .int .u64 b] 26)).alloc (.cells #[.int .u64 0, .int .u64 0] 26)).alloc (.cells #[.int .u64 x] 22)).alloc (.cells #[.int .u64 y, .int .u64 a, .int .u64 b] 22)) (some ⟨w.heap.size + 1 + 1 + 1, 0, none⟩) 1 1 [x] from (ShL.laid _ [x] _ _ (w.heap.size + 1 + 1 + 1) _ _ (by simp) rfl rfl).alloc _)
  have F_ns := Lib.hid (show ShL (((((w.alloc (.cells #[.int .u64 P, .int .u64 Q, .int .u64 G] 24)).alloc (.cells #[.int .u64 a, .int .u64 b] 26)).alloc (.cells #[.int .u64 0, .int .u64 0] 26)).alloc (.cells #[.int .u64 x] 22)).alloc (.cells #[.int .u64 y, .int .u64 a, .int .u64 b] 22)) (some ⟨w.heap.size + 1 + 1 + 1 + 1, 0, none⟩) 3 3 [y, a, b] from ShL.laid _ [y, a, b] _ _ (w.heap.size + 1 + 1 + 1 + 1) _ _ (by simp) rfl rfl)
  have HBW := Lib.hid (show Below w.heap.size w (((((w.alloc (.cells #[.int .u64 P, .int .u64 Q, .int .u64 G] 24)).alloc (.cells #[.int .u64 a, .int .u64 b] 26)).alloc (.cells #[.int .u64 0, .int .u64 0] 26)).alloc (.cells #[.int .u64 x] 22)).alloc (.cells #[.int .u64 y, .int .u64 a, .int .u64 b] 22)) from (((((Below.refl _ _).alloc (by simp <;> omega) _).alloc (by simp <;> omega) _).alloc (by simp <;> omega) _).alloc (by simp <;> omega) _).alloc (by simp <;> omega) _)
  go_enter Try.func23, Try.ntmps23
  obtain ⟨x0a, x0b, x0c, -⟩ := id F_g.out
  obtain ⟨x1a, x1b, x1c, x1d, -⟩ := id F_c.out
  obtain ⟨x2a, x2b, x2c, x2d, -⟩ := id F_r.out
  go_wp2_with fail
  clear x0a x0b x0c x1a x1b x1c x1d x2a x2b x2c x2d
  refine (echeck_any _ hP hQ hG F_es.out F_ns.out (by simp) (by simp) HR.out).mono ?_
  rintro e w1 ⟨rfl, hb1⟩
  replace F_g := Lib.hid (F_g.out.keep hb1)
  replace F_c := Lib.hid (F_c.out.keep hb1)
  replace F_r := Lib.hid (F_r.out.keep hb1)
  replace F_es := Lib.hid (F_es.out.keep hb1)
  replace F_ns := Lib.hid (F_ns.out.keep hb1)
  replace HBW := Lib.hid (HBW.out.trans (hb1.mono HBW.out.size))
  clear hb1
  clear F_es
  clear F_ns
  obtain ⟨x0a, x0b, x0c, -⟩ := id F_g.out
  obtain ⟨x1a, x1b, x1c, x1d, -⟩ := id F_c.out
  obtain ⟨x2a, x2b, x2c, x2d, -⟩ := id F_r.out
  go_wp2_with fail
  exact bodyPost_ret (res_pair rfl (F_r.out.stored 0 0) _ rfl rfl) rfl ⟨rfl, (HBW.out.setCell (by simp <;> omega) _).setCell (by simp <;> omega) _⟩

set_option maxHeartbeats 4000000 in
theorem erefresh_ok {P Q G y a b x s t c d : Int} (w : World) (hH : Has P Q G) (y0 : 0 ≤ y) (yP : y < P) (a0 : 0 ≤ a) (aP : a < P) (b0 : 0 ≤ b) (bP : b < P) (x0 : 0 ≤ x) (xQ : x < Q) (hs : powm G x P = s) (ht : powm G 0 P * powm y x P % P = t) (hc : a * s % P = c) (hd : b * t % P = d) :
    Calls Try.prog 23 #[.agg #[.int .u64 P, .int .u64 Q, .int .u64 G], .int .u64 y, .agg #[.int .u64 a, .int .u64 b], .int .u64 x] w fun e w' => e = .returned (.tuple #[.agg #[.int .u64 c, .int .u64 d], .int .i64 0]) ∧ Below w.heap.size w w' := by
  have HR := Lib.hid (askS_ok (es := [x]) (ns := [y, a, b]) hH (by simp; omega) (by simp; omega))
  have hP : 0 ≤ P := by have := hH.1; omega
  have hP1 : 1 < P := by have := hH.1; omega
  have hQ : 0 ≤ Q := hH.2.2.1
  have hG : 0 ≤ G := by have := hH.2.2.2.2.1; omega
  have hGP : G < P := hH.2.2.2.2.2
  have hQm : Q < 2147483648 := by have h1 := hH.2.2.2.1; have h2 := hH.2.1; omega
  have HH := Lib.hid hH
  clear hH
  have s0 : 0 ≤ s := hs ▸ Int.emod_nonneg _ (by omega)
  have sP : s < P := hs ▸ Int.emod_lt_of_pos _ (by omega)
  have t0 : 0 ≤ t := ht ▸ Int.emod_nonneg _ (by omega)
  have tP : t < P := ht ▸ Int.emod_lt_of_pos _ (by omega)
  have Q0 : 0 < Q := by omega
  have HA := Lib.hid hs
  have HB := Lib.hid ht
  have HC := Lib.hid hc
  have HD := Lib.hid hd
  clear hs ht hc hd
  have F_g := Lib.hid (show Boxed (((((w.alloc (.cells #[.int .u64 P, .int .u64 Q, .int .u64 G] 24)).alloc (.cells #[.int .u64 a, .int .u64 b] 26)).alloc (.cells #[.int .u64 0, .int .u64 0] 26)).alloc (.cells #[.int .u64 x] 22)).alloc (.cells #[.int .u64 y, .int .u64 a, .int .u64 b] 22)) (w.heap.size) P Q G from ((((Boxed.at _ P Q G _ (w.heap.size) (by simp)).alloc _).alloc _).alloc _).alloc _)
  have F_c := Lib.hid (show Pair (((((w.alloc (.cells #[.int .u64 P, .int .u64 Q, .int .u64 G] 24)).alloc (.cells #[.int .u64 a, .int .u64 b] 26)).alloc (.cells #[.int .u64 0, .int .u64 0] 26)).alloc (.cells #[.int .u64 x] 22)).alloc (.cells #[.int .u64 y, .int .u64 a, .int .u64 b] 22)) (w.heap.size + 1) a b from (((Pair.at _ a b _ (w.heap.size + 1) (by simp)).alloc _).alloc _).alloc _)
  have F_r := Lib.hid (show Pair (((((w.alloc (.cells #[.int .u64 P, .int .u64 Q, .int .u64 G] 24)).alloc (.cells #[.int .u64 a, .int .u64 b] 26)).alloc (.cells #[.int .u64 0, .int .u64 0] 26)).alloc (.cells #[.int .u64 x] 22)).alloc (.cells #[.int .u64 y, .int .u64 a, .int .u64 b] 22)) (w.heap.size + 1 + 1) 0 0 from ((Pair.at _ 0 0 _ (w.heap.size + 1 + 1) (by simp)).alloc _).alloc _)
  have F_es := Lib.hid (show ShL (((((w.alloc (.cells #[.int .u64 P, .int .u64 Q, .int .u64 G] 24)).alloc (.cells #[.int .u64 a, .int .u64 b] 26)).alloc (.cells #[.int .u64 0, .int .u64 0] 26)).alloc (.cells #[.int .u64 x] 22)).alloc (.cells #[.int .u64 y, .int .u64 a, .int .u64 b] 22)) (some ⟨w.heap.size + 1 + 1 + 1, 0, none⟩) 1 1 [x] from (ShL.laid _ [x] _ _ (w.heap.size + 1 + 1 + 1) _ _ (by simp) rfl rfl).alloc _)
  have F_ns := Lib.hid (show ShL (((((w.alloc (.cells #[.int .u64 P, .int .u64 Q, .int .u64 G] 24)).alloc (.cells #[.int .u64 a, .int .u64 b] 26)).alloc (.cells #[.int .u64 0, .int .u64 0] 26)).alloc (.cells #[.int .u64 x] 22)).alloc (.cells #[.int .u64 y, .int .u64 a, .int .u64 b] 22)) (some ⟨w.heap.size + 1 + 1 + 1 + 1, 0, none⟩) 3 3 [y, a, b] from ShL.laid _ [y, a, b] _ _ (w.heap.size + 1 + 1 + 1 + 1) _ _ (by simp) rfl rfl)
  have HBW := Lib.hid (show Below w.heap.size w (((((w.alloc (.cells #[.int .u64 P, .int .u64 Q, .int .u64 G] 24)).alloc (.cells #[.int .u64 a, .int .u64 b] 26)).alloc (.cells #[.int .u64 0, .int .u64 0] 26)).alloc (.cells #[.int .u64 x] 22)).alloc (.cells #[.int .u64 y, .int .u64 a, .int .u64 b] 22)) from (((((Below.refl _ _).alloc (by simp <;> omega) _).alloc (by simp <;> omega) _).alloc (by simp <;> omega) _).alloc (by simp <;> omega) _).alloc (by simp <;> omega) _)
  go_enter Try.func23, Try.ntmps23
  obtain ⟨x0a, x0b, x0c, -⟩ := id F_g.out
  obtain ⟨x1a, x1b, x1c, x1d, -⟩ := id F_c.out
  obtain ⟨x2a, x2b, x2c, x2d, -⟩ := id F_r.out
  go_wp2_with fail
  clear x0a x0b x0c x1a x1b x1c x1d x2a x2b x2c x2d
  refine (echeck_any _ hP hQ hG F_es.out F_ns.out (by simp) (by simp) HR.out).mono ?_
  rintro e w1 ⟨rfl, hb1⟩
  replace F_g := Lib.hid (F_g.out.keep hb1)
  replace F_c := Lib.hid (F_c.out.keep hb1)
  replace F_r := Lib.hid (F_r.out.keep hb1)
  replace F_es := Lib.hid (F_es.out.keep hb1)
  replace F_ns := Lib.hid (F_ns.out.keep hb1)
  replace HBW := Lib.hid (HBW.out.trans (hb1.mono HBW.out.size))
  clear hb1
  clear F_es
  clear F_ns
  obtain ⟨x0a, x0b, x0c, -⟩ := id F_g.out
  obtain ⟨x1a, x1b, x1c, x1d, -⟩ := id F_c.out
  obtain ⟨x2a, x2b, x2c, x2d, -⟩ := id F_r.out
  go_wp2_with fail
  clear x0a x0b x0c x1a x1b x1c x1d x2a x2b x2c x2d
  refine (encrypt_ok _ HH.out y0 yP (Int.le_refl 0) Q0 x0 xQ HA.out HB.out).mono ?_
  rintro e w2 ⟨rfl, hb2⟩
  replace F_g := Lib.hid (F_g.out.keep hb2)
  replace F_c := Lib.hid (F_c.out.keep hb2)
  replace F_r := Lib.hid (F_r.out.keep hb2)
  replace HBW := Lib.hid (HBW.out.trans (hb2.mono HBW.out.size))
  clear hb2
  replace F_g := Lib.hid (F_g.out.alloc (.cells #[.int .u64 s, .int .u64 t] 26))
  replace F_c := Lib.hid (F_c.out.alloc (.cells #[.int .u64 s, .int .u64 t] 26))
  replace F_r := Lib.hid (F_r.out.alloc (.cells #[.int .u64 s, .int .u64 t] 26))
  have F_z := Lib.hid (Pair.new w2 s t 26)
  replace HBW := Lib.hid (HBW.out.alloc HBW.out.size (.cells #[.int .u64 s, .int .u64 t] 26))
  obtain ⟨x0a, x0b, x0c, -⟩ := id F_g.out
  obtain ⟨x1a, x1b, x1c, x1d, -⟩ := id F_c.out
  obtain ⟨x2a, x2b, x2c, x2d, -⟩ := id F_r.out
  obtain ⟨x3a, x3b, x3c, x3d, -⟩ := id F_z.out
  go_wp2_with fail
  clear x0a x0b x0c x1a x1b x1c x1d x2a x2b x2c x2d x3a x3b x3c x3d
  refine (eAdd_ok _ HH.out a0 aP b0 bP s0 sP t0 tP HC.out HD.out).mono ?_
  rintro e w3 ⟨rfl, hb3⟩
  replace F_g := Lib.hid (F_g.out.keep hb3)
  replace F_c := Lib.hid (F_c.out.keep hb3)
  replace F_r := Lib.hid (F_r.out.keep hb3)
  replace F_z := Lib.hid (F_z.out.keep hb3)
  replace HBW := Lib.hid (HBW.out.trans (hb3.mono HBW.out.size))
  clear hb3
  obtain ⟨x0a, x0b, x0c, -⟩ := id F_g.out
  obtain ⟨x1a, x1b, x1c, x1d, -⟩ := id F_c.out
  obtain ⟨x2a, x2b, x2c, x2d, -⟩ := id F_r.out
  obtain ⟨x3a, x3b, x3c, x3d, -⟩ := id F_z.out
  go_wp2_with fail
  exact bodyPost_ret (res_pair rfl (F_r.out.stored c d) _ rfl rfl) rfl ⟨rfl, (HBW.out.setCell (by simp <;> omega) _).setCell (by simp <;> omega) _⟩
end Go.Proofs.Ytffefhldfnfohaa
