/- The reference's Strip, Refresh, Decrypt. -/
import Derived.Test.YtffefhldfnfohaaRelB
namespace Go.Proofs.Ytffefhldfnfohaa
open Go.RowKit Num
set_option linter.unusedSimpArgs false
set_option linter.unusedVariables false

set_option maxHeartbeats 2000000 in
theorem rStrip_bad {P Q G a b p r : Int} (w : World) (hP : 0 ≤ P) (hQ : 0 ≤ Q) (hG : 0 ≤ G) (hr : askS P Q G [] [a, b, p] = r) (hne : r ≠ 0) :
    Calls Try.prog 26 #[.agg #[.int .u64 P, .int .u64 Q, .int .u64 G], .agg #[.int .u64 a, .int .u64 b], .int .u64 p] w fun e w' => e = .returned (.tuple #[.int .u64 0, .int .i64 r]) ∧ Below w.heap.size w w' := by
  have HR := Lib.hid hr
  clear hr
  have hnb : (r != 0) = true := by simpa using hne
  have hnc : (r == 0) = false := by simpa using hne
  have F_g := Lib.hid (show Boxed (((w.alloc (.cells #[.int .u64 P, .int .u64 Q, .int .u64 G] 24)).alloc (.cells #[.int .u64 a, .int .u64 b] 26)).alloc (.cells #[.int .u64 a, .int .u64 b, .int .u64 p] 22)) (w.heap.size) P Q G from ((Boxed.at _ P Q G _ (w.heap.size) (by simp)).alloc _).alloc _)
  have F_c := Lib.hid (show Pair (((w.alloc (.cells #[.int .u64 P, .int .u64 Q, .int .u64 G] 24)).alloc (.cells #[.int .u64 a, .int .u64 b] 26)).alloc (.cells #[.int .u64 a, .int .u64 b, .int .u64 p] 22)) (w.heap.size + 1) a b from (Pair.at _ a b _ (w.heap.size + 1) (by simp)).alloc _)
  have F_ns := Lib.hid (show ShL (((w.alloc (.cells #[.int .u64 P, .int .u64 Q, .int .u64 G] 24)).alloc (.cells #[.int .u64 a, .int .u64 b] 26)).alloc (.cells #[.int .u64 a, .int .u64 b, .int .u64 p] 22)) (some ⟨w.heap.size + 1 + 1, 0, none⟩) 3 3 [a, b, p] from ShL.laid _ [a, b, p] _ _ (w.heap.size + 1 + 1) _ _ (by simp) rfl rfl)
  have HBW := Lib.hid (show Below w.heap.size w (((w.alloc (.cells #[.int .u64 P, .int .u64 Q, .int .u64 G] 24)).alloc (.cells #[.int .u64 a, .int .u64 b] 26)).alloc (.cells #[.int .u64 a, .int .u64 b, .int .u64 p] 22)) from (((Below.refl _ _).alloc (by simp <;> omega) _).alloc (by simp <;> omega) _).alloc (by simp <;> omega) _)
  go_enter Try.func26, Try.ntmps26
  obtain ⟨x0a, x0b, x0c, -⟩ := id F_g.out
  obtain ⟨x1a, x1b, x1c, x1d, -⟩ := id F_c.out
  go_wp2_with fail
  clear x0a x0b x0c x1a x1b x1c x1d
  refine (rAsked_any _ hP hQ hG (ShL.nil _) F_ns.out (by simp) (by simp) HR.out).mono ?_
  rintro e w1 ⟨rfl, hb1⟩
  replace F_g := Lib.hid (F_g.out.keep hb1)
  replace F_c := Lib.hid (F_c.out.keep hb1)
  replace F_ns := Lib.hid (F_ns.out.keep hb1)
  replace HBW := Lib.hid (HBW.out.trans (hb1.mono HBW.out.size))
  clear hb1
  clear F_ns
  obtain ⟨x0a, x0b, x0c, -⟩ := id F_g.out
  obtain ⟨x1a, x1b, x1c, x1d, -⟩ := id F_c.out
  go_wp2_with fail
  go_ret2
  exact ⟨rfl, HBW.out⟩

set_option maxHeartbeats 4000000 in
theorem rStrip_none {P Q G a b p u : Int} (w : World) (hH : Has P Q G) (a0 : 0 ≤ a) (aP : a < P) (b0 : 0 ≤ b) (bP : b < P) (p0 : 0 ≤ p) (pP : p < P) (hi : InvS P p false u) :
    Calls Try.prog 26 #[.agg #[.int .u64 P, .int .u64 Q, .int .u64 G], .agg #[.int .u64 a, .int .u64 b], .int .u64 p] w fun e w' => e = .returned (.tuple #[.int .u64 0, .int .i64 6]) ∧ Below w.heap.size w w' := by
  have PM : P < 2147483648 := hH.2.1
  have HR := Lib.hid (askS_ok (es := []) (ns := [a, b, p]) hH (by simp <;> omega) (by simp <;> omega))
  have hP : 0 ≤ P := by have := hH.1; omega
  have hP1 : 1 < P := by have := hH.1; omega
  have hQ : 0 ≤ Q := hH.2.2.1
  have hG : 0 ≤ G := by have := hH.2.2.2.2.1; omega
  have hGP : G < P := hH.2.2.2.2.2
  have hQm : Q < 2147483648 := by have h1 := hH.2.2.2.1; have h2 := hH.2.1; omega
  have HH := Lib.hid hH
  clear hH
  have HI := Lib.hid hi
  clear hi
  have HC := Lib.hid (show checkS P Q G P [p] = 0 by rw [checkS, if_pos HH.out]; simp [okAll]; omega)
  have F_g := Lib.hid (show Boxed (((w.alloc (.cells #[.int .u64 P, .int .u64 Q, .int .u64 G] 24)).alloc (.cells #[.int .u64 a, .int .u64 b] 26)).alloc (.cells #[.int .u64 a, .int .u64 b, .int .u64 p] 22)) (w.heap.size) P Q G from ((Boxed.at _ P Q G _ (w.heap.size) (by simp)).alloc _).alloc _)
  have F_c := Lib.hid (show Pair (((w.alloc (.cells #[.int .u64 P, .int .u64 Q, .int .u64 G] 24)).alloc (.cells #[.int .u64 a, .int .u64 b] 26)).alloc (.cells #[.int .u64 a, .int .u64 b, .int .u64 p] 22)) (w.heap.size + 1) a b from (Pair.at _ a b _ (w.heap.size + 1) (by simp)).alloc _)
  have F_ns := Lib.hid (show ShL (((w.alloc (.cells #[.int .u64 P, .int .u64 Q, .int .u64 G] 24)).alloc (.cells #[.int .u64 a, .int .u64 b] 26)).alloc (.cells #[.int .u64 a, .int .u64 b, .int .u64 p] 22)) (some ⟨w.heap.size + 1 + 1, 0, none⟩) 3 3 [a, b, p] from ShL.laid _ [a, b, p] _ _ (w.heap.size + 1 + 1) _ _ (by simp) rfl rfl)
  have HBW := Lib.hid (show Below w.heap.size w (((w.alloc (.cells #[.int .u64 P, .int .u64 Q, .int .u64 G] 24)).alloc (.cells #[.int .u64 a, .int .u64 b] 26)).alloc (.cells #[.int .u64 a, .int .u64 b, .int .u64 p] 22)) from (((Below.refl _ _).alloc (by simp <;> omega) _).alloc (by simp <;> omega) _).alloc (by simp <;> omega) _)
  go_enter Try.func26, Try.ntmps26
  obtain ⟨x0a, x0b, x0c, -⟩ := id F_g.out
  obtain ⟨x1a, x1b, x1c, x1d, -⟩ := id F_c.out
  go_wp2_with fail
  clear x0a x0b x0c x1a x1b x1c x1d
  refine (rAsked_any _ hP hQ hG (ShL.nil _) F_ns.out (by simp) (by simp) HR.out).mono ?_
  rintro e w1 ⟨rfl, hb1⟩
  replace F_g := Lib.hid (F_g.out.keep hb1)
  replace F_c := Lib.hid (F_c.out.keep hb1)
  replace F_ns := Lib.hid (F_ns.out.keep hb1)
  replace HBW := Lib.hid (HBW.out.trans (hb1.mono HBW.out.size))
  clear hb1
  clear F_ns
  obtain ⟨x0a, x0b, x0c, -⟩ := id F_g.out
  obtain ⟨x1a, x1b, x1c, x1d, -⟩ := id F_c.out
  go_wp2_with fail
  clear x0a x0b x0c x1a x1b x1c x1d
  refine (rInv_gen hP hG _ p0 (.inl ⟨HC.out, false, HI.out, rfl⟩)).mono ?_
  rintro e w2 ⟨rfl, hb2⟩
  replace F_g := Lib.hid (F_g.out.keep hb2)
  replace F_c := Lib.hid (F_c.out.keep hb2)
  replace HBW := Lib.hid (HBW.out.trans (hb2.mono HBW.out.size))
  clear hb2
  obtain ⟨x0a, x0b, x0c, -⟩ := id F_g.out
  obtain ⟨x1a, x1b, x1c, x1d, -⟩ := id F_c.out
  go_wp2_with fail
  go_ret2
  exact ⟨rfl, HBW.out⟩

set_option maxHeartbeats 4000000 in
theorem rStrip_ok {P Q G a b p u r : Int} (w : World) (hH : Has P Q G) (a0 : 0 ≤ a) (aP : a < P) (b0 : 0 ≤ b) (bP : b < P) (p0 : 0 ≤ p) (pP : p < P) (hi : InvS P p true u) (u0 : 0 ≤ u) (uP : u < P) (hr : b * u % P = r) :
    Calls Try.prog 26 #[.agg #[.int .u64 P, .int .u64 Q, .int .u64 G], .agg #[.int .u64 a, .int .u64 b], .int .u64 p] w fun e w' => e = .returned (.tuple #[.int .u64 r, .int .i64 0]) ∧ Below w.heap.size w w' := by
  have PM : P < 2147483648 := hH.2.1
  have HR := Lib.hid (askS_ok (es := []) (ns := [a, b, p]) hH (by simp <;> omega) (by simp <;> omega))
  have hP : 0 ≤ P := by have := hH.1; omega
  have hP1 : 1 < P := by have := hH.1; omega
  have hQ : 0 ≤ Q := hH.2.2.1
  have hG : 0 ≤ G := by have := hH.2.2.2.2.1; omega
  have hGP : G < P := hH.2.2.2.2.2
  have hQm : Q < 2147483648 := by have h1 := hH.2.2.2.1; have h2 := hH.2.1; omega
  have HH := Lib.hid hH
  clear hH
  have HI := Lib.hid hi
  have HZ := Lib.hid hr
  clear hi hr
  have HC := Lib.hid (show checkS P Q G P [p] = 0 by rw [checkS, if_pos HH.out]; simp [okAll]; omega)
  obtain ⟨k1, k2⟩ := mul_bound b0 (by omega) u0 (by omega)
  have k3 := wrap_u k1 (by omega)
  have k4 : (b * u).tmod P = r := (tmod_u k1).trans HZ.out
  have k5 : 0 ≤ r := HZ.out ▸ Int.emod_nonneg _ (by omega)
  have k6 : r < P := HZ.out ▸ Int.emod_lt_of_pos _ (by omega)
  have k7 := wrap_u k5 (by omega)
  have k8 : ¬ P = 0 := by omega
  have F_g := Lib.hid (show Boxed (((w.alloc (.cells #[.int .u64 P, .int .u64 Q, .int .u64 G] 24)).alloc (.cells #[.int .u64 a, .int .u64 b] 26)).alloc (.cells #[.int .u64 a, .int .u64 b, .int .u64 p] 22)) (w.heap.size) P Q G from ((Boxed.at _ P Q G _ (w.heap.size) (by simp)).alloc _).alloc _)
  have F_c := Lib.hid (show Pair (((w.alloc (.cells #[.int .u64 P, .int .u64 Q, .int .u64 G] 24)).alloc (.cells #[.int .u64 a, .int .u64 b] 26)).alloc (.cells #[.int .u64 a, .int .u64 b, .int .u64 p] 22)) (w.heap.size + 1) a b from (Pair.at _ a b _ (w.heap.size + 1) (by simp)).alloc _)
  have F_ns := Lib.hid (show ShL (((w.alloc (.cells #[.int .u64 P, .int .u64 Q, .int .u64 G] 24)).alloc (.cells #[.int .u64 a, .int .u64 b] 26)).alloc (.cells #[.int .u64 a, .int .u64 b, .int .u64 p] 22)) (some ⟨w.heap.size + 1 + 1, 0, none⟩) 3 3 [a, b, p] from ShL.laid _ [a, b, p] _ _ (w.heap.size + 1 + 1) _ _ (by simp) rfl rfl)
  have HBW := Lib.hid (show Below w.heap.size w (((w.alloc (.cells #[.int .u64 P, .int .u64 Q, .int .u64 G] 24)).alloc (.cells #[.int .u64 a, .int .u64 b] 26)).alloc (.cells #[.int .u64 a, .int .u64 b, .int .u64 p] 22)) from (((Below.refl _ _).alloc (by simp <;> omega) _).alloc (by simp <;> omega) _).alloc (by simp <;> omega) _)
  go_enter Try.func26, Try.ntmps26
  obtain ⟨x0a, x0b, x0c, -⟩ := id F_g.out
  obtain ⟨x1a, x1b, x1c, x1d, -⟩ := id F_c.out
  go_wp2_with fail
  clear x0a x0b x0c x1a x1b x1c x1d
  refine (rAsked_any _ hP hQ hG (ShL.nil _) F_ns.out (by simp) (by simp) HR.out).mono ?_
  rintro e w1 ⟨rfl, hb1⟩
  replace F_g := Lib.hid (F_g.out.keep hb1)
  replace F_c := Lib.hid (F_c.out.keep hb1)
  replace F_ns := Lib.hid (F_ns.out.keep hb1)
  replace HBW := Lib.hid (HBW.out.trans (hb1.mono HBW.out.size))
  clear hb1
  clear F_ns
  obtain ⟨x0a, x0b, x0c, -⟩ := id F_g.out
  obtain ⟨x1a, x1b, x1c, x1d, -⟩ := id F_c.out
  go_wp2_with fail
  clear x0a x0b x0c x1a x1b x1c x1d
  refine (rInv_gen hP hG _ p0 (.inl ⟨HC.out, true, HI.out, rfl⟩)).mono ?_
  rintro e w2 ⟨rfl, hb2⟩
  replace F_g := Lib.hid (F_g.out.keep hb2)
  replace F_c := Lib.hid (F_c.out.keep hb2)
  replace HBW := Lib.hid (HBW.out.trans (hb2.mono HBW.out.size))
  clear hb2
  obtain ⟨x0a, x0b, x0c, -⟩ := id F_g.out
  obtain ⟨x1a, x1b, x1c, x1d, -⟩ := id F_c.out
  go_wp2_with fail
  go_ret2
  exact ⟨rfl, HBW.out⟩

set_option maxHeartbeats 2000000 in
theorem rRefresh_bad {P Q G y a b x r : Int} (w : World) (hP : 0 ≤ P) (hQ : 0 ≤ Q) (hG : 0 ≤ G) (hr : askS P Q G [x] [y, a, b] = r) (hne : r ≠ 0) :
    Calls Try.prog 24 #[.agg #[.int .u64 P, .int .u64 Q, .int .u64 G], .int .u64 y, .agg #[.int .u64 a, .int .u64 b], .int .u64 x] w fun e w' => e = .returned (.tuple #[.agg #[.int .u64 0, .int .u64 0], .int .i64 r]) ∧ Below w.heap.size w w' := by
  have HR := Lib.hid hr
  clear hr
  have hnb : (r != 0) = true := by simpa using hne
  have hnc : (r == 0) = false := by simpa using hne
  have F_g := Lib.hid (show Boxed (((((w.alloc (.cells #[.int .u64 P, .int .u64 Q, .int .u64 G] 24)).alloc (.cells #[.int .u64 a, .int .u64 b] 26)).alloc (.cells #[.int .u64 0, .int .u64 0] 26)).alloc (.cells #[.int .u64 x] 22)).alloc (.cells #[.int .u64 y, .int .u64 a, .int .u64 b] 22)) (w.heap.size) P Q G from ((((Boxed.at _ P Q G _ (w.heap.size) (by simp)).alloc _).alloc _).alloc _).alloc _)
  have F_c := Lib.hid (show Pair (((((w.alloc (.cells #[.int .u64 P, .int .u64 Q, .int .u64 G] 24)).alloc (.cells #[.int .u64 a, .int .u64 b] 26)).alloc (.cells #[.int .u64 0, .int .u64 0] 26)).alloc (.cells #[.int .u64 x] 22)).alloc (.cells #[.int .u64 y, .int .u64 a, .int .u64 b] 22)) (w.heap.size + 1) a b from (((Pair.at _ a b _ (w.heap.size + 1) (by simp)).alloc _).alloc _).alloc _)
  have F_r := Lib.hid (show Pair (((((w.alloc (.cells #[.int .u64 P, .int .u64 Q, .int .u64 G] 24)).alloc (.cells #[.int .u64 a, .int .u64 b] 26)).alloc (.cells #[.int .u64 0, .int .u64 0] 26)).alloc (.cells #[.int .u64 x] 22)).alloc (.cells #[.int .u64 y, .int .u64 a, .int .u64 b] 22)) (w.heap.size + 1 + 1) 0 0 from ((Pair.at _ 0 0 _ (w.heap.size + 1 + 1) (by simp)).alloc _).alloc _)
  have F_es := Lib.hid (show ShL (((((w.alloc (.cells #[.int .u64 P, .int .u64 Q, .int .u64 G] 24)).alloc (.cells #[.int .u64 a, .int .u64 b] 26)).alloc (.cells #[.int .u64 0, .int .u64 0] 26)).alloc (.cells #[.int .u64 x] 22)).alloc (.cells #[.int .u64 y, .int .u64 a, .int .u64 b] 22)) (some ⟨w.heap.size + 1 + 1 + 1, 0, none⟩) 1 1 [x] from (ShL.laid _ [x] _ _ (w.heap.size + 1 + 1 + 1) _ _ (by simp) rfl rfl).alloc _)
  have F_ns := Lib.hid (show ShL (((((w.alloc (.cells #[.int .u64 P, .int .u64 Q, .int .u64 G] 24)).alloc (.cells #[.int .u64 a, .int .u64 b] 26)).alloc (.cells #[.int .u64 0, .int .u64 0] 26)).alloc (.cells #[.int .u64 x] 22)).alloc (.cells #[.int .u64 y, .int .u64 a, .int .u64 b] 22)) (some ⟨w.heap.size + 1 + 1 + 1 + 1, 0, none⟩) 3 3 [y, a, b] from ShL.laid _ [y, a, b] _ _ (w.heap.size + 1 + 1 + 1 + 1) _ _ (by simp) rfl rfl)
  have HBW := Lib.hid (show Below w.heap.size w (((((w.alloc (.cells #[.int .u64 P, .int .u64 Q, .int .u64 G] 24)).alloc (.cells #[.int .u64 a, .int .u64 b] 26)).alloc (.cells #[.int .u64 0, .int .u64 0] 26)).alloc (.cells #[.int .u64 x] 22)).alloc (.cells #[.int .u64 y, .int .u64 a, .int .u64 b] 22)) from (((((Below.refl _ _).alloc (by simp <;> omega) _).alloc (by simp <;> omega) _).alloc (by simp <;> omega) _).alloc (by simp <;> omega) _).alloc (by simp <;> omega) _)
  go_enter Try.func24, Try.ntmps24
  obtain ⟨x0a, x0b, x0c, -⟩ := id F_g.out
  obtain ⟨x1a, x1b, x1c, x1d, -⟩ := id F_c.out
  obtain ⟨x2a, x2b, x2c, x2d, -⟩ := id F_r.out
  go_wp2_with fail
  clear x0a x0b x0c x1a x1b x1c x1d x2a x2b x2c x2d
  refine (rAsked_any _ hP hQ hG F_es.out F_ns.out (by simp) (by simp) HR.out).mono ?_
  rintro e w1 ⟨rfl, hb1⟩
  replace F_g := Lib.hid (F_g.out.keep hb1)
  replace F_c := Lib.hid (F_c.out.keep hb1)
  replace F_r := Lib.hid (F_r.out.keep hb1)
  replace F_es := Lib.hid (F_es.out.keep hb1)
  replace F_ns := Lib.hid (F_ns.out.keep hb1)
  replace HBW := Lib.hid (HBW.out.trans (hb1.mono HBW.out.size))
  clear hb1
  clear F_es
  clear F_ns
  obtain ⟨x0a, x0b, x0c, -⟩ := id F_g.out
  obtain ⟨x1a, x1b, x1c, x1d, -⟩ := id F_c.out
  obtain ⟨x2a, x2b, x2c, x2d, -⟩ := id F_r.out
  go_wp2_with fail
  exact bodyPost_ret (res_pair rfl (F_r.out.stored 0 0) _ rfl rfl) rfl ⟨rfl, (HBW.out.setCell (by simp <;> omega) _).setCell (by simp <;> omega) _⟩

set_option maxHeartbeats 4000000 in
theorem rRefresh_ok {P Q G y a b x s t c d : Int} (w : World) (hH : Has P Q G) (y0 : 0 ≤ y) (yP : y < P) (a0 : 0 ≤ a) (aP : a < P) (b0 : 0 ≤ b) (bP : b < P) (x0 : 0 ≤ x) (xQ : x < Q) (hs : powm G x P = s) (ht : powm G 0 P * powm y x P % P = t) (hc : a * s % P = c) (hd : b * t % P = d) :
    Calls Try.prog 24 #[.agg #[.int .u64 P, .int .u64 Q, .int .u64 G], .int .u64 y, .agg #[.int .u64 a, .int .u64 b], .int .u64 x] w fun e w' => e = .returned (.tuple #[.agg #[.int .u64 c, .int .u64 d], .int .i64 0]) ∧ Below w.heap.size w w' := by
  have PM : P < 2147483648 := hH.2.1
  have HR := Lib.hid (askS_ok (es := [x]) (ns := [y, a, b]) hH (by simp <;> omega) (by simp <;> omega))
  have hP : 0 ≤ P := by have := hH.1; omega
  have hP1 : 1 < P := by have := hH.1; omega
  have hQ : 0 ≤ Q := hH.2.2.1
  have hG : 0 ≤ G := by have := hH.2.2.2.2.1; omega
  have hGP : G < P := hH.2.2.2.2.2
  have hQm : Q < 2147483648 := by have h1 := hH.2.2.2.1; have h2 := hH.2.1; omega
  have HH := Lib.hid hH
  clear hH
  have HA := Lib.hid hs
  have HB := Lib.hid ht
  have HX := Lib.hid hc
  have HY := Lib.hid hd
  clear hs ht hc hd
  have s0 : 0 ≤ s := HA.out ▸ Int.emod_nonneg _ (by omega)
  have sP : s < P := HA.out ▸ Int.emod_lt_of_pos _ (by omega)
  have t0 : 0 ≤ t := HB.out ▸ Int.emod_nonneg _ (by omega)
  have tP : t < P := HB.out ▸ Int.emod_lt_of_pos _ (by omega)
  have Q0 : 0 < Q := by omega
  have F_g := Lib.hid (show Boxed (((((w.alloc (.cells #[.int .u64 P, .int .u64 Q, .int .u64 G] 24)).alloc (.cells #[.int .u64 a, .int .u64 b] 26)).alloc (.cells #[.int .u64 0, .int .u64 0] 26)).alloc (.cells #[.int .u64 x] 22)).alloc (.cells #[.int .u64 y, .int .u64 a, .int .u64 b] 22)) (w.heap.size) P Q G from ((((Boxed.at _ P Q G _ (w.heap.size) (by simp)).alloc _).alloc _).alloc _).alloc _)
  have F_c := Lib.hid (show Pair (((((w.alloc (.cells #[.int .u64 P, .int .u64 Q, .int .u64 G] 24)).alloc (.cells #[.int .u64 a, .int .u64 b] 26)).alloc (.cells #[.int .u64 0, .int .u64 0] 26)).alloc (.cells #[.int .u64 x] 22)).alloc (.cells #[.int .u64 y, .int .u64 a, .int .u64 b] 22)) (w.heap.size + 1) a b from (((Pair.at _ a b _ (w.heap.size + 1) (by simp)).alloc _).alloc _).alloc _)
  have F_r := Lib.hid (show Pair (((((w.alloc (.cells #[.int .u64 P, .int .u64 Q, .int .u64 G] 24)).alloc (.cells #[.int .u64 a, .int .u64 b] 26)).alloc (.cells #[.int .u64 0, .int .u64 0] 26)).alloc (.cells #[.int .u64 x] 22)).alloc (.cells #[.int .u64 y, .int .u64 a, .int .u64 b] 22)) (w.heap.size + 1 + 1) 0 0 from ((Pair.at _ 0 0 _ (w.heap.size + 1 + 1) (by simp)).alloc _).alloc _)
  have F_es := Lib.hid (show ShL (((((w.alloc (.cells #[.int .u64 P, .int .u64 Q, .int .u64 G] 24)).alloc (.cells #[.int .u64 a, .int .u64 b] 26)).alloc (.cells #[.int .u64 0, .int .u64 0] 26)).alloc (.cells #[.int .u64 x] 22)).alloc (.cells #[.int .u64 y, .int .u64 a, .int .u64 b] 22)) (some ⟨w.heap.size + 1 + 1 + 1, 0, none⟩) 1 1 [x] from (ShL.laid _ [x] _ _ (w.heap.size + 1 + 1 + 1) _ _ (by simp) rfl rfl).alloc _)
  have F_ns := Lib.hid (show ShL (((((w.alloc (.cells #[.int .u64 P, .int .u64 Q, .int .u64 G] 24)).alloc (.cells #[.int .u64 a, .int .u64 b] 26)).alloc (.cells #[.int .u64 0, .int .u64 0] 26)).alloc (.cells #[.int .u64 x] 22)).alloc (.cells #[.int .u64 y, .int .u64 a, .int .u64 b] 22)) (some ⟨w.heap.size + 1 + 1 + 1 + 1, 0, none⟩) 3 3 [y, a, b] from ShL.laid _ [y, a, b] _ _ (w.heap.size + 1 + 1 + 1 + 1) _ _ (by simp) rfl rfl)
  have HBW := Lib.hid (show Below w.heap.size w (((((w.alloc (.cells #[.int .u64 P, .int .u64 Q, .int .u64 G] 24)).alloc (.cells #[.int .u64 a, .int .u64 b] 26)).alloc (.cells #[.int .u64 0, .int .u64 0] 26)).alloc (.cells #[.int .u64 x] 22)).alloc (.cells #[.int .u64 y, .int .u64 a, .int .u64 b] 22)) from (((((Below.refl _ _).alloc (by simp <;> omega) _).alloc (by simp <;> omega) _).alloc (by simp <;> omega) _).alloc (by simp <;> omega) _).alloc (by simp <;> omega) _)
  go_enter Try.func24, Try.ntmps24
  obtain ⟨x0a, x0b, x0c, -⟩ := id F_g.out
  obtain ⟨x1a, x1b, x1c, x1d, -⟩ := id F_c.out
  obtain ⟨x2a, x2b, x2c, x2d, -⟩ := id F_r.out
  go_wp2_with fail
  clear x0a x0b x0c x1a x1b x1c x1d x2a x2b x2c x2d
  refine (rAsked_any _ hP hQ hG F_es.out F_ns.out (by simp) (by simp) HR.out).mono ?_
  rintro e w1 ⟨rfl, hb1⟩
  replace F_g := Lib.hid (F_g.out.keep hb1)
  replace F_c := Lib.hid (F_c.out.keep hb1)
  replace F_r := Lib.hid (F_r.out.keep hb1)
  replace F_es := Lib.hid (F_es.out.keep hb1)
  replace F_ns := Lib.hid (F_ns.out.keep hb1)
  replace HBW := Lib.hid (HBW.out.trans (hb1.mono HBW.out.size))
  clear hb1
  clear F_es
  clear F_ns
  obtain ⟨x0a, x0b, x0c, -⟩ := id F_g.out
  obtain ⟨x1a, x1b, x1c, x1d, -⟩ := id F_c.out
  obtain ⟨x2a, x2b, x2c, x2d, -⟩ := id F_r.out
  go_wp2_with fail
  clear x0a x0b x0c x1a x1b x1c x1d x2a x2b x2c x2d
  replace F_g := Lib.hid F_g.out.drew
  replace F_c := Lib.hid F_c.out.drew
  replace F_r := Lib.hid F_r.out.drew
  replace HBW := Lib.hid HBW.out.drew
  have hS := And.intro F_g.out.s F_c.out.s
  refine wp_region_stage 6 (fun w' => SBox w' w.heap.size P Q G ∧ SPair w' (w.heap.size + 1) a b) (by kernel_rfl) ?_
  refine wpAnyB_take (i := 0) (some 25) (Op.load 24 (Operand.tmp 4)) 24 (v := ?_) ⟨_, rfl, rfl, rfl, rfl, rfl⟩ (by kernel_rfl) (by kernel_rfl) (by kernel_rfl) [6] (by kernel_rfl) (fun _ _ _ h => h) hS (fun w' hSw => ?_) ?_
  rotate_left
  · obtain ⟨⟨s0, s1, s2⟩, ⟨s3, s4⟩⟩ := hSw
    unfold bareOp
    go_simp
    try with_reducible rfl
  simp only [Act.put, List.setIfInBounds_toArray, List.set_cons_zero, List.set_cons_succ]
  refine wpAnyB_take (i := 1) (some 26) (Op.load 26 (Operand.tmp 6)) 26 (v := ?_) ⟨_, rfl, rfl, rfl, rfl, rfl⟩ (by kernel_rfl) (by kernel_rfl) (by kernel_rfl) [6] (by kernel_rfl) (fun _ _ _ h => h) hS (fun w' hSw => ?_) ?_
  rotate_left
  · obtain ⟨⟨s0, s1, s2⟩, ⟨s3, s4⟩⟩ := hSw
    unfold bareOp
    go_simp
    try with_reducible rfl
  simp only [Act.put, List.setIfInBounds_toArray, List.set_cons_zero, List.set_cons_succ]
  refine wpAnyB_take (i := 2) (some 27) (Op.load 24 (Operand.tmp 4)) 24 (v := ?_) ⟨_, rfl, rfl, rfl, rfl, rfl⟩ (by kernel_rfl) (by kernel_rfl) (by kernel_rfl) [5, 6] (by kernel_rfl) (fun _ _ _ h => h) hS (fun w' hSw => ?_) ?_
  rotate_left
  · obtain ⟨⟨s0, s1, s2⟩, ⟨s3, s4⟩⟩ := hSw
    unfold bareOp
    go_simp
    try with_reducible rfl
  simp only [Act.put, List.setIfInBounds_toArray, List.set_cons_zero, List.set_cons_succ]
  refine wpAnyB_takeP (i := 3) (some 28) (Op.move (Operand.tmp 1)) 22 (v := ?_) ⟨_, rfl, rfl, rfl, rfl, rfl⟩ (by kernel_rfl) (by kernel_rfl) (by kernel_rfl) (by kernel_rfl) (fun _ _ _ h => h) (fun _ => hS) (fun w' => ?_) ?_
  rotate_left
  · unfold bareOp
    go_simp
    try with_reducible rfl
  simp only [Act.put, List.setIfInBounds_toArray, List.set_cons_zero, List.set_cons_succ]
  refine wpAnyB_takeP (i := 4) (some 29) (Op.move (Operand.tmp 3)) 22 (v := ?_) ⟨_, rfl, rfl, rfl, rfl, rfl⟩ (by kernel_rfl) (by kernel_rfl) (by kernel_rfl) (by kernel_rfl) (fun _ _ _ h => h) (fun _ => hS) (fun w' => ?_) ?_
  rotate_left
  · unfold bareOp
    go_simp
    try with_reducible rfl
  simp only [Act.put, List.setIfInBounds_toArray, List.set_cons_zero, List.set_cons_succ]
  refine wpAnyB_only (i := 5) (some 30) (Op.call { callee := Callee.value (Operand.func 42), args := #[Operand.tmp 27, Operand.tmp 28, Operand.const (Value.int IntKind.u64 0), Operand.tmp 29], argTypes := #[24, 22, 22, 22] }) 26 ⟨_, rfl, rfl, rfl, rfl, rfl⟩ (by kernel_rfl) (fun K hK => ?_)
  unfold bareOp
  go_wp2_with (go_at_call 42; refine (rMake_any _ HH.out y0 yP (Int.le_refl 0) Q0 x0 xQ HA.out HB.out).mono ?_; rintro e w2 ⟨rfl, hb2⟩)
  replace F_g := Lib.hid (F_g.out.keep hb2)
  replace F_c := Lib.hid (F_c.out.keep hb2)
  replace F_r := Lib.hid (F_r.out.keep hb2)
  replace HBW := Lib.hid (HBW.out.trans (hb2.mono HBW.out.size))
  replace hS := And.intro F_g.out.s F_c.out.s
  clear hb2
  refine hK.out _ _ (fun _ => hS) ?_
  clear hK K
  try simp only [Act.put, List.setIfInBounds_toArray, List.set_cons_zero, List.set_cons_succ]
  refine wpAnyB_only (i := 6) (some 31) (Op.call { callee := Callee.value (Operand.func 39), args := #[Operand.tmp 25, Operand.tmp 26, Operand.tmp 30], argTypes := #[24, 26, 26] }) 26 ⟨_, rfl, rfl, rfl, rfl, rfl⟩ (by kernel_rfl) (fun K hK => ?_)
  unfold bareOp
  go_wp2_with (go_at_call 39; refine (rPlus_any _ PM a0 aP b0 bP s0 sP t0 tP HX.out HY.out).mono ?_; rintro e w3 ⟨rfl, hb3⟩)
  replace F_g := Lib.hid (F_g.out.keep hb3)
  replace F_c := Lib.hid (F_c.out.keep hb3)
  replace F_r := Lib.hid (F_r.out.keep hb3)
  replace HBW := Lib.hid (HBW.out.trans (hb3.mono HBW.out.size))
  replace hS := And.intro F_g.out.s F_c.out.s
  clear hb3
  obtain ⟨zra, zrb, zrc, zrd, -⟩ := id F_r.out
  refine hK.out _ _ (fun h => absurd (h.symm.trans (by kernel_rfl : _ = true)) (by decide)) ?_
  clear hK K
  try simp only [Act.put, List.setIfInBounds_toArray, List.set_cons_zero, List.set_cons_succ]
  refine wpAnyB_only (i := 7) none (Op.store 26 (Operand.tmp 8) (Operand.tmp 31)) 0 ⟨_, rfl, rfl, rfl, rfl, rfl⟩ (by kernel_rfl) (fun K hK => ?_)
  unfold bareOp
  go_wp2_with fail
  refine hK.out _ _ (fun h => absurd (h.symm.trans (by kernel_rfl : _ = true)) (by decide)) ?_
  clear hK K
  try simp only [Act.put, List.setIfInBounds_toArray, List.set_cons_zero, List.set_cons_succ]
  refine wpAnyB_takeP (i := 8) (some 9) (Op.assign (Operand.const (Value.int IntKind.i64 0))) 3 (v := ?_) ⟨_, rfl, rfl, rfl, rfl, rfl⟩ (by kernel_rfl) (by kernel_rfl) (by kernel_rfl) (by kernel_rfl) (fun _ _ _ h => h) (fun h => absurd (h.symm.trans (by kernel_rfl : _ = true)) (by decide)) (fun w' => ?_) ?_
  rotate_left
  · unfold bareOp
    go_simp
    try with_reducible rfl
  simp only [Act.put, List.setIfInBounds_toArray, List.set_cons_zero, List.set_cons_succ]
  refine wpAnyB_done (by kernel_rfl) ?_ _
  go_wp2_with fail
  exact bodyPost_ret (res_pair rfl (F_r.out.stored c d) _ rfl rfl) rfl ⟨rfl, (HBW.out.setCell (by simp <;> omega) _).setCell (by simp <;> omega) _⟩

set_option maxHeartbeats 2000000 in
theorem rDecrypt_bad {P Q G x a b most r : Int} (w : World) (hP : 0 ≤ P) (hQ : 0 ≤ Q) (hG : 0 ≤ G) (hr : askS P Q G [x] [a, b] = r) (hne : r ≠ 0) :
    Calls Try.prog 28 #[.agg #[.int .u64 P, .int .u64 Q, .int .u64 G], .int .u64 x, .agg #[.int .u64 a, .int .u64 b], .int .i64 most] w fun e w' => e = .returned (.tuple #[.int .i64 0, .int .i64 r]) ∧ Below w.heap.size w w' := by
  have HR := Lib.hid hr
  clear hr
  have hnb : (r != 0) = true := by simpa using hne
  have hnc : (r == 0) = false := by simpa using hne
  have F_g := Lib.hid (show Boxed ((((w.alloc (.cells #[.int .u64 P, .int .u64 Q, .int .u64 G] 24)).alloc (.cells #[.int .u64 a, .int .u64 b] 26)).alloc (.cells #[.int .u64 x] 22)).alloc (.cells #[.int .u64 a, .int .u64 b] 22)) (w.heap.size) P Q G from (((Boxed.at _ P Q G _ (w.heap.size) (by simp)).alloc _).alloc _).alloc _)
  have F_c := Lib.hid (show Pair ((((w.alloc (.cells #[.int .u64 P, .int .u64 Q, .int .u64 G] 24)).alloc (.cells #[.int .u64 a, .int .u64 b] 26)).alloc (.cells #[.int .u64 x] 22)).alloc (.cells #[.int .u64 a, .int .u64 b] 22)) (w.heap.size + 1) a b from ((Pair.at _ a b _ (w.heap.size + 1) (by simp)).alloc _).alloc _)
  have F_es := Lib.hid (show ShL ((((w.alloc (.cells #[.int .u64 P, .int .u64 Q, .int .u64 G] 24)).alloc (.cells #[.int .u64 a, .int .u64 b] 26)).alloc (.cells #[.int .u64 x] 22)).alloc (.cells #[.int .u64 a, .int .u64 b] 22)) (some ⟨w.heap.size + 1 + 1, 0, none⟩) 1 1 [x] from (ShL.laid _ [x] _ _ (w.heap.size + 1 + 1) _ _ (by simp) rfl rfl).alloc _)
  have F_ns := Lib.hid (show ShL ((((w.alloc (.cells #[.int .u64 P, .int .u64 Q, .int .u64 G] 24)).alloc (.cells #[.int .u64 a, .int .u64 b] 26)).alloc (.cells #[.int .u64 x] 22)).alloc (.cells #[.int .u64 a, .int .u64 b] 22)) (some ⟨w.heap.size + 1 + 1 + 1, 0, none⟩) 2 2 [a, b] from ShL.laid _ [a, b] _ _ (w.heap.size + 1 + 1 + 1) _ _ (by simp) rfl rfl)
  have HBW := Lib.hid (show Below w.heap.size w ((((w.alloc (.cells #[.int .u64 P, .int .u64 Q, .int .u64 G] 24)).alloc (.cells #[.int .u64 a, .int .u64 b] 26)).alloc (.cells #[.int .u64 x] 22)).alloc (.cells #[.int .u64 a, .int .u64 b] 22)) from ((((Below.refl _ _).alloc (by simp <;> omega) _).alloc (by simp <;> omega) _).alloc (by simp <;> omega) _).alloc (by simp <;> omega) _)
  go_enter Try.func28, Try.ntmps28
  obtain ⟨x0a, x0b, x0c, -⟩ := id F_g.out
  obtain ⟨x1a, x1b, x1c, x1d, -⟩ := id F_c.out
  go_wp2_with fail
  clear x0a x0b x0c x1a x1b x1c x1d
  refine (rAsked_any _ hP hQ hG F_es.out F_ns.out (by simp) (by simp) HR.out).mono ?_
  rintro e w1 ⟨rfl, hb1⟩
  replace F_g := Lib.hid (F_g.out.keep hb1)
  replace F_c := Lib.hid (F_c.out.keep hb1)
  replace F_es := Lib.hid (F_es.out.keep hb1)
  replace F_ns := Lib.hid (F_ns.out.keep hb1)
  replace HBW := Lib.hid (HBW.out.trans (hb1.mono HBW.out.size))
  clear hb1
  clear F_es
  clear F_ns
  obtain ⟨x0a, x0b, x0c, -⟩ := id F_g.out
  obtain ⟨x1a, x1b, x1c, x1d, -⟩ := id F_c.out
  go_wp2_with fail
  go_ret2
  exact ⟨rfl, HBW.out⟩

set_option maxHeartbeats 4000000 in
theorem rDecrypt_far {P Q G x a b most : Int} (w : World) (hH : Has P Q G) (x0 : 0 ≤ x) (xQ : x < Q) (a0 : 0 ≤ a) (aP : a < P) (b0 : 0 ≤ b) (bP : b < P) (hm : most < 0 ∨ 4096 < most) :
    Calls Try.prog 28 #[.agg #[.int .u64 P, .int .u64 Q, .int .u64 G], .int .u64 x, .agg #[.int .u64 a, .int .u64 b], .int .i64 most] w fun e w' => e = .returned (.tuple #[.int .i64 0, .int .i64 2]) ∧ Below w.heap.size w w' := by
  have PM : P < 2147483648 := hH.2.1
  have HR := Lib.hid (askS_ok (es := [x]) (ns := [a, b]) hH (by simp <;> omega) (by simp <;> omega))
  have hP : 0 ≤ P := by have := hH.1; omega
  have hP1 : 1 < P := by have := hH.1; omega
  have hQ : 0 ≤ Q := hH.2.2.1
  have hG : 0 ≤ G := by have := hH.2.2.2.2.1; omega
  have hGP : G < P := hH.2.2.2.2.2
  have hQm : Q < 2147483648 := by have h1 := hH.2.2.2.1; have h2 := hH.2.1; omega
  have HH := Lib.hid hH
  clear hH
  have HM := Lib.hid hm
  clear hm
  have F_g := Lib.hid (show Boxed ((((w.alloc (.cells #[.int .u64 P, .int .u64 Q, .int .u64 G] 24)).alloc (.cells #[.int .u64 a, .int .u64 b] 26)).alloc (.cells #[.int .u64 x] 22)).alloc (.cells #[.int .u64 a, .int .u64 b] 22)) (w.heap.size) P Q G from (((Boxed.at _ P Q G _ (w.heap.size) (by simp)).alloc _).alloc _).alloc _)
  have F_c := Lib.hid (show Pair ((((w.alloc (.cells #[.int .u64 P, .int .u64 Q, .int .u64 G] 24)).alloc (.cells #[.int .u64 a, .int .u64 b] 26)).alloc (.cells #[.int .u64 x] 22)).alloc (.cells #[.int .u64 a, .int .u64 b] 22)) (w.heap.size + 1) a b from ((Pair.at _ a b _ (w.heap.size + 1) (by simp)).alloc _).alloc _)
  have F_es := Lib.hid (show ShL ((((w.alloc (.cells #[.int .u64 P, .int .u64 Q, .int .u64 G] 24)).alloc (.cells #[.int .u64 a, .int .u64 b] 26)).alloc (.cells #[.int .u64 x] 22)).alloc (.cells #[.int .u64 a, .int .u64 b] 22)) (some ⟨w.heap.size + 1 + 1, 0, none⟩) 1 1 [x] from (ShL.laid _ [x] _ _ (w.heap.size + 1 + 1) _ _ (by simp) rfl rfl).alloc _)
  have F_ns := Lib.hid (show ShL ((((w.alloc (.cells #[.int .u64 P, .int .u64 Q, .int .u64 G] 24)).alloc (.cells #[.int .u64 a, .int .u64 b] 26)).alloc (.cells #[.int .u64 x] 22)).alloc (.cells #[.int .u64 a, .int .u64 b] 22)) (some ⟨w.heap.size + 1 + 1 + 1, 0, none⟩) 2 2 [a, b] from ShL.laid _ [a, b] _ _ (w.heap.size + 1 + 1 + 1) _ _ (by simp) rfl rfl)
  have HBW := Lib.hid (show Below w.heap.size w ((((w.alloc (.cells #[.int .u64 P, .int .u64 Q, .int .u64 G] 24)).alloc (.cells #[.int .u64 a, .int .u64 b] 26)).alloc (.cells #[.int .u64 x] 22)).alloc (.cells #[.int .u64 a, .int .u64 b] 22)) from ((((Below.refl _ _).alloc (by simp <;> omega) _).alloc (by simp <;> omega) _).alloc (by simp <;> omega) _).alloc (by simp <;> omega) _)
  go_enter Try.func28, Try.ntmps28
  obtain ⟨x0a, x0b, x0c, -⟩ := id F_g.out
  obtain ⟨x1a, x1b, x1c, x1d, -⟩ := id F_c.out
  go_wp2_with fail
  clear x0a x0b x0c x1a x1b x1c x1d
  refine (rAsked_any _ hP hQ hG F_es.out F_ns.out (by simp) (by simp) HR.out).mono ?_
  rintro e w1 ⟨rfl, hb1⟩
  replace F_g := Lib.hid (F_g.out.keep hb1)
  replace F_c := Lib.hid (F_c.out.keep hb1)
  replace F_es := Lib.hid (F_es.out.keep hb1)
  replace F_ns := Lib.hid (F_ns.out.keep hb1)
  replace HBW := Lib.hid (HBW.out.trans (hb1.mono HBW.out.size))
  clear hb1
  clear F_es
  clear F_ns
  by_cases h0 : most < 0
  · skip
    obtain ⟨x0a, x0b, x0c, -⟩ := id F_g.out
    obtain ⟨x1a, x1b, x1c, x1d, -⟩ := id F_c.out
    go_wp2_with fail
    go_ret2
    exact ⟨rfl, HBW.out⟩
  · have h1 : 4096 < most := HM.out.resolve_left h0
    obtain ⟨x0a, x0b, x0c, -⟩ := id F_g.out
    obtain ⟨x1a, x1b, x1c, x1d, -⟩ := id F_c.out
    go_wp2_with fail
    go_ret2
    exact ⟨rfl, HBW.out⟩

set_option maxHeartbeats 4000000 in
theorem rDecrypt_none {P Q G x a b most p u : Int} (w : World) (hH : Has P Q G) (x0 : 0 ≤ x) (xQ : x < Q) (a0 : 0 ≤ a) (aP : a < P) (b0 : 0 ≤ b) (bP : b < P) (m0 : 0 ≤ most) (m1 : most ≤ 4096) (hp : powm a x P = p) (hi : InvS P p false u) :
    Calls Try.prog 28 #[.agg #[.int .u64 P, .int .u64 Q, .int .u64 G], .int .u64 x, .agg #[.int .u64 a, .int .u64 b], .int .i64 most] w fun e w' => e = .returned (.tuple #[.int .i64 0, .int .i64 6]) ∧ Below w.heap.size w w' := by
  have PM : P < 2147483648 := hH.2.1
  have HR := Lib.hid (askS_ok (es := [x]) (ns := [a, b]) hH (by simp <;> omega) (by simp <;> omega))
  have hP : 0 ≤ P := by have := hH.1; omega
  have hP1 : 1 < P := by have := hH.1; omega
  have hQ : 0 ≤ Q := hH.2.2.1
  have hG : 0 ≤ G := by have := hH.2.2.2.2.1; omega
  have hGP : G < P := hH.2.2.2.2.2
  have hQm : Q < 2147483648 := by have h1 := hH.2.2.2.1; have h2 := hH.2.1; omega
  have HH := Lib.hid hH
  clear hH
  have HPW := Lib.hid hp
  have HI := Lib.hid hi
  clear hp hi
  have UX := Lib.hid (U64.of_lt x0 (by omega))
  have p0 : 0 ≤ p := HPW.out ▸ Int.emod_nonneg _ (by omega)
  have pP : p < P := HPW.out ▸ Int.emod_lt_of_pos _ (by omega)
  have F_g := Lib.hid (show Boxed ((((w.alloc (.cells #[.int .u64 P, .int .u64 Q, .int .u64 G] 24)).alloc (.cells #[.int .u64 a, .int .u64 b] 26)).alloc (.cells #[.int .u64 x] 22)).alloc (.cells #[.int .u64 a, .int .u64 b] 22)) (w.heap.size) P Q G from (((Boxed.at _ P Q G _ (w.heap.size) (by simp)).alloc _).alloc _).alloc _)
  have F_c := Lib.hid (show Pair ((((w.alloc (.cells #[.int .u64 P, .int .u64 Q, .int .u64 G] 24)).alloc (.cells #[.int .u64 a, .int .u64 b] 26)).alloc (.cells #[.int .u64 x] 22)).alloc (.cells #[.int .u64 a, .int .u64 b] 22)) (w.heap.size + 1) a b from ((Pair.at _ a b _ (w.heap.size + 1) (by simp)).alloc _).alloc _)
  have F_es := Lib.hid (show ShL ((((w.alloc (.cells #[.int .u64 P, .int .u64 Q, .int .u64 G] 24)).alloc (.cells #[.int .u64 a, .int .u64 b] 26)).alloc (.cells #[.int .u64 x] 22)).alloc (.cells #[.int .u64 a, .int .u64 b] 22)) (some ⟨w.heap.size + 1 + 1, 0, none⟩) 1 1 [x] from (ShL.laid _ [x] _ _ (w.heap.size + 1 + 1) _ _ (by simp) rfl rfl).alloc _)
  have F_ns := Lib.hid (show ShL ((((w.alloc (.cells #[.int .u64 P, .int .u64 Q, .int .u64 G] 24)).alloc (.cells #[.int .u64 a, .int .u64 b] 26)).alloc (.cells #[.int .u64 x] 22)).alloc (.cells #[.int .u64 a, .int .u64 b] 22)) (some ⟨w.heap.size + 1 + 1 + 1, 0, none⟩) 2 2 [a, b] from ShL.laid _ [a, b] _ _ (w.heap.size + 1 + 1 + 1) _ _ (by simp) rfl rfl)
  have HBW := Lib.hid (show Below w.heap.size w ((((w.alloc (.cells #[.int .u64 P, .int .u64 Q, .int .u64 G] 24)).alloc (.cells #[.int .u64 a, .int .u64 b] 26)).alloc (.cells #[.int .u64 x] 22)).alloc (.cells #[.int .u64 a, .int .u64 b] 22)) from ((((Below.refl _ _).alloc (by simp <;> omega) _).alloc (by simp <;> omega) _).alloc (by simp <;> omega) _).alloc (by simp <;> omega) _)
  go_enter Try.func28, Try.ntmps28
  obtain ⟨x0a, x0b, x0c, -⟩ := id F_g.out
  obtain ⟨x1a, x1b, x1c, x1d, -⟩ := id F_c.out
  go_wp2_with fail
  clear x0a x0b x0c x1a x1b x1c x1d
  refine (rAsked_any _ hP hQ hG F_es.out F_ns.out (by simp) (by simp) HR.out).mono ?_
  rintro e w1 ⟨rfl, hb1⟩
  replace F_g := Lib.hid (F_g.out.keep hb1)
  replace F_c := Lib.hid (F_c.out.keep hb1)
  replace F_es := Lib.hid (F_es.out.keep hb1)
  replace F_ns := Lib.hid (F_ns.out.keep hb1)
  replace HBW := Lib.hid (HBW.out.trans (hb1.mono HBW.out.size))
  clear hb1
  clear F_es
  clear F_ns
  obtain ⟨x0a, x0b, x0c, -⟩ := id F_g.out
  obtain ⟨x1a, x1b, x1c, x1d, -⟩ := id F_c.out
  go_wp2_with fail
  clear x0a x0b x0c x1a x1b x1c x1d
  replace F_g := Lib.hid F_g.out.drew
  replace F_c := Lib.hid F_c.out.drew
  replace HBW := Lib.hid HBW.out.drew
  have hS := And.intro F_g.out.s F_c.out.s
  refine wp_region_stage 7 (fun w' => SBox w' w.heap.size P Q G ∧ SPair w' (w.heap.size + 1) a b) (by kernel_rfl) ?_
  refine wpAnyB_take (i := 0) (some 36) (Op.load 24 (Operand.tmp 4)) 24 (v := ?_) ⟨_, rfl, rfl, rfl, rfl, rfl⟩ (by kernel_rfl) (by kernel_rfl) (by kernel_rfl) [7] (by kernel_rfl) (fun _ _ _ h => h) hS (fun w' hSw => ?_) ?_
  rotate_left
  · obtain ⟨⟨s0, s1, s2⟩, ⟨s3, s4⟩⟩ := hSw
    unfold bareOp
    go_simp
    try with_reducible rfl
  simp only [Act.put, List.setIfInBounds_toArray, List.set_cons_zero, List.set_cons_succ]
  refine wpAnyB_take (i := 1) (some 37) (Op.load 26 (Operand.tmp 6)) 26 (v := ?_) ⟨_, rfl, rfl, rfl, rfl, rfl⟩ (by kernel_rfl) (by kernel_rfl) (by kernel_rfl) [7] (by kernel_rfl) (fun _ _ _ h => h) hS (fun w' hSw => ?_) ?_
  rotate_left
  · obtain ⟨⟨s0, s1, s2⟩, ⟨s3, s4⟩⟩ := hSw
    unfold bareOp
    go_simp
    try with_reducible rfl
  simp only [Act.put, List.setIfInBounds_toArray, List.set_cons_zero, List.set_cons_succ]
  refine wpAnyB_take (i := 2) (some 38) (Op.load 24 (Operand.tmp 4)) 24 (v := ?_) ⟨_, rfl, rfl, rfl, rfl, rfl⟩ (by kernel_rfl) (by kernel_rfl) (by kernel_rfl) [6, 7] (by kernel_rfl) (fun _ _ _ h => h) hS (fun w' hSw => ?_) ?_
  rotate_left
  · obtain ⟨⟨s0, s1, s2⟩, ⟨s3, s4⟩⟩ := hSw
    unfold bareOp
    go_simp
    try with_reducible rfl
  simp only [Act.put, List.setIfInBounds_toArray, List.set_cons_zero, List.set_cons_succ]
  refine wpAnyB_takeP (i := 3) (some 39) (Op.fieldAddr 26 (Operand.tmp 6) 0) 0 (v := ?_) ⟨_, rfl, rfl, rfl, rfl, rfl⟩ (by kernel_rfl) (by kernel_rfl) (by kernel_rfl) (by kernel_rfl) (fun _ _ _ h => h) (fun _ => hS) (fun w' => ?_) ?_
  rotate_left
  · unfold bareOp
    go_simp
    try with_reducible rfl
  simp only [Act.put, List.setIfInBounds_toArray, List.set_cons_zero, List.set_cons_succ]
  refine wpAnyB_take (i := 4) (some 40) (Op.load 22 (Operand.tmp 39)) 22 (v := ?_) ⟨_, rfl, rfl, rfl, rfl, rfl⟩ (by kernel_rfl) (by kernel_rfl) (by kernel_rfl) [6, 7] (by kernel_rfl) (fun _ _ _ h => h) hS (fun w' hSw => ?_) ?_
  rotate_left
  · obtain ⟨⟨s0, s1, s2⟩, ⟨s3, s4⟩⟩ := hSw
    unfold bareOp
    go_simp
    try with_reducible rfl
  simp only [Act.put, List.setIfInBounds_toArray, List.set_cons_zero, List.set_cons_succ]
  refine wpAnyB_takeP (i := 5) (some 41) (Op.move (Operand.tmp 1)) 22 (v := ?_) ⟨_, rfl, rfl, rfl, rfl, rfl⟩ (by kernel_rfl) (by kernel_rfl) (by kernel_rfl) (by kernel_rfl) (fun _ _ _ h => h) (fun _ => hS) (fun w' => ?_) ?_
  rotate_left
  · unfold bareOp
    go_simp
    try with_reducible rfl
  simp only [Act.put, List.setIfInBounds_toArray, List.set_cons_zero, List.set_cons_succ]
  refine wpAnyB_only (i := 6) (some 42) (Op.call { callee := Callee.value (Operand.func 47), args := #[Operand.tmp 38, Operand.tmp 40, Operand.tmp 41], argTypes := #[24, 22, 22] }) 22 ⟨_, rfl, rfl, rfl, rfl, rfl⟩ (by kernel_rfl) (fun K hK => ?_)
  unfold bareOp
  go_wp2_with (go_at_call 47; refine (r31Power_any _ (by omega) PM a0 (by omega) UX.out HPW.out).mono ?_; rintro e w2 ⟨rfl, hb2⟩)
  replace F_g := Lib.hid (F_g.out.keep hb2)
  replace F_c := Lib.hid (F_c.out.keep hb2)
  replace HBW := Lib.hid (HBW.out.trans (hb2.mono HBW.out.size))
  replace hS := And.intro F_g.out.s F_c.out.s
  clear hb2
  refine hK.out _ _ (fun _ => hS) ?_
  clear hK K
  try simp only [Act.put, List.setIfInBounds_toArray, List.set_cons_zero, List.set_cons_succ]
  refine wpAnyB_only (i := 7) (some 43) (Op.call { callee := Callee.value (Operand.func 26), args := #[Operand.tmp 36, Operand.tmp 37, Operand.tmp 42], argTypes := #[24, 26, 22] }) 51 ⟨_, rfl, rfl, rfl, rfl, rfl⟩ (by kernel_rfl) (fun K hK => ?_)
  unfold bareOp
  go_wp2_with (go_at_call 26; refine (rStrip_none _ HH.out a0 aP b0 bP p0 pP HI.out).mono ?_; rintro e w3 ⟨rfl, hb3⟩)
  replace F_g := Lib.hid (F_g.out.keep hb3)
  replace F_c := Lib.hid (F_c.out.keep hb3)
  replace HBW := Lib.hid (HBW.out.trans (hb3.mono HBW.out.size))
  replace hS := And.intro F_g.out.s F_c.out.s
  clear hb3
  refine hK.out _ _ (fun h => absurd (h.symm.trans (by kernel_rfl : _ = true)) (by decide)) ?_
  clear hK K
  try simp only [Act.put, List.setIfInBounds_toArray, List.set_cons_zero, List.set_cons_succ]
  refine wpAnyB_takeP (i := 8) (some 35) (Op.move (Operand.tmp 43)) 51 (v := ?_) ⟨_, rfl, rfl, rfl, rfl, rfl⟩ (by kernel_rfl) (by kernel_rfl) (by kernel_rfl) (by kernel_rfl) (fun _ _ _ h => h) (fun h => absurd (h.symm.trans (by kernel_rfl : _ = true)) (by decide)) (fun w' => ?_) ?_
  rotate_left
  · unfold bareOp
    go_simp
    try with_reducible rfl
  simp only [Act.put, List.setIfInBounds_toArray, List.set_cons_zero, List.set_cons_succ]
  refine wpAnyB_takeP (i := 9) (some 44) (Op.extract (Operand.tmp 35) 0) 22 (v := ?_) ⟨_, rfl, rfl, rfl, rfl, rfl⟩ (by kernel_rfl) (by kernel_rfl) (by kernel_rfl) (by kernel_rfl) (fun _ _ _ h => h) (fun h => absurd (h.symm.trans (by kernel_rfl : _ = true)) (by decide)) (fun w' => ?_) ?_
  rotate_left
  · unfold bareOp
    go_simp
    try with_reducible rfl
  simp only [Act.put, List.setIfInBounds_toArray, List.set_cons_zero, List.set_cons_succ]
  refine wpAnyB_takeP (i := 10) (some 45) (Op.extract (Operand.tmp 35) 1) 3 (v := ?_) ⟨_, rfl, rfl, rfl, rfl, rfl⟩ (by kernel_rfl) (by kernel_rfl) (by kernel_rfl) (by kernel_rfl) (fun _ _ _ h => h) (fun h => absurd (h.symm.trans (by kernel_rfl : _ = true)) (by decide)) (fun w' => ?_) ?_
  rotate_left
  · unfold bareOp
    go_simp
    try with_reducible rfl
  simp only [Act.put, List.setIfInBounds_toArray, List.set_cons_zero, List.set_cons_succ]
  refine wpAnyB_takeP (i := 11) (some 11) (Op.assign (Operand.tmp 44)) 22 (v := ?_) ⟨_, rfl, rfl, rfl, rfl, rfl⟩ (by kernel_rfl) (by kernel_rfl) (by kernel_rfl) (by kernel_rfl) (fun _ _ _ h => h) (fun h => absurd (h.symm.trans (by kernel_rfl : _ = true)) (by decide)) (fun w' => ?_) ?_
  rotate_left
  · unfold bareOp
    go_simp
    try with_reducible rfl
  simp only [Act.put, List.setIfInBounds_toArray, List.set_cons_zero, List.set_cons_succ]
  refine wpAnyB_takeP (i := 12) (some 10) (Op.assign (Operand.tmp 45)) 3 (v := ?_) ⟨_, rfl, rfl, rfl, rfl, rfl⟩ (by kernel_rfl) (by kernel_rfl) (by kernel_rfl) (by kernel_rfl) (fun _ _ _ h => h) (fun h => absurd (h.symm.trans (by kernel_rfl : _ = true)) (by decide)) (fun w' => ?_) ?_
  rotate_left
  · unfold bareOp
    go_simp
    try with_reducible rfl
  simp only [Act.put, List.setIfInBounds_toArray, List.set_cons_zero, List.set_cons_succ]
  refine wpAnyB_done (by kernel_rfl) ?_ _
  obtain ⟨x0a, x0b, x0c, -⟩ := id F_g.out
  obtain ⟨x1a, x1b, x1c, x1d, -⟩ := id F_c.out
  go_wp2_with fail
  go_ret2
  exact ⟨rfl, HBW.out⟩

set_option maxHeartbeats 4000000 in
theorem rDecrypt_ok {P Q G x a b most p u r n c : Int} (w : World) (hH : Has P Q G) (x0 : 0 ≤ x) (xQ : x < Q) (a0 : 0 ≤ a) (aP : a < P) (b0 : 0 ≤ b) (bP : b < P) (m0 : 0 ≤ most) (m1 : most ≤ 4096) (hp : powm a x P = p) (hi : InvS P p true u) (u0 : 0 ≤ u) (uP : u < P) (hr : b * u % P = r) (hl : LogS P G r most n c) :
    Calls Try.prog 28 #[.agg #[.int .u64 P, .int .u64 Q, .int .u64 G], .int .u64 x, .agg #[.int .u64 a, .int .u64 b], .int .i64 most] w fun e w' => e = .returned (.tuple #[.int .i64 n, .int .i64 c]) ∧ Below w.heap.size w w' := by
  have PM : P < 2147483648 := hH.2.1
  have HR := Lib.hid (askS_ok (es := [x]) (ns := [a, b]) hH (by simp <;> omega) (by simp <;> omega))
  have hP : 0 ≤ P := by have := hH.1; omega
  have hP1 : 1 < P := by have := hH.1; omega
  have hQ : 0 ≤ Q := hH.2.2.1
  have hG : 0 ≤ G := by have := hH.2.2.2.2.1; omega
  have hGP : G < P := hH.2.2.2.2.2
  have hQm : Q < 2147483648 := by have h1 := hH.2.2.2.1; have h2 := hH.2.1; omega
  have HH := Lib.hid hH
  clear hH
  have HPW := Lib.hid hp
  have HI := Lib.hid hi
  have HZ := Lib.hid hr
  have HL := Lib.hid hl
  clear hp hi hr hl
  have UX := Lib.hid (U64.of_lt x0 (by omega))
  have p0 : 0 ≤ p := HPW.out ▸ Int.emod_nonneg _ (by omega)
  have pP : p < P := HPW.out ▸ Int.emod_lt_of_pos _ (by omega)
  have rP : r < P := HZ.out ▸ Int.emod_lt_of_pos _ (by omega)
  have r0 : 0 ≤ r := HZ.out ▸ Int.emod_nonneg _ (by omega)
  have HLL := Lib.hid (show RetL P Q G r most n c from .inl ⟨by rw [checkS, if_pos HH.out]; simp [okAll]; omega, .inl ⟨m0, m1, HL.out⟩⟩)
  have F_g := Lib.hid (show Boxed ((((w.alloc (.cells #[.int .u64 P, .int .u64 Q, .int .u64 G] 24)).alloc (.cells #[.int .u64 a, .int .u64 b] 26)).alloc (.cells #[.int .u64 x] 22)).alloc (.cells #[.int .u64 a, .int .u64 b] 22)) (w.heap.size) P Q G from (((Boxed.at _ P Q G _ (w.heap.size) (by simp)).alloc _).alloc _).alloc _)
  have F_c := Lib.hid (show Pair ((((w.alloc (.cells #[.int .u64 P, .int .u64 Q, .int .u64 G] 24)).alloc (.cells #[.int .u64 a, .int .u64 b] 26)).alloc (.cells #[.int .u64 x] 22)).alloc (.cells #[.int .u64 a, .int .u64 b] 22)) (w.heap.size + 1) a b from ((Pair.at _ a b _ (w.heap.size + 1) (by simp)).alloc _).alloc _)
  have F_es := Lib.hid (show ShL ((((w.alloc (.cells #[.int .u64 P, .int .u64 Q, .int .u64 G] 24)).alloc (.cells #[.int .u64 a, .int .u64 b] 26)).alloc (.cells #[.int .u64 x] 22)).alloc (.cells #[.int .u64 a, .int .u64 b] 22)) (some ⟨w.heap.size + 1 + 1, 0, none⟩) 1 1 [x] from (ShL.laid _ [x] _ _ (w.heap.size + 1 + 1) _ _ (by simp) rfl rfl).alloc _)
  have F_ns := Lib.hid (show ShL ((((w.alloc (.cells #[.int .u64 P, .int .u64 Q, .int .u64 G] 24)).alloc (.cells #[.int .u64 a, .int .u64 b] 26)).alloc (.cells #[.int .u64 x] 22)).alloc (.cells #[.int .u64 a, .int .u64 b] 22)) (some ⟨w.heap.size + 1 + 1 + 1, 0, none⟩) 2 2 [a, b] from ShL.laid _ [a, b] _ _ (w.heap.size + 1 + 1 + 1) _ _ (by simp) rfl rfl)
  have HBW := Lib.hid (show Below w.heap.size w ((((w.alloc (.cells #[.int .u64 P, .int .u64 Q, .int .u64 G] 24)).alloc (.cells #[.int .u64 a, .int .u64 b] 26)).alloc (.cells #[.int .u64 x] 22)).alloc (.cells #[.int .u64 a, .int .u64 b] 22)) from ((((Below.refl _ _).alloc (by simp <;> omega) _).alloc (by simp <;> omega) _).alloc (by simp <;> omega) _).alloc (by simp <;> omega) _)
  go_enter Try.func28, Try.ntmps28
  obtain ⟨x0a, x0b, x0c, -⟩ := id F_g.out
  obtain ⟨x1a, x1b, x1c, x1d, -⟩ := id F_c.out
  go_wp2_with fail
  clear x0a x0b x0c x1a x1b x1c x1d
  refine (rAsked_any _ hP hQ hG F_es.out F_ns.out (by simp) (by simp) HR.out).mono ?_
  rintro e w1 ⟨rfl, hb1⟩
  replace F_g := Lib.hid (F_g.out.keep hb1)
  replace F_c := Lib.hid (F_c.out.keep hb1)
  replace F_es := Lib.hid (F_es.out.keep hb1)
  replace F_ns := Lib.hid (F_ns.out.keep hb1)
  replace HBW := Lib.hid (HBW.out.trans (hb1.mono HBW.out.size))
  clear hb1
  clear F_es
  clear F_ns
  obtain ⟨x0a, x0b, x0c, -⟩ := id F_g.out
  obtain ⟨x1a, x1b, x1c, x1d, -⟩ := id F_c.out
  go_wp2_with fail
  clear x0a x0b x0c x1a x1b x1c x1d
  replace F_g := Lib.hid F_g.out.drew
  replace F_c := Lib.hid F_c.out.drew
  replace HBW := Lib.hid HBW.out.drew
  have hS := And.intro F_g.out.s F_c.out.s
  refine wp_region_stage 7 (fun w' => SBox w' w.heap.size P Q G ∧ SPair w' (w.heap.size + 1) a b) (by kernel_rfl) ?_
  refine wpAnyB_take (i := 0) (some 36) (Op.load 24 (Operand.tmp 4)) 24 (v := ?_) ⟨_, rfl, rfl, rfl, rfl, rfl⟩ (by kernel_rfl) (by kernel_rfl) (by kernel_rfl) [7] (by kernel_rfl) (fun _ _ _ h => h) hS (fun w' hSw => ?_) ?_
  rotate_left
  · obtain ⟨⟨s0, s1, s2⟩, ⟨s3, s4⟩⟩ := hSw
    unfold bareOp
    go_simp
    try with_reducible rfl
  simp only [Act.put, List.setIfInBounds_toArray, List.set_cons_zero, List.set_cons_succ]
  refine wpAnyB_take (i := 1) (some 37) (Op.load 26 (Operand.tmp 6)) 26 (v := ?_) ⟨_, rfl, rfl, rfl, rfl, rfl⟩ (by kernel_rfl) (by kernel_rfl) (by kernel_rfl) [7] (by kernel_rfl) (fun _ _ _ h => h) hS (fun w' hSw => ?_) ?_
  rotate_left
  · obtain ⟨⟨s0, s1, s2⟩, ⟨s3, s4⟩⟩ := hSw
    unfold bareOp
    go_simp
    try with_reducible rfl
  simp only [Act.put, List.setIfInBounds_toArray, List.set_cons_zero, List.set_cons_succ]
  refine wpAnyB_take (i := 2) (some 38) (Op.load 24 (Operand.tmp 4)) 24 (v := ?_) ⟨_, rfl, rfl, rfl, rfl, rfl⟩ (by kernel_rfl) (by kernel_rfl) (by kernel_rfl) [6, 7] (by kernel_rfl) (fun _ _ _ h => h) hS (fun w' hSw => ?_) ?_
  rotate_left
  · obtain ⟨⟨s0, s1, s2⟩, ⟨s3, s4⟩⟩ := hSw
    unfold bareOp
    go_simp
    try with_reducible rfl
  simp only [Act.put, List.setIfInBounds_toArray, List.set_cons_zero, List.set_cons_succ]
  refine wpAnyB_takeP (i := 3) (some 39) (Op.fieldAddr 26 (Operand.tmp 6) 0) 0 (v := ?_) ⟨_, rfl, rfl, rfl, rfl, rfl⟩ (by kernel_rfl) (by kernel_rfl) (by kernel_rfl) (by kernel_rfl) (fun _ _ _ h => h) (fun _ => hS) (fun w' => ?_) ?_
  rotate_left
  · unfold bareOp
    go_simp
    try with_reducible rfl
  simp only [Act.put, List.setIfInBounds_toArray, List.set_cons_zero, List.set_cons_succ]
  refine wpAnyB_take (i := 4) (some 40) (Op.load 22 (Operand.tmp 39)) 22 (v := ?_) ⟨_, rfl, rfl, rfl, rfl, rfl⟩ (by kernel_rfl) (by kernel_rfl) (by kernel_rfl) [6, 7] (by kernel_rfl) (fun _ _ _ h => h) hS (fun w' hSw => ?_) ?_
  rotate_left
  · obtain ⟨⟨s0, s1, s2⟩, ⟨s3, s4⟩⟩ := hSw
    unfold bareOp
    go_simp
    try with_reducible rfl
  simp only [Act.put, List.setIfInBounds_toArray, List.set_cons_zero, List.set_cons_succ]
  refine wpAnyB_takeP (i := 5) (some 41) (Op.move (Operand.tmp 1)) 22 (v := ?_) ⟨_, rfl, rfl, rfl, rfl, rfl⟩ (by kernel_rfl) (by kernel_rfl) (by kernel_rfl) (by kernel_rfl) (fun _ _ _ h => h) (fun _ => hS) (fun w' => ?_) ?_
  rotate_left
  · unfold bareOp
    go_simp
    try with_reducible rfl
  simp only [Act.put, List.setIfInBounds_toArray, List.set_cons_zero, List.set_cons_succ]
  refine wpAnyB_only (i := 6) (some 42) (Op.call { callee := Callee.value (Operand.func 47), args := #[Operand.tmp 38, Operand.tmp 40, Operand.tmp 41], argTypes := #[24, 22, 22] }) 22 ⟨_, rfl, rfl, rfl, rfl, rfl⟩ (by kernel_rfl) (fun K hK => ?_)
  unfold bareOp
  go_wp2_with (go_at_call 47; refine (r31Power_any _ (by omega) PM a0 (by omega) UX.out HPW.out).mono ?_; rintro e w2 ⟨rfl, hb2⟩)
  replace F_g := Lib.hid (F_g.out.keep hb2)
  replace F_c := Lib.hid (F_c.out.keep hb2)
  replace HBW := Lib.hid (HBW.out.trans (hb2.mono HBW.out.size))
  replace hS := And.intro F_g.out.s F_c.out.s
  clear hb2
  refine hK.out _ _ (fun _ => hS) ?_
  clear hK K
  try simp only [Act.put, List.setIfInBounds_toArray, List.set_cons_zero, List.set_cons_succ]
  refine wpAnyB_only (i := 7) (some 43) (Op.call { callee := Callee.value (Operand.func 26), args := #[Operand.tmp 36, Operand.tmp 37, Operand.tmp 42], argTypes := #[24, 26, 22] }) 51 ⟨_, rfl, rfl, rfl, rfl, rfl⟩ (by kernel_rfl) (fun K hK => ?_)
  unfold bareOp
  go_wp2_with (go_at_call 26; refine (rStrip_ok _ HH.out a0 aP b0 bP p0 pP HI.out u0 uP HZ.out).mono ?_; rintro e w3 ⟨rfl, hb3⟩)
  replace F_g := Lib.hid (F_g.out.keep hb3)
  replace F_c := Lib.hid (F_c.out.keep hb3)
  replace HBW := Lib.hid (HBW.out.trans (hb3.mono HBW.out.size))
  replace hS := And.intro F_g.out.s F_c.out.s
  clear hb3
  refine hK.out _ _ (fun h => absurd (h.symm.trans (by kernel_rfl : _ = true)) (by decide)) ?_
  clear hK K
  try simp only [Act.put, List.setIfInBounds_toArray, List.set_cons_zero, List.set_cons_succ]
  refine wpAnyB_takeP (i := 8) (some 35) (Op.move (Operand.tmp 43)) 51 (v := ?_) ⟨_, rfl, rfl, rfl, rfl, rfl⟩ (by kernel_rfl) (by kernel_rfl) (by kernel_rfl) (by kernel_rfl) (fun _ _ _ h => h) (fun h => absurd (h.symm.trans (by kernel_rfl : _ = true)) (by decide)) (fun w' => ?_) ?_
  rotate_left
  · unfold bareOp
    go_simp
    try with_reducible rfl
  simp only [Act.put, List.setIfInBounds_toArray, List.set_cons_zero, List.set_cons_succ]
  refine wpAnyB_takeP (i := 9) (some 44) (Op.extract (Operand.tmp 35) 0) 22 (v := ?_) ⟨_, rfl, rfl, rfl, rfl, rfl⟩ (by kernel_rfl) (by kernel_rfl) (by kernel_rfl) (by kernel_rfl) (fun _ _ _ h => h) (fun h => absurd (h.symm.trans (by kernel_rfl : _ = true)) (by decide)) (fun w' => ?_) ?_
  rotate_left
  · unfold bareOp
    go_simp
    try with_reducible rfl
  simp only [Act.put, List.setIfInBounds_toArray, List.set_cons_zero, List.set_cons_succ]
  refine wpAnyB_takeP (i := 10) (some 45) (Op.extract (Operand.tmp 35) 1) 3 (v := ?_) ⟨_, rfl, rfl, rfl, rfl, rfl⟩ (by kernel_rfl) (by kernel_rfl) (by kernel_rfl) (by kernel_rfl) (fun _ _ _ h => h) (fun h => absurd (h.symm.trans (by kernel_rfl : _ = true)) (by decide)) (fun w' => ?_) ?_
  rotate_left
  · unfold bareOp
    go_simp
    try with_reducible rfl
  simp only [Act.put, List.setIfInBounds_toArray, List.set_cons_zero, List.set_cons_succ]
  refine wpAnyB_takeP (i := 11) (some 11) (Op.assign (Operand.tmp 44)) 22 (v := ?_) ⟨_, rfl, rfl, rfl, rfl, rfl⟩ (by kernel_rfl) (by kernel_rfl) (by kernel_rfl) (by kernel_rfl) (fun _ _ _ h => h) (fun h => absurd (h.symm.trans (by kernel_rfl : _ = true)) (by decide)) (fun w' => ?_) ?_
  rotate_left
  · unfold bareOp
    go_simp
    try with_reducible rfl
  simp only [Act.put, List.setIfInBounds_toArray, List.set_cons_zero, List.set_cons_succ]
  refine wpAnyB_takeP (i := 12) (some 10) (Op.assign (Operand.tmp 45)) 3 (v := ?_) ⟨_, rfl, rfl, rfl, rfl, rfl⟩ (by kernel_rfl) (by kernel_rfl) (by kernel_rfl) (by kernel_rfl) (fun _ _ _ h => h) (fun h => absurd (h.symm.trans (by kernel_rfl : _ = true)) (by decide)) (fun w' => ?_) ?_
  rotate_left
  · unfold bareOp
    go_simp
    try with_reducible rfl
  simp only [Act.put, List.setIfInBounds_toArray, List.set_cons_zero, List.set_cons_succ]
  refine wpAnyB_done (by kernel_rfl) ?_ _
  obtain ⟨x0a, x0b, x0c, -⟩ := id F_g.out
  obtain ⟨x1a, x1b, x1c, x1d, -⟩ := id F_c.out
  go_wp2_with fail
  clear x0a x0b x0c x1a x1b x1c x1d
  refine (rLog_gen _ hP hG HLL.out).mono ?_
  rintro e w4 ⟨rfl, hb4⟩
  replace F_g := Lib.hid (F_g.out.keep hb4)
  replace F_c := Lib.hid (F_c.out.keep hb4)
  replace HBW := Lib.hid (HBW.out.trans (hb4.mono HBW.out.size))
  clear hb4
  obtain ⟨x0a, x0b, x0c, -⟩ := id F_g.out
  obtain ⟨x1a, x1b, x1c, x1d, -⟩ := id F_c.out
  go_wp2_with fail
  go_ret2
  exact ⟨rfl, HBW.out⟩
end Go.Proofs.Ytffefhldfnfohaa
