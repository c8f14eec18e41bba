/- schnorr.Extract. -/
import Derived.Test.YtmcpfinnhgbcpaaPairZ
namespace Go.Proofs.Ytmcpfinnhgbcpaa
open Go.RowKit Num
set_option linter.unusedSimpArgs false
set_option linter.unusedVariables false

def ExtS (P Q G c s d t v e : Int) : Prop := (askS P Q G [c, s, d, t] [] = 0 ∧ ∃ ok u, InvS Q ((c - d) % Q) ok u ∧ ((ok = true ∧ (s - t) % Q * u % Q = v ∧ e = 0) ∨ (ok = false ∧ v = 0 ∧ e = 6))) ∨ (askS P Q G [c, s, d, t] [] ≠ 0 ∧ v = 0 ∧ e = askS P Q G [c, s, d, t] [])
theorem ExtS.exists (P Q G c s d t : Int) : ∃ v e, ExtS P Q G c s d t v e := by
  by_cases h : askS P Q G [c, s, d, t] [] = 0
  · obtain ⟨hH, -⟩ := askS_zero h
    obtain ⟨ok, u, hi⟩ := InvS.exists Q ((c - d) % Q) (by obtain ⟨h1, h2, h3, h4, -⟩ := hH; omega)
    cases ok
    · exact ⟨_, _, .inl ⟨h, _, _, hi, .inr ⟨rfl, rfl, rfl⟩⟩⟩
    · exact ⟨_, _, .inl ⟨h, _, _, hi, .inl ⟨rfl, rfl, rfl⟩⟩⟩
  · exact ⟨_, _, .inr ⟨h, rfl, rfl⟩⟩

set_option maxHeartbeats 8000000 in
theorem sextract_any {P Q G c s d t v e' : Int} (w : World) (hP : 0 ≤ P) (hQ : 0 ≤ Q) (hG : 0 ≤ G) (c0 : 0 ≤ c) (s0 : 0 ≤ s) (d0 : 0 ≤ d) (t0 : 0 ≤ t) (h : ExtS P Q G c s d t v e') :
    Calls Try.prog 10 #[.agg #[.int .u64 P, .int .u64 Q, .int .u64 G], .int .u64 c, .int .u64 s, .int .u64 d, .int .u64 t] w fun e w' => e = .returned (.tuple #[.int .u64 v, .int .i64 e']) ∧ Below w.heap.size w w' := by
  rcases h with ⟨h, ok, u, hi, ⟨rfl, hv, rfl⟩ | ⟨rfl, rfl, rfl⟩⟩ | ⟨h, rfl, hc⟩
  · obtain ⟨hH, he, -⟩ := askS_zero h
    obtain ⟨u0, uQ⟩ := (show 0 ≤ u ∧ u < Q by rcases hi with ⟨-, h⟩ | ⟨h, -⟩; exact ⟨h.1, h.2.1⟩; cases h)
    have cQ := he c (by simp)
    have sQ := he s (by simp)
    have dQ := he d (by simp)
    have tQ := he t (by simp)
    have HR := Lib.hid h
    have HI := Lib.hid hi
    obtain ⟨m, hm⟩ : ∃ m, (c - d) % Q = m := ⟨_, rfl⟩
    obtain ⟨n, hn⟩ : ∃ n, (s - t) % Q = n := ⟨_, rfl⟩
    rw [hm] at HI
    have m0 : 0 ≤ m := by rw [← hm]; exact Int.emod_nonneg _ (by omega)
    have mQ : m < Q := by rw [← hm]; exact Int.emod_lt_of_pos _ (by omega)
    have n0 : 0 ≤ n := by rw [← hn]; exact Int.emod_nonneg _ (by omega)
    have nQ : n < Q := by rw [← hn]; exact Int.emod_lt_of_pos _ (by omega)
    have HM := Lib.hid hm
    have HN := Lib.hid hn
    have HV := Lib.hid (show n * u % Q = v by rw [← hn]; exact hv)
    clear h hv he hm hn hi
    obtain ⟨p5, p3, hQ', pq, g2, gP⟩ := id hH
    have hP1 : 1 ≤ P := by omega
    have hGM : G < 2147483648 := by omega
    have q3 : Q < 1073741824 := by omega
    have HH := Lib.hid hH
    clear hH pq
    have F_g := Lib.hid (show Boxed ((w.alloc (.cells #[.int .u64 P, .int .u64 Q, .int .u64 G] 24)).alloc (.cells #[.int .u64 c, .int .u64 s, .int .u64 d, .int .u64 t] 22)) (w.heap.size) P Q G from (Boxed.at _ P Q G _ (w.heap.size) (by simp)).alloc _)
    have F_es := Lib.hid (show ShL ((w.alloc (.cells #[.int .u64 P, .int .u64 Q, .int .u64 G] 24)).alloc (.cells #[.int .u64 c, .int .u64 s, .int .u64 d, .int .u64 t] 22)) (some ⟨w.heap.size + 1, 0, none⟩) 4 4 [c, s, d, t] from ShL.laid _ [c, s, d, t] _ _ (w.heap.size + 1) _ _ (by simp) rfl rfl)
    have HBW := Lib.hid (show Below w.heap.size w ((w.alloc (.cells #[.int .u64 P, .int .u64 Q, .int .u64 G] 24)).alloc (.cells #[.int .u64 c, .int .u64 s, .int .u64 d, .int .u64 t] 22)) from ((Below.refl _ _).alloc (by simp <;> omega) _).alloc (by simp <;> omega) _)
    go_enter Try.func10, Try.ntmps10
    obtain ⟨x0a, x0b, x0c, -⟩ := id F_g.out
    go_wp2_with fail
    clear x0a x0b x0c
    refine (scheck_any _ hP hQ hG F_es.out (ShL.nil _) (by simp) (by simp) HR.out).mono ?_
    rintro e w1 ⟨rfl, hb1⟩
    replace F_g := Lib.hid (F_g.out.keep hb1)
    replace F_es := Lib.hid (F_es.out.keep hb1)
    replace HBW := Lib.hid (HBW.out.trans (hb1.mono HBW.out.size))
    clear hb1
    clear F_es
    obtain ⟨x0a, x0b, x0c, -⟩ := id F_g.out
    go_wp2_with fail
    clear x0a x0b x0c
    refine (subExp_ok P Q G c d m _ HH.out c0 cQ d0 dQ HM.out).mono ?_
    rintro e w2 ⟨rfl, hb2⟩
    replace F_g := Lib.hid (F_g.out.keep hb2)
    replace HBW := Lib.hid (HBW.out.trans (hb2.mono HBW.out.size))
    clear hb2
    obtain ⟨x0a, x0b, x0c, -⟩ := id F_g.out
    go_wp2_with fail
    clear x0a x0b x0c
    refine (subExp_ok P Q G s t n _ HH.out s0 sQ t0 tQ HN.out).mono ?_
    rintro e w3 ⟨rfl, hb3⟩
    replace F_g := Lib.hid (F_g.out.keep hb3)
    replace HBW := Lib.hid (HBW.out.trans (hb3.mono HBW.out.size))
    clear hb3
    obtain ⟨x0a, x0b, x0c, -⟩ := id F_g.out
    go_wp2_with fail
    clear x0a x0b x0c
    refine (invExp_ok P Q G m u 0 true _ HH.out m0 mQ HI.out rfl).mono ?_
    rintro e w4 ⟨rfl, hb4⟩
    replace F_g := Lib.hid (F_g.out.keep hb4)
    replace HBW := Lib.hid (HBW.out.trans (hb4.mono HBW.out.size))
    clear hb4
    obtain ⟨x0a, x0b, x0c, -⟩ := id F_g.out
    go_wp2_with fail
    clear x0a x0b x0c
    refine (mulExp_ok P Q G n u v _ HH.out n0 nQ u0 uQ HV.out).mono ?_
    rintro e w5 ⟨rfl, hb5⟩
    replace F_g := Lib.hid (F_g.out.keep hb5)
    replace HBW := Lib.hid (HBW.out.trans (hb5.mono HBW.out.size))
    clear hb5
    obtain ⟨x0a, x0b, x0c, -⟩ := id F_g.out
    go_wp2_with fail
    go_ret2
    exact ⟨rfl, HBW.out⟩
  · obtain ⟨hH, he, -⟩ := askS_zero h
    have cQ := he c (by simp)
    have sQ := he s (by simp)
    have dQ := he d (by simp)
    have tQ := he t (by simp)
    have HR := Lib.hid h
    have HI := Lib.hid hi
    obtain ⟨m, hm⟩ : ∃ m, (c - d) % Q = m := ⟨_, rfl⟩
    obtain ⟨n, hn⟩ : ∃ n, (s - t) % Q = n := ⟨_, rfl⟩
    rw [hm] at HI
    have m0 : 0 ≤ m := by rw [← hm]; exact Int.emod_nonneg _ (by omega)
    have mQ : m < Q := by rw [← hm]; exact Int.emod_lt_of_pos _ (by omega)
    have n0 : 0 ≤ n := by rw [← hn]; exact Int.emod_nonneg _ (by omega)
    have nQ : n < Q := by rw [← hn]; exact Int.emod_lt_of_pos _ (by omega)
    have HM := Lib.hid hm
    have HN := Lib.hid hn
    clear h he hm hn hi
    obtain ⟨p5, p3, hQ', pq, g2, gP⟩ := id hH
    have hP1 : 1 ≤ P := by omega
    have hGM : G < 2147483648 := by omega
    have q3 : Q < 1073741824 := by omega
    have HH := Lib.hid hH
    clear hH pq
    have F_g := Lib.hid (show Boxed ((w.alloc (.cells #[.int .u64 P, .int .u64 Q, .int .u64 G] 24)).alloc (.cells #[.int .u64 c, .int .u64 s, .int .u64 d, .int .u64 t] 22)) (w.heap.size) P Q G from (Boxed.at _ P Q G _ (w.heap.size) (by simp)).alloc _)
    have F_es := Lib.hid (show ShL ((w.alloc (.cells #[.int .u64 P, .int .u64 Q, .int .u64 G] 24)).alloc (.cells #[.int .u64 c, .int .u64 s, .int .u64 d, .int .u64 t] 22)) (some ⟨w.heap.size + 1, 0, none⟩) 4 4 [c, s, d, t] from ShL.laid _ [c, s, d, t] _ _ (w.heap.size + 1) _ _ (by simp) rfl rfl)
    have HBW := Lib.hid (show Below w.heap.size w ((w.alloc (.cells #[.int .u64 P, .int .u64 Q, .int .u64 G] 24)).alloc (.cells #[.int .u64 c, .int .u64 s, .int .u64 d, .int .u64 t] 22)) from ((Below.refl _ _).alloc (by simp <;> omega) _).alloc (by simp <;> omega) _)
    go_enter Try.func10, Try.ntmps10
    obtain ⟨x0a, x0b, x0c, -⟩ := id F_g.out
    go_wp2_with fail
    clear x0a x0b x0c
    refine (scheck_any _ hP hQ hG F_es.out (ShL.nil _) (by simp) (by simp) HR.out).mono ?_
    rintro e w1 ⟨rfl, hb1⟩
    replace F_g := Lib.hid (F_g.out.keep hb1)
    replace F_es := Lib.hid (F_es.out.keep hb1)
    replace HBW := Lib.hid (HBW.out.trans (hb1.mono HBW.out.size))
    clear hb1
    clear F_es
    obtain ⟨x0a, x0b, x0c, -⟩ := id F_g.out
    go_wp2_with fail
    clear x0a x0b x0c
    refine (subExp_ok P Q G c d m _ HH.out c0 cQ d0 dQ HM.out).mono ?_
    rintro e w2 ⟨rfl, hb2⟩
    replace F_g := Lib.hid (F_g.out.keep hb2)
    replace HBW := Lib.hid (HBW.out.trans (hb2.mono HBW.out.size))
    clear hb2
    obtain ⟨x0a, x0b, x0c, -⟩ := id F_g.out
    go_wp2_with fail
    clear x0a x0b x0c
    refine (subExp_ok P Q G s t n _ HH.out s0 sQ t0 tQ HN.out).mono ?_
    rintro e w3 ⟨rfl, hb3⟩
    replace F_g := Lib.hid (F_g.out.keep hb3)
    replace HBW := Lib.hid (HBW.out.trans (hb3.mono HBW.out.size))
    clear hb3
    obtain ⟨x0a, x0b, x0c, -⟩ := id F_g.out
    go_wp2_with fail
    clear x0a x0b x0c
    refine (invExp_ok P Q G m u 6 false _ HH.out m0 mQ HI.out rfl).mono ?_
    rintro e w4 ⟨rfl, hb4⟩
    replace F_g := Lib.hid (F_g.out.keep hb4)
    replace HBW := Lib.hid (HBW.out.trans (hb4.mono HBW.out.size))
    clear hb4
    obtain ⟨x0a, x0b, x0c, -⟩ := id F_g.out
    go_wp2_with fail
    go_ret2
    exact ⟨rfl, HBW.out⟩
  · have hnc : e' ≠ 0 := by rw [hc]; exact h
    have hn1 : (e' != 0) = true := by simpa using hnc
    have HR := Lib.hid hc.symm
    clear hc h hnc
    have F_g := Lib.hid (show Boxed ((w.alloc (.cells #[.int .u64 P, .int .u64 Q, .int .u64 G] 24)).alloc (.cells #[.int .u64 c, .int .u64 s, .int .u64 d, .int .u64 t] 22)) (w.heap.size) P Q G from (Boxed.at _ P Q G _ (w.heap.size) (by simp)).alloc _)
    have F_es := Lib.hid (show ShL ((w.alloc (.cells #[.int .u64 P, .int .u64 Q, .int .u64 G] 24)).alloc (.cells #[.int .u64 c, .int .u64 s, .int .u64 d, .int .u64 t] 22)) (some ⟨w.heap.size + 1, 0, none⟩) 4 4 [c, s, d, t] from ShL.laid _ [c, s, d, t] _ _ (w.heap.size + 1) _ _ (by simp) rfl rfl)
    have HBW := Lib.hid (show Below w.heap.size w ((w.alloc (.cells #[.int .u64 P, .int .u64 Q, .int .u64 G] 24)).alloc (.cells #[.int .u64 c, .int .u64 s, .int .u64 d, .int .u64 t] 22)) from ((Below.refl _ _).alloc (by simp <;> omega) _).alloc (by simp <;> omega) _)
    go_enter Try.func10, Try.ntmps10
    obtain ⟨x0a, x0b, x0c, -⟩ := id F_g.out
    go_wp2_with fail
    clear x0a x0b x0c
    refine (scheck_any _ hP hQ hG F_es.out (ShL.nil _) (by simp) (by simp) HR.out).mono ?_
    rintro e w1 ⟨rfl, hb1⟩
    replace F_g := Lib.hid (F_g.out.keep hb1)
    replace F_es := Lib.hid (F_es.out.keep hb1)
    replace HBW := Lib.hid (HBW.out.trans (hb1.mono HBW.out.size))
    clear hb1
    clear F_es
    obtain ⟨x0a, x0b, x0c, -⟩ := id F_g.out
    go_wp2_with fail
    go_ret2
    exact ⟨rfl, HBW.out⟩

end Go.Proofs.Ytmcpfinnhgbcpaa
