/- schnorr: keys, responses, extraction. -/
import Derived.Test.YtlbldpkgnonbpaaDoorPrs
import Derived.Test.YtlbldpkgnonbpaaDoorStage
namespace Go.Proofs.YtlbldpkgnonbpaaDoor
open Go.RowKit Num
set_option linter.unusedSimpArgs false
set_option linter.unusedVariables false

/-- The error of a group and a secret key. -/
def keyS (P Q G x : Int) : Int := if askS P Q G [x] [] = 0 then (if x = 0 then 2 else 0) else askS P Q G [x] []
theorem keyS_zero {P Q G x : Int} (h : keyS P Q G x = 0) : Has P Q G ∧ x < Q ∧ x ≠ 0 := by
  unfold keyS at h
  by_cases ha : askS P Q G [x] [] = 0
  · rw [if_pos ha] at h
    by_cases hx : x = 0
    · rw [if_pos hx] at h; omega
    · exact ⟨(askS_zero ha).1, (askS_zero ha).2.1 x (by simp), hx⟩
  · rw [if_neg ha] at h; exact absurd h ha
theorem keyS_ok {P Q G x : Int} (hH : Has P Q G) (h : x < Q) (hx : x ≠ 0) : keyS P Q G x = 0 := by
  unfold keyS
  rw [if_pos (askS_ok hH (by simpa using h) (by simp)), if_neg hx]

set_option maxHeartbeats 4000000 in
theorem srespond_any {P Q G x k c v r : Int} (w : World) (hP : 0 ≤ P) (hQ : 0 ≤ Q) (hG : 0 ≤ G) (x0 : 0 ≤ x) (k0 : 0 ≤ k) (c0 : 0 ≤ c) (h : RetS (askS P Q G [x, k, c] []) ((k + c * x % Q) % Q) v r) :
    Calls Tryd.prog 82 #[.agg #[.int .u64 P, .int .u64 Q, .int .u64 G], .int .u64 x, .int .u64 k, .int .u64 c] w fun e w' => e = .returned (.tuple #[.int .u64 v, .int .i64 r]) ∧ Below w.heap.size w w' := by
  rcases h with ⟨h, hv, rfl⟩ | ⟨h, rfl, hc⟩
  · obtain ⟨hH, he, -⟩ := askS_zero h
    have xQ := he x (by simp)
    have kQ := he k (by simp)
    have cQ := he c (by simp)
    have HR := Lib.hid h
    obtain ⟨m, hm⟩ : ∃ m, c * x % Q = m := ⟨_, rfl⟩
    have HV := Lib.hid (show (k + m) % Q = v by rw [← hm]; exact hv.symm)
    have HM := Lib.hid hm
    have m0 : 0 ≤ m := by rw [← hm]; exact Int.emod_nonneg _ (by omega)
    have mQ : m < Q := by rw [← hm]; exact Int.emod_lt_of_pos _ (by omega)
    clear h hv he hm
    obtain ⟨p5, p3, hQ', pq, g2, gP⟩ := id hH
    have hP1 : 1 ≤ P := by omega
    have hGM : G < 2147483648 := by omega
    have q3 : Q < 1073741824 := by omega
    have HH := Lib.hid hH
    clear hH pq
    have F_g := Lib.hid (show Boxed ((w.alloc (.cells #[.int .u64 P, .int .u64 Q, .int .u64 G] 49)).alloc (.cells #[.int .u64 x, .int .u64 k, .int .u64 c] 24)) (w.heap.size) P Q G from (Boxed.at _ P Q G _ (w.heap.size) (by simp)).alloc _)
    have F_es := Lib.hid (show ShL ((w.alloc (.cells #[.int .u64 P, .int .u64 Q, .int .u64 G] 49)).alloc (.cells #[.int .u64 x, .int .u64 k, .int .u64 c] 24)) (some ⟨w.heap.size + 1, 0, none⟩) 3 3 [x, k, c] from ShL.laid _ [x, k, c] _ _ (w.heap.size + 1) _ _ (by simp) rfl rfl)
    have HBW := Lib.hid (show Below w.heap.size w ((w.alloc (.cells #[.int .u64 P, .int .u64 Q, .int .u64 G] 49)).alloc (.cells #[.int .u64 x, .int .u64 k, .int .u64 c] 24)) from ((Below.refl _ _).alloc (by simp <;> omega) _).alloc (by simp <;> omega) _)
    go_enter Tryd.func82, Tryd.ntmps82
    obtain ⟨x0a, x0b, x0c, -⟩ := id F_g.out
    go_wp2_with fail
    clear x0a x0b x0c
    refine (scheck_any _ hP hQ hG F_es.out (ShL.nil _) (by simp) (by simp) HR.out).mono ?_
    rintro e w1 ⟨rfl, hb1⟩
    replace F_g := Lib.hid (F_g.out.keep hb1)
    replace F_es := Lib.hid (F_es.out.keep hb1)
    replace HBW := Lib.hid (HBW.out.trans (hb1.mono HBW.out.size))
    clear hb1
    clear F_es
    obtain ⟨x0a, x0b, x0c, -⟩ := id F_g.out
    go_wp2_with fail
    clear x0a x0b x0c
    refine (mulExp_ok P Q G c x m _ HH.out c0 cQ x0 xQ HM.out).mono ?_
    rintro e w2 ⟨rfl, hb2⟩
    replace F_g := Lib.hid (F_g.out.keep hb2)
    replace HBW := Lib.hid (HBW.out.trans (hb2.mono HBW.out.size))
    clear hb2
    obtain ⟨x0a, x0b, x0c, -⟩ := id F_g.out
    go_wp2_with fail
    clear x0a x0b x0c
    refine (addExp_ok P Q G k m v _ HH.out k0 kQ m0 mQ HV.out).mono ?_
    rintro e w3 ⟨rfl, hb3⟩
    replace F_g := Lib.hid (F_g.out.keep hb3)
    replace HBW := Lib.hid (HBW.out.trans (hb3.mono HBW.out.size))
    clear hb3
    obtain ⟨x0a, x0b, x0c, -⟩ := id F_g.out
    go_wp2_with fail
    go_ret2
    exact ⟨rfl, HBW.out⟩
  · have hnc : r ≠ 0 := by rw [hc]; exact h
    have hn1 : (r != 0) = true := by simpa using hnc
    have HR := Lib.hid hc.symm
    clear hc h hnc
    have F_g := Lib.hid (show Boxed ((w.alloc (.cells #[.int .u64 P, .int .u64 Q, .int .u64 G] 49)).alloc (.cells #[.int .u64 x, .int .u64 k, .int .u64 c] 24)) (w.heap.size) P Q G from (Boxed.at _ P Q G _ (w.heap.size) (by simp)).alloc _)
    have F_es := Lib.hid (show ShL ((w.alloc (.cells #[.int .u64 P, .int .u64 Q, .int .u64 G] 49)).alloc (.cells #[.int .u64 x, .int .u64 k, .int .u64 c] 24)) (some ⟨w.heap.size + 1, 0, none⟩) 3 3 [x, k, c] from ShL.laid _ [x, k, c] _ _ (w.heap.size + 1) _ _ (by simp) rfl rfl)
    have HBW := Lib.hid (show Below w.heap.size w ((w.alloc (.cells #[.int .u64 P, .int .u64 Q, .int .u64 G] 49)).alloc (.cells #[.int .u64 x, .int .u64 k, .int .u64 c] 24)) from ((Below.refl _ _).alloc (by simp <;> omega) _).alloc (by simp <;> omega) _)
    go_enter Tryd.func82, Tryd.ntmps82
    obtain ⟨x0a, x0b, x0c, -⟩ := id F_g.out
    go_wp2_with fail
    clear x0a x0b x0c
    refine (scheck_any _ hP hQ hG F_es.out (ShL.nil _) (by simp) (by simp) HR.out).mono ?_
    rintro e w1 ⟨rfl, hb1⟩
    replace F_g := Lib.hid (F_g.out.keep hb1)
    replace F_es := Lib.hid (F_es.out.keep hb1)
    replace HBW := Lib.hid (HBW.out.trans (hb1.mono HBW.out.size))
    clear hb1
    clear F_es
    obtain ⟨x0a, x0b, x0c, -⟩ := id F_g.out
    go_wp2_with fail
    go_ret2
    exact ⟨rfl, HBW.out⟩

def ExtS (P Q G c s d t v e : Int) : Prop := (askS P Q G [c, s, d, t] [] = 0 ∧ ∃ ok u, InvS Q ((c - d) % Q) ok u ∧ ((ok = true ∧ (s - t) % Q * u % Q = v ∧ e = 0) ∨ (ok = false ∧ v = 0 ∧ e = 6))) ∨ (askS P Q G [c, s, d, t] [] ≠ 0 ∧ v = 0 ∧ e = askS P Q G [c, s, d, t] [])
theorem ExtS.exists (P Q G c s d t : Int) : ∃ v e, ExtS P Q G c s d t v e := by
  by_cases h : askS P Q G [c, s, d, t] [] = 0
  · obtain ⟨hH, -⟩ := askS_zero h
    obtain ⟨ok, u, hi⟩ := InvS.exists Q ((c - d) % Q) (by obtain ⟨h1, h2, h3, h4, -⟩ := hH; omega)
    cases ok
    · exact ⟨_, _, .inl ⟨h, _, _, hi, .inr ⟨rfl, rfl, rfl⟩⟩⟩
    · exact ⟨_, _, .inl ⟨h, _, _, hi, .inl ⟨rfl, rfl, rfl⟩⟩⟩
  · exact ⟨_, _, .inr ⟨h, rfl, rfl⟩⟩

end Go.Proofs.YtlbldpkgnonbpaaDoor
