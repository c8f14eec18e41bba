/- A bit proof of an encryption of 0 or 1 is accepted: the plain law. -/
import Derived.Test.YtmcpfinnhgbcpaaDoorBitV
import Derived.Test.YtmcpfinnhgbcpaaDoorLaw31
namespace Go.Proofs.YtmcpfinnhgbcpaaDoor
open Go.RowKit Num Sha
set_option linter.unusedSimpArgs false
set_option linter.unusedVariables false

/-- A response holds for any base. -/
theorem resp_of' {P Q G a x k c s : Int} (g : Grp P Q G) (ha : Mem P Q a) (x0 : 0 ≤ x) (k0 : 0 ≤ k) (c0 : 0 ≤ c) (hs : (k + c * x % Q) % Q = s) : powm a s P = powm a k P * powm (powm a x P) c P % P := by
  have q2 := g.pQ.1
  rw [← powm_mul a P x0 c0, ← powm_add a P k0 (Int.mul_nonneg x0 c0)]
  have s0 : 0 ≤ s := by rw [← hs]; exact Int.emod_nonneg _ (by omega)
  refine g.period_cg ha s0 (Int.add_nonneg k0 (Int.mul_nonneg x0 c0)) ?_
  rw [← hs]
  refine (cg_emod Q _).trans ((Cg.refl Q k).add ?_)
  rw [Int.mul_comm x c]
  exact cg_emod Q _
theorem cancel {P w x y : Int} (e : x * y % P = 1) (w0 : 0 ≤ w) (wP : w < P) : w * x % P * y % P = w := by
  have h : Cg P (w * x % P * y) w := by
    refine (Cg.mul_right y (cg_emod P _)).trans ?_
    rw [Int.mul_assoc]
    refine (Cg.mul_left w ((cg_emod P (x * y)).symm.trans (Cg.of_eq e))).trans (Cg.of_eq (Int.mul_one w))
  rw [h.emod_eq, Int.emod_eq_of_lt w0 wP]
theorem neg_one {P Q G u c m : Int} (g : Grp P Q G) (hu : Mem P Q u) (c0 : 0 ≤ c) (hm : (0 - c) % Q = m) : powm u m P * powm u c P % P = 1 := by
  have q2 := g.pQ.1
  have p5 := g.five
  have m0 : 0 ≤ m := by rw [← hm]; exact Int.emod_nonneg _ (by omega)
  rw [← powm_add u P m0 c0, g.period_cg (y := 0) hu (by omega) (by omega) ?_, powm_zero, g.one]
  have h : Cg Q (m + c) ((0 - c) + c) := (Cg.trans (Cg.of_eq hm.symm) (cg_emod Q _)).add (Cg.refl Q c)
  exact h.trans (Cg.of_eq (by omega))
theorem bit_complete {P Q G y m r k c z a b r0 r1 s0 s1 c0 c1 z0 z1 : Int} {T : List Int} (g : Grp P Q G) (hy : Mem P Q y) (hm : m = 0 ∨ m = 1) (hr : 0 ≤ r) (hk : 0 ≤ k) (hc : 0 ≤ c) (hz : 0 ≤ z) (ha : powm G r P = a) (hb : powm G m P * powm y r P % P = b) (hZ : BitZ P Q G y m r k c z T r0 r1 s0 s1 c0 c1 z0 z1) :
    bvP P Q G y a b r0 r1 s0 s1 c0 c1 z0 z1 T := by
  obtain ⟨a', b', nn, pp, t1, mi, g1, g2, Rj, h1, h2, Sj, Rm, Sm, tot, Cm, Zm, e1, e2, e3, e4, e5, e6, e7, e8, e9, e10, e11, e12, e13, e14, e15, e16, e17, e18⟩ := hZ
  obtain rfl : a' = a := e1.symm.trans ha
  obtain rfl : b' = b := e2.symm.trans hb
  have q2 := g.pQ.1
  have p5 := g.five
  have ma : Mem P Q a' := by rw [← ha]; exact g.mem_pow g.mem_g r
  have mb : Mem P Q b' := by rw [← hb]; exact g.mem_mul (g.mem_pow g.mem_g m) (g.mem_pow hy r)
  have mt : Mem P Q t1 := by rw [← e5, ← e4]; exact g.mem_mul mb (g.mem_pow g.mem_g nn)
  have mRm : Mem P Q Rm := by rw [← e13]; exact g.mem_pow g.mem_g k
  have mSm : Mem P Q Sm := by rw [← e14]; exact g.mem_pow hy k
  have mRj : Mem P Q Rj := by rw [← e9, ← e7, ← e8]; exact g.mem_mul (g.mem_pow g.mem_g z) (g.mem_pow ma mi)
  have mg1 : 0 ≤ g1 ∧ g1 < P := by rw [← e7]; exact ⟨powm_nonneg (by omega), powm_lt (by omega)⟩
  have mh1 : 0 ≤ h1 ∧ h1 < P := by rw [← e10]; exact ⟨powm_nonneg (by omega), powm_lt (by omega)⟩
  have Cm0 : 0 ≤ Cm := by rw [← e16]; exact Int.emod_nonneg _ (by omega)
  have htot : 0 ≤ tot ∧ tot < Q := by rw [← e15]; exact chV_range (by omega) _ _
  have hsum : (Cm + c) % Q = tot := by
    rw [← e16, Int.emod_add_emod, show tot - c + c = tot by omega, Int.emod_eq_of_lt htot.1 htot.2]
  have hm1 : powm G Zm P = Rm * powm a' Cm P % P := by rw [← e13, ← e1]; exact resp_of' g g.mem_g hr hk Cm0 e17
  have hm2 : powm y Zm P = Sm * powm (powm y r P) Cm P % P := by rw [← e14]; exact resp_of' g hy hr hk Cm0 e17
  have hj1 : powm G z P = Rj * powm a' c P % P := by rw [← e9, ← e8, e7]; exact (cancel (neg_one g ma hc e6) mg1.1 mg1.2).symm
  have yr0 : 0 ≤ powm y r P := powm_nonneg (by omega)
  have yrP : powm y r P < P := powm_lt (by omega)
  have hG1 : powm G 1 P = G := powm_one (by have := g.g2; omega) g.gP
  have ht1 : t1 = b' * powm G ((0 - 1) % Q) P % P := by rw [e3, e4, e5]
  rcases hm with rfl | rfl
  · rw [if_pos rfl] at e11 e15 e18
    obtain ⟨rfl, rfl, rfl, rfl, rfl, rfl, rfl, rfl⟩ := e18
    have hbe : b' = powm y r P := by rw [← hb, powm_zero, g.one, Int.one_mul, Int.emod_eq_of_lt yr0 yrP]
    have mSj : Mem P Q s1 := by rw [← e12, ← e10, ← e11]; exact g.mem_mul (g.mem_pow hy _) (g.mem_pow mt mi)
    have hj2 : powm y z1 P = s1 * powm t1 c1 P % P := by rw [← e12, ← e11, e10]; exact (cancel (neg_one g mt hc e6) mh1.1 mh1.2).symm
    refine ⟨?_, ?_⟩
    · intro x hx
      simp at hx
      rcases hx with rfl | rfl | rfl | rfl | rfl | rfl | rfl <;> assumption
    · rw [e15]
      exact ⟨⟨hm1, by rw [hbe]; exact hm2⟩, ⟨hj1, by rw [← ht1]; exact hj2⟩, hsum⟩
  · rw [if_neg (by decide)] at e11 e15 e18
    obtain ⟨rfl, rfl, rfl, rfl, rfl, rfl, rfl, rfl⟩ := e18
    have hte : t1 = powm y r P := by
      rw [← e5, ← hb, Int.mul_comm (powm G 1 P)]
      refine cancel ?_ yr0 yrP
      rw [Int.mul_comm, ← e4]
      exact neg_one g g.mem_g (by omega) e3
    have mSj : Mem P Q s0 := by rw [← e12, ← e10, ← e11]; exact g.mem_mul (g.mem_pow hy _) (g.mem_pow mb mi)
    have hj2 : powm y z0 P = s0 * powm b' c0 P % P := by rw [← e12, ← e11, e10]; exact (cancel (neg_one g mb hc e6) mh1.1 mh1.2).symm
    refine ⟨?_, ?_⟩
    · intro x hx
      simp at hx
      rcases hx with rfl | rfl | rfl | rfl | rfl | rfl | rfl <;> assumption
    · rw [e15]
      exact ⟨⟨hj1, hj2⟩, ⟨hm1, by rw [← ht1, hte]; exact hm2⟩, by rw [Int.add_comm]; exact hsum⟩
theorem BitZ.other {P Q G y m r k c z r0 r1 s0 s1 c0 c1 z0 z1 : Int} {T : List Int} (h : BitZ P Q G y m r k c z T r0 r1 s0 s1 c0 c1 z0 z1) : (m = 0 → c1 = c ∧ z1 = z) ∧ (m ≠ 0 → c0 = c ∧ z0 = z) := by
  obtain ⟨_, _, _, _, _, _, _, _, _, _, _, _, _, _, _, _, _, _, _, _, _, _, _, _, _, _, _, _, _, _, _, _, _, _, e⟩ := h
  constructor
  · intro hm; rw [if_pos hm] at e; exact ⟨e.2.2.2.2.2.1, e.2.2.2.2.2.2.2⟩
  · intro hm; rw [if_neg hm] at e; exact ⟨e.2.2.2.2.1, e.2.2.2.2.2.2.1⟩
end Go.Proofs.YtmcpfinnhgbcpaaDoor
