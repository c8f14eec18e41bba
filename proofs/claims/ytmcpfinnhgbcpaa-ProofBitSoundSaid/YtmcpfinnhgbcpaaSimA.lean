/- divide, and a bit proof that is written. -/
import Derived.Test.YtmcpfinnhgbcpaaAux33
import Derived.Test.YtmcpfinnhgbcpaaLaw31
import Derived.Test.YtmcpfinnhgbcpaaElgA33
namespace Go.Proofs.Ytmcpfinnhgbcpaa
open Go.RowKit Num
set_option linter.unusedSimpArgs false
set_option linter.unusedVariables false

set_option maxHeartbeats 2000000 in
theorem divide_ok {P Q G base z a c u v iv r : Int} (w : World) (hH : Has P Q G) (b0 : 0 ≤ base) (bP : base < P) (uz : U64 z) (a0 : 0 ≤ a) (aP : a < P) (uc : U64 c) (hu : powm base z P = u) (hv : powm a c P = v) (hi : Inv P v iv) (hr : u * iv % P = r) :
    Calls Try.prog 14 #[.agg #[.int .u64 P, .int .u64 Q, .int .u64 G], .int .u64 base, .int .u64 z, .int .u64 a, .int .u64 c] w fun e w' => e = .returned (.tuple #[.int .u64 r, .bool true]) ∧ Below w.heap.size w w' := by
  have p5 := hH.1
  have u0 : 0 ≤ u := by rw [← hu]; exact powm_nonneg (by omega)
  have uP : u < P := by rw [← hu]; exact powm_lt (by omega)
  have v0 : 0 ≤ v := by rw [← hv]; exact powm_nonneg (by omega)
  have vP : v < P := by rw [← hv]; exact powm_lt (by omega)
  have i0 := hi.1
  have iP := hi.2.1
  have HI := Lib.hid (show InvS P v true iv from .inl ⟨rfl, hi⟩)
  have HU := Lib.hid hu
  have HV := Lib.hid hv
  have HR := Lib.hid hr
  have HH := Lib.hid hH
  have UZ := Lib.hid uz
  have UC := Lib.hid uc
  clear hu hv hi hr hH uz uc
  have F_g := Lib.hid (show Boxed (w.alloc (.cells #[.int .u64 P, .int .u64 Q, .int .u64 G] 24)) (w.heap.size) P Q G from Boxed.at _ P Q G _ (w.heap.size) (by simp))
  have HBW := Lib.hid (show Below w.heap.size w (w.alloc (.cells #[.int .u64 P, .int .u64 Q, .int .u64 G] 24)) from (Below.refl _ _).alloc (by simp <;> omega) _)
  go_enter Try.func14, Try.ntmps14
  obtain ⟨x0a, x0b, x0c, -⟩ := id F_g.out
  go_wp2_with fail
  clear x0a x0b x0c
  refine (pow_ok P Q G base z u _ HH.out b0 bP UZ.out HU.out).mono ?_
  rintro e w1 ⟨rfl, hb1⟩
  replace F_g := Lib.hid (F_g.out.keep hb1)
  replace HBW := Lib.hid (HBW.out.trans (hb1.mono HBW.out.size))
  clear hb1
  obtain ⟨x0a, x0b, x0c, -⟩ := id F_g.out
  go_wp2_with fail
  clear x0a x0b x0c
  refine (pow_ok P Q G a c v _ HH.out a0 aP UC.out HV.out).mono ?_
  rintro e w2 ⟨rfl, hb2⟩
  replace F_g := Lib.hid (F_g.out.keep hb2)
  replace HBW := Lib.hid (HBW.out.trans (hb2.mono HBW.out.size))
  clear hb2
  obtain ⟨x0a, x0b, x0c, -⟩ := id F_g.out
  go_wp2_with fail
  clear x0a x0b x0c
  refine (inv_ok P Q G v iv 0 true _ HH.out v0 vP HI.out rfl).mono ?_
  rintro e w3 ⟨rfl, hb3⟩
  replace F_g := Lib.hid (F_g.out.keep hb3)
  replace HBW := Lib.hid (HBW.out.trans (hb3.mono HBW.out.size))
  clear hb3
  obtain ⟨x0a, x0b, x0c, -⟩ := id F_g.out
  go_wp2_with fail
  clear x0a x0b x0c
  refine (mul_ok P Q G u iv r _ HH.out u0 uP i0 iP HR.out).mono ?_
  rintro e w4 ⟨rfl, hb4⟩
  replace F_g := Lib.hid (F_g.out.keep hb4)
  replace HBW := Lib.hid (HBW.out.trans (hb4.mono HBW.out.size))
  clear hb4
  obtain ⟨x0a, x0b, x0c, -⟩ := id F_g.out
  go_wp2_with fail
  go_ret2
  exact ⟨rfl, HBW.out⟩

/-- A bit proof that may be written. -/
structure EightF (w : World) (b : Nat) (r0 r1 s0 s1 c0 c1 z0 z1 : Int) : Prop where
  e : Eight w b r0 r1 s0 s1 c0 c1 z0 z1
  f : ∀ o, w.frozen? ⟨b, o, none⟩ = false
theorem EightF.at (w : World) (r0 r1 s0 s1 c0 c1 z0 z1 : Int) (T : TypeId) (b : Nat) (hb : b = w.heap.size) : EightF (w.alloc (.cells #[.int .u64 r0, .int .u64 r1, .int .u64 s0, .int .u64 s1, .int .u64 c0, .int .u64 c1, .int .u64 z0, .int .u64 z1] T)) b r0 r1 s0 s1 c0 c1 z0 z1 :=
  ⟨Eight.at w r0 r1 s0 s1 c0 c1 z0 z1 T b hb, fun o => by subst hb; simp⟩
theorem EightF.keep {w w' : World} {b : Nat} {r0 r1 s0 s1 c0 c1 z0 z1 : Int} (h : EightF w b r0 r1 s0 s1 c0 c1 z0 z1) (hb : Below w.heap.size w w') : EightF w' b r0 r1 s0 s1 c0 c1 z0 z1 :=
  ⟨h.e.keep hb, fun o => (hb.frozen (p := ⟨b, o, none⟩) h.e.lt).trans (h.f o)⟩
theorem EightF.drew {w : World} {b : Nat} {r0 r1 s0 s1 c0 c1 z0 z1 : Int} (h : EightF w b r0 r1 s0 s1 c0 c1 z0 z1) : EightF w.drew b r0 r1 s0 s1 c0 c1 z0 z1 := h.keep (Below.refl _ _).drew
theorem EightF.set0 {w : World} {b : Nat} {r0 r1 s0 s1 c0 c1 z0 z1 : Int} (h : EightF w b r0 r1 s0 s1 c0 c1 z0 z1) (x y : Int) : EightF ((w.setCell ⟨b, 0, none⟩ (.int .u64 x)).setCell ⟨b, 2, none⟩ (.int .u64 y)) b x r1 y s1 c0 c1 z0 z1 := by
  refine ⟨⟨?_, ?_, ?_, ?_, ?_, ?_, ?_, ?_, by simpa using h.e.lt⟩, fun o => by rw [World.frozen?_setCell, World.frozen?_setCell]; exact h.f o⟩
  · rw [World.cell?_setCell_other _ _ _ _ (by simp)]; exact World.cell?_setCell_same _ _ _ h.e.k0
  · rw [World.cell?_setCell_other _ _ _ _ (by simp), World.cell?_setCell_other _ _ _ _ (by simp)]; exact h.e.k1
  · refine World.cell?_setCell_same _ _ _ (u := .int .u64 s0) ?_
    rw [World.cell?_setCell_other _ _ _ _ (by simp)]; exact h.e.k2
  · rw [World.cell?_setCell_other _ _ _ _ (by simp), World.cell?_setCell_other _ _ _ _ (by simp)]; exact h.e.k3
  · rw [World.cell?_setCell_other _ _ _ _ (by simp), World.cell?_setCell_other _ _ _ _ (by simp)]; exact h.e.k4
  · rw [World.cell?_setCell_other _ _ _ _ (by simp), World.cell?_setCell_other _ _ _ _ (by simp)]; exact h.e.k5
  · rw [World.cell?_setCell_other _ _ _ _ (by simp), World.cell?_setCell_other _ _ _ _ (by simp)]; exact h.e.k6
  · rw [World.cell?_setCell_other _ _ _ _ (by simp), World.cell?_setCell_other _ _ _ _ (by simp)]; exact h.e.k7
theorem EightF.set1 {w : World} {b : Nat} {r0 r1 s0 s1 c0 c1 z0 z1 : Int} (h : EightF w b r0 r1 s0 s1 c0 c1 z0 z1) (x y : Int) : EightF ((w.setCell ⟨b, 1, none⟩ (.int .u64 x)).setCell ⟨b, 3, none⟩ (.int .u64 y)) b r0 x s0 y c0 c1 z0 z1 := by
  refine ⟨⟨?_, ?_, ?_, ?_, ?_, ?_, ?_, ?_, by simpa using h.e.lt⟩, fun o => by rw [World.frozen?_setCell, World.frozen?_setCell]; exact h.f o⟩
  · rw [World.cell?_setCell_other _ _ _ _ (by simp), World.cell?_setCell_other _ _ _ _ (by simp)]; exact h.e.k0
  · rw [World.cell?_setCell_other _ _ _ _ (by simp)]; exact World.cell?_setCell_same _ _ _ h.e.k1
  · rw [World.cell?_setCell_other _ _ _ _ (by simp), World.cell?_setCell_other _ _ _ _ (by simp)]; exact h.e.k2
  · refine World.cell?_setCell_same _ _ _ (u := .int .u64 s1) ?_
    rw [World.cell?_setCell_other _ _ _ _ (by simp)]; exact h.e.k3
  · rw [World.cell?_setCell_other _ _ _ _ (by simp), World.cell?_setCell_other _ _ _ _ (by simp)]; exact h.e.k4
  · rw [World.cell?_setCell_other _ _ _ _ (by simp), World.cell?_setCell_other _ _ _ _ (by simp)]; exact h.e.k5
  · rw [World.cell?_setCell_other _ _ _ _ (by simp), World.cell?_setCell_other _ _ _ _ (by simp)]; exact h.e.k6
  · rw [World.cell?_setCell_other _ _ _ _ (by simp), World.cell?_setCell_other _ _ _ _ (by simp)]; exact h.e.k7
/-- The inverse of G, as the targets have it. -/
theorem inv_g {P Q G n pp : Int} (g : Grp P Q G) (hn : (0 - 1) % Q = n) (hp : powm G n P = pp) : Inv P G pp := by
  have q2 := g.pQ.1
  have p5 := g.five
  have n0 : 0 ≤ n := by rw [← hn]; exact Int.emod_nonneg _ (by omega)
  refine ⟨by rw [← hp]; exact powm_nonneg (by omega), by rw [← hp]; exact powm_lt (by omega), ?_⟩
  have e1 : powm G (1 + n) P = powm G 0 P := g.period_cg g.mem_g (by omega) (by omega) (by
    refine ((Cg.refl Q 1).add (Cg.trans (Cg.of_eq hn.symm) (cg_emod Q (0 - 1)))).trans (Cg.of_eq (by omega)))
  rw [powm_add G P (by omega) n0, powm_one (by have := g.g2; omega) g.gP, powm_zero, hp] at e1
  exact cg_of_emod e1
end Go.Proofs.Ytmcpfinnhgbcpaa
