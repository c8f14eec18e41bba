/- What is known of a sealed vote; the examples' seeds. -/
import Derived.Test.YtlbldpkgnonbpaaDoorZsV
import Derived.Test.YtlbldpkgnonbpaaDoorZsY
namespace Go.Proofs.YtlbldpkgnonbpaaDoor
open Go Go.RowKit Num Sha
set_option linter.unusedSimpArgs false
set_option linter.unusedVariables false

structure Sealed2 (P Q G y : Int) (n : Nat) (ms : List Int) (one : Bool) (V : Vt) (R : Rv) : Prop where
  vn : V.n = n
  vm : V.m = n
  vo : V.one = one
  rn : R.n = ms.length
  rms : R.ms = ms
  rm : R.m = n
  good : Grp P Q G → Mem P Q y → validP P Q G y n V ∧ rangeP Q n R ∧ matchP P G y n V R
theorem SealR.cases {w w' : World} {P Q G y n : Int} {ms seed : List Int} {one : Bool} {e : Ending} (h : SealR w P Q G y n ms one seed e w') : Below w.heap.size w w' ∧
    ((∃ er : Int, er ≠ 0 ∧ e = .returned (.tuple #[.agg #[.slice none 0 0, .slice none 0 0, .bool false, .int .u64 0, .int .u64 0, .int .u64 0, .int .u64 0, .int .u64 0, .int .u64 0, .int .u64 0, .int .u64 0], .agg #[.slice none 0 0, .slice none 0 0], .int .i64 er]) ∧ (sealE P Q G y n ms one = 0 → sampS seed Q (manyS n one) = none ∧ er = 6) ∧ (sealE P Q G y n ms one ≠ 0 → er = sealE P Q G y n ms one)) ∨
     (sealE P Q G y n ms one = 0 ∧ ∃ V R, e = .returned (.tuple #[V.v, R.v, .int .i64 0]) ∧ VtIn w' V ∧ RvIn w' R ∧ Sealed2 P Q G y n.toNat ms one V R)) := by
  obtain ⟨hb, ⟨h1, h2⟩ | ⟨h1, ⟨h2, h3⟩ | ⟨d, V, R, h2, h3, h4, h5, h6⟩⟩⟩ := h
  · exact ⟨hb, .inl ⟨_, h1, h2, fun h => absurd h h1, fun _ => rfl⟩⟩
  · exact ⟨hb, .inl ⟨6, by decide, h3, fun _ => ⟨h2, rfl⟩, fun h => absurd h1 h⟩⟩
  · refine ⟨hb, .inr ⟨h1, V, R, h3, h5, h6, h4.en, h4.em, h4.eo, h4.ern, h4.erms, h4.erm, fun g hy => ?_⟩⟩
    have hk : chkB P Q G y n = 0 := by
      unfold sealE at h1
      split at h1
      · next h => exact absurd h1 h
      · next h => exact Classical.not_not.1 h
    have hmk : markedS n ms = true ∧ (one = true → ms.length ≤ 1) := by
      unfold sealE at h1
      rw [if_neg (by simpa using hk)] at h1
      split at h1
      · assumption
      · cases h1
    obtain ⟨hH, -, h11, h10⟩ := chkB_ok hk
    have hQ : 0 < Q := by obtain ⟨p5, p3, hQ, pq, g2, gP⟩ := hH; omega
    exact seal_good g hH hy (by rw [show ((n.toNat : Nat) : Int) = n by omega]; exact hmk.1) hmk.2 (sampS_d hQ h2) h4
def seedZ (x : Int) : List Int := [x, 0, 0, 0, 0, 0, 0, 0, 0, 0, 0, 0, 0, 0, 0, 0, 0, 0, 0, 0, 0, 0, 0, 0, 0, 0, 0, 0, 0, 0, 0, 0]
theorem seedZ_bytes {x : Int} (h : 0 ≤ x ∧ x < 256) : ByteL (seedZ x) := by
  intro b hb
  simp only [seedZ, List.mem_cons, List.not_mem_nil, or_false] at hb
  rcases hb with rfl | rfl | rfl | rfl | rfl | rfl | rfl | rfl | rfl | rfl | rfl | rfl | rfl | rfl | rfl | rfl | rfl | rfl | rfl | rfl | rfl | rfl | rfl | rfl | rfl | rfl | rfl | rfl | rfl | rfl | rfl | rfl <;> first | exact h | decide
theorem chk_s : chkB 23 11 4 18 2 = 0 := by unfold chkB; rw [if_neg (Classical.not_not.2 has_small), if_neg (by omega)]
theorem sealE_7 : sealE 23 11 4 18 2 [1] true = 0 := by rw [sealE, if_neg (by rw [chk_s]; simp), if_pos ⟨by decide, by decide⟩]
theorem grp_s : Grp 23 11 4 := valid_small.grp
theorem mem_s : Mem 23 11 18 := ⟨by decide, by decide, powm_nat 18 11 23 1 (by decide)⟩
theorem seal7 {w w' : World} {e : Ending} (h : SealR w 23 11 4 18 2 [1] true (seedZ 7) e w') : Below w.heap.size w w' ∧ ∃ V R, e = .returned (.tuple #[V.v, R.v, .int .i64 0]) ∧ VtIn w' V ∧ RvIn w' R ∧ Sealed2 23 11 4 18 2 [1] true V R ∧ validP 23 11 4 18 2 V ∧ rangeP 11 2 R ∧ matchP 23 4 18 2 V R := by
  obtain ⟨hb, ⟨er, h1, -, h3, -⟩ | ⟨-, V, R, h1, h2, h3, h4⟩⟩ := h.cases
  · obtain ⟨d, hd⟩ := Fast.samp7
    have := (h3 sealE_7).1
    rw [show seedZ 7 = (Fast.seedN 7).map (Nat.cast : Nat → Int) from rfl, show manyS 2 true = 11 from rfl, hd] at this
    cases this
  · exact ⟨hb, V, R, h1, h2, h3, h4, h4.good grp_s mem_s⟩
theorem adm_s {V : Vt} {one : Bool} (h : validP 23 11 4 18 2 V) (ho : V.one = one) : admE 23 11 4 18 2 one V 0 := .inr ⟨chk_s, .inl ⟨⟨ho, h⟩, rfl⟩⟩
end Go.Proofs.YtlbldpkgnonbpaaDoor
