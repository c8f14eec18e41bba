/- Slices of ciphertexts: how they lie, and the copies and comparisons of the reference. -/
import Derived.Test.YtembepajnigfiaaPairZ
import Derived.Laws.AppendOwn
import Derived.Laws.AppendOwnNone
import Derived.WalkKit
namespace Go.Proofs.Ytembepajnigfiaa
open Go.RowKit Num
set_option linter.unusedSimpArgs false
set_option linter.unusedVariables false

theorem add_pl (s o i : Nat) : (⟨s, o, none⟩ : Addr).add i = ⟨s, o + i, none⟩ := by unfold Addr.add; split <;> simp_all
/-- A slice of ciphertexts: nil, or a row of pairs of cells. -/
def ShS (w : World) (a : Option Addr) (n : Nat) (ps : List (Int × Int)) : Prop :=
  (n = 0 ∧ ps = []) ∨ ∃ s o, a = some ⟨s, o, none⟩ ∧ n = ps.length ∧ s < w.heap.size ∧ ∀ i, i < ps.length → w.cell? ⟨s, o + i * 2, none⟩ = some (.int .u64 (ps.getD i (0, 0)).1) ∧ w.cell? ⟨s, o + i * 2 + 1, none⟩ = some (.int .u64 (ps.getD i (0, 0)).2)
theorem ShS.len {w : World} {a : Option Addr} {n : Nat} {ps : List (Int × Int)} (h : ShS w a n ps) : n = ps.length := by
  rcases h with ⟨h1, h2⟩ | ⟨s, o, _, h1, _⟩
  · rw [h1, h2]; rfl
  · exact h1
theorem ShS.keep {w w' : World} {a : Option Addr} {n : Nat} {ps : List (Int × Int)} (h : ShS w a n ps) (hb : Below w.heap.size w w') : ShS w' a n ps := by
  rcases h with h | ⟨s, o, h0, h1, h2, h3⟩
  · exact .inl h
  · exact .inr ⟨s, o, h0, h1, Nat.lt_of_lt_of_le h2 hb.size, fun i hi => ⟨(hb.cell (p := ⟨s, o + i * 2, none⟩) h2).trans (h3 i hi).1, (hb.cell (p := ⟨s, o + i * 2 + 1, none⟩) h2).trans (h3 i hi).2⟩⟩
theorem ShS.drew {w : World} {a : Option Addr} {n : Nat} {ps : List (Int × Int)} (h : ShS w a n ps) : ShS w.drew a n ps := h.keep (Below.refl _ _).drew
theorem ShS.alloc {w : World} {a : Option Addr} {n : Nat} {ps : List (Int × Int)} (h : ShS w a n ps) (x : Obj) : ShS (w.alloc x) a n ps := h.keep ((Below.refl _ _).alloc (Nat.le_refl _) x)
theorem ShS.nil (w : World) (a : Option Addr) : ShS w a 0 [] := .inl ⟨rfl, rfl⟩
/-- One element. -/
theorem ShS.at {w : World} {a : Option Addr} {n : Nat} {ps : List (Int × Int)} (h : ShS w a n ps) (k : Nat) (hk : k < n) : ∃ s o, a = some ⟨s, o, none⟩ ∧ s < w.heap.size ∧ w.cell? ⟨s, o + k * 2, none⟩ = some (.int .u64 (ps.getD k (0, 0)).1) ∧ w.cell? ⟨s, o + k * 2 + 1, none⟩ = some (.int .u64 (ps.getD k (0, 0)).2) := by
  rcases h with ⟨h1, _⟩ | ⟨s, o, h0, h1, h2, h3⟩
  · omega
  · exact ⟨s, o, h0, h2, h3 k (by omega)⟩
/-- The part of a slice from m on, and the part ahead of m. -/
theorem ShS.drop {w : World} {ad : Addr} {n : Nat} {ps : List (Int × Int)} (h : ShS w (some ad) n ps) (m : Nat) : ShS w (some (ad.add (m * 2))) (n - m) (ps.drop m) := by
  rcases h with ⟨h, h'⟩ | ⟨s', o', h0, h1, h2, h3⟩
  · exact .inl ⟨by omega, by rw [h']; simp⟩
  · cases h0
    refine .inr ⟨s', o' + m * 2, by rw [add_pl], by simp [h1], h2, fun i hi => ?_⟩
    have hi' : m + i < ps.length := by simp at hi; omega
    have := h3 (m + i) hi'
    rw [show o' + (m + i) * 2 = o' + m * 2 + i * 2 by omega] at this
    have e : (ps.drop m).getD i (0, 0) = ps.getD (m + i) (0, 0) := by simp [List.getD_eq_getElem?_getD]
    rw [e]; exact this
theorem ShS.take {w : World} {a : Option Addr} {n : Nat} {ps : List (Int × Int)} (h : ShS w a n ps) (m : Nat) (hm : m ≤ n) : ShS w a m (ps.take m) := by
  rcases h with ⟨h, h'⟩ | ⟨s', o', h0, h1, h2, h3⟩
  · exact .inl ⟨by omega, by rw [h']; simp⟩
  · refine .inr ⟨s', o', h0, by simp; omega, h2, fun i hi => ?_⟩
    have hi' : i < m ∧ i < ps.length := by simp at hi; omega
    have e : (ps.take m).getD i (0, 0) = ps.getD i (0, 0) := by simp [List.getD_eq_getElem?_getD, List.getElem?_take, hi'.1]
    rw [e]; exact h3 i hi'.2

/-- The cells of a list of pairs, one behind the other. -/
def flatS : List (Int × Int) → List Value
  | [] => []
  | p :: ps => .int .u64 p.1 :: .int .u64 p.2 :: flatS ps
theorem flatS_length : ∀ ps : List (Int × Int), (flatS ps).length = ps.length * 2
  | [] => rfl
  | _ :: ps => by simp [flatS, flatS_length ps]; omega
theorem flatS_append : ∀ ps qs : List (Int × Int), flatS (ps ++ qs) = flatS ps ++ flatS qs
  | [], _ => rfl
  | _ :: ps, qs => by simp [flatS, flatS_append ps qs]
theorem flatS_at : ∀ (ps : List (Int × Int)) (i : Nat), i < ps.length → (flatS ps)[i * 2]? = some (.int .u64 (ps.getD i (0, 0)).1) ∧ (flatS ps)[i * 2 + 1]? = some (.int .u64 (ps.getD i (0, 0)).2)
  | [], i, h => by simp at h
  | p :: ps, 0, _ => by simp [flatS]
  | p :: ps, i + 1, h => by
    have := flatS_at ps i (by simpa using h)
    rw [show (i + 1) * 2 = i * 2 + 2 by omega]
    simpa [flatS] using this
theorem flatS_one : ∀ (ps : List (Int × Int)) u, u ∈ flatS ps → u.oneCell' = true
  | [], u, h => by simp [flatS] at h
  | p :: ps, u, h => by
    simp only [flatS, List.mem_cons] at h
    rcases h with rfl | rfl | h
    · rfl
    · rfl
    · exact flatS_one ps u h
/-- The cells of a slice, as append wants them. -/
theorem ShS.cells {w : World} {ad : Addr} {n : Nat} {ps : List (Int × Int)} (h : ShS w (some ad) n ps) : ∀ j u, (flatS ps)[j]? = some u → w.cell? (ad.add j) = some u := by
  rcases h with ⟨_, h⟩ | ⟨s, o, h0, h1, h2, h3⟩
  · subst h; intro j u hj; simp [flatS] at hj
  · cases h0
    intro j u hj
    have hlt : j < ps.length * 2 := by
      rw [← flatS_length ps]
      exact (List.getElem?_eq_some_iff.1 hj).1
    obtain ⟨i, hi | hi⟩ : ∃ i, j = i * 2 ∨ j = i * 2 + 1 := ⟨j / 2, by omega⟩
    · subst hi
      rw [(flatS_at ps i (by omega)).1] at hj
      cases hj
      rw [add_pl]
      exact (h3 i (by omega)).1
    · subst hi
      rw [(flatS_at ps i (by omega)).2] at hj
      cases hj
      have := (h3 i (by omega)).2
      rw [show o + i * 2 + 1 = o + (i * 2 + 1) by omega] at this
      rw [add_pl]
      exact this
/-- An owned row of pairs is such a slice. -/
theorem ShS.of_owned {w : World} {base : Nat} {e : TypeId} {v : Value} {n : Nat} {ps : List (Int × Int)} (h : w.ownsRow base e 2 v n (flatS ps)) : ∃ a c, v = .slice a n c ∧ ShS w a n ps := by
  have hl := h.1
  rw [flatS_length] at hl
  rcases h.2 with ⟨rfl, h0⟩ | ⟨g, cap, cur, rfl, hb, hg, _⟩
  · subst h0
    have : ps = [] := List.eq_nil_of_length_eq_zero (by omega)
    subst this
    exact ⟨none, 0, rfl, ShS.nil w _⟩
  · refine ⟨_, _, rfl, .inr ⟨g, 0, rfl, by omega, ?_, fun i hi => ?_⟩⟩
    · have := h.lt g rfl
      exact this.2
    · have hc := h.cells (g := g) rfl
      have h1 := flatS_at ps i hi
      refine ⟨?_, ?_⟩
      · have := hc _ _ h1.1
        rwa [add_pl] at this
      · have := hc _ _ h1.2
        rw [add_pl] at this
        rwa [Nat.add_assoc]



set_option maxHeartbeats 4000000 in
theorem ssame_any {a b : Option Addr} {n c d : Nat} {ps : List (Int × Int)} (w : World) (ha : ShS w a n ps) (hb : ShS w b n ps) (hn : n ≤ 10000) :
    Calls Try.prog 7 #[.slice a n c, .slice b n d] w fun e w' => e = .returned (.bool true) ∧ Below w.heap.size w w' := by
  have HA := Lib.hid ha
  have HB := Lib.hid hb
  clear ha hb
  go_enter Try.func7, Try.ntmps7
  go_wp2_with fail
  go_loopw [5] (fun c5 wr => ∃ k : Nat, k ≤ n ∧ c5 = .int .i64 k ∧ Hid (Below w.heap.size w wr)) (fun c5 _ => n - (intOf c5).toNat)
  case atStart => exact ⟨0, Nat.zero_le _, rfl, Below.refl _ _⟩
  case round =>
    obtain ⟨k, hk, rfl, HK⟩ := hrel
    by_cases hlt : k < n
    case neg =>
      go_wp2_with fail
      go_ret
      exact ⟨rfl, HK.out⟩
    case pos =>
      obtain ⟨s, o, hsa, hsl, a0, a1⟩ := (HA.out.keep HK.out).at k hlt
      obtain ⟨t, p, hta, htl, b0, b1⟩ := (HB.out.keep HK.out).at k hlt
      generalize ps.getD k (0, 0) = z at a0 a1 b0 b1
      obtain ⟨u, v⟩ := z
      subst hsa hta
      have hk0 : (0 : Int) ≤ (k : Int) := by omega
      have hk1 : (k : Int) < (n : Int) := by omega
      have c26 : Try.prog.cellsOf 45 = 2 := by kernel_rfl
      go_wp2_with fail
      go_region
      go_wp2_with fail
      go_roundw
      case rel => exact ⟨k + 1, by omega, by go_num, HK.out.drew⟩
      case measure => simp [intOf]; omega
end Go.Proofs.Ytembepajnigfiaa
