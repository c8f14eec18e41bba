/- Plain arithmetic: congruences, primes, Fermat's theorem, orders, inverses. No program in sight. -/
import Derived.Test.YtlbldpkgnonbpaaGreatDoorChecked
import Derived.WalkKit
import Derived.WalkLawsBesides
import Derived.WalkSpells
import Derived.Lib.Hide
import Derived.BigQuiet
import Derived.Outline
import Derived.Deep.RegionWith
import Derived.Deep.DeepFit
import Derived.Deep.DeepMust
import Derived.Deep.LoopGhost
import Derived.OpenShut
import Derived.ProofKit
import Derived.Lib.SmallJoins
import Derived.ShutString
import Derived.ChangeOld
import Derived.Deep.RegionHeld3
set_option linter.unusedSimpArgs false
set_option linter.unusedVariables false
set_option maxRecDepth 100000
namespace Go.Proofs.YtlbldpkgnonbpaaGreatDoor
theorem Lh {p : Prop} (h : p) : Go.RowKit.Hid p := h
theorem _root_.Go.RowKit.Hid.o {p : Prop} (h : Go.RowKit.Hid p) : p := h
end Go.Proofs.YtlbldpkgnonbpaaGreatDoor
namespace Go.Proofs.YtlbldpkgnonbpaaGreatDoor.Num
def Cg (m a b : Int) : Prop := m ∣ a - b
theorem Cg.refl (m a : Int) : Cg m a a := by unfold Cg; simp
theorem Cg.of_eq {m a b : Int} (h : a = b) : Cg m a b := by subst h; exact Cg.refl _ _
theorem Cg.symm {m a b : Int} (h : Cg m a b) : Cg m b a := by
 obtain ⟨k, hk⟩ := h; exact ⟨-k, by rw [Int.mul_neg]; omega⟩
theorem Cg.trans {m a b c : Int} (h : Cg m a b) (h' : Cg m b c) : Cg m a c := by
 obtain ⟨k, hk⟩ := h; obtain ⟨l, hl⟩ := h'; exact ⟨k + l, by rw [Int.mul_add]; omega⟩
theorem Cg.add {m a b c d : Int} (h : Cg m a b) (h' : Cg m c d) : Cg m (a + c) (b + d) := by
 obtain ⟨k, hk⟩ := h; obtain ⟨l, hl⟩ := h'; exact ⟨k + l, by rw [Int.mul_add]; omega⟩
theorem Cg.sub {m a b c d : Int} (h : Cg m a b) (h' : Cg m c d) : Cg m (a - c) (b - d) := by
 obtain ⟨k, hk⟩ := h; obtain ⟨l, hl⟩ := h'; exact ⟨k - l, by rw [Int.mul_sub]; omega⟩
theorem Cg.mul {m a b c d : Int} (h : Cg m a b) (h' : Cg m c d) : Cg m (a * c) (b * d) := by
 obtain ⟨k, hk⟩ := h; obtain ⟨l, hl⟩ := h'
 refine ⟨k * c + b * l, ?_⟩
 have e : a * c - b * d = (a - b) * c + b * (c - d) := by rw [Int.sub_mul, Int.mul_sub]; omega
 rw [e, hk, hl, Int.mul_add, Int.mul_assoc, Int.mul_left_comm b m l]
theorem Cg.mul_left {m a b : Int} (c : Int) (h : Cg m a b) : Cg m (c * a) (c * b) := (Cg.refl m c).mul h
theorem Cg.mul_right {m a b : Int} (c : Int) (h : Cg m a b) : Cg m (a * c) (b * c) := h.mul (Cg.refl m c)
theorem Cg.pow {m a b : Int} (h : Cg m a b) : ∀ n : Nat, Cg m (a ^ n) (b ^ n)
 | 0 => by rw [Int.pow_zero, Int.pow_zero]; exact Cg.refl _ _
 | n + 1 => by rw [Int.pow_succ, Int.pow_succ]; exact (h.pow n).mul h
theorem cg_emod (m a : Int) : Cg m (a % m) a := ⟨-(a / m), by
 have := Int.mul_ediv_add_emod a m; rw [Int.mul_neg]; omega⟩
theorem Cg.emod_eq {m a b : Int} (h : Cg m a b) : a % m = b % m := Int.emod_eq_emod_iff_emod_sub_eq_zero.2 (Int.emod_eq_zero_of_dvd h)
theorem cg_of_emod {m a b : Int} (h : a % m = b % m) : Cg m a b := Int.dvd_of_emod_eq_zero (Int.emod_eq_emod_iff_emod_sub_eq_zero.1 h)
theorem Cg.eq {m a b : Int} (h : Cg m a b) (a0 : 0 ≤ a) (a1 : a < m) (b0 : 0 ≤ b) (b1 : b < m) : a = b := by
 have := h.emod_eq
 rwa [Int.emod_eq_of_lt a0 a1, Int.emod_eq_of_lt b0 b1] at this
theorem cg_self (m : Int) : Cg m m 0 := ⟨1, by simp⟩
def Pr (p : Int) : Prop := 2 ≤ p ∧ ∀ d : Int, 2 ≤ d → d * d ≤ p → ¬ d ∣ p
theorem Pr.div {p d : Int} (h : Pr p) (hd : d ∣ p) (h0 : 0 < d) : d = 1 ∨ d = p := by
 obtain ⟨h2, hp⟩ := h
 obtain ⟨e, he⟩ := hd
 have e0 : 0 < e := by
  rcases Int.lt_or_le 0 e with h | h
  · exact h
  · have : d * e ≤ 0 := Int.mul_nonpos_of_nonneg_of_nonpos (by omega) h
    omega
 by_cases d1 : d = 1
 · exact .inl d1
 by_cases e1 : e = 1
 · right; rw [e1] at he; omega
 exfalso
 by_cases hde : d ≤ e
 · exact hp d (by omega) (by rw [he]; exact Int.mul_le_mul_of_nonneg_left hde (by omega)) ⟨e, he⟩
 · exact hp e (by omega) (by rw [he]; exact Int.mul_le_mul_of_nonneg_right (by omega) (by omega)) ⟨d, by rw [he, Int.mul_comm]⟩
theorem Pr.coprime {p a : Int} (h : Pr p) (ha : ¬ p ∣ a) : Int.gcd p a = 1 := by
 have h2 := h.1
 have g0 : 0 < Int.gcd p a := Int.gcd_pos_of_ne_zero_left _ (by omega)
 rcases h.div (Int.gcd_dvd_left p a) (by omega) with e | e
 · omega
 · exact absurd (e ▸ Int.gcd_dvd_right p a) ha
theorem Pr.euclid {p a b : Int} (h : Pr p) (hd : p ∣ a * b) : p ∣ a ∨ p ∣ b := by
 by_cases ha : p ∣ a
 · exact .inl ha
 · right
   have h1 : Nat.Coprime p.natAbs a.natAbs := h.coprime ha
   have h2 := Int.natAbs_dvd_natAbs.2 hd
   rw [Int.natAbs_mul] at h2
   exact Int.natAbs_dvd_natAbs.1 (h1.dvd_of_dvd_mul_left h2)
theorem Pr.cancel {p a b c : Int} (h : Pr p) (ha : ¬ p ∣ a) (hc : Cg p (a * b) (a * c)) : Cg p b c := by
 unfold Cg at hc
 rw [← Int.mul_sub] at hc
 exact (h.euclid hc).resolve_left ha
theorem Pr.not_dvd {p a : Int} (_h : Pr p) (h0 : 0 < a) (h1 : a < p) : ¬ p ∣ a := fun hd => by
 have := Int.le_of_dvd h0 hd; omega
/-! ### Lists without repetition -/
theorem subset_of_length {l m : List Int} (hl : l.Nodup) (hs : ∀ x, x ∈ l → x ∈ m) (hlen : m.length ≤ l.length) : ∀ x, x ∈ m → x ∈ l := by
 induction l generalizing m with
 | nil => intro x hx; have : m = [] := List.eq_nil_of_length_eq_zero (by simpa using hlen); subst this; exact hx
 | cons a l ih =>
  intro x hx
  have ha : a ∈ m := hs a (by simp)
  rw [List.nodup_cons] at hl
  by_cases hxa : x = a
  · subst hxa; simp
  · have hx' : x ∈ m.erase a := (List.mem_erase_of_ne hxa).2 hx
    have := ih (m := m.erase a) hl.2 (fun y hy => by
     have hya : y ≠ a := fun e => hl.1 (e ▸ hy)
     exact (List.mem_erase_of_ne hya).2 (hs y (by simp [hy]))) (by rw [List.length_erase_of_mem ha]; simp at hlen; omega) x hx'
    simp [this]
def prodI : List Int → Int
 | [] => 1
 | a :: l => a * prodI l
def upto (n : Nat) : List Int := (List.range n).map fun i : Nat => ((i : Int) + 1)
theorem mem_upto {n : Nat} {x : Int} : x ∈ upto n ↔ 1 ≤ x ∧ x ≤ n := by
 simp only [upto, List.mem_map, List.mem_range]
 constructor
 · rintro ⟨i, hi, rfl⟩; omega
 · rintro ⟨h1, h2⟩; exact ⟨(x - 1).toNat, by omega, by omega⟩
theorem nodup_map_range (n : Nat) (f : Nat → Int) (h : ∀ i j, i < n → j < n → f i = f j → i = j) : ((List.range n).map f).Nodup := by
 unfold List.Nodup
 rw [List.pairwise_map]
 refine List.Pairwise.imp_of_mem ?_ (List.nodup_range (n := n))
 intro a b ha hb hne he
 exact hne (h a b (by simpa using ha) (by simpa using hb) he)
/-! ### Powers modulo m -/
def powm (a x m : Int) : Int := a ^ x.toNat % m
theorem powm_nonneg {a x m : Int} (h : 0 < m) : 0 ≤ powm a x m := Int.emod_nonneg _ (by omega)
theorem powm_lt {a x m : Int} (h : 0 < m) : powm a x m < m := Int.emod_lt_of_pos _ h
theorem powm_cg (a x m : Int) : Cg m (powm a x m) (a ^ x.toNat) := cg_emod _ _
theorem powm_base {a b x m : Int} (h : Cg m a b) : powm a x m = powm b x m := (h.pow _).emod_eq
theorem powm_zero {a m : Int} : powm a 0 m = 1 % m := by simp [powm]
theorem powm_one {a m : Int} (h0 : 0 ≤ a) (h1 : a < m) : powm a 1 m = a := by
 simp only [powm]; rw [show (1 : Int).toNat = 1 from rfl, Int.pow_succ, Int.pow_zero, Int.one_mul]; exact Int.emod_eq_of_lt h0 h1
theorem powm_add (a m : Int) {x y : Int} (hx : 0 ≤ x) (hy : 0 ≤ y) : powm a (x + y) m = powm a x m * powm a y m % m := by
 unfold powm
 rw [Int.toNat_add hx hy, Int.pow_add]
 exact (Int.mul_emod _ _ _)
theorem powm_mul (a m : Int) {x y : Int} (hx : 0 ≤ x) (hy : 0 ≤ y) : powm a (x * y) m = powm (powm a x m) y m := by
 unfold powm
 rw [show (x * y).toNat = x.toNat * y.toNat from Int.toNat_mul hx hy, Int.pow_mul]
 exact ((cg_emod m (a ^ x.toNat)).symm.pow _).emod_eq
theorem powm_one_base (x m : Int) : powm 1 x m = 1 % m := by simp [powm, Int.one_pow]
/-! ### A group -/
structure Grp (P Q G : Int) : Prop where
 two : P = 2 * Q + 1
 pP : Pr P
 pQ : Pr Q
 g2 : 2 ≤ G
 gP : G < P
 gQ : powm G Q P = 1
def Mem (P Q a : Int) : Prop := 0 < a ∧ a < P ∧ powm a Q P = 1
theorem Mem.cg {P Q a : Int} (h : Mem P Q a) : Cg P (a ^ Q.toNat) 1 :=
 (powm_cg a Q P).symm.trans (Cg.of_eq h.2.2)
section
variable {P Q G : Int} (g : Grp P Q G)
include g
theorem Grp.five : 5 ≤ P := by have := g.pQ.1; have := g.two; omega
theorem Grp.one : 1 % P = 1 := Int.emod_eq_of_lt (by omega) (by have := g.five; omega)
theorem Grp.mem_g : Mem P Q G := ⟨by have := g.g2; omega, g.gP, g.gQ⟩
theorem Grp.nd {a : Int} (h : Mem P Q a) : ¬ P ∣ a := g.pP.not_dvd h.1 h.2.1
theorem Grp.pos_of_nd {a : Int} (h : ¬ P ∣ a) : 0 < a % P := by
 have h5 := g.five
 have h0 := Int.emod_nonneg a (show P ≠ 0 by omega)
 have : a % P ≠ 0 := fun e => h (Int.dvd_of_emod_eq_zero e)
 omega
theorem Grp.mem_of_cg {a b : Int} (ha : Cg P (a ^ Q.toNat) 1) (hb : b = a % P) : Mem P Q b := by
 have h5 := g.five
 have hq : 0 < Q.toNat := by have := g.pQ.1; omega
 have nd : ¬ P ∣ a := fun hd => by
  have : P ∣ a ^ Q.toNat := by
   obtain ⟨k, hk⟩ : ∃ k, Q.toNat = k + 1 := ⟨Q.toNat - 1, by omega⟩
   rw [hk, Int.pow_succ]; exact Int.dvd_mul_of_dvd_right hd
  have h1 : P ∣ 1 := by
   have h := Int.dvd_sub this ha
   have e : a ^ Q.toNat - (a ^ Q.toNat - 1) = 1 := by omega
   rwa [e] at h
  have := Int.le_of_dvd (by omega) h1; omega
 subst hb
 refine ⟨g.pos_of_nd nd, Int.emod_lt_of_pos _ (by omega), ?_⟩
 rw [powm_base (cg_emod P a)]
 unfold powm
 rw [ha.emod_eq]; exact g.one
theorem Grp.mem_mul {a b : Int} (ha : Mem P Q a) (hb : Mem P Q b) : Mem P Q (a * b % P) :=
 g.mem_of_cg (a := a * b) (by rw [Int.mul_pow]; exact ha.cg.mul hb.cg) rfl
theorem Grp.mem_pow {a : Int} (ha : Mem P Q a) (x : Int) : Mem P Q (powm a x P) :=
 g.mem_of_cg (a := a ^ x.toNat) (by
  rw [← Int.pow_mul, Nat.mul_comm, Int.pow_mul]
  have := ha.cg.pow x.toNat
  rwa [Int.one_pow] at this) rfl
theorem Grp.period {a x : Int} (ha : Mem P Q a) (hx : 0 ≤ x) : powm a x P = powm a (x % Q) P := by
 have hq := g.pQ.1
 have h1 : x = Q * (x / Q) + x % Q := (Int.mul_ediv_add_emod x Q).symm
 have h2 : 0 ≤ x / Q := Int.ediv_nonneg hx (by omega)
 have h3 : 0 ≤ x % Q := Int.emod_nonneg _ (by omega)
 have h4 : powm a x P = powm a (Q * (x / Q) + x % Q) P := by rw [← h1]
 rw [h4, powm_add a P (Int.mul_nonneg (by omega) h2) h3, powm_mul a P (by omega) h2, ha.2.2, powm_one_base, g.one, Int.one_mul, Int.emod_eq_of_lt (powm_nonneg (by have := g.five; omega)) (powm_lt (by have := g.five; omega))]
theorem Grp.period_cg {a x y : Int} (ha : Mem P Q a) (hx : 0 ≤ x) (hy : 0 ≤ y) (h : Cg Q x y) : powm a x P = powm a y P := by
 rw [g.period ha hx, g.period ha hy, h.emod_eq]
end
/-! ### Inverses -/
theorem bezout (a b : Nat) : ∃ x y : Int, (a : Int) * x + (b : Int) * y = (Nat.gcd a b : Nat) := by
 induction a, b using Nat.gcd.induction with
 | H0 n => exact ⟨0, 1, by simp⟩
 | H1 m n hm ih =>
  obtain ⟨x, y, h⟩ := ih
  refine ⟨y - ((n / m : Nat) : Int) * x, x, ?_⟩
  rw [Nat.gcd_rec, ← h]
  have e : (n : Int) = (m : Int) * ((n / m : Nat) : Int) + ((n % m : Nat) : Int) := by
   rw [← Int.natCast_mul, ← Int.natCast_add, Nat.div_add_mod]
  rw [Int.mul_sub]
  have e2 : (n : Int) * x = (m : Int) * (((n / m : Nat) : Int) * x) + ((n % m : Nat) : Int) * x := by
   rw [← Int.mul_assoc, ← Int.add_mul, ← e]
  omega
def Inv (m a r : Int) : Prop := 0 ≤ r ∧ r < m ∧ Cg m (a * r) 1
theorem Inv.uniq {m a r s : Int} (h : Inv m a r) (k : Inv m a s) : r = s := by
 refine Cg.eq (m := m) ?_ h.1 h.2.1 k.1 k.2.1
 have h1 : Cg m (r * (a * s)) (r * 1) := k.2.2.mul_left r
 have h2 : Cg m (a * r * s) (1 * s) := h.2.2.mul_right s
 rw [Int.mul_one, show r * (a * s) = a * r * s by ac_rfl] at h1
 rw [Int.one_mul] at h2
 exact h1.symm.trans h2
theorem inv_of_gcd {m a : Int} (hm : 0 < m) (hg : Int.gcd a m = 1) : ∃ r, Inv m a r := by
 have hb := bezout a.natAbs m.natAbs
 obtain ⟨x, y, h⟩ := hb
 have hg' : Nat.gcd a.natAbs m.natAbs = 1 := hg
 rw [hg'] at h
 have hmm : (m.natAbs : Int) = m := Int.natAbs_of_nonneg (by omega)
 rw [hmm] at h
 have : ∃ z, a * z + m * y = 1 := by
  rcases Int.natAbs_eq a with e | e
  · exact ⟨x, by rw [e]; exact h⟩
  · refine ⟨-x, ?_⟩
    rw [e]
    rw [Int.neg_mul_neg]; exact h
 obtain ⟨z, hz⟩ := this
 refine ⟨z % m, Int.emod_nonneg _ (by omega), Int.emod_lt_of_pos _ hm, ?_⟩
 refine ((cg_emod m z).mul_left a).trans ⟨-y, ?_⟩
 rw [Int.mul_neg]; omega
theorem gcd_of_inv {m a r : Int} (_hm : 0 < m) (h : Inv m a r) : Int.gcd a m = 1 := by
 obtain ⟨_, _, k, hk⟩ := h
 have h1 : ((Int.gcd a m : Nat) : Int) ∣ 1 := by
  have e : (1 : Int) = a * r - m * k := by omega
  rw [e]
  exact Int.dvd_sub (Int.dvd_mul_of_dvd_left (Int.gcd_dvd_left a m)) (Int.dvd_mul_of_dvd_left (Int.gcd_dvd_right a m))
 have := Int.le_of_dvd (by omega) h1
 have h0 : Int.gcd a m ≠ 0 := fun e => by rw [e] at h1; simp at h1
 omega
theorem Pr.inv {p a : Int} (h : Pr p) (ha : ¬ p ∣ a) : ∃ r, Inv p a r :=
 inv_of_gcd (by have := h.1; omega) (by rw [Int.gcd_comm]; exact h.coprime ha)
section
variable {P Q G : Int} (g : Grp P Q G)
include g
theorem Grp.inj {a x y : Int} (ha : Mem P Q a) (ha1 : a ≠ 1) (x0 : 0 ≤ x) (x1 : x < Q) (y0 : 0 ≤ y) (y1 : y < Q) (h : powm a x P = powm a y P) : x = y := by
 have key : ∀ x y : Int, 0 ≤ x → x ≤ y → y < Q → powm a x P = powm a y P → x = y := by
  intro x y x0 hxy y1 h
  by_cases e : x = y
  · exact e
  exfalso
  have hq := g.pQ.1
  have h5 := g.five
  have h1 : Cg P (powm a x P * powm a (y - x) P) (powm a x P * 1) := by
   rw [Int.mul_one]
   have e2 : powm a (x + (y - x)) P = powm a x P * powm a (y - x) P % P := powm_add a P x0 (by omega)
   rw [show x + (y - x) = y by omega, ← h] at e2
   exact (cg_emod P _).symm.trans (Cg.of_eq e2.symm)
  have h2 := g.pP.cancel (g.nd (g.mem_pow ha x)) h1
  have h3 : powm a (y - x) P = 1 := h2.eq (powm_nonneg (by omega)) (powm_lt (by omega)) (by omega) (by omega)
  obtain ⟨r, r0, r1, hr⟩ := g.pQ.inv (a := y - x) (g.pQ.not_dvd (by omega) (by omega))
  have h4 : powm a ((y - x) * r) P = 1 := by
   rw [powm_mul a P (by omega) r0, h3, powm_one_base, g.one]
  rw [g.period_cg ha (Int.mul_nonneg (by omega) r0) (by omega) hr, powm_one (by have := ha.1; omega) ha.2.1] at h4
  exact ha1 h4
 rcases Int.le_total x y with hxy | hxy
 · exact key x y x0 hxy y1 h
 · exact (key y x y0 hxy x1 h.symm).symm
theorem Grp.whole {a : Int} (ha : Mem P Q a) : ∃ x, 0 ≤ x ∧ x < Q ∧ powm G x P = a := by
 have hq := g.pQ.1
 have h5 := g.five
 have h2 := g.two
 have g1 : G ≠ 1 := by have := g.g2; omega
 by_cases hw : ∃ x, 0 ≤ x ∧ x < Q ∧ powm G x P = a
 · exact hw
 exfalso
 let n := Q.toNat
 have hn : ((n : Nat) : Int) = Q := Int.toNat_of_nonneg (by omega)
 let l1 := (List.range n).map fun i : Nat => powm G (i : Int) P
 let l2 := (List.range n).map fun i : Nat => powm G (i : Int) P * a % P
 have nd1 : l1.Nodup := nodup_map_range n _ fun i j hi hj e => by
  have := g.inj g.mem_g g1 (x := (i : Int)) (y := (j : Int)) (by omega) (by omega) (by omega) (by omega) e; omega
 have nd2 : l2.Nodup := nodup_map_range n _ fun i j hi hj e => by
  have e1 : Cg P (a * powm G (i : Int) P) (a * powm G (j : Int) P) := by
   rw [Int.mul_comm a, Int.mul_comm a]; exact cg_of_emod e
  have e2 := (g.pP.cancel (g.nd ha) e1).eq (powm_nonneg (by omega)) (powm_lt (by omega)) (powm_nonneg (by omega)) (powm_lt (by omega))
  have := g.inj g.mem_g g1 (x := (i : Int)) (y := (j : Int)) (by omega) (by omega) (by omega) (by omega) e2; omega
 have m1 : ∀ x, x ∈ l1 → Mem P Q x := fun x hx => by
  obtain ⟨i, _, rfl⟩ := List.mem_map.1 hx; exact g.mem_pow g.mem_g _
 have m2 : ∀ x, x ∈ l2 → Mem P Q x := fun x hx => by
  obtain ⟨i, _, rfl⟩ := List.mem_map.1 hx; exact g.mem_mul (g.mem_pow g.mem_g _) ha
 have dis : ∀ x, x ∈ l1 → x ∉ l2 := by
  intro x hx hx'
  obtain ⟨i, hi, rfl⟩ := List.mem_map.1 hx
  obtain ⟨j, hj, e⟩ := List.mem_map.1 hx'
  have hi' : i < n := by simpa using hi
  have hj' : j < n := by simpa using hj
  -- a = G^(i - j)
  apply hw
  refine ⟨((i : Int) - (j : Int)) % Q, Int.emod_nonneg _ (by omega), Int.emod_lt_of_pos _ (by omega), ?_⟩
  have e3 : Cg P (powm G (j : Int) P * powm G (((i : Int) - (j : Int)) % Q) P) (powm G (j : Int) P * a) := by
   have e4 : powm G ((j : Int) + ((i : Int) - (j : Int)) % Q) P = powm G (i : Int) P :=
    g.period_cg g.mem_g (by have := Int.emod_nonneg ((i : Int) - (j : Int)) (show Q ≠ 0 by omega); omega) (by omega) (by
     have := (Cg.refl Q (j : Int)).add (cg_emod Q ((i : Int) - (j : Int)))
     rwa [show (j : Int) + ((i : Int) - (j : Int)) = i by omega] at this)
   rw [powm_add G P (by omega) (Int.emod_nonneg _ (by omega))] at e4
   exact (cg_emod P _).symm.trans ((Cg.of_eq (e4.trans e.symm)).trans (cg_emod P _))
  exact (g.pP.cancel (g.nd (g.mem_pow g.mem_g _)) e3).eq (powm_nonneg (by omega)) (powm_lt (by omega)) (by have := ha.1; omega) ha.2.1
 have nd : (l1 ++ l2).Nodup := List.nodup_append.2 ⟨nd1, nd2, fun x hx y hy e => dis x hx (e ▸ hy)⟩
 have hall := subset_of_length (l := l1 ++ l2) (m := upto (2 * n)) nd (fun x hx => by
  have hm : Mem P Q x := (List.mem_append.1 hx).elim (m1 x) (m2 x)
  exact mem_upto.2 ⟨by have := hm.1; omega, by have := hm.2.1; omega⟩) (by simp [upto, l1, l2]; omega)
 have hmem : ∀ x, 1 ≤ x → x < P → Mem P Q x := fun x h1 hP => by
  have hx := hall x (mem_upto.2 ⟨h1, by omega⟩)
  exact (List.mem_append.1 hx).elim (m1 x) (m2 x)
 -- P - 1 is a member: Q is even
 have hlast := (hmem (P - 1) (by omega) (by omega)).2.2
 rw [powm_base (b := -1) ⟨1, by omega⟩] at hlast
 have odd : ∀ k : Nat, (-1 : Int) ^ (2 * k + 1) = -1 := fun k => by
  rw [Int.pow_succ, Int.pow_mul, show (-1 : Int) ^ 2 = 1 from rfl, Int.one_pow]; rfl
 by_cases ho : Q % 2 = 1
 · unfold powm at hlast
   rw [show Q.toNat = 2 * (Q.toNat / 2) + 1 by omega, odd] at hlast
   have : Cg P (-1) 1 := (cg_emod P (-1)).symm.trans (Cg.of_eq hlast)
   obtain ⟨k, hk⟩ := this
   have : P ∣ 2 := ⟨-k, by rw [Int.mul_neg]; omega⟩
   have := Int.le_of_dvd (by omega) this
   omega
 · have hQ2 : Q = 2 := by
    rcases g.pQ.div (d := 2) (Int.dvd_of_emod_eq_zero (by omega)) (by omega) with e | e
    · omega
    · exact e.symm
   have := (hmem 2 (by omega) (by omega)).2.2
   rw [h2, hQ2] at this
   revert this; decide
end
theorem mul_bound {a b : Int} (a0 : 0 ≤ a) (a1 : a < 2147483648) (b0 : 0 ≤ b) (b1 : b < 2147483648) : 0 ≤ a * b ∧ a * b < 4611686018427387904 := by
 refine ⟨Int.mul_nonneg a0 b0, ?_⟩
 have h1 : a * b ≤ 2147483647 * b := Int.mul_le_mul_of_nonneg_right (by omega) b0
 omega
theorem powm_odd {o a x m : Int} (h0 : 0 ≤ x) (h : x % 2 = 1) : (o * a % m) * powm (a * a % m) (x / 2) m % m = o * powm a x m % m := by
 apply Cg.emod_eq
 refine ((cg_emod m (o * a)).mul ((powm_cg _ _ _).trans ((cg_emod m (a * a)).pow _))).trans ?_
 refine Cg.trans (Cg.of_eq ?_) ((powm_cg a x m).symm.mul_left o)
 rw [show x.toNat = 2 * (x / 2).toNat + 1 by omega, Int.pow_succ, Int.pow_mul, show a ^ 2 = a * a by rw [Int.pow_succ, Int.pow_succ, Int.pow_zero, Int.one_mul]]
 ac_rfl
theorem powm_even {o a x m : Int} (h0 : 0 ≤ x) (h : x % 2 = 0) : o * powm (a * a % m) (x / 2) m % m = o * powm a x m % m := by
 apply Cg.emod_eq
 refine (Cg.mul_left o ((powm_cg _ _ _).trans ((cg_emod m (a * a)).pow _))).trans ?_
 refine Cg.trans (Cg.of_eq ?_) ((powm_cg a x m).symm.mul_left o)
 rw [show x.toNat = 2 * (x / 2).toNat by omega, Int.pow_mul, show a ^ 2 = a * a by rw [Int.pow_succ, Int.pow_succ, Int.pow_zero, Int.one_mul]]
def Tried (n d : Int) : Prop := ∀ e : Int, 2 ≤ e → e < d → ¬ e ∣ n
theorem Tried.pr {n d : Int} (h : Tried n d) (h2 : 2 ≤ n) (d0 : 0 ≤ d) (hd : n < d * d) : Pr n := by
 refine ⟨h2, fun e e2 ee hdv => ?_⟩
 by_cases hed : e < d
 · exact h e e2 hed hdv
 · have : d * d ≤ e * e := Int.mul_le_mul (by omega) (by omega) d0 (by omega)
   omega
theorem Tried.next {n d : Int} (h : Tried n d) (hd : n % d ≠ 0) : Tried n (d + 1) := fun e e2 e3 hdv => by
 by_cases he : e = d
 · subst he; exact hd (Int.emod_eq_zero_of_dvd hdv)
 · exact h e e2 (by omega) hdv
/-! ### Euclid's algorithm -/
structure EInv (m a r s x y : Int) : Prop where
 r1 : 1 ≤ r
 rm : r ≤ m
 s0 : 0 ≤ s
 sr : s < r
 g : Int.gcd r s = Int.gcd m a
 cr : Cg m (x * a) r
 cs : Cg m (y * a) s
 xl : -m ≤ x
 xu : x ≤ m
 bd : (x ≤ 0 ∧ 0 ≤ y ∧ y * r - x * s = m) ∨ (0 ≤ x ∧ y ≤ 0 ∧ x * s - y * r = m)
theorem EInv.start {m a : Int} (hm : 1 ≤ m) (a0 : 0 ≤ a) (am : a < m) : EInv m a m a 0 1 :=
 ⟨hm, Int.le_refl _, a0, am, rfl, by rw [Int.zero_mul]; exact (cg_self m).symm, by rw [Int.one_mul]; exact Cg.refl _ _, by omega, by omega, .inl ⟨by omega, by omega, by omega⟩⟩
theorem EInv.y_bound {m a r s x y : Int} (h : EInv m a r s x y) : -m ≤ y ∧ y ≤ m := by
 rcases h.bd with ⟨h1, h2, h3⟩ | ⟨h1, h2, h3⟩
 · have e1 : y * 1 ≤ y * r := Int.mul_le_mul_of_nonneg_left h.r1 h2
   have e2 : x * s ≤ 0 := Int.mul_nonpos_of_nonpos_of_nonneg h1 h.s0
   omega
 · have e1 : y * r ≤ y * 1 := Int.mul_le_mul_of_nonpos_left h2 h.r1
   have e2 : 0 ≤ x * s := Int.mul_nonneg h1 h.s0
   omega
theorem gcd_step (r s q : Int) : Int.gcd s (r - q * s) = Int.gcd r s := by
 apply Nat.dvd_antisymm
 · apply Int.dvd_gcd
   · have h1 := Int.gcd_dvd_left s (r - q * s)
     have h2 := Int.gcd_dvd_right s (r - q * s)
     have := Int.dvd_add h2 (Int.dvd_mul_of_dvd_right (b := q) h1)
     rwa [Int.sub_add_cancel] at this
   · exact Int.gcd_dvd_left _ _
 · apply Int.dvd_gcd
   · exact Int.gcd_dvd_right _ _
   · exact Int.dvd_sub (Int.gcd_dvd_left _ _) (Int.dvd_mul_of_dvd_right (Int.gcd_dvd_right _ _))
theorem EInv.step {m a r s x y : Int} (h : EInv m a r s x y) (hs : 0 < s) : EInv m a s (r - r / s * s) y (x - r / s * y) := by
 have hq : 0 ≤ r / s := Int.ediv_nonneg (by have := h.r1; omega) (by omega)
 have e : r - r / s * s = r % s := by
  have := Int.ediv_mul_add_emod r s; omega
 obtain ⟨yl, yu⟩ := h.y_bound
 refine ⟨by omega, by have := h.rm; have := h.sr; omega, by rw [e]; exact Int.emod_nonneg _ (by omega), by rw [e]; exact Int.emod_lt_of_pos _ hs, ?_, h.cs, ?_, yl, yu, ?_⟩
 · rw [gcd_step]; exact h.g
 · rw [Int.sub_mul, Int.mul_assoc]
   exact h.cr.sub (h.cs.mul_left _)
 · rcases h.bd with ⟨h1, h2, h3⟩ | ⟨h1, h2, h3⟩
   · right
     refine ⟨h2, ?_, ?_⟩
     · have := Int.mul_nonneg hq h2; omega
     · rw [Int.mul_sub, Int.sub_mul, show y * (r / s * s) = r / s * y * s by ac_rfl]; omega
   · left
     refine ⟨h2, ?_, ?_⟩
     · have := Int.mul_nonpos_of_nonneg_of_nonpos hq h2; omega
     · rw [Int.mul_sub, Int.sub_mul, show y * (r / s * s) = r / s * y * s by ac_rfl]; omega
def InvS (m a : Int) (ok : Bool) (r : Int) : Prop := (ok = true ∧ Inv m a r) ∨ (ok = false ∧ r = 0 ∧ Int.gcd a m ≠ 1)
theorem EInv.done {m a r x y : Int} (h : EInv m a r 0 x y) : Int.gcd a m = r.toNat := by
 rw [Int.gcd_comm, ← h.g, Int.gcd_zero_right]
 have := h.r1; omega
theorem EInv.inv {m a x y : Int} (h : EInv m a 1 0 x y) : Inv m a ((x + m) % m) := by
 have hm := h.rm
 refine ⟨Int.emod_nonneg _ (by omega), Int.emod_lt_of_pos _ (by omega), ?_⟩
 refine ((cg_emod m (x + m)).mul_left a).trans ?_
 rw [Int.mul_add, Int.mul_comm a x, Int.mul_comm a m]
 refine Cg.trans ⟨a, by omega⟩ h.cr
theorem InvS.exists (m a : Int) (hm : 0 < m) : ∃ ok r, InvS m a ok r := by
 by_cases h : Int.gcd a m = 1
 · obtain ⟨r, hr⟩ := inv_of_gcd hm h
   exact ⟨true, r, .inl ⟨rfl, hr⟩⟩
 · exact ⟨false, 0, .inr ⟨rfl, rfl, h⟩⟩
theorem InvS.eq {m a : Int} (hm : 0 < m) {ok ok' : Bool} {r r' : Int} (h : InvS m a ok r) (h' : InvS m a ok' r') : ok = ok' ∧ r = r' := by
 rcases h with ⟨h1, h2⟩ | ⟨h1, h2, h3⟩ <;> rcases h' with ⟨k1, k2⟩ | ⟨k1, k2, k3⟩
 · exact ⟨by rw [h1, k1], h2.uniq k2⟩
 · exact absurd (gcd_of_inv hm h2) k3
 · exact absurd (gcd_of_inv hm k2) h3
 · exact ⟨by rw [h1, k1], by rw [h2, k2]⟩
structure TurnS (a b x y d : Int) : Prop where
 g : d = Int.gcd a b
 e : a * x + b * y = d
 z : b = 0 → x = 1 ∧ y = 0
 xb : 1 ≤ b → -b ≤ x ∧ x ≤ b
 yb : (-a ≤ y ∧ y ≤ a) ∨ y = 1
theorem TurnS.base {a : Int} (h : 0 ≤ a) : TurnS a 0 1 0 a :=
 ⟨by rw [Int.gcd_zero_right]; omega, by omega, fun _ => ⟨rfl, rfl⟩, fun h => by omega, .inl ⟨by omega, by omega⟩⟩
theorem TurnS.step {a b x y d : Int} (ha : 0 ≤ a) (hb : 0 < b) (h : TurnS b (a % b) x y d) : TurnS a b y (x - a / b * y) d := by
 have hr0 : 0 ≤ a % b := Int.emod_nonneg _ (by omega)
 have hq : 0 ≤ a / b := Int.ediv_nonneg ha (by omega)
 have hdm := Int.ediv_mul_add_emod a b
 refine ⟨?_, ?_, fun h0 => by omega, ?_, ?_⟩
 · rw [h.g]
   have := gcd_step a b (a / b)
   rw [show a - a / b * b = a % b by omega] at this
   rw [this]
 · have he := h.e
   rw [Int.mul_sub]
   have e1 : a * y = a / b * b * y + a % b * y := by rw [← Int.add_mul, hdm]
   have e2 : b * (a / b * y) = a / b * b * y := by ac_rfl
   omega
 · intro _
   by_cases hz : a % b = 0
   · have := h.z hz; omega
   · rcases h.yb with h1 | h1 <;> omega
 · by_cases hz : a % b = 0
   · have := h.z hz
     right
     rw [this.1, this.2]; omega
   · left
     have hx := h.xb (by omega)
     rcases h.yb with h1 | h1
     · have e1 : a / b * y ≤ a / b * b := Int.mul_le_mul_of_nonneg_left h1.2 hq
       have e2 : a / b * (-b) ≤ a / b * y := Int.mul_le_mul_of_nonneg_left h1.1 hq
       rw [Int.mul_neg] at e2
       omega
     · rw [h1, Int.mul_one]
       have e1 : a / b * 1 ≤ a / b * b := Int.mul_le_mul_of_nonneg_left (by omega) hq
       rw [Int.mul_one] at e1
       omega
theorem TurnS.inv {a m x y : Int} (_h0 : 0 ≤ a) (hm : 2 ≤ m) (h : TurnS a m x y 1) : -m < x ∧ x < m ∧ Inv m a (x % m) := by
 have hb := h.xb (by omega)
 have hc : Cg m (a * x) 1 := ⟨-y, by rw [Int.mul_neg]; have := h.e; omega⟩
 have hne : ∀ t, x = m * t → False := fun t e => by
  have h1 : m ∣ 1 := by
   have h2 : m ∣ a * x := by rw [e]; exact Int.dvd_mul_of_dvd_right (Int.dvd_mul_right _ _)
   have h3 := Int.dvd_sub h2 hc
   rwa [show a * x - (a * x - 1) = 1 by omega] at h3
  have := Int.le_of_dvd (by omega) h1
  omega
 refine ⟨?_, ?_, Int.emod_nonneg _ (by omega), Int.emod_lt_of_pos _ (by omega), ((cg_emod m x).mul_left a).trans hc⟩
 · rcases Int.lt_or_eq_of_le hb.1 with h1 | h1
   · exact h1
   · exact (hne (-1) (by omega)).elim
 · rcases Int.lt_or_eq_of_le hb.2 with h1 | h1
   · exact h1
   · exact (hne 1 (by omega)).elim
/-! ### Logarithms -/
def LogS (P G a most n e : Int) : Prop :=
 (0 ≤ n ∧ n ≤ most ∧ powm G n P = a ∧ (∀ y, 0 ≤ y → y < n → powm G y P ≠ a) ∧ e = 0) ∨ ((∀ y, 0 ≤ y → y ≤ most → powm G y P ≠ a) ∧ n = 0 ∧ e = 6)
theorem LogS.eq {P G a most n e n' e' : Int} (h : LogS P G a most n e) (h' : LogS P G a most n' e') : n = n' ∧ e = e' := by
 rcases h with ⟨h1, h2, h3, h4, h5⟩ | ⟨h1, h2, h3⟩ <;> rcases h' with ⟨k1, k2, k3, k4, k5⟩ | ⟨k1, k2, k3⟩
 · refine ⟨?_, by omega⟩
   rcases Int.lt_trichotomy n n' with hl | hl | hl
   · exact absurd h3 (k4 n h1 hl)
   · exact hl
   · exact absurd k3 (h4 n' k1 hl)
 · exact absurd h3 (k1 n h1 h2)
 · exact absurd k3 (h1 n' k1 k2)
 · exact ⟨by omega, by omega⟩
theorem LogS.exists (P G a most : Int) : ∃ n e, LogS P G a most n e := by
 by_cases h : ∃ k : Nat, (k : Int) ≤ most ∧ powm G k P = a
 · have key : ∀ k : Nat, (k : Int) ≤ most → powm G k P = a → ∃ n e, LogS P G a most n e := by
    intro k
    induction k using Nat.strongRecOn with
    | _ k ih =>
     intro h1 h2
     by_cases hm : ∃ j : Nat, j < k ∧ powm G j P = a
     · obtain ⟨j, hj, hp⟩ := hm
       exact ih j hj (by omega) hp
     · refine ⟨k, 0, .inl ⟨by omega, h1, h2, fun y y0 y1 hy => hm ⟨y.toNat, by omega, ?_⟩, rfl⟩⟩
       rw [Int.toNat_of_nonneg y0]; exact hy
   obtain ⟨k, h1, h2⟩ := h
   exact key k h1 h2
 · refine ⟨0, 6, .inr ⟨fun y y0 y1 hy => h ⟨y.toNat, by omega, ?_⟩, rfl, rfl⟩⟩
   rw [Int.toNat_of_nonneg y0]; exact hy
end Go.Proofs.YtlbldpkgnonbpaaGreatDoor.Num
/- The words that all walks of this seat share: the numbers that the group functions compute, and what a call leaves of the world. -/
namespace Go.Proofs.YtlbldpkgnonbpaaGreatDoor
open Go.RowKit
abbrev υ (n : Int) : Value := .int .u64 n
theorem bz (w : World) (o : Obj) : Go.RowKit.Below w.heap.size w (w.alloc o) := (Go.RowKit.Below.refl _ _).alloc (Nat.le_refl _) o
theorem Kt {w w1 w2 : World} (h : Go.RowKit.Hid (Go.RowKit.Below w.heap.size w w1)) (g : Go.RowKit.Below w1.heap.size w1 w2) : Go.RowKit.Hid (Go.RowKit.Below w.heap.size w w2) := Lh (h.out.trans (g.mono h.out.size))
theorem bcell {W w1 : World} (hb : Below W.heap.size W w1) : (∀ b o, b < W.heap.size → w1.cell? ⟨b, o, none⟩ = W.cell? ⟨b, o, none⟩) ∧ (∀ b o, b < W.heap.size → w1.frozen? ⟨b, o, none⟩ = W.frozen? ⟨b, o, none⟩) :=
 ⟨fun b o h => hb.cell (p := ⟨b, o, none⟩) h, fun b o h => hb.frozen (p := ⟨b, o, none⟩) h⟩
theorem ret_int {k : IntKind} {a b : Int} (h : a = b) : Ending.returned (.int k a) = .returned (.int k b) := by rw [h]
theorem ret_bool {a b : Bool} (h : a = b) : Ending.returned (.bool a) = .returned (.bool b) := by rw [h]
theorem ret_two {k l : IntKind} {a b c d : Int} (h : a = b) (h' : c = d) : Ending.returned (.tuple #[.int k a, .int l c]) = .returned (.tuple #[.int k b, .int l d]) := by rw [h, h']
theorem ret_bi {l : IntKind} {a b : Bool} {c d : Int} (h : a = b) (h' : c = d) : Ending.returned (.tuple #[.bool a, .int l c]) = .returned (.tuple #[.bool b, .int l d]) := by rw [h, h']
def U64 (x : Int) : Prop := 0 ≤ x ∧ x ≤ 18446744073709551615
theorem U64.of_lt {x : Int} (h : 0 ≤ x) (h' : x < 4611686018427387904) : U64 x := ⟨h, by omega⟩
theorem U64.mono {x y : Int} (h : U64 x) (h0 : 0 ≤ y) (h1 : y ≤ x) : U64 y := ⟨h0, Int.le_trans h1 h.2⟩
theorem U64.wf {x : Int} (h : (Lit.int .u64 x).wf = true) : U64 x := by
 have h := bounds_u64 h
 exact ⟨h.1, h.2⟩
theorem U64.half {x : Int} (h : U64 x) : IntKind.u64.wrap (x.tdiv 2) = x / 2 := by
 rw [Int.tdiv_eq_ediv_of_nonneg h.1, IntKind.wrap_u64]
 have := h.1
 have := h.2
 omega
theorem U64.and_one {x : Int} (h : U64 x) : bits BinOp.and IntKind.u64 x 1 = x % 2 := and_one_u64 x h.1 h.2
def Has (P Q G : Int) : Prop := 5 ≤ P ∧ P < 2147483648 ∧ 0 ≤ Q ∧ P = 2 * Q + 1 ∧ 2 ≤ G ∧ G < P
instance (P Q G : Int) : Decidable (Has P Q G) := by unfold Has; exact inferInstance
def okAll (L : Int) (xs : List Int) : Bool := xs.all fun x => decide (x < L)
def checkS (P Q G L : Int) (xs : List Int) : Int := if Has P Q G then (if okAll L xs then 0 else 2) else 300
end Go.Proofs.YtlbldpkgnonbpaaGreatDoor
/- group.Form: 0 for a group that has the form of a group, 300 for any other. -/
namespace Go.Proofs.YtlbldpkgnonbpaaGreatDoor
open Go.RowKit
set_option maxHeartbeats 400000 in
theorem form_yes (P Q G : Int) (w : World) (h : Has P Q G) :
 Calls Tryz.prog 58 #[.agg #[υ P, υ Q, υ G]] w fun e w' => e = .returned (.int .i64 0) ∧ Below w.heap.size w w' := by
 obtain ⟨a, b, c, d, e, f⟩ := h
 have d' : ¬ (P ≠ 2 * Q + 1) := by omega
 go_enter Tryz.func58, Tryz.ntmps58
 go_wp2
 go_ret
 exact ⟨rfl, (Below.refl _ _).alloc (Nat.le_refl _) _⟩
set_option maxHeartbeats 400000 in
theorem form_no (P Q G : Int) (w : World) (hP : 0 ≤ P) (hQ : 0 ≤ Q) (hG : 0 ≤ G) (h : ¬ Has P Q G) :
 Calls Tryz.prog 58 #[.agg #[υ P, υ Q, υ G]] w fun e w' => e = .returned (.int .i64 300) ∧ Below w.heap.size w w' := by
 have h' : ¬ (5 ≤ P ∧ P < 2147483648 ∧ 0 ≤ Q ∧ P = 2 * Q + 1 ∧ 2 ≤ G ∧ G < P) := h
 clear h
 go_enter Tryz.func58, Tryz.ntmps58
 go_wp2
 all_goals
  go_ret
  exact ⟨rfl, (Below.refl _ _).alloc (Nat.le_refl _) _⟩
def formS (P Q G : Int) : Int := if Has P Q G then 0 else 300
theorem form_any (P Q G : Int) (w : World) (hP : 0 ≤ P) (hQ : 0 ≤ Q) (hG : 0 ≤ G) :
 Calls Tryz.prog 58 #[.agg #[υ P, υ Q, υ G]] w fun e w' => e = .returned (.int .i64 (formS P Q G)) ∧ Below w.heap.size w w' := by
 unfold formS
 split
 · exact form_yes P Q G w ‹_›
 · exact form_no P Q G w hP hQ hG ‹_›
end Go.Proofs.YtlbldpkgnonbpaaGreatDoor
/- group.below, the function that it returns, and group.check: the first error of a group and of numbers. -/
namespace Go.Proofs.YtlbldpkgnonbpaaGreatDoor
open Go.RowKit
set_option maxHeartbeats 400000 in
theorem below1_any (n L : Int) (b : Nat) (w : World) (hb : w.cell? ⟨b, 0, none⟩ = some (υ L)) :
 Calls Tryz.prog 103 #[υ n, .pointer (some ⟨b, 0, none⟩)] w fun e w' => e = .returned (.bool (decide (n < L))) ∧ w = w' := by
 go_enter Tryz.func103, Tryz.ntmps103
 go_wp2
 go_ret
 exact ⟨rfl, rfl⟩
theorem okAll_snoc (L : Int) (xs : List Int) (k : Nat) (h : k < xs.length) : okAll L (xs.take (k + 1)) = (okAll L (xs.take k) && decide (xs.getD k 0 < L)) := by
 rw [List.take_succ_eq_append_getElem h]
 simp only [okAll, List.all_append, List.all_cons, List.all_nil, Bool.and_true]
 rw [List.getD_eq_getElem?_getD, List.getElem?_eq_getElem h]; rfl
theorem okAll_not (L : Int) (xs : List Int) (k : Nat) (h : k < xs.length) (hn : ¬ xs.getD k 0 < L) : okAll L xs = false := by
 rw [okAll, List.all_eq_false]
 refine ⟨xs[k], List.getElem_mem h, ?_⟩
 rw [List.getD_eq_getElem?_getD, List.getElem?_eq_getElem h] at hn
 simpa using hn
def argS (L : Int) (xs : List Int) : Int := if okAll L xs then 0 else 2
set_option maxHeartbeats 400000 in
theorem check_has (P Q G L : Int) (xs : List Int) (b s : Nat) (w : World) (hH : Has P Q G) (hb : w.cell? ⟨b, 0, none⟩ = some (υ L)) (hbl : b < w.heap.size) (hsl : s < w.heap.size)
 (hs : ∀ i, i < xs.length → w.cell? ⟨s, i, none⟩ = some (υ (xs.getD i 0))) (hlen : xs.length ≤ 8) :
 Calls Tryz.prog 73 #[.agg #[υ P, υ Q, υ G], .func (.func 103) #[] #[.pointer (some ⟨b, 0, none⟩)], .slice (some ⟨s, 0, none⟩) xs.length xs.length] w
  fun e w' => e = .returned (.int .i64 (argS L xs)) ∧ Below w.heap.size w w' := by
 go_enter Tryz.func73, Tryz.ntmps73
 go_wp2_with fail
 refine (form_yes P Q G _ hH).mono ?_
 rintro e w1 ⟨rfl, hb1⟩
 have hb2 := ((Below.refl w.heap.size w).alloc (Nat.le_refl _) _).trans (hb1.mono (by simp))
 clear hb1
 have hb' : w1.cell? ⟨b, 0, none⟩ = some (υ L) := by rw [hb2.cell (by exact hbl)]; exact hb
 have hs' : ∀ i, i < xs.length → w1.cell? ⟨s, i, none⟩ = some (υ (xs.getD i 0)) := fun i hi => by rw [hb2.cell (by exact hsl)]; exact hs i hi
 clear hb hs
 have HS := Lh hs'
 clear hs'
 go_wp2
 go_loop [9, 17] (fun _ i => ∃ k : Nat, k ≤ xs.length ∧ i = .int .i64 k ∧ okAll L (xs.take k) = true) (fun _ i => xs.length - (intOf i).toNat)
 case atStart => exact ⟨0, Nat.zero_le _, rfl, rfl⟩
 case round =>
  obtain ⟨k, hk, rfl, hall⟩ := hrel
  have HA := Lh hall
  clear hall
  by_cases hlt : k < xs.length
  · have hck := HS.o k hlt
    have hsn := okAll_snoc L xs k hlt
    have hno := okAll_not L xs k hlt
    rw [HA.o] at hsn
    generalize xs.getD k 0 = v at hck hsn hno
    have HN := Lh hno
    have HT := Lh hsn
    clear hno hsn
    by_cases hv : v < L
    · go_wp2_with (go_at_call 103; refine (below1_any _ L b _ hb').mono ?_; rintro e w' ⟨rfl, rfl⟩)
      go_round
      case rel => exact ⟨k + 1, by omega, by go_num, by rw [HT.o]; simpa using hv⟩
      case measure => simp [intOf]; omega
    · have hd : decide (v < L) = false := by simpa using hv
      go_wp2_with (go_at_call 103; refine (below1_any _ L b _ hb').mono ?_; rintro e w' ⟨rfl, rfl⟩)
      go_ret
      exact ⟨by rw [argS, HN.o (by omega)]; rfl, hb2⟩
  · go_wp2
    go_ret
    exact ⟨by rw [List.take_of_length_le (by omega)] at HA; rw [argS, HA.o]; rfl, hb2⟩
set_option maxHeartbeats 400000 in
theorem check_no (P Q G : Int) (xs : List Int) (b : Addr) (s : Addr) (w : World) (hP : 0 ≤ P) (hQ : 0 ≤ Q) (hG : 0 ≤ G) (hH : ¬ Has P Q G) :
 Calls Tryz.prog 73 #[.agg #[υ P, υ Q, υ G], .func (.func 103) #[] #[.pointer (some b)], .slice (some s) xs.length xs.length] w
  fun e w' => e = .returned (.int .i64 300) ∧ Below w.heap.size w w' := by
 go_enter Tryz.func73, Tryz.ntmps73
 go_wp2_with fail
 refine (form_no P Q G _ hP hQ hG hH).mono ?_
 rintro e w1 ⟨rfl, hb1⟩
 go_wp2
 go_ret
 exact ⟨rfl, ((Below.refl w.heap.size w).alloc (Nat.le_refl _) _).trans (hb1.mono (by simp))⟩
set_option maxHeartbeats 400000 in
theorem below_any (L : Int) (w : World) :
 Calls Tryz.prog 74 #[υ L] w fun e w' => e = .returned (.func (.func 103) #[] #[.pointer (some ⟨w.heap.size, 0, none⟩)]) ∧ w.alloc (.cells #[υ L] 22) = w' := by
 go_enter Tryz.func74, Tryz.ntmps74
 go_wp2
 go_ret
 exact ⟨rfl, rfl⟩
theorem check1 {P Q G L a r : Int} {b s : Nat} {w : World} (hP : 0 ≤ P) (hQ : 0 ≤ Q) (hG : 0 ≤ G) (hr : checkS P Q G L [a] = r) (hb : w.cell? ⟨b, 0, none⟩ = some (υ L)) (hs : w.cell? ⟨s, 0, none⟩ = some (υ a)) (hbl : b < w.heap.size) (hsl : s < w.heap.size) :
 Calls Tryz.prog 73 #[.agg #[υ P, υ Q, υ G], .func (.func 103) #[] #[.pointer (some ⟨b, 0, none⟩)], .slice (some ⟨s, 0, none⟩) 1 1] w
  fun e w' => e = .returned (.int .i64 r) ∧ Below w.heap.size w w' := by
 subst hr
 unfold checkS
 split
 · exact check_has P Q G L [a] b s w ‹_› hb hbl hsl (fun i hi => by obtain rfl : i = 0 := by simpa using hi
                                                                    exact hs) (by simp)
 · exact check_no P Q G [a] ⟨b, 0, none⟩ ⟨s, 0, none⟩ w hP hQ hG ‹_›
theorem check2 {P Q G L a c r : Int} {b s : Nat} {w : World} (hP : 0 ≤ P) (hQ : 0 ≤ Q) (hG : 0 ≤ G) (hr : checkS P Q G L [a, c] = r) (hb : w.cell? ⟨b, 0, none⟩ = some (υ L)) (hs : w.cell? ⟨s, 0, none⟩ = some (υ a)) (hs1 : w.cell? ⟨s, 1, none⟩ = some (υ c)) (hbl : b < w.heap.size) (hsl : s < w.heap.size) :
 Calls Tryz.prog 73 #[.agg #[υ P, υ Q, υ G], .func (.func 103) #[] #[.pointer (some ⟨b, 0, none⟩)], .slice (some ⟨s, 0, none⟩) 2 2] w
  fun e w' => e = .returned (.int .i64 r) ∧ Below w.heap.size w w' := by
 subst hr
 unfold checkS
 split
 · exact check_has P Q G L [a, c] b s w ‹_› hb hbl hsl (fun i hi => by
    have : i = 0 ∨ i = 1 := by simp at hi; omega
    rcases this with rfl | rfl
    · exact hs
    · exact hs1) (by simp)
 · exact check_no P Q G [a, c] ⟨b, 0, none⟩ ⟨s, 0, none⟩ w hP hQ hG ‹_›
end Go.Proofs.YtlbldpkgnonbpaaGreatDoor
/- group.power, group.prime, group.IsPrime: what they compute. -/
namespace Go.Proofs.YtlbldpkgnonbpaaGreatDoor
open Go.RowKit Num
set_option maxHeartbeats 400000 in
theorem power_any (a x m r : Int) (w : World) (h0 : 0 ≤ a) (h1 : U64 x) (h2 : 2 ≤ m) (h3 : m < 2147483648) (hr : powm a x m = r) :
 Calls Tryz.prog 99 #[υ a, υ x, υ m] w fun e w' => e = .returned (υ r) ∧ w = w' := by
 have HR := Lh hr
 clear hr
 have h10 := h1.1
 obtain ⟨x0, hx0⟩ : ∃ x0, x0 = x := ⟨_, rfl⟩
 have hxx : x ≤ x0 := by omega
 have H1 : U64 x0 := by rw [hx0]; exact h1
 clear hx0 h1
 have q0 : 0 ≤ a % m := Int.emod_nonneg _ (by omega)
 have q1 : a % m < m := Int.emod_lt_of_pos _ (by omega)
 have HS : Hid (1 * powm (a % m) x m % m = r) := Lh (by
  rw [Int.one_mul, powm_base (cg_emod m a), HR.o]; rw [← HR.o]; exact Int.emod_eq_of_lt (powm_nonneg (by omega)) (powm_lt (by omega)))
 go_enter Tryz.func99, Tryz.ntmps99
 go_wp2
 go_loop [0, 1, 7] (fun a x o => ∃ aa xx oo : Int, 0 ≤ aa ∧ aa < m ∧ 0 ≤ oo ∧ oo < m ∧ 0 ≤ xx ∧ xx ≤ x0 ∧ oo * powm aa xx m % m = r ∧ a = υ aa ∧ x = υ xx ∧ o = υ oo) (fun _ x _ => (intOf x).toNat)
 case atStart => exact ⟨a % m, x, 1, q0, q1, by omega, by omega, h10, hxx, HS.o, rfl, rfl, rfl⟩
 case round =>
  obtain ⟨aa, xx, oo, b1, b2, b3, b4, b5, b6, hs, rfl, rfl, rfl⟩ := hrel
  have HI := Lh hs
  clear hs HS q0 q1
  obtain ⟨m1, m2⟩ := mul_bound b3 (by omega) b1 (by omega)
  obtain ⟨m3, m4⟩ := mul_bound b1 (by omega) b1 (by omega)
  have n0 : 0 ≤ aa * aa % m := Int.emod_nonneg _ (by omega)
  have n1 : aa * aa % m < m := Int.emod_lt_of_pos _ (by omega)
  have n2 : 0 ≤ oo * aa % m := Int.emod_nonneg _ (by omega)
  have n3 : oo * aa % m < m := Int.emod_lt_of_pos _ (by omega)
  by_cases hx : 0 < xx
  · by_cases hb : xx % 2 = 1
    · have ht : (bits BinOp.and IntKind.u64 xx 1 == 1) = true := by rw [(H1.mono b5 b6).and_one, hb]; rfl
      have HB := Lh hb
      clear hb
      go_wp2
      go_round
      case rel => exact ⟨_, _, _, n0, n1, n2, n3, by omega, by omega, by rw [powm_odd b5 HB.o, HI.o], rfl, rfl, rfl⟩
      case measure => simp [intOf]; omega
    · have ht : (bits BinOp.and IntKind.u64 xx 1 == 1) = false := by rw [(H1.mono b5 b6).and_one]; simpa using hb
      have HB := Lh hb
      clear hb
      go_wp2
      go_round
      case rel => exact ⟨_, _, _, n0, n1, b3, b4, by omega, by omega, by rw [powm_even b5 (by have := HB.o; omega), HI.o], rfl, rfl, rfl⟩
      case measure => simp [intOf]; omega
  · obtain rfl : xx = 0 := by omega
    go_wp2
    go_ret
    have e : oo = r := by
     rw [← HI.o, powm_zero, Int.emod_eq_of_lt (show (0:Int) ≤ 1 by omega) (show 1 < m by omega), Int.mul_one]
     exact (Int.emod_eq_of_lt b3 b4).symm
    exact ⟨ret_int e, rfl⟩
end Go.Proofs.YtlbldpkgnonbpaaGreatDoor
/- group.inverse: the inverse modulo m by Euclid's algorithm. -/
namespace Go.Proofs.YtlbldpkgnonbpaaGreatDoor
open Go.RowKit Num
open Go.ChangeShapes Go.WideShapes Go.ChangeAt Go.RowKit
theorem own : ownKnob Tryz.prog.godebug = none := by kernel_rfl
theorem laidOut : laidOutB Tryz.prog = true := by kernel_rfl
section
variable {H : Type} {enc : TypeId × Value → H} {P : Program} {W W' : World}
theorem trodAll_lt : ∀ {ts : List TypeId} {vs : List Value} {ds : List (DataW H)} {ps : List MemPlace}, DataW.TrodAll enc P W 0 (fun _ => true) true ts vs ds ps → ∀ x ∈ ps, x.block < W.heap.size
 | [], _, _, _, h => by obtain ⟨rfl, rfl, rfl⟩ := trodAll_nil h; intro x hx; cases hx
 | t :: ts, _, _, _, h => by
  obtain ⟨v, vs, d, ds, p, q, rfl, rfl, rfl, h0, r⟩ := trodAll_cons h
  intro x hx
  rcases List.mem_append.1 hx with hx | hx
  · obtain ⟨m, hm⟩ := h0; exact DataW.trod_lt m _ _ _ hm x hx
  · exact trodAll_lt r x hx
theorem trodAll_stays (hl : laidOutB P = true) : ∀ {ts : List TypeId} {vs : List Value} {ds : List (DataW H)} {ps : List MemPlace}, (ts.all fun t => P.readableRec t && decide (t < P.types.size)) = true →
 DataW.TrodAll enc P W 0 (fun _ => true) true ts vs ds ps → Below W.heap.size W W' → DataW.TrodAll enc P W' 0 (fun b => decide (b < W.heap.size)) true ts vs ds ps
 | [], _, _, _, _, h, _ => by obtain ⟨rfl, rfl, rfl⟩ := trodAll_nil h; exact trodAll_mk0
 | t :: ts, _, _, _, hr, h, hb => by
  have hlt := trodAll_lt h
  obtain ⟨v, vs, d, ds, p, q, rfl, rfl, rfl, h0, r⟩ := trodAll_cons h
  simp only [List.all_cons, Bool.and_eq_true, decide_eq_true_eq] at hr
  exact trodAll_cons_mk (Below.trod hl hr.1.1 hr.1.2 h0 hb (fun x hx => hlt x (List.mem_append_left _ hx))) (trodAll_stays hl hr.2 r hb)
end
section
variable {H : Type} {enc : TypeId × Value → H} {w : World} {base : Nat} {spare : Nat → Bool} {held : Bool} {r : Reach} {b0 : Nat} {v : Value} {d : DataW H} {p : List MemPlace}
theorem open_group (hv : Value.okWide Tryz.prog w r b0 24 v) (h : DataW.Trod enc Tryz.prog w base spare held 24 v d p) :
 ∃ P Q G : Int, v = .agg #[υ P, υ Q, υ G] ∧ U64 P ∧ U64 Q ∧ U64 G := by
 obtain ⟨c0, c1, c2, y0, y1, y2, m, rfl, rfl, rfl, hy0, hy1, hy2⟩ := Joins.open_agg3 Tryz.underlying24 (by kernel_rfl) (by kernel_rfl) hv h
 obtain ⟨a, e0, rfl, wa⟩ := DataW.trod_int Tryz.underlying22 hy0
 obtain ⟨b, e1, rfl, wb⟩ := DataW.trod_int Tryz.underlying22 hy1
 obtain ⟨c, e2, rfl, wc⟩ := DataW.trod_int Tryz.underlying22 hy2
 simp at e0 e1 e2
 subst e0 e1 e2
 exact ⟨a, b, c, rfl, U64.wf wa, U64.wf wb, U64.wf wc⟩
theorem open_u64 (hv : Value.okWide Tryz.prog w r b0 22 v) (h : DataW.Trod enc Tryz.prog w base spare held 22 v d p) : ∃ x : Int, v = υ x ∧ U64 x := by
 obtain ⟨x, rfl, rfl, rfl, wx⟩ := open_int Tryz.underlying22 hv h
 exact ⟨x, rfl, U64.wf wx⟩
theorem open_i64 (hv : Value.okWide Tryz.prog w r b0 3 v) (h : DataW.Trod enc Tryz.prog w base spare held 3 v d p) : ∃ x : Int, v = .int .i64 x ∧ -9223372036854775808 ≤ x ∧ x ≤ 9223372036854775807 := by
 obtain ⟨x, rfl, rfl, rfl, wx⟩ := open_int Tryz.underlying3 hv h
 exact ⟨x, rfl, bounds_i64 wx⟩
end
open Go.RowKit Num
set_option maxHeartbeats 1000000 in
theorem pow_ok (P Q G a x : Int) (v : Int) (w : World) (hH : Has P Q G) (a0 : 0 ≤ a) (aP : a < P) (hx : U64 x) (hv : powm a x P = v) :
 Calls Tryz.prog 62 #[.agg #[υ P, υ Q, υ G], υ a, υ x] w fun e w' => e = .returned (.tuple #[υ v, .int .i64 0]) ∧ Below w.heap.size w w' := by
 obtain ⟨p5, p3, hQ, pq, g2, gP⟩ := id hH
 have hP : 0 ≤ P := by omega
 have hG : 0 ≤ G := by omega
 have HR := Lh (show checkS P Q G P [a] = 0 by rw [checkS, if_pos hH]; simp [okAll]; omega)
 have HV := Lh hv
 clear hv
 have HX := Lh hx
 clear hx
 have q3 : Q < 1073741824 := by omega
 have PQ := Lh pq
 clear pq
 go_enter Tryz.func62, Tryz.ntmps62
 go_wp2_with fail
 go_region_held3 (fun w' => w'.cell? ⟨w.heap.size, 0, none⟩ = some (υ P) ∧ w'.cell? ⟨w.heap.size, 1, none⟩ = some (υ Q) ∧ w'.cell? ⟨w.heap.size, 2, none⟩ = some (υ G))
  (first | go_keep | (refine ⟨?_, ?_, ?_⟩ <;> (rw [hc _ _ (by simp <;> omega)]; go_simp)))
  (first | (go_at_call 74; refine (below_any _ _).mono ?_; rintro e w' ⟨rfl, rfl⟩) | (go_at_call 73; refine (check1 hP hQ hG HR.o (by go_simp) (by go_simp) (by simp <;> omega) (by simp <;> omega)).mono ?_; rintro e w1 ⟨rfl, hb1⟩; obtain ⟨hc, hf⟩ := bcell hb1; have hz := hb1.size))
 all_goals
  go_wp2_with (go_at_call 99; refine (power_any a x P v _ a0 HX.o (by omega) p3 HV.o).mono ?_; rintro e w' ⟨rfl, rfl⟩)
  go_ret2
  exact ⟨rfl, Below.trans (by repeat (first | exact Below.refl _ _ | apply Below.drew | (refine Below.alloc ?_ (by simp <;> omega) _))) (hb1.mono (by simp <;> omega))⟩
set_option maxHeartbeats 1000000 in
theorem mul_ok (P Q G a b : Int) (v : Int) (w : World) (hH : Has P Q G) (a0 : 0 ≤ a) (aP : a < P) (b0 : 0 ≤ b) (bP : b < P) (hv : a * b % P = v) :
 Calls Tryz.prog 63 #[.agg #[υ P, υ Q, υ G], υ a, υ b] w fun e w' => e = .returned (.tuple #[υ v, .int .i64 0]) ∧ Below w.heap.size w w' := by
 obtain ⟨p5, p3, hQ, pq, g2, gP⟩ := id hH
 have hP : 0 ≤ P := by omega
 have hG : 0 ≤ G := by omega
 have HR := Lh (show checkS P Q G P [a, b] = 0 by rw [checkS, if_pos hH]; simp [okAll]; omega)
 have HV := Lh hv
 clear hv
 obtain ⟨m1, m2⟩ := mul_bound a0 (by omega) b0 (by omega)
 have q3 : Q < 1073741824 := by omega
 have PQ := Lh pq
 clear pq
 go_enter Tryz.func63, Tryz.ntmps63
 go_wp2_with fail
 go_region_held3 (fun w' => w'.cell? ⟨w.heap.size, 0, none⟩ = some (υ P) ∧ w'.cell? ⟨w.heap.size, 1, none⟩ = some (υ Q) ∧ w'.cell? ⟨w.heap.size, 2, none⟩ = some (υ G))
  (first | go_keep | (refine ⟨?_, ?_, ?_⟩ <;> (rw [hc _ _ (by simp <;> omega)]; go_simp)))
  (first | (go_at_call 74; refine (below_any _ _).mono ?_; rintro e w' ⟨rfl, rfl⟩) | (go_at_call 73; refine (check2 hP hQ hG HR.o (by go_simp) (by go_simp) (by go_simp) (by simp <;> omega) (by simp <;> omega)).mono ?_; rintro e w1 ⟨rfl, hb1⟩; obtain ⟨hc, hf⟩ := bcell hb1; have hz := hb1.size))
 all_goals
  go_wp2
  go_ret2
  exact ⟨ret_two HV.o rfl, Below.trans (by repeat (first | exact Below.refl _ _ | apply Below.drew | (refine Below.alloc ?_ (by simp <;> omega) _))) (hb1.mono (by simp <;> omega))⟩
set_option maxHeartbeats 1000000 in
theorem addExp_ok (P Q G x y : Int) (v : Int) (w : World) (hH : Has P Q G) (a0 : 0 ≤ x) (aP : x < Q) (b0 : 0 ≤ y) (bP : y < Q) (hv : (x + y) % Q = v) :
 Calls Tryz.prog 31 #[.agg #[υ P, υ Q, υ G], υ x, υ y] w fun e w' => e = .returned (.tuple #[υ v, .int .i64 0]) ∧ Below w.heap.size w w' := by
 obtain ⟨p5, p3, hQ, pq, g2, gP⟩ := id hH
 have hP : 0 ≤ P := by omega
 have hG : 0 ≤ G := by omega
 have HR := Lh (show checkS P Q G Q [x, y] = 0 by rw [checkS, if_pos hH]; simp [okAll]; omega)
 have HV := Lh hv
 clear hv
 have q3 : Q < 1073741824 := by omega
 have PQ := Lh pq
 clear pq
 go_enter Tryz.func31, Tryz.ntmps31
 go_wp2_with fail
 go_region_held3 (fun w' => w'.cell? ⟨w.heap.size, 0, none⟩ = some (υ P) ∧ w'.cell? ⟨w.heap.size, 1, none⟩ = some (υ Q) ∧ w'.cell? ⟨w.heap.size, 2, none⟩ = some (υ G))
  (first | go_keep | (refine ⟨?_, ?_, ?_⟩ <;> (rw [hc _ _ (by simp <;> omega)]; go_simp)))
  (first | (go_at_call 74; refine (below_any _ _).mono ?_; rintro e w' ⟨rfl, rfl⟩) | (go_at_call 73; refine (check2 hP hQ hG HR.o (by go_simp) (by go_simp) (by go_simp) (by simp <;> omega) (by simp <;> omega)).mono ?_; rintro e w1 ⟨rfl, hb1⟩; obtain ⟨hc, hf⟩ := bcell hb1; have hz := hb1.size))
 all_goals
  go_wp2
  go_ret2
  exact ⟨ret_two HV.o rfl, Below.trans (by repeat (first | exact Below.refl _ _ | apply Below.drew | (refine Below.alloc ?_ (by simp <;> omega) _))) (hb1.mono (by simp <;> omega))⟩
set_option maxHeartbeats 1000000 in
theorem subExp_ok (P Q G x y : Int) (v : Int) (w : World) (hH : Has P Q G) (a0 : 0 ≤ x) (aP : x < Q) (b0 : 0 ≤ y) (bP : y < Q) (hv : (x - y) % Q = v) :
 Calls Tryz.prog 70 #[.agg #[υ P, υ Q, υ G], υ x, υ y] w fun e w' => e = .returned (.tuple #[υ v, .int .i64 0]) ∧ Below w.heap.size w w' := by
 obtain ⟨p5, p3, hQ, pq, g2, gP⟩ := id hH
 have hP : 0 ≤ P := by omega
 have hG : 0 ≤ G := by omega
 have HR := Lh (show checkS P Q G Q [x, y] = 0 by rw [checkS, if_pos hH]; simp [okAll]; omega)
 have HV := Lh (show (x + Q - y) % Q = v by rw [show x + Q - y = x - y + Q by omega, Int.add_emod_right]; exact hv)
 clear hv
 have q3 : Q < 1073741824 := by omega
 have PQ := Lh pq
 clear pq
 go_enter Tryz.func70, Tryz.ntmps70
 go_wp2_with fail
 go_region_held3 (fun w' => w'.cell? ⟨w.heap.size, 0, none⟩ = some (υ P) ∧ w'.cell? ⟨w.heap.size, 1, none⟩ = some (υ Q) ∧ w'.cell? ⟨w.heap.size, 2, none⟩ = some (υ G))
  (first | go_keep | (refine ⟨?_, ?_, ?_⟩ <;> (rw [hc _ _ (by simp <;> omega)]; go_simp)))
  (first | (go_at_call 74; refine (below_any _ _).mono ?_; rintro e w' ⟨rfl, rfl⟩) | (go_at_call 73; refine (check2 hP hQ hG HR.o (by go_simp) (by go_simp) (by go_simp) (by simp <;> omega) (by simp <;> omega)).mono ?_; rintro e w1 ⟨rfl, hb1⟩; obtain ⟨hc, hf⟩ := bcell hb1; have hz := hb1.size))
 all_goals
  go_wp2
  go_ret2
  exact ⟨ret_two HV.o rfl, Below.trans (by repeat (first | exact Below.refl _ _ | apply Below.drew | (refine Below.alloc ?_ (by simp <;> omega) _))) (hb1.mono (by simp <;> omega))⟩
open Go.RowKit Num
set_option maxHeartbeats 1000000 in
theorem member_ok (P Q G a : Int) (r : Bool) (w : World) (hH : Has P Q G) (a0 : 0 ≤ a) (aP : a < P) (hr : r = true ↔ Mem P Q a) :
 Calls Tryz.prog 149 #[.agg #[υ P, υ Q, υ G], υ a] w fun e w' => e = .returned (.tuple #[.bool r, .int .i64 0]) ∧ Below w.heap.size w w' := by
 obtain ⟨p5, p3, hQ, pq, g2, gP⟩ := id hH
 have hP : 0 ≤ P := by omega
 have hG : 0 ≤ G := by omega
 have HR := Lh (show checkS P Q G P [a] = 0 by rw [checkS, if_pos hH]; simp [okAll]; omega)
 have HM := Lh hr
 clear hr
 have HX := Lh (U64.of_lt hQ (by omega))
 have q3 : Q < 1073741824 := by omega
 have PQ := Lh pq
 clear pq
 go_enter Tryz.func149, Tryz.ntmps149
 go_wp2_with fail
 go_region_held3 (fun w' => w'.cell? ⟨w.heap.size, 0, none⟩ = some (υ P) ∧ w'.cell? ⟨w.heap.size, 1, none⟩ = some (υ Q) ∧ w'.cell? ⟨w.heap.size, 2, none⟩ = some (υ G))
  (first | go_keep | (refine ⟨?_, ?_, ?_⟩ <;> (rw [hc _ _ (by simp <;> omega)]; go_simp)))
  (first | (go_at_call 74; refine (below_any _ _).mono ?_; rintro e w' ⟨rfl, rfl⟩) | (go_at_call 73; refine (check1 hP hQ hG HR.o (by go_simp) (by go_simp) (by simp <;> omega) (by simp <;> omega)).mono ?_; rintro e w1 ⟨rfl, hb1⟩; obtain ⟨hc, hf⟩ := bcell hb1; have hz := hb1.size))
 all_goals
  by_cases h0 : 0 < a
  · have HZ := Lh (show (powm a Q P == 1) = r by rw [Bool.eq_iff_iff, HM.o]; simp [Mem, h0, aP])
    go_wp2_with (go_at_call 99; refine (power_any a Q P _ _ a0 HX.o (by omega) p3 rfl).mono ?_; rintro e w' ⟨rfl, rfl⟩)
    go_ret2
    exact ⟨ret_bi HZ.o rfl, Below.trans (by repeat (first | exact Below.refl _ _ | apply Below.drew | (refine Below.alloc ?_ (by simp <;> omega) _))) (hb1.mono (by simp <;> omega))⟩
  · have HZ := Lh (show false = r by rw [Bool.eq_iff_iff, HM.o]; simp [Mem, h0])
    go_wp2
    go_ret2
    exact ⟨ret_bi HZ.o rfl, Below.trans (by repeat (first | exact Below.refl _ _ | apply Below.drew | (refine Below.alloc ?_ (by simp <;> omega) _))) (hb1.mono (by simp <;> omega))⟩
open Go.RowKit Num
def Valid (P Q G : Int) : Prop := Has P Q G ∧ Pr P ∧ Pr Q ∧ powm G Q P = 1
theorem Valid.has {P Q G : Int} (h : Valid P Q G) : Has P Q G := h.1
def ValidS (P Q G c : Int) : Prop := (Valid P Q G ∧ c = 0) ∨ (¬ Valid P Q G ∧ c = 300)
theorem ValidS.exists (P Q G : Int) : ∃ c, ValidS P Q G c := by
 by_cases h : Valid P Q G
 · exact ⟨0, .inl ⟨h, rfl⟩⟩
 · exact ⟨300, .inr ⟨h, rfl⟩⟩
theorem ValidS.eq {P Q G c d : Int} (h : ValidS P Q G c) (h' : ValidS P Q G d) : c = d := by
 rcases h with ⟨h1, h2⟩ | ⟨h1, h2⟩ <;> rcases h' with ⟨k1, k2⟩ | ⟨k1, k2⟩
 · omega
 · exact absurd h1 k1
 · exact absurd k1 h1
 · omega
end Go.Proofs.YtlbldpkgnonbpaaGreatDoor
namespace Go.Proofs.YtlbldpkgnonbpaaGreatDoor
theorem sZa {α : Type _} {a b : α} {l : List α} : (a :: l).set 0 b = b :: l := rfl
theorem sZb {α : Type _} {a b : α} {l : List α} {n : Nat} : (a :: l).set (n + 1) b = a :: l.set n b := rfl
theorem sZc {α : Type _} (l : List α) (i : Nat) (a : α) : l.toArray.setIfInBounds i a = (l.set i a).toArray := List.setIfInBounds_toArray ..
theorem sZ {α : Type _} : (∀ (l : List α) (i : Nat) (a : α), l.toArray.setIfInBounds i a = (l.set i a).toArray) ∧ (∀ (a b : α) (l : List α), (a :: l).set 0 b = b :: l) ∧ (∀ (a b : α) (l : List α) (n : Nat), (a :: l).set (n + 1) b = a :: l.set n b) := ⟨fun l i a => sZc l i a, fun _ _ _ => rfl, fun _ _ _ _ => rfl⟩
theorem sY : (∀ (a : Act) (v : Value), a.put none v = a) ∧ (∀ (a : Act) (t : Tmp) (v : Value), a.put (some t) v = { a with tmps := a.tmps.setIfInBounds t v }) ∧ (∀ {α : Type} (l : List α) (i : Nat) (a : α), l.toArray.setIfInBounds i a = (l.set i a).toArray) ∧ (∀ {α : Type} (a b : α) (l : List α), (a :: l).set 0 b = b :: l) ∧ (∀ {α : Type} (a b : α) (l : List α) (n : Nat), (a :: l).set (n + 1) b = a :: l.set n b) := ⟨fun _ _ => rfl, fun _ _ _ => rfl, fun l i a => sZc l i a, fun _ _ _ => rfl, fun _ _ _ _ => rfl⟩
end Go.Proofs.YtlbldpkgnonbpaaGreatDoor
