/- Plain arithmetic: congruences, primes, Fermat's theorem, orders, inverses. No program in sight. -/
namespace Go.Proofs.YtlbldpkgnonbpaaDoor.Num

/-- a and b leave the same remainder modulo m. -/
def Cg (m a b : Int) : Prop := m ∣ a - b

theorem Cg.refl (m a : Int) : Cg m a a := by unfold Cg; simp
theorem Cg.of_eq {m a b : Int} (h : a = b) : Cg m a b := by subst h; exact Cg.refl _ _
theorem Cg.symm {m a b : Int} (h : Cg m a b) : Cg m b a := by
  obtain ⟨k, hk⟩ := h; exact ⟨-k, by rw [Int.mul_neg]; omega⟩
theorem Cg.trans {m a b c : Int} (h : Cg m a b) (h' : Cg m b c) : Cg m a c := by
  obtain ⟨k, hk⟩ := h; obtain ⟨l, hl⟩ := h'; exact ⟨k + l, by rw [Int.mul_add]; omega⟩
theorem Cg.add {m a b c d : Int} (h : Cg m a b) (h' : Cg m c d) : Cg m (a + c) (b + d) := by
  obtain ⟨k, hk⟩ := h; obtain ⟨l, hl⟩ := h'; exact ⟨k + l, by rw [Int.mul_add]; omega⟩
theorem Cg.sub {m a b c d : Int} (h : Cg m a b) (h' : Cg m c d) : Cg m (a - c) (b - d) := by
  obtain ⟨k, hk⟩ := h; obtain ⟨l, hl⟩ := h'; exact ⟨k - l, by rw [Int.mul_sub]; omega⟩
theorem Cg.mul {m a b c d : Int} (h : Cg m a b) (h' : Cg m c d) : Cg m (a * c) (b * d) := by
  obtain ⟨k, hk⟩ := h; obtain ⟨l, hl⟩ := h'
  refine ⟨k * c + b * l, ?_⟩
  have e : a * c - b * d = (a - b) * c + b * (c - d) := by rw [Int.sub_mul, Int.mul_sub]; omega
  rw [e, hk, hl, Int.mul_add, Int.mul_assoc, Int.mul_left_comm b m l]
theorem Cg.mul_left {m a b : Int} (c : Int) (h : Cg m a b) : Cg m (c * a) (c * b) := (Cg.refl m c).mul h
theorem Cg.mul_right {m a b : Int} (c : Int) (h : Cg m a b) : Cg m (a * c) (b * c) := h.mul (Cg.refl m c)
theorem Cg.pow {m a b : Int} (h : Cg m a b) : ∀ n : Nat, Cg m (a ^ n) (b ^ n)
  | 0 => by rw [Int.pow_zero, Int.pow_zero]; exact Cg.refl _ _
  | n + 1 => by rw [Int.pow_succ, Int.pow_succ]; exact (h.pow n).mul h
theorem cg_emod (m a : Int) : Cg m (a % m) a := ⟨-(a / m), by
  have := Int.mul_ediv_add_emod a m; rw [Int.mul_neg]; omega⟩
theorem Cg.emod_eq {m a b : Int} (h : Cg m a b) : a % m = b % m := Int.emod_eq_emod_iff_emod_sub_eq_zero.2 (Int.emod_eq_zero_of_dvd h)
theorem cg_of_emod {m a b : Int} (h : a % m = b % m) : Cg m a b := Int.dvd_of_emod_eq_zero (Int.emod_eq_emod_iff_emod_sub_eq_zero.1 h)
theorem Cg.eq {m a b : Int} (h : Cg m a b) (a0 : 0 ≤ a) (a1 : a < m) (b0 : 0 ≤ b) (b1 : b < m) : a = b := by
  have := h.emod_eq
  rwa [Int.emod_eq_of_lt a0 a1, Int.emod_eq_of_lt b0 b1] at this
theorem cg_self (m : Int) : Cg m m 0 := ⟨1, by simp⟩
theorem cg_zero_iff {m a : Int} : Cg m a 0 ↔ m ∣ a := by unfold Cg; simp

/-- Trial division finds nothing. -/
def Pr (p : Int) : Prop := 2 ≤ p ∧ ∀ d : Int, 2 ≤ d → d * d ≤ p → ¬ d ∣ p

theorem Pr.div {p d : Int} (h : Pr p) (hd : d ∣ p) (h0 : 0 < d) : d = 1 ∨ d = p := by
  obtain ⟨h2, hp⟩ := h
  obtain ⟨e, he⟩ := hd
  have e0 : 0 < e := by
    rcases Int.lt_or_le 0 e with h | h
    · exact h
    · have : d * e ≤ 0 := Int.mul_nonpos_of_nonneg_of_nonpos (by omega) h
      omega
  by_cases d1 : d = 1
  · exact .inl d1
  by_cases e1 : e = 1
  · right; rw [e1] at he; omega
  exfalso
  by_cases hde : d ≤ e
  · exact hp d (by omega) (by rw [he]; exact Int.mul_le_mul_of_nonneg_left hde (by omega)) ⟨e, he⟩
  · exact hp e (by omega) (by rw [he]; exact Int.mul_le_mul_of_nonneg_right (by omega) (by omega)) ⟨d, by rw [he, Int.mul_comm]⟩

theorem Pr.coprime {p a : Int} (h : Pr p) (ha : ¬ p ∣ a) : Int.gcd p a = 1 := by
  have h2 := h.1
  have g0 : 0 < Int.gcd p a := Int.gcd_pos_of_ne_zero_left _ (by omega)
  rcases h.div (Int.gcd_dvd_left p a) (by omega) with e | e
  · omega
  · exact absurd (e ▸ Int.gcd_dvd_right p a) ha

theorem Pr.euclid {p a b : Int} (h : Pr p) (hd : p ∣ a * b) : p ∣ a ∨ p ∣ b := by
  by_cases ha : p ∣ a
  · exact .inl ha
  · right
    have h1 : Nat.Coprime p.natAbs a.natAbs := h.coprime ha
    have h2 := Int.natAbs_dvd_natAbs.2 hd
    rw [Int.natAbs_mul] at h2
    exact Int.natAbs_dvd_natAbs.1 (h1.dvd_of_dvd_mul_left h2)

theorem Pr.cancel {p a b c : Int} (h : Pr p) (ha : ¬ p ∣ a) (hc : Cg p (a * b) (a * c)) : Cg p b c := by
  unfold Cg at hc
  rw [← Int.mul_sub] at hc
  exact (h.euclid hc).resolve_left ha

theorem Pr.not_dvd {p a : Int} (_h : Pr p) (h0 : 0 < a) (h1 : a < p) : ¬ p ∣ a := fun hd => by
  have := Int.le_of_dvd h0 hd; omega

theorem Pr.pow_not_dvd {p a : Int} (h : Pr p) (ha : ¬ p ∣ a) : ∀ n : Nat, ¬ p ∣ a ^ n
  | 0 => fun hd => by have := Int.le_of_dvd (by simp) hd; have := h.1; simp at *; omega
  | n + 1 => fun hd => by
      rw [Int.pow_succ] at hd
      rcases h.euclid hd with hd | hd
      · exact h.pow_not_dvd ha n hd
      · exact ha hd

/-! ### Lists without repetition -/
theorem subset_of_length {l m : List Int} (hl : l.Nodup) (hs : ∀ x, x ∈ l → x ∈ m) (hlen : m.length ≤ l.length) : ∀ x, x ∈ m → x ∈ l := by
  induction l generalizing m with
  | nil => intro x hx; have : m = [] := List.eq_nil_of_length_eq_zero (by simpa using hlen); subst this; exact hx
  | cons a l ih =>
    intro x hx
    have ha : a ∈ m := hs a (by simp)
    rw [List.nodup_cons] at hl
    by_cases hxa : x = a
    · subst hxa; simp
    · have hx' : x ∈ m.erase a := (List.mem_erase_of_ne hxa).2 hx
      have := ih (m := m.erase a) hl.2 (fun y hy => by
        have hya : y ≠ a := fun e => hl.1 (e ▸ hy)
        exact (List.mem_erase_of_ne hya).2 (hs y (by simp [hy]))) (by rw [List.length_erase_of_mem ha]; simp at hlen; omega) x hx'
      simp [this]

def prodI : List Int → Int
  | [] => 1
  | a :: l => a * prodI l

theorem prodI_perm {l m : List Int} (h : l.Perm m) : prodI l = prodI m := by
  induction h with
  | nil => rfl
  | cons x _ ih => simp [prodI, ih]
  | swap x y l => simp [prodI, Int.mul_left_comm]
  | trans _ _ ih1 ih2 => exact ih1.trans ih2

/-- The numbers 1 to n. -/
def upto (n : Nat) : List Int := (List.range n).map fun i : Nat => ((i : Int) + 1)

theorem mem_upto {n : Nat} {x : Int} : x ∈ upto n ↔ 1 ≤ x ∧ x ≤ n := by
  simp only [upto, List.mem_map, List.mem_range]
  constructor
  · rintro ⟨i, hi, rfl⟩; omega
  · rintro ⟨h1, h2⟩; exact ⟨(x - 1).toNat, by omega, by omega⟩

theorem nodup_map_range (n : Nat) (f : Nat → Int) (h : ∀ i j, i < n → j < n → f i = f j → i = j) : ((List.range n).map f).Nodup := by
  unfold List.Nodup
  rw [List.pairwise_map]
  refine List.Pairwise.imp_of_mem ?_ (List.nodup_range (n := n))
  intro a b ha hb hne he
  exact hne (h a b (by simpa using ha) (by simpa using hb) he)

theorem upto_nodup (n : Nat) : (upto n).Nodup := nodup_map_range n _ fun i j _ _ h => by omega

theorem prodI_cg (p a : Int) (l : List Int) : Cg p (prodI (l.map fun i => (a * i) % p)) (a ^ l.length * prodI l) := by
  induction l with
  | nil => simpa [prodI] using Cg.refl p 1
  | cons x l ih =>
    simp only [List.map_cons, prodI, List.length_cons, Int.pow_succ]
    refine ((cg_emod p (a * x)).mul ih).trans (Cg.of_eq ?_)
    ac_rfl

theorem prodI_not_dvd {p : Int} (h : Pr p) (l : List Int) (hl : ∀ x, x ∈ l → ¬ p ∣ x) : ¬ p ∣ prodI l := by
  induction l with
  | nil => exact fun hd => by have := Int.le_of_dvd (by simp [prodI]) hd; have := h.1; simp [prodI] at *; omega
  | cons x l ih =>
    intro hd
    rcases h.euclid hd with hd | hd
    · exact hl x (by simp) hd
    · exact ih (fun y hy => hl y (by simp [hy])) hd

/-- Fermat's theorem. -/
theorem Pr.fermat {p a : Int} (h : Pr p) (ha : ¬ p ∣ a) : Cg p (a ^ (p - 1).toNat) 1 := by
  have h2 := h.1
  let n := (p - 1).toNat
  have hn : ((n : Nat) : Int) = p - 1 := Int.toNat_of_nonneg (by omega)
  let l := upto n
  let m := l.map fun i => (a * i) % p
  have hlnd : ∀ x, x ∈ l → ¬ p ∣ x := fun x hx => by
    have := mem_upto.1 hx; exact h.not_dvd (by omega) (by omega)
  have hm : ∀ x, x ∈ m → x ∈ l := by
    intro x hx
    obtain ⟨i, hi, rfl⟩ := List.mem_map.1 hx
    have hnd : ¬ p ∣ a * i := fun hd => (h.euclid hd).elim ha (hlnd i hi)
    have h0 := Int.emod_nonneg (a * i) (show p ≠ 0 by omega)
    have h1 := Int.emod_lt_of_pos (a * i) (show 0 < p by omega)
    have hne : (a * i) % p ≠ 0 := fun e => hnd (Int.dvd_of_emod_eq_zero e)
    exact mem_upto.2 ⟨by omega, by omega⟩
  have hnm : m.Nodup := by
    show ((List.map (fun i : Nat => (i : Int) + 1) (List.range n)).map fun i => (a * i) % p).Nodup
    rw [List.map_map]
    refine nodup_map_range n _ fun i j hi hj e => ?_
    have := h.cancel ha (cg_of_emod (m := p) (a := a * ((i : Int) + 1)) (b := a * ((j : Int) + 1)) e)
    have := this.eq (by omega) (by omega) (by omega) (by omega)
    omega
  have hlen : l.length ≤ m.length := by simp [m]
  have hperm : m.Perm l := (List.perm_ext_iff_of_nodup hnm (upto_nodup n)).2 fun x => ⟨hm x, subset_of_length hnm hm hlen x⟩
  have e1 := prodI_cg p a l
  have e2 : prodI m = prodI l := prodI_perm hperm
  have e3 : l.length = n := by simp [l, upto]
  rw [e3] at e1
  have e4 : Cg p (prodI l * (a ^ n)) (prodI l * 1) := by
    rw [Int.mul_comm, Int.mul_one]
    refine e1.symm.trans (Cg.of_eq e2)
  exact h.cancel (prodI_not_dvd h l hlnd) e4

/-! ### Powers modulo m -/
def powm (a x m : Int) : Int := a ^ x.toNat % m
theorem powm_nonneg {a x m : Int} (h : 0 < m) : 0 ≤ powm a x m := Int.emod_nonneg _ (by omega)
theorem powm_lt {a x m : Int} (h : 0 < m) : powm a x m < m := Int.emod_lt_of_pos _ h
theorem powm_cg (a x m : Int) : Cg m (powm a x m) (a ^ x.toNat) := cg_emod _ _
theorem powm_base {a b x m : Int} (h : Cg m a b) : powm a x m = powm b x m := (h.pow _).emod_eq
theorem powm_zero {a m : Int} : powm a 0 m = 1 % m := by simp [powm]
theorem powm_one {a m : Int} (h0 : 0 ≤ a) (h1 : a < m) : powm a 1 m = a := by
  simp only [powm]; rw [show (1 : Int).toNat = 1 from rfl, Int.pow_succ, Int.pow_zero, Int.one_mul]; exact Int.emod_eq_of_lt h0 h1
theorem powm_add (a m : Int) {x y : Int} (hx : 0 ≤ x) (hy : 0 ≤ y) : powm a (x + y) m = powm a x m * powm a y m % m := by
  unfold powm
  rw [Int.toNat_add hx hy, Int.pow_add]
  exact (Int.mul_emod _ _ _)
theorem powm_mul (a m : Int) {x y : Int} (hx : 0 ≤ x) (hy : 0 ≤ y) : powm a (x * y) m = powm (powm a x m) y m := by
  unfold powm
  rw [show (x * y).toNat = x.toNat * y.toNat from Int.toNat_mul hx hy, Int.pow_mul]
  exact ((cg_emod m (a ^ x.toNat)).symm.pow _).emod_eq
theorem mul_powm (a b x m : Int) : powm (a * b) x m = powm a x m * powm b x m % m := by
  unfold powm
  rw [Int.mul_pow]
  exact Int.mul_emod _ _ _
theorem powm_one_base (x m : Int) : powm 1 x m = 1 % m := by simp [powm, Int.one_pow]

/-! ### A group -/
structure Grp (P Q G : Int) : Prop where
  two : P = 2 * Q + 1
  pP : Pr P
  pQ : Pr Q
  g2 : 2 ≤ G
  gP : G < P
  gQ : powm G Q P = 1

/-- A member. -/
def Mem (P Q a : Int) : Prop := 0 < a ∧ a < P ∧ powm a Q P = 1

theorem Mem.cg {P Q a : Int} (h : Mem P Q a) : Cg P (a ^ Q.toNat) 1 :=
  (powm_cg a Q P).symm.trans (Cg.of_eq h.2.2)

section
variable {P Q G : Int} (g : Grp P Q G)
include g
theorem Grp.five : 5 ≤ P := by have := g.pQ.1; have := g.two; omega
theorem Grp.one : 1 % P = 1 := Int.emod_eq_of_lt (by omega) (by have := g.five; omega)
theorem Grp.mem_g : Mem P Q G := ⟨by have := g.g2; omega, g.gP, g.gQ⟩
theorem Grp.nd {a : Int} (h : Mem P Q a) : ¬ P ∣ a := g.pP.not_dvd h.1 h.2.1
theorem Grp.pos_of_nd {a : Int} (h : ¬ P ∣ a) : 0 < a % P := by
  have h5 := g.five
  have h0 := Int.emod_nonneg a (show P ≠ 0 by omega)
  have : a % P ≠ 0 := fun e => h (Int.dvd_of_emod_eq_zero e)
  omega
theorem Grp.mem_of_cg {a b : Int} (ha : Cg P (a ^ Q.toNat) 1) (hb : b = a % P) : Mem P Q b := by
  have h5 := g.five
  have hq : 0 < Q.toNat := by have := g.pQ.1; omega
  have nd : ¬ P ∣ a := fun hd => by
    have : P ∣ a ^ Q.toNat := by
      obtain ⟨k, hk⟩ : ∃ k, Q.toNat = k + 1 := ⟨Q.toNat - 1, by omega⟩
      rw [hk, Int.pow_succ]; exact Int.dvd_mul_of_dvd_right hd
    have h1 : P ∣ 1 := by
      have h := Int.dvd_sub this ha
      have e : a ^ Q.toNat - (a ^ Q.toNat - 1) = 1 := by omega
      rwa [e] at h
    have := Int.le_of_dvd (by omega) h1; omega
  subst hb
  refine ⟨g.pos_of_nd nd, Int.emod_lt_of_pos _ (by omega), ?_⟩
  rw [powm_base (cg_emod P a)]
  unfold powm
  rw [ha.emod_eq]; exact g.one
theorem Grp.mem_mul {a b : Int} (ha : Mem P Q a) (hb : Mem P Q b) : Mem P Q (a * b % P) :=
  g.mem_of_cg (a := a * b) (by rw [Int.mul_pow]; exact ha.cg.mul hb.cg) rfl
theorem Grp.mem_pow {a : Int} (ha : Mem P Q a) (x : Int) : Mem P Q (powm a x P) :=
  g.mem_of_cg (a := a ^ x.toNat) (by
    rw [← Int.pow_mul, Nat.mul_comm, Int.pow_mul]
    have := ha.cg.pow x.toNat
    rwa [Int.one_pow] at this) rfl
theorem Grp.mem_one : Mem P Q 1 := g.mem_of_cg (a := 1) (by rw [Int.one_pow]; exact Cg.refl _ _) g.one.symm
theorem Grp.mem_div {a b : Int} (ha : Mem P Q a) (hab : Mem P Q (a * b % P)) (b0 : 0 ≤ b) (b1 : b < P) : Mem P Q b := by
  refine g.mem_of_cg (a := b) ?_ (Int.emod_eq_of_lt b0 b1).symm
  have h1 := hab.cg
  have h2 : Cg P ((a * b % P) ^ Q.toNat) ((a * b) ^ Q.toNat) := (cg_emod P (a * b)).pow _
  rw [Int.mul_pow] at h2
  have h3 : Cg P (a ^ Q.toNat * b ^ Q.toNat) (1 * b ^ Q.toNat) := ha.cg.mul_right _
  rw [Int.one_mul] at h3
  exact h3.symm.trans (h2.symm.trans h1)
theorem Grp.mem_inv {a b : Int} (ha : Mem P Q a) (hab : a * b % P = 1) (b0 : 0 ≤ b) (b1 : b < P) : Mem P Q b :=
  g.mem_div ha (by rw [hab]; exact g.mem_one) b0 b1
theorem Grp.mem_sq {a : Int} (h0 : 0 < a) (h1 : a < P) : Mem P Q (powm a 2 P) := by
  refine g.mem_of_cg (a := a ^ (2 : Int).toNat) ?_ rfl
  rw [← Int.pow_mul]
  have := g.pP.fermat (g.pP.not_dvd h0 h1)
  have h2 := g.two
  have hq := g.pQ.1
  rwa [show (P - 1).toNat = (2 : Int).toNat * Q.toNat by rw [show (2 : Int).toNat = 2 from rfl]; omega] at this
/-- A member's powers depend on the exponent modulo Q alone. -/
theorem Grp.period {a x : Int} (ha : Mem P Q a) (hx : 0 ≤ x) : powm a x P = powm a (x % Q) P := by
  have hq := g.pQ.1
  have h1 : x = Q * (x / Q) + x % Q := (Int.mul_ediv_add_emod x Q).symm
  have h2 : 0 ≤ x / Q := Int.ediv_nonneg hx (by omega)
  have h3 : 0 ≤ x % Q := Int.emod_nonneg _ (by omega)
  have h4 : powm a x P = powm a (Q * (x / Q) + x % Q) P := by rw [← h1]
  rw [h4, powm_add a P (Int.mul_nonneg (by omega) h2) h3, powm_mul a P (by omega) h2, ha.2.2, powm_one_base, g.one, Int.one_mul, Int.emod_eq_of_lt (powm_nonneg (by have := g.five; omega)) (powm_lt (by have := g.five; omega))]
theorem Grp.period_cg {a x y : Int} (ha : Mem P Q a) (hx : 0 ≤ x) (hy : 0 ≤ y) (h : Cg Q x y) : powm a x P = powm a y P := by
  rw [g.period ha hx, g.period ha hy, h.emod_eq]
end

/-! ### Inverses -/
theorem bezout (a b : Nat) : ∃ x y : Int, (a : Int) * x + (b : Int) * y = (Nat.gcd a b : Nat) := by
  induction a, b using Nat.gcd.induction with
  | H0 n => exact ⟨0, 1, by simp⟩
  | H1 m n hm ih =>
    obtain ⟨x, y, h⟩ := ih
    refine ⟨y - ((n / m : Nat) : Int) * x, x, ?_⟩
    rw [Nat.gcd_rec, ← h]
    have e : (n : Int) = (m : Int) * ((n / m : Nat) : Int) + ((n % m : Nat) : Int) := by
      rw [← Int.natCast_mul, ← Int.natCast_add, Nat.div_add_mod]
    rw [Int.mul_sub]
    have e2 : (n : Int) * x = (m : Int) * (((n / m : Nat) : Int) * x) + ((n % m : Nat) : Int) * x := by
      rw [← Int.mul_assoc, ← Int.add_mul, ← e]
    omega

/-- r is the inverse of a modulo m. -/
def Inv (m a r : Int) : Prop := 0 ≤ r ∧ r < m ∧ Cg m (a * r) 1

theorem Inv.uniq {m a r s : Int} (h : Inv m a r) (k : Inv m a s) : r = s := by
  refine Cg.eq (m := m) ?_ h.1 h.2.1 k.1 k.2.1
  have h1 : Cg m (r * (a * s)) (r * 1) := k.2.2.mul_left r
  have h2 : Cg m (a * r * s) (1 * s) := h.2.2.mul_right s
  rw [Int.mul_one, show r * (a * s) = a * r * s by ac_rfl] at h1
  rw [Int.one_mul] at h2
  exact h1.symm.trans h2

theorem inv_of_gcd {m a : Int} (hm : 0 < m) (hg : Int.gcd a m = 1) : ∃ r, Inv m a r := by
  have hb := bezout a.natAbs m.natAbs
  obtain ⟨x, y, h⟩ := hb
  have hg' : Nat.gcd a.natAbs m.natAbs = 1 := hg
  rw [hg'] at h
  have hmm : (m.natAbs : Int) = m := Int.natAbs_of_nonneg (by omega)
  rw [hmm] at h
  have : ∃ z, a * z + m * y = 1 := by
    rcases Int.natAbs_eq a with e | e
    · exact ⟨x, by rw [e]; exact h⟩
    · refine ⟨-x, ?_⟩
      rw [e]
      rw [Int.neg_mul_neg]; exact h
  obtain ⟨z, hz⟩ := this
  refine ⟨z % m, Int.emod_nonneg _ (by omega), Int.emod_lt_of_pos _ hm, ?_⟩
  refine ((cg_emod m z).mul_left a).trans ⟨-y, ?_⟩
  rw [Int.mul_neg]; omega

theorem gcd_of_inv {m a r : Int} (_hm : 0 < m) (h : Inv m a r) : Int.gcd a m = 1 := by
  obtain ⟨_, _, k, hk⟩ := h
  have h1 : ((Int.gcd a m : Nat) : Int) ∣ 1 := by
    have e : (1 : Int) = a * r - m * k := by omega
    rw [e]
    exact Int.dvd_sub (Int.dvd_mul_of_dvd_left (Int.gcd_dvd_left a m)) (Int.dvd_mul_of_dvd_left (Int.gcd_dvd_right a m))
  have := Int.le_of_dvd (by omega) h1
  have h0 : Int.gcd a m ≠ 0 := fun e => by rw [e] at h1; simp at h1
  omega

theorem Pr.inv {p a : Int} (h : Pr p) (ha : ¬ p ∣ a) : ∃ r, Inv p a r :=
  inv_of_gcd (by have := h.1; omega) (by rw [Int.gcd_comm]; exact h.coprime ha)

section
variable {P Q G : Int} (g : Grp P Q G)
include g
/-- The powers of a member that is not 1 differ below Q. -/
theorem Grp.inj {a x y : Int} (ha : Mem P Q a) (ha1 : a ≠ 1) (x0 : 0 ≤ x) (x1 : x < Q) (y0 : 0 ≤ y) (y1 : y < Q) (h : powm a x P = powm a y P) : x = y := by
  have key : ∀ x y : Int, 0 ≤ x → x ≤ y → y < Q → powm a x P = powm a y P → x = y := by
    intro x y x0 hxy y1 h
    by_cases e : x = y
    · exact e
    exfalso
    have hq := g.pQ.1
    have h5 := g.five
    have h1 : Cg P (powm a x P * powm a (y - x) P) (powm a x P * 1) := by
      rw [Int.mul_one]
      have e2 : powm a (x + (y - x)) P = powm a x P * powm a (y - x) P % P := powm_add a P x0 (by omega)
      rw [show x + (y - x) = y by omega, ← h] at e2
      exact (cg_emod P _).symm.trans (Cg.of_eq e2.symm)
    have h2 := g.pP.cancel (g.nd (g.mem_pow ha x)) h1
    have h3 : powm a (y - x) P = 1 := h2.eq (powm_nonneg (by omega)) (powm_lt (by omega)) (by omega) (by omega)
    obtain ⟨r, r0, r1, hr⟩ := g.pQ.inv (a := y - x) (g.pQ.not_dvd (by omega) (by omega))
    have h4 : powm a ((y - x) * r) P = 1 := by
      rw [powm_mul a P (by omega) r0, h3, powm_one_base, g.one]
    rw [g.period_cg ha (Int.mul_nonneg (by omega) r0) (by omega) hr, powm_one (by have := ha.1; omega) ha.2.1] at h4
    exact ha1 h4
  rcases Int.le_total x y with hxy | hxy
  · exact key x y x0 hxy y1 h
  · exact (key y x y0 hxy x1 h.symm).symm

/-- The members are the powers of G. -/
theorem Grp.whole {a : Int} (ha : Mem P Q a) : ∃ x, 0 ≤ x ∧ x < Q ∧ powm G x P = a := by
  have hq := g.pQ.1
  have h5 := g.five
  have h2 := g.two
  have g1 : G ≠ 1 := by have := g.g2; omega
  by_cases hw : ∃ x, 0 ≤ x ∧ x < Q ∧ powm G x P = a
  · exact hw
  exfalso
  let n := Q.toNat
  have hn : ((n : Nat) : Int) = Q := Int.toNat_of_nonneg (by omega)
  let l1 := (List.range n).map fun i : Nat => powm G (i : Int) P
  let l2 := (List.range n).map fun i : Nat => powm G (i : Int) P * a % P
  have nd1 : l1.Nodup := nodup_map_range n _ fun i j hi hj e => by
    have := g.inj g.mem_g g1 (x := (i : Int)) (y := (j : Int)) (by omega) (by omega) (by omega) (by omega) e; omega
  have nd2 : l2.Nodup := nodup_map_range n _ fun i j hi hj e => by
    have e1 : Cg P (a * powm G (i : Int) P) (a * powm G (j : Int) P) := by
      rw [Int.mul_comm a, Int.mul_comm a]; exact cg_of_emod e
    have e2 := (g.pP.cancel (g.nd ha) e1).eq (powm_nonneg (by omega)) (powm_lt (by omega)) (powm_nonneg (by omega)) (powm_lt (by omega))
    have := g.inj g.mem_g g1 (x := (i : Int)) (y := (j : Int)) (by omega) (by omega) (by omega) (by omega) e2; omega
  have m1 : ∀ x, x ∈ l1 → Mem P Q x := fun x hx => by
    obtain ⟨i, _, rfl⟩ := List.mem_map.1 hx; exact g.mem_pow g.mem_g _
  have m2 : ∀ x, x ∈ l2 → Mem P Q x := fun x hx => by
    obtain ⟨i, _, rfl⟩ := List.mem_map.1 hx; exact g.mem_mul (g.mem_pow g.mem_g _) ha
  have dis : ∀ x, x ∈ l1 → x ∉ l2 := by
    intro x hx hx'
    obtain ⟨i, hi, rfl⟩ := List.mem_map.1 hx
    obtain ⟨j, hj, e⟩ := List.mem_map.1 hx'
    have hi' : i < n := by simpa using hi
    have hj' : j < n := by simpa using hj
    -- a = G^(i - j)
    apply hw
    refine ⟨((i : Int) - (j : Int)) % Q, Int.emod_nonneg _ (by omega), Int.emod_lt_of_pos _ (by omega), ?_⟩
    have e3 : Cg P (powm G (j : Int) P * powm G (((i : Int) - (j : Int)) % Q) P) (powm G (j : Int) P * a) := by
      have e4 : powm G ((j : Int) + ((i : Int) - (j : Int)) % Q) P = powm G (i : Int) P :=
        g.period_cg g.mem_g (by have := Int.emod_nonneg ((i : Int) - (j : Int)) (show Q ≠ 0 by omega); omega) (by omega) (by
          have := (Cg.refl Q (j : Int)).add (cg_emod Q ((i : Int) - (j : Int)))
          rwa [show (j : Int) + ((i : Int) - (j : Int)) = i by omega] at this)
      rw [powm_add G P (by omega) (Int.emod_nonneg _ (by omega))] at e4
      exact (cg_emod P _).symm.trans ((Cg.of_eq (e4.trans e.symm)).trans (cg_emod P _))
    exact (g.pP.cancel (g.nd (g.mem_pow g.mem_g _)) e3).eq (powm_nonneg (by omega)) (powm_lt (by omega)) (by have := ha.1; omega) ha.2.1
  have nd : (l1 ++ l2).Nodup := List.nodup_append.2 ⟨nd1, nd2, fun x hx y hy e => dis x hx (e ▸ hy)⟩
  have hall := subset_of_length (l := l1 ++ l2) (m := upto (2 * n)) nd (fun x hx => by
    have hm : Mem P Q x := (List.mem_append.1 hx).elim (m1 x) (m2 x)
    exact mem_upto.2 ⟨by have := hm.1; omega, by have := hm.2.1; omega⟩) (by simp [upto, l1, l2]; omega)
  have hmem : ∀ x, 1 ≤ x → x < P → Mem P Q x := fun x h1 hP => by
    have hx := hall x (mem_upto.2 ⟨h1, by omega⟩)
    exact (List.mem_append.1 hx).elim (m1 x) (m2 x)
  -- P - 1 is a member: Q is even
  have hlast := (hmem (P - 1) (by omega) (by omega)).2.2
  rw [powm_base (b := -1) ⟨1, by omega⟩] at hlast
  have odd : ∀ k : Nat, (-1 : Int) ^ (2 * k + 1) = -1 := fun k => by
    rw [Int.pow_succ, Int.pow_mul, show (-1 : Int) ^ 2 = 1 from rfl, Int.one_pow]; rfl
  by_cases ho : Q % 2 = 1
  · unfold powm at hlast
    rw [show Q.toNat = 2 * (Q.toNat / 2) + 1 by omega, odd] at hlast
    have : Cg P (-1) 1 := (cg_emod P (-1)).symm.trans (Cg.of_eq hlast)
    obtain ⟨k, hk⟩ := this
    have : P ∣ 2 := ⟨-k, by rw [Int.mul_neg]; omega⟩
    have := Int.le_of_dvd (by omega) this
    omega
  · have hQ2 : Q = 2 := by
      rcases g.pQ.div (d := 2) (Int.dvd_of_emod_eq_zero (by omega)) (by omega) with e | e
      · omega
      · exact e.symm
    have := (hmem 2 (by omega) (by omega)).2.2
    rw [h2, hQ2] at this
    revert this; decide
end

theorem mul_bound {a b : Int} (a0 : 0 ≤ a) (a1 : a < 2147483648) (b0 : 0 ≤ b) (b1 : b < 2147483648) : 0 ≤ a * b ∧ a * b < 4611686018427387904 := by
  refine ⟨Int.mul_nonneg a0 b0, ?_⟩
  have h1 : a * b ≤ 2147483647 * b := Int.mul_le_mul_of_nonneg_right (by omega) b0
  omega

theorem powm_odd {o a x m : Int} (h0 : 0 ≤ x) (h : x % 2 = 1) : (o * a % m) * powm (a * a % m) (x / 2) m % m = o * powm a x m % m := by
  apply Cg.emod_eq
  refine ((cg_emod m (o * a)).mul ((powm_cg _ _ _).trans ((cg_emod m (a * a)).pow _))).trans ?_
  refine Cg.trans (Cg.of_eq ?_) ((powm_cg a x m).symm.mul_left o)
  rw [show x.toNat = 2 * (x / 2).toNat + 1 by omega, Int.pow_succ, Int.pow_mul, show a ^ 2 = a * a by rw [Int.pow_succ, Int.pow_succ, Int.pow_zero, Int.one_mul]]
  ac_rfl

theorem powm_even {o a x m : Int} (h0 : 0 ≤ x) (h : x % 2 = 0) : o * powm (a * a % m) (x / 2) m % m = o * powm a x m % m := by
  apply Cg.emod_eq
  refine (Cg.mul_left o ((powm_cg _ _ _).trans ((cg_emod m (a * a)).pow _))).trans ?_
  refine Cg.trans (Cg.of_eq ?_) ((powm_cg a x m).symm.mul_left o)
  rw [show x.toNat = 2 * (x / 2).toNat by omega, Int.pow_mul, show a ^ 2 = a * a by rw [Int.pow_succ, Int.pow_succ, Int.pow_zero, Int.one_mul]]

/-- Trial division by all numbers below d, of which none divides n. -/
def Tried (n d : Int) : Prop := ∀ e : Int, 2 ≤ e → e < d → ¬ e ∣ n
theorem Tried.pr {n d : Int} (h : Tried n d) (h2 : 2 ≤ n) (d0 : 0 ≤ d) (hd : n < d * d) : Pr n := by
  refine ⟨h2, fun e e2 ee hdv => ?_⟩
  by_cases hed : e < d
  · exact h e e2 hed hdv
  · have : d * d ≤ e * e := Int.mul_le_mul (by omega) (by omega) d0 (by omega)
    omega
theorem Pr.tried {n d : Int} (h : Pr n) (h1 : d ≤ n) : Tried n d := fun e e2 ed hdv => by
  rcases h.div hdv (by omega) with e1 | e1 <;> omega
theorem tried_three {n : Int} (h : n % 2 ≠ 0) : Tried n 3 := fun e e2 e3 hd => by
  obtain rfl : e = 2 := by omega
  exact h (Int.emod_eq_zero_of_dvd hd)
theorem Tried.next {n d : Int} (h : Tried n d) (hd : n % d ≠ 0) : Tried n (d + 1) := fun e e2 e3 hdv => by
  by_cases he : e = d
  · subst he; exact hd (Int.emod_eq_zero_of_dvd hdv)
  · exact h e e2 (by omega) hdv
theorem Tried.next2 {n d : Int} (h : Tried n d) (hd : n % d ≠ 0) (ho : d % 2 = 1) (hn : n % 2 ≠ 0) : Tried n (d + 2) := fun e e2 e3 hdv => by
  by_cases he : e = d + 1
  · subst he
    apply hn
    obtain ⟨k, rfl⟩ := hdv
    rw [Int.mul_emod, show (d + 1) % 2 = 0 by omega]; simp
  · exact h.next hd e e2 (by omega) hdv
theorem not_pr_of_dvd {n d : Int} (h2 : 2 ≤ d) (h : n % d = 0) (hd : d * d ≤ n) : ¬ Pr n := fun hp => hp.2 d h2 hd (Int.dvd_of_emod_eq_zero h)
theorem pr_small {n : Int} (h : n < 4) : Pr n ↔ 1 < n := by
  refine ⟨fun hp => by have := hp.1; omega, fun h1 => ⟨by omega, fun d d2 dd => ?_⟩⟩
  have : 2 * 2 ≤ d * d := Int.mul_le_mul d2 d2 (by omega) (by omega)
  omega
theorem not_pr_even {n : Int} (h : 4 ≤ n) (he : n % 2 = 0) : ¬ Pr n := not_pr_of_dvd (d := 2) (by omega) he (by omega)

/-! ### Euclid's algorithm -/
/-- What holds of Euclid's algorithm in each round. -/
structure EInv (m a r s x y : Int) : Prop where
  r1 : 1 ≤ r
  rm : r ≤ m
  s0 : 0 ≤ s
  sr : s < r
  g : Int.gcd r s = Int.gcd m a
  cr : Cg m (x * a) r
  cs : Cg m (y * a) s
  xl : -m ≤ x
  xu : x ≤ m
  bd : (x ≤ 0 ∧ 0 ≤ y ∧ y * r - x * s = m) ∨ (0 ≤ x ∧ y ≤ 0 ∧ x * s - y * r = m)

theorem EInv.start {m a : Int} (hm : 1 ≤ m) (a0 : 0 ≤ a) (am : a < m) : EInv m a m a 0 1 :=
  ⟨hm, Int.le_refl _, a0, am, rfl, by rw [Int.zero_mul]; exact (cg_self m).symm, by rw [Int.one_mul]; exact Cg.refl _ _, by omega, by omega, .inl ⟨by omega, by omega, by omega⟩⟩

theorem EInv.y_bound {m a r s x y : Int} (h : EInv m a r s x y) : -m ≤ y ∧ y ≤ m := by
  rcases h.bd with ⟨h1, h2, h3⟩ | ⟨h1, h2, h3⟩
  · have e1 : y * 1 ≤ y * r := Int.mul_le_mul_of_nonneg_left h.r1 h2
    have e2 : x * s ≤ 0 := Int.mul_nonpos_of_nonpos_of_nonneg h1 h.s0
    omega
  · have e1 : y * r ≤ y * 1 := Int.mul_le_mul_of_nonpos_left h2 h.r1
    have e2 : 0 ≤ x * s := Int.mul_nonneg h1 h.s0
    omega

theorem gcd_step (r s q : Int) : Int.gcd s (r - q * s) = Int.gcd r s := by
  apply Nat.dvd_antisymm
  · apply Int.dvd_gcd
    · have h1 := Int.gcd_dvd_left s (r - q * s)
      have h2 := Int.gcd_dvd_right s (r - q * s)
      have := Int.dvd_add h2 (Int.dvd_mul_of_dvd_right (b := q) h1)
      rwa [Int.sub_add_cancel] at this
    · exact Int.gcd_dvd_left _ _
  · apply Int.dvd_gcd
    · exact Int.gcd_dvd_right _ _
    · exact Int.dvd_sub (Int.gcd_dvd_left _ _) (Int.dvd_mul_of_dvd_right (Int.gcd_dvd_right _ _))

theorem EInv.step {m a r s x y : Int} (h : EInv m a r s x y) (hs : 0 < s) : EInv m a s (r - r / s * s) y (x - r / s * y) := by
  have hq : 0 ≤ r / s := Int.ediv_nonneg (by have := h.r1; omega) (by omega)
  have e : r - r / s * s = r % s := by
    have := Int.ediv_mul_add_emod r s; omega
  obtain ⟨yl, yu⟩ := h.y_bound
  refine ⟨by omega, by have := h.rm; have := h.sr; omega, by rw [e]; exact Int.emod_nonneg _ (by omega), by rw [e]; exact Int.emod_lt_of_pos _ hs, ?_, h.cs, ?_, yl, yu, ?_⟩
  · rw [gcd_step]; exact h.g
  · rw [Int.sub_mul, Int.mul_assoc]
    exact h.cr.sub (h.cs.mul_left _)
  · rcases h.bd with ⟨h1, h2, h3⟩ | ⟨h1, h2, h3⟩
    · right
      refine ⟨h2, ?_, ?_⟩
      · have := Int.mul_nonneg hq h2; omega
      · rw [Int.mul_sub, Int.sub_mul, show y * (r / s * s) = r / s * y * s by ac_rfl]; omega
    · left
      refine ⟨h2, ?_, ?_⟩
      · have := Int.mul_nonpos_of_nonneg_of_nonpos hq h2; omega
      · rw [Int.mul_sub, Int.sub_mul, show y * (r / s * s) = r / s * y * s by ac_rfl]; omega

theorem EInv.q_bound {m a r s x y : Int} (h : EInv m a r s x y) (hs : 0 < s) : 0 ≤ r / s * s ∧ r / s * s ≤ r ∧ -(2 * m) ≤ r / s * y ∧ r / s * y ≤ 2 * m := by
  have h' := h.step hs
  have := h'.y_bound
  have := h.xl
  have := h.xu
  have hq : 0 ≤ r / s := Int.ediv_nonneg (by have := h.r1; omega) (by omega)
  have := Int.mul_nonneg hq (show 0 ≤ s by omega)
  have := h'.s0
  refine ⟨by omega, by omega, by omega, by omega⟩

/-- What an inversion gives: the inverse, or none. -/
def InvS (m a : Int) (ok : Bool) (r : Int) : Prop := (ok = true ∧ Inv m a r) ∨ (ok = false ∧ r = 0 ∧ Int.gcd a m ≠ 1)

theorem EInv.done {m a r x y : Int} (h : EInv m a r 0 x y) : Int.gcd a m = r.toNat := by
  rw [Int.gcd_comm, ← h.g, Int.gcd_zero_right]
  have := h.r1; omega
theorem EInv.inv {m a x y : Int} (h : EInv m a 1 0 x y) : Inv m a ((x + m) % m) := by
  have hm := h.rm
  refine ⟨Int.emod_nonneg _ (by omega), Int.emod_lt_of_pos _ (by omega), ?_⟩
  refine ((cg_emod m (x + m)).mul_left a).trans ?_
  rw [Int.mul_add, Int.mul_comm a x, Int.mul_comm a m]
  refine Cg.trans ⟨a, by omega⟩ h.cr

theorem InvS.exists (m a : Int) (hm : 0 < m) : ∃ ok r, InvS m a ok r := by
  by_cases h : Int.gcd a m = 1
  · obtain ⟨r, hr⟩ := inv_of_gcd hm h
    exact ⟨true, r, .inl ⟨rfl, hr⟩⟩
  · exact ⟨false, 0, .inr ⟨rfl, rfl, h⟩⟩
theorem InvS.eq {m a : Int} (hm : 0 < m) {ok ok' : Bool} {r r' : Int} (h : InvS m a ok r) (h' : InvS m a ok' r') : ok = ok' ∧ r = r' := by
  rcases h with ⟨h1, h2⟩ | ⟨h1, h2, h3⟩ <;> rcases h' with ⟨k1, k2⟩ | ⟨k1, k2, k3⟩
  · exact ⟨by rw [h1, k1], h2.uniq k2⟩
  · exact absurd (gcd_of_inv hm h2) k3
  · exact absurd (gcd_of_inv hm k2) h3
  · exact ⟨by rw [h1, k1], by rw [h2, k2]⟩

/-- What the recursive form of Euclid's algorithm gives. -/
structure TurnS (a b x y d : Int) : Prop where
  g : d = Int.gcd a b
  e : a * x + b * y = d
  z : b = 0 → x = 1 ∧ y = 0
  xb : 1 ≤ b → -b ≤ x ∧ x ≤ b
  yb : (-a ≤ y ∧ y ≤ a) ∨ y = 1

theorem TurnS.base {a : Int} (h : 0 ≤ a) : TurnS a 0 1 0 a :=
  ⟨by rw [Int.gcd_zero_right]; omega, by omega, fun _ => ⟨rfl, rfl⟩, fun h => by omega, .inl ⟨by omega, by omega⟩⟩

theorem TurnS.step {a b x y d : Int} (ha : 0 ≤ a) (hb : 0 < b) (h : TurnS b (a % b) x y d) : TurnS a b y (x - a / b * y) d := by
  have hr0 : 0 ≤ a % b := Int.emod_nonneg _ (by omega)
  have hq : 0 ≤ a / b := Int.ediv_nonneg ha (by omega)
  have hdm := Int.ediv_mul_add_emod a b
  refine ⟨?_, ?_, fun h0 => by omega, ?_, ?_⟩
  · rw [h.g]
    have := gcd_step a b (a / b)
    rw [show a - a / b * b = a % b by omega] at this
    rw [this]
  · have he := h.e
    rw [Int.mul_sub]
    have e1 : a * y = a / b * b * y + a % b * y := by rw [← Int.add_mul, hdm]
    have e2 : b * (a / b * y) = a / b * b * y := by ac_rfl
    omega
  · intro _
    by_cases hz : a % b = 0
    · have := h.z hz; omega
    · rcases h.yb with h1 | h1 <;> omega
  · by_cases hz : a % b = 0
    · have := h.z hz
      right
      rw [this.1, this.2]; omega
    · left
      have hx := h.xb (by omega)
      rcases h.yb with h1 | h1
      · have e1 : a / b * y ≤ a / b * b := Int.mul_le_mul_of_nonneg_left h1.2 hq
        have e2 : a / b * (-b) ≤ a / b * y := Int.mul_le_mul_of_nonneg_left h1.1 hq
        rw [Int.mul_neg] at e2
        omega
      · rw [h1, Int.mul_one]
        have e1 : a / b * 1 ≤ a / b * b := Int.mul_le_mul_of_nonneg_left (by omega) hq
        rw [Int.mul_one] at e1
        omega

theorem TurnS.q_bound {a b x y d : Int} (ha : 0 ≤ a) (hb : 0 < b) (h : TurnS b (a % b) x y d) : -(a + b + 1) ≤ a / b * y ∧ a / b * y ≤ a + b + 1 ∧ -(a + b + 1) ≤ x ∧ x ≤ a + b + 1 ∧ -(b + 1) ≤ y ∧ y ≤ b + 1 := by
  have h' := h.step ha hb
  have hr0 : 0 ≤ a % b := Int.emod_nonneg _ (by omega)
  have hr1 : a % b < b := Int.emod_lt_of_pos _ hb
  have hx : -b ≤ x ∧ x ≤ b := by
    by_cases hz : a % b = 0
    · have := h.z hz; omega
    · have := h.xb (by omega); omega
  have hy : -b ≤ y ∧ y ≤ b := by rcases h.yb with h1 | h1 <;> omega
  have hq : 0 ≤ a / b := Int.ediv_nonneg ha (by omega)
  have hdm := Int.ediv_mul_add_emod a b
  have e1 : a / b * y ≤ a / b * b := Int.mul_le_mul_of_nonneg_left hy.2 hq
  have e2 : a / b * (-b) ≤ a / b * y := Int.mul_le_mul_of_nonneg_left hy.1 hq
  rw [Int.mul_neg] at e2
  refine ⟨by omega, by omega, by omega, by omega, by omega, by omega⟩

theorem TurnS.inv {a m x y : Int} (_h0 : 0 ≤ a) (hm : 2 ≤ m) (h : TurnS a m x y 1) : -m < x ∧ x < m ∧ Inv m a (x % m) := by
  have hb := h.xb (by omega)
  have hc : Cg m (a * x) 1 := ⟨-y, by rw [Int.mul_neg]; have := h.e; omega⟩
  have hne : ∀ t, x = m * t → False := fun t e => by
    have h1 : m ∣ 1 := by
      have h2 : m ∣ a * x := by rw [e]; exact Int.dvd_mul_of_dvd_right (Int.dvd_mul_right _ _)
      have h3 := Int.dvd_sub h2 hc
      rwa [show a * x - (a * x - 1) = 1 by omega] at h3
    have := Int.le_of_dvd (by omega) h1
    omega
  refine ⟨?_, ?_, Int.emod_nonneg _ (by omega), Int.emod_lt_of_pos _ (by omega), ((cg_emod m x).mul_left a).trans hc⟩
  · rcases Int.lt_or_eq_of_le hb.1 with h1 | h1
    · exact h1
    · exact (hne (-1) (by omega)).elim
  · rcases Int.lt_or_eq_of_le hb.2 with h1 | h1
    · exact h1
    · exact (hne 1 (by omega)).elim

/-! ### Logarithms -/
/-- What Log gives. -/
def LogS (P G a most n e : Int) : Prop :=
  (0 ≤ n ∧ n ≤ most ∧ powm G n P = a ∧ (∀ y, 0 ≤ y → y < n → powm G y P ≠ a) ∧ e = 0) ∨ ((∀ y, 0 ≤ y → y ≤ most → powm G y P ≠ a) ∧ n = 0 ∧ e = 6)

theorem LogS.eq {P G a most n e n' e' : Int} (h : LogS P G a most n e) (h' : LogS P G a most n' e') : n = n' ∧ e = e' := by
  rcases h with ⟨h1, h2, h3, h4, h5⟩ | ⟨h1, h2, h3⟩ <;> rcases h' with ⟨k1, k2, k3, k4, k5⟩ | ⟨k1, k2, k3⟩
  · refine ⟨?_, by omega⟩
    rcases Int.lt_trichotomy n n' with hl | hl | hl
    · exact absurd h3 (k4 n h1 hl)
    · exact hl
    · exact absurd k3 (h4 n' k1 hl)
  · exact absurd h3 (k1 n h1 h2)
  · exact absurd k3 (h1 n' k1 k2)
  · exact ⟨by omega, by omega⟩

theorem LogS.exists (P G a most : Int) : ∃ n e, LogS P G a most n e := by
  by_cases h : ∃ k : Nat, (k : Int) ≤ most ∧ powm G k P = a
  · have key : ∀ k : Nat, (k : Int) ≤ most → powm G k P = a → ∃ n e, LogS P G a most n e := by
      intro k
      induction k using Nat.strongRecOn with
      | _ k ih =>
        intro h1 h2
        by_cases hm : ∃ j : Nat, j < k ∧ powm G j P = a
        · obtain ⟨j, hj, hp⟩ := hm
          exact ih j hj (by omega) hp
        · refine ⟨k, 0, .inl ⟨by omega, h1, h2, fun y y0 y1 hy => hm ⟨y.toNat, by omega, ?_⟩, rfl⟩⟩
          rw [Int.toNat_of_nonneg y0]; exact hy
    obtain ⟨k, h1, h2⟩ := h
    exact key k h1 h2
  · refine ⟨0, 6, .inr ⟨fun y y0 y1 hy => h ⟨y.toNat, by omega, ?_⟩, rfl, rfl⟩⟩
    rw [Int.toNat_of_nonneg y0]; exact hy

theorem powm_succ {G P x : Int} (hx : 0 ≤ x) (_h0 : 0 ≤ G) : powm G x P * G % P = powm G (x + 1) P := by
  rw [powm_add G P hx (by omega)]
  apply Cg.emod_eq
  refine Cg.mul_left _ ?_
  refine Cg.symm ((powm_cg G 1 P).trans (Cg.of_eq ?_))
  rw [show (1 : Int).toNat = 1 from rfl, Int.pow_succ, Int.pow_zero, Int.one_mul]

end Go.Proofs.YtlbldpkgnonbpaaDoor.Num
