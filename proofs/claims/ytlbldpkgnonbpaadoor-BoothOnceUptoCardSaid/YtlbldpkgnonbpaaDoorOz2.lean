/- SHA-256 over natural numbers, for reckoning; that it is the same. -/
import Derived.Test.YtlbldpkgnonbpaaDoorOzC
set_option linter.unusedSimpArgs false
set_option linter.unusedVariables false
set_option maxRecDepth 100000
namespace Go.Proofs.YtlbldpkgnonbpaaDoor.Fast
open Go Go.Proofs.YtlbldpkgnonbpaaDoor.Sha
def md (x : Nat) : Nat := x % 4294967296
def rotN (a n : Nat) : Nat := Nat.lor (Nat.shiftRight a n) (Nat.shiftLeft a (32 - n) % 4294967296)
def sig0 (x : Nat) : Nat := Nat.xor (Nat.xor (rotN x 7) (rotN x 18)) (Nat.shiftRight x 3)
def sig1 (x : Nat) : Nat := Nat.xor (Nat.xor (rotN x 17) (rotN x 19)) (Nat.shiftRight x 10)
def big1 (e : Nat) : Nat := Nat.xor (Nat.xor (rotN e 6) (rotN e 11)) (rotN e 25)
def big0 (a : Nat) : Nat := Nat.xor (Nat.xor (rotN a 2) (rotN a 13)) (rotN a 22)
def ch (e f g : Nat) : Nat := Nat.xor g (Nat.land e (Nat.xor f g))
def mj (a b c : Nat) : Nat := Nat.lor (Nat.land a (Nat.lor b c)) (Nat.land b c)
theorem B_nat {a : Nat} (h : a < 4294967296) : (B (a : Int)).toNat = a := by
 unfold B; rw [BitVec.ofInt_natCast, BitVec.toNat_ofNat]; exact Nat.mod_eq_of_lt (by simpa using h)
theorem xor_nat {a b : Nat} (ha : a < 4294967296) (hb : b < 4294967296) : bits .xor .u32 (a : Int) (b : Int) = ((Nat.xor a b : Nat) : Int) := by
 rw [xorB, BitVec.toNat_xor, B_nat ha, B_nat hb]; rfl
theorem and_nat {a b : Nat} (ha : a < 4294967296) (hb : b < 4294967296) : bits .and .u32 (a : Int) (b : Int) = ((Nat.land a b : Nat) : Int) := by
 rw [andB, BitVec.toNat_and, B_nat ha, B_nat hb]; rfl
theorem or_nat {a b : Nat} (ha : a < 4294967296) (hb : b < 4294967296) : bits .or .u32 (a : Int) (b : Int) = ((Nat.lor a b : Nat) : Int) := by
 rw [orB, BitVec.toNat_or, B_nat ha, B_nat hb]; rfl
theorem xor_lt {a b : Nat} (ha : a < 4294967296) (hb : b < 4294967296) : Nat.xor a b < 4294967296 := Nat.xor_lt_two_pow (n := 32) ha hb
theorem and_lt {a b : Nat} (ha : a < 4294967296) : Nat.land a b < 4294967296 := Nat.lt_of_le_of_lt Nat.and_le_left ha
theorem or_lt {a b : Nat} (ha : a < 4294967296) (hb : b < 4294967296) : Nat.lor a b < 4294967296 := Nat.or_lt_two_pow (n := 32) ha hb
theorem md_lt (x : Nat) : md x < 4294967296 := Nat.mod_lt _ (by decide)
theorem M_nat (x : Nat) : M (x : Int) = ((md x : Nat) : Int) := by unfold M md; omega
theorem shr_lt {a n : Nat} (h : a < 4294967296) : Nat.shiftRight a n < 4294967296 := by
 show a >>> n < _
 rw [Nat.shiftRight_eq_div_pow]; exact Nat.lt_of_le_of_lt (Nat.div_le_self _ _) h
theorem shr_nat (a n : Nat) : (a : Int) / 2 ^ n = ((Nat.shiftRight a n : Nat) : Int) := by
 show _ = ((a >>> n : Nat) : Int)
 rw [Nat.shiftRight_eq_div_pow]; push_cast; rfl
theorem rot_nat {a : Nat} (h : a < 4294967296) (n : Nat) : rot (a : Int) n = ((rotN a n : Nat) : Int) := by
 unfold rot rotN
 have e : M ((a : Int) * 2 ^ (32 - n)) = ((Nat.shiftLeft a (32 - n) % 4294967296 : Nat) : Int) := by
  have : ((a : Int) * 2 ^ (32 - n)) = ((a <<< (32 - n) : Nat) : Int) := by rw [Nat.shiftLeft_eq]; push_cast; rfl
  rw [this, M_nat]; rfl
 rw [shr_nat, e, or_nat (shr_lt h) (Nat.mod_lt _ (by decide))]
theorem rot_lt {a : Nat} (h : a < 4294967296) (n : Nat) : rotN a n < 4294967296 := or_lt (shr_lt h) (Nat.mod_lt _ (by decide))
theorem sig0_nat {a : Nat} (h : a < 4294967296) : Sha.sig0 (a : Int) = ((sig0 a : Nat) : Int) := by
 unfold Sha.sig0 sig0
 rw [rot_nat h, rot_nat h, show (8 : Int) = 2 ^ 3 from rfl, shr_nat, xor_nat (rot_lt h _) (rot_lt h _), xor_nat (xor_lt (rot_lt h _) (rot_lt h _)) (shr_lt h)]
theorem sig1_nat {a : Nat} (h : a < 4294967296) : Sha.sig1 (a : Int) = ((sig1 a : Nat) : Int) := by
 unfold Sha.sig1 sig1
 rw [rot_nat h, rot_nat h, show (1024 : Int) = 2 ^ 10 from rfl, shr_nat, xor_nat (rot_lt h _) (rot_lt h _), xor_nat (xor_lt (rot_lt h _) (rot_lt h _)) (shr_lt h)]
theorem big1_nat {a : Nat} (h : a < 4294967296) : Sha.big1 (a : Int) = ((big1 a : Nat) : Int) := by
 unfold Sha.big1 big1
 rw [rot_nat h, rot_nat h, rot_nat h, xor_nat (rot_lt h _) (rot_lt h _), xor_nat (xor_lt (rot_lt h _) (rot_lt h _)) (rot_lt h _)]
theorem big0_nat {a : Nat} (h : a < 4294967296) : Sha.big0 (a : Int) = ((big0 a : Nat) : Int) := by
 unfold Sha.big0 big0
 rw [rot_nat h, rot_nat h, rot_nat h, xor_nat (rot_lt h _) (rot_lt h _), xor_nat (xor_lt (rot_lt h _) (rot_lt h _)) (rot_lt h _)]
theorem ch_nat {e f g : Nat} (he : e < 4294967296) (hf : f < 4294967296) (hg : g < 4294967296) : Sha.ch (e : Int) f g = ((ch e f g : Nat) : Int) := by
 unfold Sha.ch ch
 rw [xor_nat hf hg, and_nat he (xor_lt hf hg), xor_nat hg (and_lt he)]
theorem mj_nat {e f g : Nat} (he : e < 4294967296) (hf : f < 4294967296) (hg : g < 4294967296) : Sha.mj (e : Int) f g = ((mj e f g : Nat) : Int) := by
 unfold Sha.mj mj
 rw [or_nat hf hg, and_nat he (or_lt hf hg), and_nat hf hg, or_nat (and_lt he) (and_lt hf)]
/-! ### The schedule -/
def nextW : List Nat → Nat
  | _ :: w2 :: _ :: _ :: _ :: _ :: w7 :: _ :: _ :: _ :: _ :: _ :: _ :: _ :: w15 :: w16 :: _ => md (w16 + sig0 w15 + w7 + sig1 w2)
  | _ => 0
def sched : Nat → List Nat → List Nat
  | 0, l => l
  | n + 1, l => sched n (nextW l :: l)
def word1 (p : List Nat) (o : Nat) : Nat := p.getD o 0 * 16777216 + p.getD (o + 1) 0 * 65536 + p.getD (o + 2) 0 * 256 + p.getD (o + 3) 0
def W (p : List Nat) (o t : Nat) : Nat := (ws (p.map (Nat.cast : Nat → Int)) o t).toNat
theorem getD_cast (p : List Nat) (i : Nat) : (p.map (Nat.cast : Nat → Int)).getD i 0 = ((p.getD i 0 : Nat) : Int) := by
 simp only [List.getD_eq_getElem?_getD, List.getElem?_map]
 cases p[i]? <;> simp
theorem word1_nat (p : List Nat) (o : Nat) : wordAt (p.map (Nat.cast : Nat → Int)) o = ((word1 p o : Nat) : Int) := by
 unfold wordAt word1
 rw [getD_cast, getD_cast, getD_cast, getD_cast]
 omega
theorem getD_lt {p : List Nat} (hp : ∀ x, x ∈ p → x < 256) (i : Nat) : p.getD i 0 < 256 := by
 by_cases h : i < p.length
 · rw [List.getD_eq_getElem?_getD, List.getElem?_eq_getElem h]; exact hp _ (List.getElem_mem h)
 · rw [List.getD_eq_getElem?_getD, List.getElem?_eq_none (by omega)]; simp
theorem word1_lt {p : List Nat} (hp : ∀ x, x ∈ p → x < 256) (o : Nat) : word1 p o < 4294967296 := by
 have h0 := getD_lt hp o
 have h1 := getD_lt hp (o + 1)
 have h2 := getD_lt hp (o + 2)
 have h3 := getD_lt hp (o + 3)
 unfold word1; omega
theorem W_spec {p : List Nat} (hp : ∀ x, x ∈ p → x < 256) (o : Nat) : ∀ t, ws (p.map (Nat.cast : Nat → Int)) o t = ((W p o t : Nat) : Int) ∧ W p o t < 4294967296 := by
 intro t
 unfold W
 by_cases h : t < 16
 · rw [ws_lo _ _ _ h, word1_nat]
   rw [Int.toNat_natCast]
   exact ⟨rfl, word1_lt hp _⟩
 · rw [ws_hi _ _ _ h]
   have := M_u (ws (p.map (Nat.cast : Nat → Int)) o (t - 16) + Sha.sig0 (ws (p.map (Nat.cast : Nat → Int)) o (t - 15)) + ws (p.map (Nat.cast : Nat → Int)) o (t - 7) + Sha.sig1 (ws (p.map (Nat.cast : Nat → Int)) o (t - 2)))
   have h1 := this.1
   have h2 := this.2
   exact ⟨by omega, by omega⟩
theorem W_hi {p : List Nat} (hp : ∀ x, x ∈ p → x < 256) (o n : Nat) : W p o (n + 16) = md (W p o n + sig0 (W p o (n + 1)) + W p o (n + 9) + sig1 (W p o (n + 14))) := by
 have e := (W_spec hp o (n + 16)).1
 rw [ws_hi _ _ _ (by omega), show n + 16 - 16 = n by omega, show n + 16 - 15 = n + 1 by omega, show n + 16 - 7 = n + 9 by omega, show n + 16 - 2 = n + 14 by omega] at e
 rw [(W_spec hp o n).1, (W_spec hp o (n + 1)).1, (W_spec hp o (n + 9)).1, (W_spec hp o (n + 14)).1, sig0_nat (W_spec hp o (n + 1)).2, sig1_nat (W_spec hp o (n + 14)).2] at e
 have e2 : M ((W p o n : Int) + (sig0 (W p o (n + 1)) : Nat) + (W p o (n + 9) : Nat) + (sig1 (W p o (n + 14)) : Nat)) = ((md (W p o n + sig0 (W p o (n + 1)) + W p o (n + 9) + sig1 (W p o (n + 14))) : Nat) : Int) := by
  rw [← M_nat]; push_cast; rfl
 rw [e2] at e
 exact (Int.ofNat.inj e).symm
def Wl (p : List Nat) (o n : Nat) : List Nat := ((List.range n).map (W p o)).reverse
theorem Wl_succ (p : List Nat) (o n : Nat) : Wl p o (n + 1) = W p o n :: Wl p o n := by simp [Wl, List.range_succ]
theorem nextW_Wl {p : List Nat} (hp : ∀ x, x ∈ p → x < 256) (o n : Nat) : nextW (Wl p o (n + 16)) = W p o (n + 16) := by
 rw [W_hi hp]
 simp only [Wl_succ, show n + 16 = n + 15 + 1 from rfl, show n + 15 = n + 14 + 1 from rfl, show n + 14 = n + 13 + 1 from rfl, show n + 13 = n + 12 + 1 from rfl, show n + 12 = n + 11 + 1 from rfl, show n + 11 = n + 10 + 1 from rfl, show n + 10 = n + 9 + 1 from rfl, show n + 9 = n + 8 + 1 from rfl, show n + 8 = n + 7 + 1 from rfl, show n + 7 = n + 6 + 1 from rfl, show n + 6 = n + 5 + 1 from rfl, show n + 5 = n + 4 + 1 from rfl, show n + 4 = n + 3 + 1 from rfl, show n + 3 = n + 2 + 1 from rfl, show n + 2 = n + 1 + 1 from rfl, nextW]
theorem sched_Wl {p : List Nat} (hp : ∀ x, x ∈ p → x < 256) (o : Nat) : ∀ (t n : Nat), sched t (Wl p o (n + 16)) = Wl p o (n + t + 16)
  | 0, n => rfl
  | t + 1, n => by
   rw [sched, nextW_Wl hp, ← Wl_succ, show n + 16 + 1 = (n + 1) + 16 by omega, sched_Wl hp o t (n + 1), show n + 1 + t + 16 = n + (t + 1) + 16 by omega]
def first16 (p : List Nat) (o : Nat) : List Nat := [word1 p (o + 60), word1 p (o + 56), word1 p (o + 52), word1 p (o + 48), word1 p (o + 44), word1 p (o + 40), word1 p (o + 36), word1 p (o + 32), word1 p (o + 28), word1 p (o + 24), word1 p (o + 20), word1 p (o + 16), word1 p (o + 12), word1 p (o + 8), word1 p (o + 4), word1 p o]
theorem W_lo (p : List Nat) (o t : Nat) (h : t < 16) : W p o t = word1 p (o + 4 * t) := by
 unfold W; rw [ws_lo _ _ _ h, word1_nat, Int.toNat_natCast]
theorem first16_Wl (p : List Nat) (o : Nat) : first16 p o = Wl p o 16 := by
 simp only [Wl_succ, W_lo p o _ (show 15 < 16 by decide), W_lo p o _ (show 14 < 16 by decide), W_lo p o _ (show 13 < 16 by decide), W_lo p o _ (show 12 < 16 by decide), W_lo p o _ (show 11 < 16 by decide), W_lo p o _ (show 10 < 16 by decide), W_lo p o _ (show 9 < 16 by decide), W_lo p o _ (show 8 < 16 by decide), W_lo p o _ (show 7 < 16 by decide), W_lo p o _ (show 6 < 16 by decide), W_lo p o _ (show 5 < 16 by decide), W_lo p o _ (show 4 < 16 by decide), W_lo p o _ (show 3 < 16 by decide), W_lo p o _ (show 2 < 16 by decide), W_lo p o _ (show 1 < 16 by decide), W_lo p o _ (show 0 < 16 by decide)]
 rfl
def wordsN (p : List Nat) (o : Nat) : List Nat := (sched 48 (first16 p o)).reverse
theorem wordsN_eq {p : List Nat} (hp : ∀ x, x ∈ p → x < 256) (o : Nat) : wordsN p o = (List.range 64).map (W p o) := by
 unfold wordsN
 rw [first16_Wl, show Wl p o 16 = Wl p o (0 + 16) from rfl, sched_Wl hp o 48 0]
 simp [Wl]
end Go.Proofs.YtlbldpkgnonbpaaDoor.Fast
