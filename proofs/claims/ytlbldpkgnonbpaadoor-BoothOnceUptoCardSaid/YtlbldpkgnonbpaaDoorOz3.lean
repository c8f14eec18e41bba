/- SHA-256 over natural numbers: rounds, blocks, the digest. -/
import Derived.Test.YtlbldpkgnonbpaaDoorOz2
set_option linter.unusedSimpArgs false
set_option linter.unusedVariables false
set_option maxRecDepth 100000
namespace Go.Proofs.YtlbldpkgnonbpaaDoor.Fast
open Go Go.Proofs.YtlbldpkgnonbpaaDoor.Sha
set_option maxRecDepth 100000
def kN : List Nat := [0x428a2f98, 0x71374491, 0xb5c0fbcf, 0xe9b5dba5, 0x3956c25b, 0x59f111f1, 0x923f82a4, 0xab1c5ed5, 0xd807aa98, 0x12835b01, 0x243185be, 0x550c7dc3, 0x72be5d74, 0x80deb1fe, 0x9bdc06a7, 0xc19bf174, 0xe49b69c1, 0xefbe4786, 0x0fc19dc6, 0x240ca1cc, 0x2de92c6f, 0x4a7484aa, 0x5cb0a9dc, 0x76f988da, 0x983e5152, 0xa831c66d, 0xb00327c8, 0xbf597fc7, 0xc6e00bf3, 0xd5a79147, 0x06ca6351, 0x14292967, 0x27b70a85, 0x2e1b2138, 0x4d2c6dfc, 0x53380d13, 0x650a7354, 0x766a0abb, 0x81c2c92e, 0x92722c85, 0xa2bfe8a1, 0xa81a664b, 0xc24b8b70, 0xc76c51a3, 0xd192e819, 0xd6990624, 0xf40e3585, 0x106aa070, 0x19a4c116, 0x1e376c08, 0x2748774c, 0x34b0bcb5, 0x391c0cb3, 0x4ed8aa4a, 0x5b9cca4f, 0x682e6ff3, 0x748f82ee, 0x78a5636f, 0x84c87814, 0x8cc70208, 0x90befffa, 0xa4506ceb, 0xbef9a3f7, 0xc67178f2]
theorem kN_len : kN.length = 64 := rfl
theorem kN_eq : kTab = kN.map (Nat.cast : Nat → Int) := by decide +kernel
theorem kAt_nat (t : Nat) : kAt t = ((kN.getD t 0 : Nat) : Int) := by unfold kAt; rw [kN_eq, getD_cast]
structure N8 where
  a : Nat
  b : Nat
  c : Nat
  d : Nat
  e : Nat
  f : Nat
  g : Nat
  h : Nat
def N8.s (n : N8) : S8 := ⟨n.a, n.b, n.c, n.d, n.e, n.f, n.g, n.h⟩
structure N8.lt (n : N8) : Prop where
  a : n.a < 4294967296
  b : n.b < 4294967296
  c : n.c < 4294967296
  d : n.d < 4294967296
  e : n.e < 4294967296
  f : n.f < 4294967296
  g : n.g < 4294967296
  h : n.h < 4294967296
def rndN (n : N8) (k w : Nat) : N8 := ⟨md (md (n.h + big1 n.e + ch n.e n.f n.g + k + w) + md (big0 n.a + mj n.a n.b n.c)), n.a, n.b, n.c, md (n.d + md (n.h + big1 n.e + ch n.e n.f n.g + k + w)), n.e, n.f, n.g⟩
theorem rndN_lt {n : N8} (h : n.lt) (k w : Nat) : (rndN n k w).lt := ⟨md_lt _, h.a, h.b, h.c, md_lt _, h.e, h.f, h.g⟩
theorem rnd_nat {n : N8} (h : n.lt) (k w : Nat) : rnd n.s (k : Int) (w : Int) = (rndN n k w).s := by
 have ex : xOf n.s (k : Int) (w : Int) = ((md (n.h + big1 n.e + ch n.e n.f n.g + k + w) : Nat) : Int) := by
  unfold xOf N8.s
  simp only
  rw [big1_nat h.e, ch_nat h.e h.f h.g, ← M_nat]; push_cast; rfl
 have ey : yOf n.s = ((md (big0 n.a + mj n.a n.b n.c) : Nat) : Int) := by
  unfold yOf N8.s
  simp only
  rw [big0_nat h.a, mj_nat h.a h.b h.c, ← M_nat]; push_cast; rfl
 have e1 : M (xOf n.s (k : Int) (w : Int) + yOf n.s) = ((md (md (n.h + big1 n.e + ch n.e n.f n.g + k + w) + md (big0 n.a + mj n.a n.b n.c)) : Nat) : Int) := by
  rw [ex, ey, ← M_nat]; push_cast; rfl
 have e2 : M ((n.d : Int) + xOf n.s (k : Int) (w : Int)) = ((md (n.d + md (n.h + big1 n.e + ch n.e n.f n.g + k + w)) : Nat) : Int) := by
  rw [ex, ← M_nat]; push_cast; rfl
 unfold rnd
 rw [e1]
 show S8.mk _ _ _ _ (M ((n.d : Int) + xOf n.s (k : Int) (w : Int))) _ _ _ = _
 rw [e2]
 rfl
def rndsN : List Nat → List Nat → N8 → N8
  | k :: ks, w :: ws, n => rndsN ks ws (rndN n k w)
  | _, _, n => n
theorem rnds_nat {p : List Nat} (hp : ∀ x, x ∈ p → x < 256) (o : Nat) {n : N8} (h : n.lt) : ∀ (u t : Nat), t + u = 64 → ∀ m : N8, m.lt → rnds (p.map (Nat.cast : Nat → Int)) o n.s t = m.s →
    rnds (p.map (Nat.cast : Nat → Int)) o n.s 64 = (rndsN (kN.drop t) (((List.range 64).map (W p o)).drop t) m).s ∧ (rndsN (kN.drop t) (((List.range 64).map (W p o)).drop t) m).lt
  | 0, t, ht, m, hm, he => by
   obtain rfl : t = 64 := by omega
   rw [show kN.drop 64 = [] from rfl]
   exact ⟨he, hm⟩
  | u + 1, t, ht, m, hm, he => by
   have h1 : kN.drop t = kN.getD t 0 :: kN.drop (t + 1) := by
    rw [List.drop_eq_getElem_cons (show t < kN.length by rw [kN_len]; omega), List.getD_eq_getElem?_getD, List.getElem?_eq_getElem (show t < kN.length by rw [kN_len]; omega)]; rfl
   have hl : t < ((List.range 64).map (W p o)).length := by simp; omega
   have h2 : ((List.range 64).map (W p o)).drop t = W p o t :: ((List.range 64).map (W p o)).drop (t + 1) := by
    rw [List.drop_eq_getElem_cons hl]; simp
   rw [h1, h2, rndsN]
   refine rnds_nat hp o h u (t + 1) (by omega) _ (rndN_lt hm _ _) ?_
   rw [rnds, he, kAt_nat, (W_spec hp o t).1, rnd_nat hm]
def addN (n m : N8) : N8 := ⟨md (n.a + m.a), md (n.b + m.b), md (n.c + m.c), md (n.d + m.d), md (n.e + m.e), md (n.f + m.f), md (n.g + m.g), md (n.h + m.h)⟩
theorem addN_lt (n m : N8) : (addN n m).lt := ⟨md_lt _, md_lt _, md_lt _, md_lt _, md_lt _, md_lt _, md_lt _, md_lt _⟩
theorem add8_nat (n m : N8) : add8 n.s m.s = (addN n m).s := by
 unfold add8 addN N8.s
 simp only [← M_nat]
 push_cast
 rfl
def stepN (p : List Nat) (o : Nat) (n : N8) : N8 := addN n (rndsN kN (wordsN p o) n)
theorem step_nat {p : List Nat} (hp : ∀ x, x ∈ p → x < 256) (o : Nat) {n : N8} (h : n.lt) : stepS (p.map (Nat.cast : Nat → Int)) o n.s = (stepN p o n).s := by
 unfold stepS stepN
 rw [(rnds_nat hp o h 64 0 rfl n h rfl).1, add8_nat, wordsN_eq hp]
 rfl
def firstN8 : N8 := ⟨0x6a09e667, 0xbb67ae85, 0x3c6ef372, 0xa54ff53a, 0x510e527f, 0x9b05688c, 0x1f83d9ab, 0x5be0cd19⟩
theorem firstN8_lt : firstN8.lt := by constructor <;> decide
def blocksN (p : List Nat) : Nat → N8
  | 0 => firstN8
  | n + 1 => stepN p (64 * n) (blocksN p n)
theorem blocksN_lt (p : List Nat) : ∀ n, (blocksN p n).lt
  | 0 => firstN8_lt
  | n + 1 => addN_lt _ _
theorem blocks_nat {p : List Nat} (hp : ∀ x, x ∈ p → x < 256) : ∀ n, blocks (p.map (Nat.cast : Nat → Int)) n = (blocksN p n).s
  | 0 => rfl
  | n + 1 => by rw [blocks, blocks_nat hp n, step_nat hp _ (blocksN_lt p n)]; rfl
def be8N (n : Nat) : List Nat := (List.range 8).map fun i => n / 2 ^ (56 - 8 * i) % 256
theorem be8_nat (n : Nat) : Sha.be8 (n : Int) = (be8N n).map (Nat.cast : Nat → Int) := by
 unfold Sha.be8 be8N
 rw [List.map_map]
 refine List.map_congr_left fun i _ => ?_
 simp only [Function.comp]
 push_cast
 rfl
def padN8 (b : List Nat) : List Nat := b ++ (128 :: (List.replicate (zerosN b.length) 0 ++ be8N (b.length * 8)))
theorem pad_nat (b : List Nat) : padS (b.map (Nat.cast : Nat → Int)) = (padN8 b).map (Nat.cast : Nat → Int) := by
 unfold padS padN8
 rw [List.map_append, List.map_cons, List.map_append, List.map_replicate, List.length_map, ← be8_nat]
 push_cast
 rfl
theorem pad_lt {b : List Nat} (hb : ∀ x, x ∈ b → x < 256) : ∀ x, x ∈ padN8 b → x < 256 := by
 intro x hx
 simp only [padN8, List.mem_append, List.mem_cons, List.mem_replicate, be8N, List.mem_map] at hx
 rcases hx with hx | rfl | ⟨-, rfl⟩ | ⟨i, -, rfl⟩
 · exact hb x hx
 · decide
 · decide
 · exact Nat.mod_lt _ (by decide)
def N8.l (n : N8) : List Nat := [n.a, n.b, n.c, n.d, n.e, n.f, n.g, n.h]
theorem out_nat : ∀ l : List Nat, ((l.map (Nat.cast : Nat → Int)).flatMap fun x : Int => [x / 16777216 % 256, x / 65536 % 256, x / 256 % 256, x % 256]) = (l.flatMap fun x : Nat => [x / 16777216 % 256, x / 65536 % 256, x / 256 % 256, x % 256]).map (Nat.cast : Nat → Int)
  | [] => rfl
  | x :: l => by
   rw [List.map_cons, List.flatMap_cons, List.flatMap_cons, out_nat l, List.map_append]
   congr 1
def shaN (b : List Nat) : List Nat := (blocksN (padN8 b) ((padN8 b).length / 64)).l.flatMap fun x => [x / 16777216 % 256, x / 65536 % 256, x / 256 % 256, x % 256]
theorem sha_nat {b : List Nat} (hb : ∀ x, x ∈ b → x < 256) : shaS (b.map (Nat.cast : Nat → Int)) = (shaN b).map (Nat.cast : Nat → Int) := by
 unfold shaS shaN
 rw [pad_nat, List.length_map, blocks_nat (pad_lt hb)]
 generalize blocksN (padN8 b) ((padN8 b).length / 64) = n
 show (n.l.map (Nat.cast : Nat → Int)).flatMap _ = _
 exact out_nat n.l
end Go.Proofs.YtlbldpkgnonbpaaDoor.Fast
