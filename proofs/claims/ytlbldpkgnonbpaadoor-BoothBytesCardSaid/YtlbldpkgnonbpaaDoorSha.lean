/- SHA-256 on whole numbers: rotations, the schedule, the rounds, the padding. No program in sight. -/
import Derived.Laws.BitsAllLaws
import Derived.Laws.ShiftsVar
namespace Go.Proofs.YtlbldpkgnonbpaaDoor.Sha
open Go
set_option linter.unusedSimpArgs false
set_option linter.unusedVariables false

/-- A word: 32 bits. -/
def U32 (x : Int) : Prop := 0 ≤ x ∧ x < 4294967296
theorem wrapM (x : Int) : IntKind.u32.wrap x = x % 4294967296 := by simp [IntKind.wrap, IntKind.bits, IntKind.signed]
def M (x : Int) : Int := x % 4294967296
theorem M_u (x : Int) : U32 (M x) := ⟨by unfold M; omega, by unfold M; omega⟩

def B (x : Int) : BitVec 32 := BitVec.ofInt 32 x
theorem B_toNat (v : BitVec 32) : B (v.toNat : Int) = v := by
  unfold B; rw [BitVec.ofInt_natCast]; simp
theorem toNat_lt (v : BitVec 32) : (v.toNat : Int) < 4294967296 := by have := v.isLt; omega
theorem wrap_toNat (v : BitVec 32) : IntKind.u32.wrap (v.toNat : Int) = v.toNat := by
  rw [wrapM]; have := toNat_lt v; omega
theorem xorB (x y : Int) : bits .xor .u32 x y = ((B x ^^^ B y).toNat : Int) := wrap_toNat _
theorem andB (x y : Int) : bits .and .u32 x y = ((B x &&& B y).toNat : Int) := wrap_toNat _
theorem orB (x y : Int) : bits .or .u32 x y = ((B x ||| B y).toNat : Int) := wrap_toNat _
theorem bits_u (op : BinOp) (x y : Int) : U32 (bits op .u32 x y) := by
  unfold bits
  rw [wrapM]
  exact ⟨by omega, by omega⟩
theorem orI_comm (x y : Int) : bits .or .u32 x y = bits .or .u32 y x := by rw [orB, orB, BitVec.or_comm]

/-- A rotation to the right. -/
def rot (x : Int) (n : Nat) : Int := bits .or .u32 (x / 2 ^ n) (M (x * 2 ^ (32 - n)))
theorem rot_u (x : Int) (n : Nat) : U32 (rot x n) := bits_u _ _ _
def sig0 (x : Int) : Int := bits .xor .u32 (bits .xor .u32 (rot x 7) (rot x 18)) (x / 8)
def sig1 (x : Int) : Int := bits .xor .u32 (bits .xor .u32 (rot x 17) (rot x 19)) (x / 1024)
def big1 (e : Int) : Int := bits .xor .u32 (bits .xor .u32 (rot e 6) (rot e 11)) (rot e 25)
def big0 (a : Int) : Int := bits .xor .u32 (bits .xor .u32 (rot a 2) (rot a 13)) (rot a 22)
def ch (e f g : Int) : Int := bits .xor .u32 g (bits .and .u32 e (bits .xor .u32 f g))
def mj (a b c : Int) : Int := bits .or .u32 (bits .and .u32 a (bits .or .u32 b c)) (bits .and .u32 b c)

theorem ch_eq (e f g : Int) : bits .or .u32 (bits .and .u32 e f) (bits .and .u32 (bits .xor .u32 (-1) e) g) = ch e f g := by
  unfold ch
  have h1 : B (-1) = BitVec.allOnes 32 := by decide
  simp only [xorB, andB, orB, B_toNat, h1]
  congr 2
  ext i hi
  simp only [B, BitVec.getElem_or, BitVec.getElem_and, BitVec.getElem_xor, BitVec.getElem_allOnes]
  generalize (BitVec.ofInt 32 e)[i] = x
  generalize (BitVec.ofInt 32 f)[i] = y
  generalize (BitVec.ofInt 32 g)[i] = z
  cases x <;> cases y <;> cases z <;> rfl
theorem mj_eq (a b c : Int) : bits .or .u32 (bits .or .u32 (bits .and .u32 a b) (bits .and .u32 a c)) (bits .and .u32 b c) = mj a b c := by
  unfold mj
  simp only [xorB, andB, orB, B_toNat]
  congr 2
  ext i hi
  simp [B]
  generalize (BitVec.ofInt 32 a)[i] = x
  generalize (BitVec.ofInt 32 b)[i] = y
  generalize (BitVec.ofInt 32 c)[i] = z
  cases x <;> cases y <;> cases z <;> rfl

/-- The round constants. -/
def kTab : List Int := [0x428a2f98, 0x71374491, 0xb5c0fbcf, 0xe9b5dba5, 0x3956c25b, 0x59f111f1, 0x923f82a4, 0xab1c5ed5, 0xd807aa98, 0x12835b01, 0x243185be, 0x550c7dc3, 0x72be5d74, 0x80deb1fe, 0x9bdc06a7, 0xc19bf174, 0xe49b69c1, 0xefbe4786, 0x0fc19dc6, 0x240ca1cc, 0x2de92c6f, 0x4a7484aa, 0x5cb0a9dc, 0x76f988da, 0x983e5152, 0xa831c66d, 0xb00327c8, 0xbf597fc7, 0xc6e00bf3, 0xd5a79147, 0x06ca6351, 0x14292967, 0x27b70a85, 0x2e1b2138, 0x4d2c6dfc, 0x53380d13, 0x650a7354, 0x766a0abb, 0x81c2c92e, 0x92722c85, 0xa2bfe8a1, 0xa81a664b, 0xc24b8b70, 0xc76c51a3, 0xd192e819, 0xd6990624, 0xf40e3585, 0x106aa070, 0x19a4c116, 0x1e376c08, 0x2748774c, 0x34b0bcb5, 0x391c0cb3, 0x4ed8aa4a, 0x5b9cca4f, 0x682e6ff3, 0x748f82ee, 0x78a5636f, 0x84c87814, 0x8cc70208, 0x90befffa, 0xa4506ceb, 0xbef9a3f7, 0xc67178f2]
def kAt (t : Nat) : Int := kTab.getD t 0
theorem kTab_len : kTab.length = 64 := rfl

/-- The big-endian word at an offset. -/
def wordAt (p : List Int) (o : Nat) : Int := p.getD o 0 * 16777216 + p.getD (o + 1) 0 * 65536 + p.getD (o + 2) 0 * 256 + p.getD (o + 3) 0
/-- The schedule of the block at an offset. -/
def ws (p : List Int) (o : Nat) (t : Nat) : Int :=
  if h : t < 16 then wordAt p (o + 4 * t) else M (ws p o (t - 16) + sig0 (ws p o (t - 15)) + ws p o (t - 7) + sig1 (ws p o (t - 2)))
termination_by t

theorem ws_lo (p : List Int) (o t : Nat) (h : t < 16) : ws p o t = wordAt p (o + 4 * t) := by rw [ws, dif_pos h]
theorem ws_hi (p : List Int) (o t : Nat) (h : ¬ t < 16) : ws p o t = M (ws p o (t - 16) + sig0 (ws p o (t - 15)) + ws p o (t - 7) + sig1 (ws p o (t - 2))) := by rw [ws, dif_neg h]

structure S8 where
  a : Int
  b : Int
  c : Int
  d : Int
  e : Int
  f : Int
  g : Int
  h : Int
/-- All eight are words. -/
structure S8.Ok (s : S8) : Prop where
  a : U32 s.a
  b : U32 s.b
  c : U32 s.c
  d : U32 s.d
  e : U32 s.e
  f : U32 s.f
  g : U32 s.g
  h : U32 s.h
def xOf (s : S8) (k w : Int) : Int := M (s.h + big1 s.e + ch s.e s.f s.g + k + w)
def yOf (s : S8) : Int := M (big0 s.a + mj s.a s.b s.c)
def rnd (s : S8) (k w : Int) : S8 := ⟨M (xOf s k w + yOf s), s.a, s.b, s.c, M (s.d + xOf s k w), s.e, s.f, s.g⟩
theorem rnd_ok {s : S8} (h : s.Ok) (k w : Int) : (rnd s k w).Ok := ⟨M_u _, h.a, h.b, h.c, M_u _, h.e, h.f, h.g⟩
def rnds (p : List Int) (o : Nat) (s : S8) : Nat → S8
  | 0 => s
  | t + 1 => rnd (rnds p o s t) (kAt t) (ws p o t)
theorem rnds_ok (p : List Int) (o : Nat) {s : S8} (h : s.Ok) : ∀ t, (rnds p o s t).Ok
  | 0 => h
  | t + 1 => rnd_ok (rnds_ok p o h t) _ _
def add8 (s v : S8) : S8 := ⟨M (s.a + v.a), M (s.b + v.b), M (s.c + v.c), M (s.d + v.d), M (s.e + v.e), M (s.f + v.f), M (s.g + v.g), M (s.h + v.h)⟩
/-- A block compressed into a state. -/
def stepS (p : List Int) (o : Nat) (s : S8) : S8 := add8 s (rnds p o s 64)
theorem stepS_ok (p : List Int) (o : Nat) (s : S8) : (stepS p o s).Ok := ⟨M_u _, M_u _, M_u _, M_u _, M_u _, M_u _, M_u _, M_u _⟩
def firstS : S8 := ⟨0x6a09e667, 0xbb67ae85, 0x3c6ef372, 0xa54ff53a, 0x510e527f, 0x9b05688c, 0x1f83d9ab, 0x5be0cd19⟩
theorem firstS_ok : firstS.Ok := by constructor <;> (constructor <;> decide)
/-- The state behind n blocks. -/
def blocks (p : List Int) : Nat → S8
  | 0 => firstS
  | n + 1 => stepS p (64 * n) (blocks p n)
theorem blocks_ok (p : List Int) : ∀ n, (blocks p n).Ok
  | 0 => firstS_ok
  | n + 1 => stepS_ok _ _ _

/-- How many zeros. -/
def zerosN (n : Nat) : Nat := (64 - (n + 9) % 64) % 64
/-- A number as eight bytes. -/
def be8 (n : Int) : List Int := (List.range 8).map fun i => n / 2 ^ (56 - 8 * i) % 256
def padS (b : List Int) : List Int := b ++ (128 :: (List.replicate (zerosN b.length) 0 ++ be8 (b.length * 8)))
theorem be8_len (n : Int) : (be8 n).length = 8 := by simp [be8]
theorem padS_len (b : List Int) : (padS b).length = b.length + 9 + zerosN b.length := by simp [padS, be8_len]; omega
theorem padS_mod (b : List Int) : (padS b).length % 64 = 0 := by rw [padS_len]; unfold zerosN; omega

def S8.l (s : S8) : List Int := [s.a, s.b, s.c, s.d, s.e, s.f, s.g, s.h]
/-- The digest. -/
def outOf (s : S8) : List Int := s.l.flatMap fun x => [x / 16777216 % 256, x / 65536 % 256, x / 256 % 256, x % 256]
theorem outOf_len (s : S8) : (outOf s).length = 32 := rfl
def shaS (b : List Int) : List Int := outOf (blocks (padS b) ((padS b).length / 64))
theorem shaS_len (b : List Int) : (shaS b).length = 32 := rfl
theorem shaS_bytes (b : List Int) : ∀ x, x ∈ shaS b → 0 ≤ x ∧ x < 256 := by
  intro x hx
  obtain ⟨y, -, hy⟩ := List.mem_flatMap.1 hx
  simp at hy
  omega
end Go.Proofs.YtlbldpkgnonbpaaDoor.Sha
