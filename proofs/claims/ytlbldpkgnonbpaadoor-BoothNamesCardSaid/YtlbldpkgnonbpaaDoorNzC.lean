/- Slices of numbers, wherever they begin. -/
import Derived.Test.YtlbldpkgnonbpaaDoorNzA
import Derived.ChangeSlices
import Derived.Laws.AppendOwn
import Derived.Laws.AppendOwnNone
import Derived.WalkKit
import Derived.Laws.BitsAllLaws
import Derived.Laws.ShiftsVar
import Derived.Deep.RegionHeld3
import Derived.OrdersIn
import Derived.OwnWalkIn
import Derived.RangeFuncCalls
set_option linter.unusedSimpArgs false
set_option linter.unusedVariables false
set_option maxRecDepth 100000
namespace Go.Proofs.YtlbldpkgnonbpaaDoor
open Go.ChangeShapes Go.WideShapes Go.ChangeAt Go.RowKit
theorem add_plain' (s o i : Nat) : (⟨s, o, none⟩ : Addr).add i = ⟨s, o + i, none⟩ := by unfold Addr.add; split <;> simp_all
def ShI (q : IntKind) (w : World) (a : Option Addr) (n : Nat) (xs : List Int) : Prop :=
  (n = 0 ∧ xs = []) ∨ ∃ s o, a = some ⟨s, o, none⟩ ∧ n = xs.length ∧ s < w.heap.size ∧ ∀ i, i < xs.length → w.cell? ⟨s, o + i, none⟩ = some (.int q (xs.getD i 0))
theorem ShI.len {q : IntKind} {w : World} {a : Option Addr} {n : Nat} {xs : List Int} (h : ShI q w a n xs) : n = xs.length := by
 rcases h with ⟨h1, h2⟩ | ⟨s, o, _, h1, _⟩
 · rw [h1, h2]; rfl
 · exact h1
theorem ShI.keep {q : IntKind} {w w' : World} {a : Option Addr} {n : Nat} {xs : List Int} (h : ShI q w a n xs) (hb : Below w.heap.size w w') : ShI q w' a n xs := by
 rcases h with h | ⟨s, o, h0, h1, h2, h3⟩
 · exact .inl h
 · exact .inr ⟨s, o, h0, h1, Nat.lt_of_lt_of_le h2 hb.size, fun i hi => (hb.cell (p := ⟨s, o + i, none⟩) h2).trans (h3 i hi)⟩
theorem ShI.at {q : IntKind} {w : World} {a : Option Addr} {n : Nat} {xs : List Int} (h : ShI q w a n xs) (k : Nat) (hk : k < n) : ∃ s o, a = some ⟨s, o, none⟩ ∧ s < w.heap.size ∧ w.cell? ⟨s, o + k, none⟩ = some (.int q (xs.getD k 0)) ∧ xs.getD k 0 ∈ xs := by
 rcases h with ⟨h1, _⟩ | ⟨s, o, h0, h1, h2, h3⟩
 · omega
 · refine ⟨s, o, h0, h2, h3 k (by omega), ?_⟩
   have hkl : k < xs.length := by omega
   rw [List.getD_eq_getElem?_getD, List.getElem?_eq_getElem hkl, Option.getD_some]
   exact List.getElem_mem hkl
section
variable {H : Type} {enc : TypeId × Value → H} {w : World} {base : Nat} {held : Bool} {r : Reach} {b0 : Nat} {v : Value} {d : DataW H} {p : List MemPlace}
end
theorem ShI.nil (q : IntKind) (w : World) (a : Option Addr) : ShI q w a 0 [] := .inl ⟨rfl, rfl⟩
theorem ShI.cells {q : IntKind} {w : World} {ad : Addr} {n : Nat} {xs : List Int} (h : ShI q w (some ad) n xs) : ∀ j u, (xs.map (Value.int q))[j]? = some u → w.cell? (ad.add j) = some u := by
 rcases h with ⟨_, h⟩ | ⟨s, o, h0, h1, h2, h3⟩
 · subst h; intro j u hj; simp at hj
 · cases h0
   intro j u hj
   have hl : j < xs.length := by simpa using (List.getElem?_eq_some_iff.1 hj).1
   rw [add_plain', h3 j hl]
   rw [List.getElem?_map, List.getElem?_eq_getElem hl] at hj
   rw [List.getD_eq_getElem?_getD, List.getElem?_eq_getElem hl]
   simpa using hj
theorem ShI.of_owned {q : IntKind} {w : World} {base : Nat} {e : TypeId} {v : Value} {n : Nat} {xs : List Int} (h : w.ownsRow base e 1 v n (xs.map (Value.int q))) : ∃ a c, v = .slice a n c ∧ ShI q w a n xs := by
 have hl := h.1
 rw [List.length_map, Nat.mul_one] at hl
 rcases h.2 with ⟨rfl, h0⟩ | ⟨g, cap, cur, rfl, hb, hg, _⟩
 · subst h0
   have : xs = [] := List.eq_nil_of_length_eq_zero hl
   subst this
   exact ⟨none, 0, rfl, ShI.nil _ w _⟩
 · refine ⟨_, _, rfl, .inr ⟨g, 0, rfl, hl.symm, (h.lt g rfl).2, fun i hi => ?_⟩⟩
   have hc := h.cells (g := g) rfl i (.int q (xs.getD i 0)) (by
    rw [List.getElem?_map, List.getElem?_eq_getElem hi, List.getD_eq_getElem?_getD, List.getElem?_eq_getElem hi]; rfl)
   rw [add_plain'] at hc
   exact hc
end Go.Proofs.YtlbldpkgnonbpaaDoor
namespace Go.Proofs.YtlbldpkgnonbpaaDoor.Sha
open Go
def U32 (x : Int) : Prop := 0 ≤ x ∧ x < 4294967296
theorem wrapM (x : Int) : IntKind.u32.wrap x = x % 4294967296 := by simp [IntKind.wrap, IntKind.bits, IntKind.signed]
def M (x : Int) : Int := x % 4294967296
theorem M_u (x : Int) : U32 (M x) := ⟨by unfold M; omega, by unfold M; omega⟩
def B (x : Int) : BitVec 32 := BitVec.ofInt 32 x
theorem toNat_lt (v : BitVec 32) : (v.toNat : Int) < 4294967296 := by have := v.isLt; omega
theorem wrap_toNat (v : BitVec 32) : IntKind.u32.wrap (v.toNat : Int) = v.toNat := by
 rw [wrapM]; have := toNat_lt v; omega
theorem xorB (x y : Int) : bits .xor .u32 x y = ((B x ^^^ B y).toNat : Int) := wrap_toNat _
theorem andB (x y : Int) : bits .and .u32 x y = ((B x &&& B y).toNat : Int) := wrap_toNat _
theorem orB (x y : Int) : bits .or .u32 x y = ((B x ||| B y).toNat : Int) := wrap_toNat _
theorem orI_comm (x y : Int) : bits .or .u32 x y = bits .or .u32 y x := by rw [orB, orB, BitVec.or_comm]
def rot (x : Int) (n : Nat) : Int := bits .or .u32 (x / 2 ^ n) (M (x * 2 ^ (32 - n)))
def sig0 (x : Int) : Int := bits .xor .u32 (bits .xor .u32 (rot x 7) (rot x 18)) (x / 8)
def sig1 (x : Int) : Int := bits .xor .u32 (bits .xor .u32 (rot x 17) (rot x 19)) (x / 1024)
def big1 (e : Int) : Int := bits .xor .u32 (bits .xor .u32 (rot e 6) (rot e 11)) (rot e 25)
def big0 (a : Int) : Int := bits .xor .u32 (bits .xor .u32 (rot a 2) (rot a 13)) (rot a 22)
def ch (e f g : Int) : Int := bits .xor .u32 g (bits .and .u32 e (bits .xor .u32 f g))
def mj (a b c : Int) : Int := bits .or .u32 (bits .and .u32 a (bits .or .u32 b c)) (bits .and .u32 b c)
def kTab : List Int := [0x428a2f98, 0x71374491, 0xb5c0fbcf, 0xe9b5dba5, 0x3956c25b, 0x59f111f1, 0x923f82a4, 0xab1c5ed5, 0xd807aa98, 0x12835b01, 0x243185be, 0x550c7dc3, 0x72be5d74, 0x80deb1fe, 0x9bdc06a7, 0xc19bf174, 0xe49b69c1, 0xefbe4786, 0x0fc19dc6, 0x240ca1cc, 0x2de92c6f, 0x4a7484aa, 0x5cb0a9dc, 0x76f988da, 0x983e5152, 0xa831c66d, 0xb00327c8, 0xbf597fc7, 0xc6e00bf3, 0xd5a79147, 0x06ca6351, 0x14292967, 0x27b70a85, 0x2e1b2138, 0x4d2c6dfc, 0x53380d13, 0x650a7354, 0x766a0abb, 0x81c2c92e, 0x92722c85, 0xa2bfe8a1, 0xa81a664b, 0xc24b8b70, 0xc76c51a3, 0xd192e819, 0xd6990624, 0xf40e3585, 0x106aa070, 0x19a4c116, 0x1e376c08, 0x2748774c, 0x34b0bcb5, 0x391c0cb3, 0x4ed8aa4a, 0x5b9cca4f, 0x682e6ff3, 0x748f82ee, 0x78a5636f, 0x84c87814, 0x8cc70208, 0x90befffa, 0xa4506ceb, 0xbef9a3f7, 0xc67178f2]
def kAt (t : Nat) : Int := kTab.getD t 0
def wordAt (p : List Int) (o : Nat) : Int := p.getD o 0 * 16777216 + p.getD (o + 1) 0 * 65536 + p.getD (o + 2) 0 * 256 + p.getD (o + 3) 0
def ws (p : List Int) (o : Nat) (t : Nat) : Int :=
  if h : t < 16 then wordAt p (o + 4 * t) else M (ws p o (t - 16) + sig0 (ws p o (t - 15)) + ws p o (t - 7) + sig1 (ws p o (t - 2)))
termination_by t
theorem ws_lo (p : List Int) (o t : Nat) (h : t < 16) : ws p o t = wordAt p (o + 4 * t) := by rw [ws, dif_pos h]
theorem ws_hi (p : List Int) (o t : Nat) (h : ¬ t < 16) : ws p o t = M (ws p o (t - 16) + sig0 (ws p o (t - 15)) + ws p o (t - 7) + sig1 (ws p o (t - 2))) := by rw [ws, dif_neg h]
structure S8 where
  a : Int
  b : Int
  c : Int
  d : Int
  e : Int
  f : Int
  g : Int
  h : Int
structure S8.Ok (s : S8) : Prop where
  a : U32 s.a
  b : U32 s.b
  c : U32 s.c
  d : U32 s.d
  e : U32 s.e
  f : U32 s.f
  g : U32 s.g
  h : U32 s.h
def xOf (s : S8) (k w : Int) : Int := M (s.h + big1 s.e + ch s.e s.f s.g + k + w)
def yOf (s : S8) : Int := M (big0 s.a + mj s.a s.b s.c)
def rnd (s : S8) (k w : Int) : S8 := ⟨M (xOf s k w + yOf s), s.a, s.b, s.c, M (s.d + xOf s k w), s.e, s.f, s.g⟩
def rnds (p : List Int) (o : Nat) (s : S8) : Nat → S8
  | 0 => s
  | t + 1 => rnd (rnds p o s t) (kAt t) (ws p o t)
def add8 (s v : S8) : S8 := ⟨M (s.a + v.a), M (s.b + v.b), M (s.c + v.c), M (s.d + v.d), M (s.e + v.e), M (s.f + v.f), M (s.g + v.g), M (s.h + v.h)⟩
def stepS (p : List Int) (o : Nat) (s : S8) : S8 := add8 s (rnds p o s 64)
def firstS : S8 := ⟨0x6a09e667, 0xbb67ae85, 0x3c6ef372, 0xa54ff53a, 0x510e527f, 0x9b05688c, 0x1f83d9ab, 0x5be0cd19⟩
def blocks (p : List Int) : Nat → S8
  | 0 => firstS
  | n + 1 => stepS p (64 * n) (blocks p n)
def zerosN (n : Nat) : Nat := (64 - (n + 9) % 64) % 64
def be8 (n : Int) : List Int := (List.range 8).map fun i => n / 2 ^ (56 - 8 * i) % 256
def padS (b : List Int) : List Int := b ++ (128 :: (List.replicate (zerosN b.length) 0 ++ be8 (b.length * 8)))
theorem be8_len (n : Int) : (be8 n).length = 8 := by simp [be8]
theorem padS_len (b : List Int) : (padS b).length = b.length + 9 + zerosN b.length := by simp [padS, be8_len]; omega
theorem padS_mod (b : List Int) : (padS b).length % 64 = 0 := by rw [padS_len]; unfold zerosN; omega
def S8.l (s : S8) : List Int := [s.a, s.b, s.c, s.d, s.e, s.f, s.g, s.h]
def outOf (s : S8) : List Int := s.l.flatMap fun x => [x / 16777216 % 256, x / 65536 % 256, x / 256 % 256, x % 256]
theorem outOf_len (s : S8) : (outOf s).length = 32 := rfl
def shaS (b : List Int) : List Int := outOf (blocks (padS b) ((padS b).length / 64))
theorem shaS_len (b : List Int) : (shaS b).length = 32 := rfl
theorem shaS_bytes (b : List Int) : ∀ x, x ∈ shaS b → 0 ≤ x ∧ x < 256 := by
 intro x hx
 obtain ⟨y, -, hy⟩ := List.mem_flatMap.1 hx
 simp at hy
 omega
end Go.Proofs.YtlbldpkgnonbpaaDoor.Sha
namespace Go.Proofs.YtlbldpkgnonbpaaDoor
open Go
section
variable {P : Program} {ops : Array Oper} {Q : Exit → Act → World → Prop} {md : Region.Mode} {b : Nat} {S : World → Prop}
def wpAnyB (P : Program) (md : Region.Mode) (ops : Array Oper) (Q : Exit → Act → World → Prop) (b : Nat) (S : World → Prop) : Nat → Array Bool → Act → World → Prop
  | 0, listed, a, w => Region.ready md ops listed = [] ∧ Q .normal a w
  | fuel + 1, listed, a, w =>
   (Region.ready md ops listed = [] → Q .normal a w) ∧
   ∀ i ∈ Region.ready md ops listed, wpOp P ops Q i (fun a' w' => ((listed.setIfInBounds i true).getD b true = false → S w') ∧ wpAnyB P md ops Q b S fuel (listed.setIfInBounds i true) a' w') a w
theorem wpAny_of_stage : ∀ (fuel : Nat) (listed : Array Bool) (a : Act) (w : World), wpAnyB P md ops Q b S fuel listed a w → wpAny P md ops Q fuel listed a w
  | 0, _, _, _, h => h
  | fuel + 1, _, _, _, h => ⟨h.1, fun i hi => wpOp_mono (fun a' w' h' => wpAny_of_stage fuel _ a' w' h'.2) (h.2 i hi)⟩
theorem listed_not {i : Nat} {listed : Array Bool} {oj : Oper} (hr : listed.getD i true = false) (hall : ∀ e ∈ oj.after, Region.binds md e = true → listed.getD e.on false = true) : ∀ e ∈ oj.after, Region.binds md e = true → e.on ≠ i := fun e he hb heq => by
 have h1 := hall e he hb
 rw [heq] at h1
 rcases Nat.lt_or_ge i listed.size with h' | h'
 · simp [h'] at hr h1; rw [hr] at h1; cases h1
 · simp [Array.getElem?_eq_none h'] at h1
theorem wpAnyB_first {i : Nat} {oi : Oper} {v : Value} (hi : ops[i]? = some oi) (hsel : ∀ (j : Nat) (o : Oper) cs b, ops[j]? = some o → o.op ≠ .select cs b)
    (hQ : ∀ c a w, Q (.panic c) (a.put oi.dst v) w → Q (.panic c) a w) (T : List Nat) (hbT : b ∈ T) (hiT : i ∉ T) (hw : ∀ t, t ∈ T → ∃ ob, ops[t]? = some ob ∧ ∃ e, e ∈ ob.after ∧ Region.binds md e = true ∧ (e.on = i ∨ e.on ∈ T)) :
    ∀ (fuel : Nat) (listed : Array Bool) (a : Act) (w : World),
      (∀ j oj, ops[j]? = some oj → j ≠ i → listed.getD j true = false → (∀ e ∈ oj.after, Region.binds md e = true → e.on ≠ i) → oi.apart ops oj = true) →
      i ∈ Region.ready md ops listed → (∀ t, t ∈ T → listed.getD t true = false) → YieldsIf P ops S oi v a → S w →
      wpAnyB P md ops Q b S fuel (listed.setIfInBounds i true) (a.put oi.dst v) w → wpAnyB P md ops Q b S (fuel + 1) listed a w := by
  intro fuel
  induction fuel with
  | zero =>
   intro listed a w _ hr _ hy hS H
   refine ⟨fun h => (by rw [h] at hr; cases hr), fun j hj => ?_⟩
   by_cases hji : j = i
   · subst hji; exact hy.wpOp hi hS ⟨fun _ => hS, H⟩
   · have := ready_mono hj hji
     rw [H.1] at this
     cases this
  | succ fuel ih =>
   intro listed a w hfree hr hb hy hS H
   refine ⟨fun h => (by rw [h] at hr; cases hr), fun j hj => ?_⟩
   by_cases hji : j = i
   · subst hji; exact hy.wpOp hi hS ⟨fun _ => hS, H⟩
   · have h1 := H.2 j (ready_mono hj hji)
     obtain ⟨hjun, oj, hoj, hall⟩ := mem_ready.1 hj
     have hnot : ∀ e ∈ oj.after, Region.binds md e = true → e.on ≠ i := listed_not (mem_ready.1 hr).1 hall
     have hjT : j ∉ T := fun hjT => by
      obtain ⟨ob, hob, e, he, hbi, hon⟩ := hw j hjT
      rw [hoj] at hob
      cases hob
      rcases hon with hon | hon
      · exact hnot e he hbi hon
      · exact listed_not (hb e.on hon) hall e he hbi rfl
     have hjb : j ≠ b := fun h => hjT (h ▸ hbT)
     have hib : i ≠ b := fun h => hiT (h ▸ hbT)
     have h2 := wpOp_putIf hoj (hfree j oj hoj hji hjun hnot) (fun cs b => hsel i oi cs b hi) (fun cs b => hsel j oj cs b hoj) hQ hy h1
     have hfree' : ∀ k ok, ops[k]? = some ok → k ≠ i → (listed.setIfInBounds j true).getD k true = false →
         (∀ e ∈ ok.after, Region.binds md e = true → e.on ≠ i) → oi.apart ops ok = true := fun k ok hk hki hun hno => by
       refine hfree k ok hk hki ?_ hno
       by_cases hjk : j = k
       · subst hjk; exact hjun
       · rw [getD_set_ne true hjk] at hun; exact hun
     have hb1 : ((listed.setIfInBounds i true).setIfInBounds j true).getD b true = false := by
      rw [getD_set_ne true hjb, getD_set_ne true hib]; exact hb b hbT
     refine wpOp_mono (fun a' w' h3 => ⟨fun _ => h3.2.1 hb1, ih (listed.setIfInBounds j true) a' w' hfree' (ready_mono hr (Ne.symm hji)) (fun t ht => by rw [getD_set_ne true (fun h => hjT (by rw [h]; exact ht))]; exact hb t ht) h3.1 (h3.2.1 hb1) ?_⟩) h2
     rw [Array.setIfInBounds_comm _ _ hji]
     exact h3.2.2
theorem wpAnyB_firstP {i : Nat} {oi : Oper} {v : Value} (hi : ops[i]? = some oi) (hsel : ∀ (j : Nat) (o : Oper) cs b, ops[j]? = some o → o.op ≠ .select cs b)
    (hQ : ∀ c a w, Q (.panic c) (a.put oi.dst v) w → Q (.panic c) a w) (hib : i ≠ b) :
    ∀ (fuel : Nat) (listed : Array Bool) (a : Act) (w : World),
      (∀ j oj, ops[j]? = some oj → j ≠ i → listed.getD j true = false → (∀ e ∈ oj.after, Region.binds md e = true → e.on ≠ i) → oi.apart ops oj = true) →
      i ∈ Region.ready md ops listed → Yields P ops oi v a → (listed.getD b true = false → S w) →
      wpAnyB P md ops Q b S fuel (listed.setIfInBounds i true) (a.put oi.dst v) w → wpAnyB P md ops Q b S (fuel + 1) listed a w := by
  intro fuel
  induction fuel with
  | zero =>
   intro listed a w _ hr hy hS H
   refine ⟨fun h => (by rw [h] at hr; cases hr), fun j hj => ?_⟩
   by_cases hji : j = i
   · subst hji; exact hy.wpOp hi ⟨fun h => hS (by rw [getD_set_ne true hib] at h; exact h), H⟩
   · have := ready_mono hj hji
     rw [H.1] at this
     cases this
  | succ fuel ih =>
   intro listed a w hfree hr hy hS H
   refine ⟨fun h => (by rw [h] at hr; cases hr), fun j hj => ?_⟩
   by_cases hji : j = i
   · subst hji; exact hy.wpOp hi ⟨fun h => hS (by rw [getD_set_ne true hib] at h; exact h), H⟩
   · have h1 := H.2 j (ready_mono hj hji)
     obtain ⟨hjun, oj, hoj, hall⟩ := mem_ready.1 hj
     have hnot : ∀ e ∈ oj.after, Region.binds md e = true → e.on ≠ i := listed_not (mem_ready.1 hr).1 hall
     have h2 := wpOp_put hoj (hfree j oj hoj hji hjun hnot) (fun cs b => hsel i oi cs b hi) (fun cs b => hsel j oj cs b hoj) hQ hy h1
     have hfree' : ∀ k ok, ops[k]? = some ok → k ≠ i → (listed.setIfInBounds j true).getD k true = false →
         (∀ e ∈ ok.after, Region.binds md e = true → e.on ≠ i) → oi.apart ops ok = true := fun k ok hk hki hun hno => by
       refine hfree k ok hk hki ?_ hno
       by_cases hjk : j = k
       · subst hjk; exact hjun
       · rw [getD_set_ne true hjk] at hun; exact hun
     have hs3 : ∀ w', (((listed.setIfInBounds i true).setIfInBounds j true).getD b true = false → S w') → (listed.setIfInBounds j true).getD b true = false → S w' := fun w' h h' => h (by
      rw [Array.setIfInBounds_comm _ _ (Ne.symm hji), getD_set_ne true hib]; exact h')
     refine wpOp_mono (fun a' w' h3 => ⟨hs3 w' h3.2.1, ih (listed.setIfInBounds j true) a' w' hfree' (ready_mono hr (Ne.symm hji)) h3.1 (hs3 w' h3.2.1) ?_⟩) h2
     rw [Array.setIfInBounds_comm _ _ hji]
     exact h3.2.2
def waitsAll (md : Region.Mode) (ops : Array Oper) (listed : Array Bool) (T : List Nat) (b i : Nat) : Bool :=
  T.contains b && !T.contains i && T.all fun t => !listed.getD t true && match ops[t]? with
    | none => false
    | some ob => ob.after.any fun e => Region.binds md e && (e.on == i || T.contains e.on)
theorem waitsAll_spec {listed : Array Bool} {T : List Nat} {i : Nat} (h : waitsAll md ops listed T b i = true) : b ∈ T ∧ i ∉ T ∧ (∀ t, t ∈ T → listed.getD t true = false) ∧
    ∀ t, t ∈ T → ∃ ob, ops[t]? = some ob ∧ ∃ e, e ∈ ob.after ∧ Region.binds md e = true ∧ (e.on = i ∨ e.on ∈ T) := by
  unfold waitsAll at h
  simp only [Bool.and_eq_true, Bool.not_eq_true', List.all_eq_true] at h
  obtain ⟨⟨h1, h2⟩, h3⟩ := h
  refine ⟨by simpa using h1, by simpa using h2, fun t ht => (h3 t ht).1, fun t ht => ?_⟩
  have h4 := (h3 t ht).2
  cases hb : ops[t]? with
  | none => simp [hb] at h4
  | some ob =>
   simp only [hb] at h4
   obtain ⟨e, he, hx⟩ := Array.any_eq_true'.1 h4
   simp only [Bool.and_eq_true, Bool.or_eq_true, beq_iff_eq] at hx
   exact ⟨ob, rfl, e, he, hx.1, hx.2.imp id fun h => by simpa using h⟩
def bareOp (dst : Option Tmp) (op : Op) (ty : TypeId) : Oper := { dst, op, type := ty, pos := "", after := #[], guard := none }
def isBare (ops : Array Oper) (i : Nat) (dst : Option Tmp) (op : Op) (ty : TypeId) : Prop := ∃ o, ops[i]? = some o ∧ o.dst = dst ∧ o.op = op ∧ o.type = ty ∧ o.guard = none
theorem exec_bare {o : Oper} {dst : Option Tmp} {op : Op} {ty : TypeId} (h : o.op = op) (h' : o.type = ty) (ρ : Operand → Value) : execOp ρ o = execOp ρ (bareOp dst op ty) := by
 subst h h'
 obtain ⟨d, o, t, p, af, g⟩ := o
 cases o <;> rfl
theorem wpAnyB_take {i : Nat} (dst : Option Tmp) (op : Op) (ty : TypeId) {v : Value} {fuel : Nat} {listed : Array Bool} {a : Act} {w : World} (hi : isBare ops i dst op ty)
    (hs : Region.noSelect ops = true) (hf : Region.free md ops listed i = true) (hr : (Region.ready md ops listed).contains i = true)
    (T : List Nat) (hwf : waitsAll md ops listed T b i = true)
    (hQ : ∀ c a w, Q (.panic c) (a.put dst v) w → Q (.panic c) a w) (hS : S w) (hy : ∀ w, S w → (execOp a.eval (bareOp dst op ty)).run P w = .ok (.value v) w)
    (h : wpAnyB P md ops Q b S fuel (listed.setIfInBounds i true) (a.put dst v) w) : wpAnyB P md ops Q b S (fuel + 1) listed a w := by
  obtain ⟨o, ho, rfl, h1, h2, h3⟩ := hi
  exact wpAnyB_first ho (Region.noSelect_spec hs) hQ T (waitsAll_spec hwf).1 (waitsAll_spec hwf).2.1 (waitsAll_spec hwf).2.2.2 fuel listed a w (Region.free_spec ho hf) (by simpa using hr) (waitsAll_spec hwf).2.2.1
    (.inl ⟨by simp [Region.wanted, h3], fun w hw => by rw [exec_bare h1 h2]; exact hy w hw⟩) hS h
theorem tkL {i : Nat} (dst : Option Tmp) (op : Op) (ty : TypeId) (T : List Nat) {v : Value} {fuel : Nat} {listed : Array Bool} {a : Act} {w : World} (hS : S w) (hy : ∀ w, S w → (execOp a.eval (bareOp dst op ty)).run P w = .ok (.value v) w)
    (h : wpAnyB P md ops Q b S fuel (listed.setIfInBounds i true) (a.put dst v) w) (hi : isBare ops i dst op ty := by exact ⟨_, rfl, rfl, rfl, rfl, rfl⟩) (hs : Region.noSelect ops = true := by kernel_rfl) (hf : Region.free md ops listed i = true := by kernel_rfl) (hr : (Region.ready md ops listed).contains i = true := by kernel_rfl)
    (hwf : waitsAll md ops listed T b i = true := by kernel_rfl) (hQ : ∀ c a w, Q (.panic c) (a.put dst v) w → Q (.panic c) a w := by exact fun _ _ _ h => h) : wpAnyB P md ops Q b S (fuel + 1) listed a w := wpAnyB_take dst op ty hi hs hf hr T hwf hQ hS hy h
theorem lt8 {p : Prop} {x : Bool} (hx : x = true := by kernel_rfl) : x = false → p := fun h => absurd (h.symm.trans hx) (by decide)
theorem wpAnyB_takeP {i : Nat} (dst : Option Tmp) (op : Op) (ty : TypeId) {v : Value} {fuel : Nat} {listed : Array Bool} {a : Act} {w : World} (hi : isBare ops i dst op ty)
    (hs : Region.noSelect ops = true) (hf : Region.free md ops listed i = true) (hr : (Region.ready md ops listed).contains i = true)
    (hib : (i == b) = false)
    (hQ : ∀ c a w, Q (.panic c) (a.put dst v) w → Q (.panic c) a w) (hS : listed.getD b true = false → S w) (hy : ∀ w, (execOp a.eval (bareOp dst op ty)).run P w = .ok (.value v) w)
    (h : wpAnyB P md ops Q b S fuel (listed.setIfInBounds i true) (a.put dst v) w) : wpAnyB P md ops Q b S (fuel + 1) listed a w := by
  obtain ⟨o, ho, rfl, h1, h2, h3⟩ := hi
  exact wpAnyB_firstP ho (Region.noSelect_spec hs) hQ (by simpa using hib) fuel listed a w (Region.free_spec ho hf) (by simpa using hr)
    (.inl ⟨by simp [Region.wanted, h3], fun w => by rw [exec_bare h1 h2]; exact hy w⟩) hS h
theorem tkP {i : Nat} (dst : Option Tmp) (op : Op) (ty : TypeId) {v : Value} {fuel : Nat} {listed : Array Bool} {a : Act} {w : World} (hS : listed.getD b true = false → S w) (hy : ∀ w, (execOp a.eval (bareOp dst op ty)).run P w = .ok (.value v) w)
    (h : wpAnyB P md ops Q b S fuel (listed.setIfInBounds i true) (a.put dst v) w) (hi : isBare ops i dst op ty := by exact ⟨_, rfl, rfl, rfl, rfl, rfl⟩) (hs : Region.noSelect ops = true := by kernel_rfl) (hf : Region.free md ops listed i = true := by kernel_rfl) (hr : (Region.ready md ops listed).contains i = true := by kernel_rfl)
    (hib : (i == b) = false := by kernel_rfl) (hQ : ∀ c a w, Q (.panic c) (a.put dst v) w → Q (.panic c) a w := by exact fun _ _ _ h => h) : wpAnyB P md ops Q b S (fuel + 1) listed a w := wpAnyB_takeP dst op ty hi hs hf hr hib hQ hS hy h
theorem wpAnyB_only {i : Nat} (dst : Option Tmp) (op : Op) (ty : TypeId) {fuel : Nat} {listed : Array Bool} {a : Act} {w : World} (hi : isBare ops i dst op ty) (hr : Region.ready md ops listed = [i])
    (h : ∀ K : Act → World → Prop, RowKit.Hid (∀ a w, ((listed.setIfInBounds i true).getD b true = false → S w) → wpAnyB P md ops Q b S fuel (listed.setIfInBounds i true) a w → K a w) →
      Oper.wp P (bareOp dst op ty) a w K Q) :
    wpAnyB P md ops Q b S (fuel + 1) listed a w := by
  obtain ⟨o, ho, rfl, h1, h2, h3⟩ := hi
  refine ⟨fun h0 => (by rw [hr] at h0; cases h0), fun j hj => ?_⟩
  rw [hr] at hj
  rcases List.mem_singleton.1 hj with rfl
  refine wpOp_step ho (fun K hK => ?_)
  rw [if_pos (by simp [Region.wanted, h3])]
  have h4 := h K (Lh fun a w hS hW => hK a w ⟨hS, hW⟩)
  unfold Oper.wp at h4 ⊢
  rw [exec_bare (dst := o.dst) h1 h2]
  exact h4
theorem onl {i : Nat} (dst : Option Tmp) (op : Op) (ty : TypeId) {fuel : Nat} {listed : Array Bool} {a : Act} {w : World}
    (h : ∀ K : Act → World → Prop, RowKit.Hid (∀ a w, ((listed.setIfInBounds i true).getD b true = false → S w) → wpAnyB P md ops Q b S fuel (listed.setIfInBounds i true) a w → K a w) →
      Oper.wp P (bareOp dst op ty) a w K Q) (hi : isBare ops i dst op ty := by exact ⟨_, rfl, rfl, rfl, rfl, rfl⟩) (hr : Region.ready md ops listed = [i] := by kernel_rfl) :
    wpAnyB P md ops Q b S (fuel + 1) listed a w := wpAnyB_only dst op ty hi hr h
theorem wpAnyB_done {listed : Array Bool} {a : Act} {w : World} (hr : Region.ready md ops listed = []) (h : Q .normal a w) :
    ∀ fuel, wpAnyB P md ops Q b S fuel listed a w
  | 0 => ⟨hr, h⟩
  | _ + 1 => ⟨fun _ => h, by rw [hr]; simp⟩
theorem wp_region_stage {id : Nat} {a : Act} {w : World} (b : Nat) (S : World → Prop) (hm : P.follows .mixedOrders = true)
    (h : wpAnyB P .any ops Q b S ops.size (Array.replicate ops.size false) a w.drew) : (Code.region id ops true).wp P Q a w :=
  wp_region_any hm (wpAny_of_stage _ _ _ _ h)
end
end Go.Proofs.YtlbldpkgnonbpaaDoor
/- Staged regions with guarded operations. -/
namespace Go.Proofs.YtlbldpkgnonbpaaDoor
open Go
section
variable {P : Program} {ops : Array Oper} {Q : Exit → Act → World → Prop} {md : Region.Mode} {b : Nat} {S : World → Prop}
def guardOp (g : Option (Nat × Bool)) : Oper := { dst := none, op := .move (.tmp 0), type := 0, pos := "", after := #[], guard := g }
theorem wanted_guard {o : Oper} {g : Option (Nat × Bool)} (h : o.guard = g) (f : Nat → Option Bool) : Region.wanted o f = Region.wanted (guardOp g) f := by
 unfold Region.wanted
 rw [h]
 rfl
def isGuard (ops : Array Oper) (i : Nat) (dst : Option Tmp) (op : Op) (ty : TypeId) (g : Option (Nat × Bool)) : Prop := ∃ o, ops[i]? = some o ∧ o.dst = dst ∧ o.op = op ∧ o.type = ty ∧ o.guard = g
theorem wpAnyB_takeG {i : Nat} (dst : Option Tmp) (op : Op) (ty : TypeId) (g : Option (Nat × Bool)) {v : Value} {fuel : Nat} {listed : Array Bool} {a : Act} {w : World} (hi : isGuard ops i dst op ty g)
    (hg : Region.wanted (guardOp g) (yielded ops a.tmps) = true)
    (hs : Region.noSelect ops = true) (hf : Region.free md ops listed i = true) (hr : (Region.ready md ops listed).contains i = true)
    (T : List Nat) (hwf : waitsAll md ops listed T b i = true)
    (hQ : ∀ c a w, Q (.panic c) (a.put dst v) w → Q (.panic c) a w) (hS : S w) (hy : ∀ w, S w → (execOp a.eval (bareOp dst op ty)).run P w = .ok (.value v) w)
    (h : wpAnyB P md ops Q b S fuel (listed.setIfInBounds i true) (a.put dst v) w) : wpAnyB P md ops Q b S (fuel + 1) listed a w := by
  obtain ⟨o, ho, rfl, h1, h2, h3⟩ := hi
  exact wpAnyB_first ho (Region.noSelect_spec hs) hQ T (waitsAll_spec hwf).1 (waitsAll_spec hwf).2.1 (waitsAll_spec hwf).2.2.2 fuel listed a w (Region.free_spec ho hf) (by simpa using hr) (waitsAll_spec hwf).2.2.1
    (.inl ⟨(wanted_guard h3 _).trans hg, fun w hw => by rw [exec_bare h1 h2]; exact hy w hw⟩) hS h
theorem tkLG {i : Nat} (dst : Option Tmp) (op : Op) (ty : TypeId) (g : Option (Nat × Bool)) (T : List Nat) {v : Value} {fuel : Nat} {listed : Array Bool} {a : Act} {w : World} (hS : S w) (hy : ∀ w, S w → (execOp a.eval (bareOp dst op ty)).run P w = .ok (.value v) w)
    (h : wpAnyB P md ops Q b S fuel (listed.setIfInBounds i true) (a.put dst v) w) (hi : isGuard ops i dst op ty g := by exact ⟨_, rfl, rfl, rfl, rfl, rfl⟩) (hg : Region.wanted (guardOp g) (yielded ops a.tmps) = true := by rfl) (hs : Region.noSelect ops = true := by kernel_rfl) (hf : Region.free md ops listed i = true := by kernel_rfl) (hr : (Region.ready md ops listed).contains i = true := by kernel_rfl)
    (hwf : waitsAll md ops listed T b i = true := by kernel_rfl) (hQ : ∀ c a w, Q (.panic c) (a.put dst v) w → Q (.panic c) a w := by exact fun _ _ _ h => h) : wpAnyB P md ops Q b S (fuel + 1) listed a w := wpAnyB_takeG dst op ty g hi hg hs hf hr T hwf hQ hS hy h
theorem wpAnyB_takePG {i : Nat} (dst : Option Tmp) (op : Op) (ty : TypeId) (g : Option (Nat × Bool)) {v : Value} {fuel : Nat} {listed : Array Bool} {a : Act} {w : World} (hi : isGuard ops i dst op ty g)
    (hg : Region.wanted (guardOp g) (yielded ops a.tmps) = true)
    (hs : Region.noSelect ops = true) (hf : Region.free md ops listed i = true) (hr : (Region.ready md ops listed).contains i = true)
    (hib : (i == b) = false)
    (hQ : ∀ c a w, Q (.panic c) (a.put dst v) w → Q (.panic c) a w) (hS : listed.getD b true = false → S w) (hy : ∀ w, (execOp a.eval (bareOp dst op ty)).run P w = .ok (.value v) w)
    (h : wpAnyB P md ops Q b S fuel (listed.setIfInBounds i true) (a.put dst v) w) : wpAnyB P md ops Q b S (fuel + 1) listed a w := by
  obtain ⟨o, ho, rfl, h1, h2, h3⟩ := hi
  exact wpAnyB_firstP ho (Region.noSelect_spec hs) hQ (by simpa using hib) fuel listed a w (Region.free_spec ho hf) (by simpa using hr)
    (.inl ⟨(wanted_guard h3 _).trans hg, fun w => by rw [exec_bare h1 h2]; exact hy w⟩) hS h
theorem tkPG {i : Nat} (dst : Option Tmp) (op : Op) (ty : TypeId) (g : Option (Nat × Bool)) {v : Value} {fuel : Nat} {listed : Array Bool} {a : Act} {w : World} (hS : listed.getD b true = false → S w) (hy : ∀ w, (execOp a.eval (bareOp dst op ty)).run P w = .ok (.value v) w)
    (h : wpAnyB P md ops Q b S fuel (listed.setIfInBounds i true) (a.put dst v) w) (hi : isGuard ops i dst op ty g := by exact ⟨_, rfl, rfl, rfl, rfl, rfl⟩) (hg : Region.wanted (guardOp g) (yielded ops a.tmps) = true := by rfl) (hs : Region.noSelect ops = true := by kernel_rfl) (hf : Region.free md ops listed i = true := by kernel_rfl) (hr : (Region.ready md ops listed).contains i = true := by kernel_rfl)
    (hib : (i == b) = false := by kernel_rfl) (hQ : ∀ c a w, Q (.panic c) (a.put dst v) w → Q (.panic c) a w := by exact fun _ _ _ h => h) : wpAnyB P md ops Q b S (fuel + 1) listed a w := wpAnyB_takePG dst op ty g hi hg hs hf hr hib hQ hS hy h
theorem wpAnyB_skip {i : Nat} (dst : Option Tmp) (op : Op) (ty : TypeId) (g : Option (Nat × Bool)) {fuel : Nat} {listed : Array Bool} {a : Act} {w : World} (hi : isGuard ops i dst op ty g)
    (hg : Region.wanted (guardOp g) (yielded ops a.tmps) = false)
    (hs : Region.noSelect ops = true) (hf : Region.free md ops listed i = true) (hr : (Region.ready md ops listed).contains i = true)
    (hib : (i == b) = false)
    (hQ : ∀ c a w, Q (.panic c) (a.put dst undef) w → Q (.panic c) a w) (hS : listed.getD b true = false → S w)
    (h : wpAnyB P md ops Q b S fuel (listed.setIfInBounds i true) (a.put dst undef) w) : wpAnyB P md ops Q b S (fuel + 1) listed a w := by
  obtain ⟨o, ho, rfl, h1, h2, h3⟩ := hi
  exact wpAnyB_firstP ho (Region.noSelect_spec hs) hQ (by simpa using hib) fuel listed a w (Region.free_spec ho hf) (by simpa using hr)
    (.inr ⟨(wanted_guard h3 _).trans hg, rfl⟩) hS h
theorem skG {i : Nat} (dst : Option Tmp) (op : Op) (ty : TypeId) (g : Option (Nat × Bool)) {fuel : Nat} {listed : Array Bool} {a : Act} {w : World} (hS : listed.getD b true = false → S w)
    (h : wpAnyB P md ops Q b S fuel (listed.setIfInBounds i true) (a.put dst undef) w) (hi : isGuard ops i dst op ty g := by exact ⟨_, rfl, rfl, rfl, rfl, rfl⟩) (hg : Region.wanted (guardOp g) (yielded ops a.tmps) = false := by rfl) (hs : Region.noSelect ops = true := by kernel_rfl) (hf : Region.free md ops listed i = true := by kernel_rfl) (hr : (Region.ready md ops listed).contains i = true := by kernel_rfl)
    (hib : (i == b) = false := by kernel_rfl) (hQ : ∀ c a w, Q (.panic c) (a.put dst undef) w → Q (.panic c) a w := by exact fun _ _ _ h => h) : wpAnyB P md ops Q b S (fuel + 1) listed a w := wpAnyB_skip dst op ty g hi hg hs hf hr hib hQ hS h
theorem wpAnyB_onlyG {i : Nat} (dst : Option Tmp) (op : Op) (ty : TypeId) (g : Option (Nat × Bool)) {fuel : Nat} {listed : Array Bool} {a : Act} {w : World} (hi : isGuard ops i dst op ty g) (hr : Region.ready md ops listed = [i])
    (hg : Region.wanted (guardOp g) (yielded ops a.tmps) = true)
    (h : ∀ K : Act → World → Prop, RowKit.Hid (∀ a w, ((listed.setIfInBounds i true).getD b true = false → S w) → wpAnyB P md ops Q b S fuel (listed.setIfInBounds i true) a w → K a w) →
      Oper.wp P (bareOp dst op ty) a w K Q) :
    wpAnyB P md ops Q b S (fuel + 1) listed a w := by
  obtain ⟨o, ho, rfl, h1, h2, h3⟩ := hi
  refine ⟨fun h0 => (by rw [hr] at h0; cases h0), fun j hj => ?_⟩
  rw [hr] at hj
  rcases List.mem_singleton.1 hj with rfl
  refine wpOp_step ho (fun K hK => ?_)
  rw [if_pos ((wanted_guard h3 _).trans hg)]
  have h4 := h K (Lh fun a w hS hW => hK a w ⟨hS, hW⟩)
  unfold Oper.wp at h4 ⊢
  rw [exec_bare (dst := o.dst) h1 h2]
  exact h4
end
end Go.Proofs.YtlbldpkgnonbpaaDoor
/- A staged region where two operations may come up. -/
namespace Go.Proofs.YtlbldpkgnonbpaaDoor
open Go
section
variable {P : Program} {ops : Array Oper} {Q : Exit → Act → World → Prop} {md : Region.Mode} {b : Nat} {S : World → Prop}
theorem wpAnyB_two {i j : Nat} (dst : Option Tmp) (op : Op) (ty : TypeId) (dst' : Option Tmp) (op' : Op) (ty' : TypeId) {fuel : Nat} {listed : Array Bool} {a : Act} {w : World} (hi : isBare ops i dst op ty) (hj : isBare ops j dst' op' ty') (hr : Region.ready md ops listed = [i, j])
    (h : ∀ K : Act → World → Prop, RowKit.Hid (∀ a w, ((listed.setIfInBounds i true).getD b true = false → S w) → wpAnyB P md ops Q b S fuel (listed.setIfInBounds i true) a w → K a w) → Oper.wp P (bareOp dst op ty) a w K Q)
    (h' : ∀ K : Act → World → Prop, RowKit.Hid (∀ a w, ((listed.setIfInBounds j true).getD b true = false → S w) → wpAnyB P md ops Q b S fuel (listed.setIfInBounds j true) a w → K a w) → Oper.wp P (bareOp dst' op' ty') a w K Q) :
    wpAnyB P md ops Q b S (fuel + 1) listed a w := by
  obtain ⟨o, ho, rfl, h1, h2, h3⟩ := hi
  obtain ⟨o', ho', rfl, h1', h2', h3'⟩ := hj
  refine ⟨fun h0 => (by rw [hr] at h0; cases h0), fun k hk => ?_⟩
  rw [hr] at hk
  rcases List.mem_cons.1 hk with rfl | hk
  · refine wpOp_step ho (fun K hK => ?_)
    rw [if_pos (by simp [Region.wanted, h3])]
    have h4 := h K (Lh fun a w hS hW => hK a w ⟨hS, hW⟩)
    unfold Oper.wp at h4 ⊢
    rw [exec_bare (dst := o.dst) h1 h2]
    exact h4
  · rcases List.mem_singleton.1 hk with rfl
    refine wpOp_step ho' (fun K hK => ?_)
    rw [if_pos (by simp [Region.wanted, h3'])]
    have h4 := h' K (Lh fun a w hS hW => hK a w ⟨hS, hW⟩)
    unfold Oper.wp at h4 ⊢
    rw [exec_bare (dst := o'.dst) h1' h2']
    exact h4
end
end Go.Proofs.YtlbldpkgnonbpaaDoor
/- A staged region where three operations may come up. -/
namespace Go.Proofs.YtlbldpkgnonbpaaDoor
open Go
section
variable {P : Program} {ops : Array Oper} {Q : Exit → Act → World → Prop} {md : Region.Mode} {b : Nat} {S : World → Prop}
theorem wpAnyB_three {i j k : Nat} (dst : Option Tmp) (op : Op) (ty : TypeId) (dst' : Option Tmp) (op' : Op) (ty' : TypeId) (dst'' : Option Tmp) (op'' : Op) (ty'' : TypeId) {fuel : Nat} {listed : Array Bool} {a : Act} {w : World} (hi : isBare ops i dst op ty) (hj : isBare ops j dst' op' ty') (hk : isBare ops k dst'' op'' ty'') (hr : Region.ready md ops listed = [i, j, k])
    (h : ∀ K : Act → World → Prop, RowKit.Hid (∀ a w, ((listed.setIfInBounds i true).getD b true = false → S w) → wpAnyB P md ops Q b S fuel (listed.setIfInBounds i true) a w → K a w) → Oper.wp P (bareOp dst op ty) a w K Q)
    (h' : ∀ K : Act → World → Prop, RowKit.Hid (∀ a w, ((listed.setIfInBounds j true).getD b true = false → S w) → wpAnyB P md ops Q b S fuel (listed.setIfInBounds j true) a w → K a w) → Oper.wp P (bareOp dst' op' ty') a w K Q)
    (h'' : ∀ K : Act → World → Prop, RowKit.Hid (∀ a w, ((listed.setIfInBounds k true).getD b true = false → S w) → wpAnyB P md ops Q b S fuel (listed.setIfInBounds k true) a w → K a w) → Oper.wp P (bareOp dst'' op'' ty'') a w K Q) :
    wpAnyB P md ops Q b S (fuel + 1) listed a w := by
  have one : ∀ (n : Nat) (d : Option Tmp) (p : Op) (t : TypeId), isBare ops n d p t → (∀ K : Act → World → Prop, RowKit.Hid (∀ a w, ((listed.setIfInBounds n true).getD b true = false → S w) → wpAnyB P md ops Q b S fuel (listed.setIfInBounds n true) a w → K a w) → Oper.wp P (bareOp d p t) a w K Q) →
      wpOp P ops Q n (fun a' w' => ((listed.setIfInBounds n true).getD b true = false → S w') ∧ wpAnyB P md ops Q b S fuel (listed.setIfInBounds n true) a' w') a w := by
    intro n d p t hn hh
    obtain ⟨o, ho, rfl, h1, h2, h3⟩ := hn
    refine wpOp_step ho (fun K hK => ?_)
    rw [if_pos (by simp [Region.wanted, h3])]
    have h4 := hh K (Lh fun a w hS hW => hK a w ⟨hS, hW⟩)
    unfold Oper.wp at h4 ⊢
    rw [exec_bare (dst := o.dst) h1 h2]
    exact h4
  refine ⟨fun h0 => (by rw [hr] at h0; cases h0), fun n hn => ?_⟩
  rw [hr] at hn
  simp only [List.mem_cons, List.not_mem_nil, or_false] at hn
  rcases hn with rfl | rfl | rfl
  · exact one _ _ _ _ hi h
  · exact one _ _ _ _ hj h'
  · exact one _ _ _ _ hk h''
end
end Go.Proofs.YtlbldpkgnonbpaaDoor
/- Staged regions inside a round of a range over a function, where no bound stands on the calls. -/
namespace Go.Proofs.YtlbldpkgnonbpaaDoor
open Go
def OnlyN (Q : Exit → Act → World → Prop) : Exit → Act → World → Prop
  | .normal, a, w => Q .normal a w
  | _, _, _ => False
theorem OnlyN.never {Q : Exit → Act → World → Prop} : ¬ LetsOut (OnlyN Q) := fun ⟨_, _, h⟩ => h
def Op.noDefer : Op → Bool
  | .defer _ => false
  | _ => true
section
variable {P : Program} {ops : Array Oper} {Q : Exit → Act → World → Prop} {md : Region.Mode} {l n : Nat}
theorem oper_in {o : Oper} (hd : Op.noDefer o.op = true) {a : Act} {w : World} {K : Act → World → Prop} (h : o.wp P a w K (OnlyN Q)) : o.wpIn (Fence.wide.inRound l) n P a w K Q := by
 refine ⟨fun _ _ => trivial, ?_⟩
 rw [Oper.semAt_plain _ _ _ (fun c hc => by rw [hc] at hd; cases hd)]
 unfold Oper.wp at h
 generalize (execOp a.eval o).run P w = r at *
 cases r with
 | ok x w' =>
  cases x <;> simp only [Oper.upon, Oper.uponIn] at h ⊢ <;> first | exact h | skip
  case enter f args =>
   refine ⟨(fun hx => by cases hx), CallsIn.inRound l (callsIn_wide.2 (Calls.mono h fun e w'' he => ?_))⟩
   cases e with
   | returned v => exact he
   | panicked c => exact he.elim
   | outgrown => exact (OnlyN.never he).elim
  case row row args =>
   refine ⟨(fun hx => by cases hx), fun c cs _ => ?_⟩
   obtain ⟨v, w', r, s⟩ := h c cs
   exact ⟨v, w', r, stepsIn_wide.2 s⟩
 | halt x w' => cases x <;> simp only [Oper.upon, Oper.uponIn] at h ⊢ <;> exact h.elim
end
end Go.Proofs.YtlbldpkgnonbpaaDoor
