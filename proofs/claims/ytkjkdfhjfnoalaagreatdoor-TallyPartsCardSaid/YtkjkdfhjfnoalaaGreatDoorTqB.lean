/- Folded: RefA, RefB, RefC, RefD, RefOf. -/
import Derived.Test.YtkjkdfhjfnoalaaGreatDoorTqA
import Derived.RangeFuncNested
import Derived.RangeFuncBound
import Derived.RangeFuncCalls
import Derived.RangeFuncLeaves
import Derived.RangeFuncBox
import Derived.RangeFuncWrites
import Derived.Shelf.Abstract
import Derived.WalkKit
import Derived.OwnWalkIn
import Derived.TacticsInMore
import Derived.LoopNIn
import Derived.LoopIn
import Derived.ProofKit
import Derived.Lib.SmallJoins
import Derived.ShutString
import Derived.ChangeOld
import Derived.ChangeSlices
import Derived.Laws.AppendOwn
import Derived.Laws.AppendOwnNone
set_option linter.unusedSimpArgs false
set_option linter.unusedVariables false
set_option maxRecDepth 100000
/- The reference of chapter 30: Has, prime, Power, turned, under. -/
namespace Go.Proofs.YtkjkdfhjfnoalaaGreatDoor
open Go.RowKit Num
set_option maxHeartbeats 1000000 in
theorem rHas_any (P Q G : Int) (r : Bool) (w : World) (hP : 0 ≤ P) (hG : 0 ≤ G) (hr : r = decide (Has P Q G)) :
    Calls Tryz.prog 58 #[.agg #[.int .u64 P, .int .u64 Q, .int .u64 G]] w fun e w' => e = .returned (.bool r) ∧ Below w.heap.size w w' := by
  by_cases hH : Has P Q G
  · obtain ⟨p5, p3, _, pq, g2, gP⟩ := id hH
    have hm : (P % 2 == 1) = true := by simp; omega
    have hd : (Q == P / 2) = true := by simp; omega
    have HR := Lh (show true = r by rw [hr]; simp [hH])
    clear hH pq hr
    go_enter Tryz.func58, Tryz.ntmps58
    go_wp2
    go_ret
    exact ⟨ret_bool HR.o, (Below.refl _ _).alloc (Nat.le_refl _) _⟩
  · have HR := Lh (show false = r by rw [hr]; simp [hH])
    clear hr
    have h5 : P < 5 ∨ 2147483648 ≤ P ∨ P % 2 ≠ 1 ∨ Q ≠ P / 2 ∨ G < 2 ∨ P ≤ G := by
     unfold Has at hH; omega
    clear hH
    by_cases c1 : P < 5
    · clear h5
      go_enter Tryz.func58, Tryz.ntmps58
      go_wp2
      go_ret
      exact ⟨ret_bool HR.o, (Below.refl _ _).alloc (Nat.le_refl _) _⟩
    by_cases c2 : 2147483648 ≤ P
    · clear h5
      go_enter Tryz.func58, Tryz.ntmps58
      go_wp2
      go_ret
      exact ⟨ret_bool HR.o, (Below.refl _ _).alloc (Nat.le_refl _) _⟩
    by_cases c3 : P % 2 = 1
    case neg =>
     have hm : (P % 2 == 1) = false := by simpa using c3
     clear h5 c3
     go_enter Tryz.func58, Tryz.ntmps58
     go_wp2
     go_ret
     exact ⟨ret_bool HR.o, (Below.refl _ _).alloc (Nat.le_refl _) _⟩
    case pos =>
     have hm : (P % 2 == 1) = true := by simpa using c3
     by_cases c4 : Q = P / 2
     case neg =>
      have hd : (Q == P / 2) = false := by simpa using c4
      clear h5 c3 c4
      go_enter Tryz.func58, Tryz.ntmps58
      go_wp2
      go_ret
      exact ⟨ret_bool HR.o, (Below.refl _ _).alloc (Nat.le_refl _) _⟩
     case pos =>
      have hd : (Q == P / 2) = true := by simpa using c4
      have h6 : G < 2 ∨ P ≤ G := by omega
      clear h5 c3 c4
      by_cases c5 : G < 2
      · clear h6
        go_enter Tryz.func58, Tryz.ntmps58
        go_wp2
        go_ret
        exact ⟨ret_bool HR.o, (Below.refl _ _).alloc (Nat.le_refl _) _⟩
      · have c6 : P ≤ G := by omega
        have c7 : decide (G < P) = false := by simp; omega
        clear h6
        go_enter Tryz.func58, Tryz.ntmps58
        go_wp2
        go_ret
        exact ⟨ret_bool HR.o, (Below.refl _ _).alloc (Nat.le_refl _) _⟩
theorem powm_rec_odd {a x m : Int} (h0 : 0 ≤ x) (h : x % 2 = 1) : (powm a (x / 2) m * powm a (x / 2) m % m) * a % m = powm a x m := by
 have h1 : powm a x m = a ^ x.toNat % m := rfl
 rw [h1]
 apply Cg.emod_eq
 refine Cg.trans (((cg_emod m _).trans ((powm_cg a (x / 2) m).mul (powm_cg a (x / 2) m))).mul_right a) (Cg.of_eq ?_)
 rw [show x.toNat = (x / 2).toNat + (x / 2).toNat + 1 by omega, Int.pow_succ, Int.pow_add]
theorem powm_rec_even {a x m : Int} (h0 : 0 ≤ x) (h : x % 2 = 0) : powm a (x / 2) m * powm a (x / 2) m % m = powm a x m := by
 have h1 : powm a x m = a ^ x.toNat % m := rfl
 rw [h1]
 apply Cg.emod_eq
 refine Cg.trans ((powm_cg a (x / 2) m).mul (powm_cg a (x / 2) m)) (Cg.of_eq ?_)
 rw [show x.toNat = (x / 2).toNat + (x / 2).toNat by omega, Int.pow_add]
set_option maxHeartbeats 400000 in
theorem rPower_by (m a : Int) (m1 : 1 ≤ m) (m3 : m < 2147483648) (a0 : 0 ≤ a) (a1 : a < 2147483648) (k : Nat) : ∀ (x r : Int) (w : World), U64 x → x < 2 ^ k → powm a x m = r →
    Calls Tryz.prog 59 #[.int .u64 m, .int .u64 a, .int .u64 x] w fun e w' => e = .returned (.int .u64 r) ∧ w = w' := by
  induction k with
  | zero =>
   intro x r w hx x1 hr
   have x0 := hx.1
   obtain rfl : x = 0 := by simp at x1; omega
   have HR := Lh (show 1 % m = r by rw [← hr, powm_zero])
   clear hr x1
   go_enter Tryz.func59, Tryz.ntmps59
   go_wp2_with fail
   go_ret
   exact ⟨ret_int HR.o, rfl⟩
  | succ k ih =>
   intro x r w hx x1 hr
   have x0 := hx.1
   have hhalf := hx.half
   have IH := Lh ih
   clear ih
   have HR := Lh hr
   clear hr
   by_cases hz : x = 0
   · subst hz
     have HZ := Lh (show 1 % m = r by rw [← HR.o, powm_zero])
     clear x1
     go_enter Tryz.func59, Tryz.ntmps59
     go_wp2_with fail
     go_ret
     exact ⟨ret_int HZ.o, rfl⟩
   · have hzb : (x == 0) = false := by simpa using hz
     have HK := Lh (show x / 2 < 2 ^ k by rw [Int.pow_succ] at x1; omega)
     have n0 : 0 ≤ powm a (x / 2) m := powm_nonneg (by omega)
     have n1 : powm a (x / 2) m < m := powm_lt (by omega)
     clear x1 hz
     obtain ⟨h, hh⟩ : ∃ h, powm a (x / 2) m = h := ⟨_, rfl⟩
     have HH := Lh hh
     rw [hh] at n0 n1
     clear hh
     obtain ⟨k1, k2⟩ := mul_bound n0 (by omega) n0 (by omega)
     have q0 : 0 ≤ h * h % m := Int.emod_nonneg _ (by omega)
     have q1 : h * h % m < m := Int.emod_lt_of_pos _ (by omega)
     obtain ⟨k3, k4⟩ := mul_bound q0 (by omega) a0 a1
     by_cases hb : x % 2 = 1
     · have hbb : (x % 2 == 1) = true := by simpa using hb
       have HZ := Lh (show (h * h % m) * a % m = r by rw [← HH.o, powm_rec_odd x0 hb]; exact HR.o)
       clear hb
       go_enter Tryz.func59, Tryz.ntmps59
       go_wp2_with fail
       refine (IH.o (x / 2) h _ (hx.mono (by omega) (by omega)) HK.o HH.o).mono ?_
       rintro e w1 ⟨rfl, rfl⟩
       go_wp2_with fail
       go_ret
       exact ⟨ret_int HZ.o, rfl⟩
     · have hbb : (x % 2 == 1) = false := by simpa using hb
       have HZ := Lh (show h * h % m = r by rw [← HH.o, powm_rec_even x0 (by omega)]; exact HR.o)
       clear hb
       go_enter Tryz.func59, Tryz.ntmps59
       go_wp2_with fail
       refine (IH.o (x / 2) h _ (hx.mono (by omega) (by omega)) HK.o HH.o).mono ?_
       rintro e w1 ⟨rfl, rfl⟩
       go_wp2_with fail
       go_ret
       exact ⟨ret_int HZ.o, rfl⟩
theorem rPower_any (m a x r : Int) (w : World) (m1 : 1 ≤ m) (m3 : m < 2147483648) (a0 : 0 ≤ a) (a1 : a < 2147483648) (hx : U64 x) (hr : powm a x m = r) :
    Calls Tryz.prog 59 #[.int .u64 m, .int .u64 a, .int .u64 x] w fun e w' => e = .returned (.int .u64 r) ∧ w = w' :=
  rPower_by m a m1 m3 a0 a1 64 x r w hx (by have := hx.2; omega) hr
end Go.Proofs.YtkjkdfhjfnoalaaGreatDoor
/- The reference of chapter 30, further: turned, under, asked, and the functions of the chapter. -/
namespace Go.Proofs.YtkjkdfhjfnoalaaGreatDoor
open Go.RowKit Num
end Go.Proofs.YtkjkdfhjfnoalaaGreatDoor
/- The reference functions of chapter 30 that begin with asked. -/
namespace Go.Proofs.YtkjkdfhjfnoalaaGreatDoor
open Go.RowKit Num
set_option maxHeartbeats 800000 in
theorem rIn_gen {P Q G a : Int} {r : Bool} (hQ : 0 ≤ Q) (w : World) (hH : Has P Q G) (a0 : 0 ≤ a) (aP : a < P) (hr : r = true ↔ Mem P Q a) :
    Calls Tryz.prog 93 #[.agg #[.int .u64 P, .int .u64 Q, .int .u64 G], .int .u64 a] w fun e w' => e = .returned (.bool r) ∧ Below w.heap.size w w' := by
  obtain ⟨p5, p3, hQ', pq, g2, gP⟩ := id hH
  have HX := Lh (U64.of_lt hQ (by omega))
  have HM := Lh hr
  clear hr pq hH
  by_cases h0 : 0 < a
  · have HZ := Lh (show (powm a Q P == 1) = r by rw [Bool.eq_iff_iff, HM.o]; simp [Mem, h0, aP])
    go_enter Tryz.func93, Tryz.ntmps93
    go_wp2_with fail
    refine (rPower_any P a Q _ _ (by omega) p3 a0 (by omega) HX.o rfl).mono ?_
    rintro e w2 ⟨rfl, rfl⟩
    go_wp2_with fail
    go_ret
    exact ⟨ret_bool HZ.o, (Below.refl _ _).alloc (Nat.le_refl _) _⟩
  · have HZ := Lh (show false = r by rw [Bool.eq_iff_iff, HM.o]; simp [Mem, h0])
    go_enter Tryz.func93, Tryz.ntmps93
    go_wp2_with fail
    go_ret
    exact ⟨ret_bool HZ.o, (Below.refl _ _).alloc (Nat.le_refl _) _⟩
set_option maxHeartbeats 800000 in
theorem rSum_gen {P Q G x y v : Int} (w : World) (hH : Has P Q G) (x0 : 0 ≤ x) (xQ : x < Q) (y0 : 0 ≤ y) (yQ : y < Q) (hv : (x + y) % Q = v) :
    Calls Tryz.prog 74 #[.agg #[.int .u64 P, .int .u64 Q, .int .u64 G], .int .u64 x, .int .u64 y] w fun e w' => e = .returned (.int .u64 v) ∧ Below w.heap.size w w' := by
  obtain ⟨p5, p3, hQ', pq, g2, gP⟩ := id hH
  have q3 : Q < 1073741824 := by omega
  have HV := Lh hv
  clear hv pq hH
  go_enter Tryz.func74, Tryz.ntmps74
  go_wp2_with fail
  go_ret
  exact ⟨ret_int HV.o, (Below.refl _ _).alloc (Nat.le_refl _) _⟩
set_option maxHeartbeats 800000 in
theorem rProduct_gen {P Q G x y v : Int} (w : World) (hH : Has P Q G) (x0 : 0 ≤ x) (xQ : x < Q) (y0 : 0 ≤ y) (yQ : y < Q) (hv : x * y % Q = v) :
    Calls Tryz.prog 75 #[.agg #[.int .u64 P, .int .u64 Q, .int .u64 G], .int .u64 x, .int .u64 y] w fun e w' => e = .returned (.int .u64 v) ∧ Below w.heap.size w w' := by
  obtain ⟨p5, p3, hQ', pq, g2, gP⟩ := id hH
  have q3 : Q < 1073741824 := by omega
  obtain ⟨m1, m2⟩ := mul_bound x0 (by omega) y0 (by omega)
  have HV := Lh hv
  clear hv pq hH
  go_enter Tryz.func75, Tryz.ntmps75
  go_wp2_with fail
  go_ret
  exact ⟨ret_int HV.o, (Below.refl _ _).alloc (Nat.le_refl _) _⟩
end Go.Proofs.YtkjkdfhjfnoalaaGreatDoor
/- The reference of chapter 30: Form, Check, IsPrime, Default, Log, FromDigest. -/
namespace Go.Proofs.YtkjkdfhjfnoalaaGreatDoor
open Go.RowKit Num
end Go.Proofs.YtkjkdfhjfnoalaaGreatDoor
/- The reference's Of and FromDigest. -/
namespace Go.Proofs.YtkjkdfhjfnoalaaGreatDoor
open Go.RowKit Num
set_option maxHeartbeats 1000000 in
theorem rOf_ok (P Q G v : Int) (bs : List Int) (w : World) (hH : Has P Q G) (hlen : bs.length = 32) (hB : Bytes bs) (hv : beN (bs.take 8) % Q = v) :
    Calls Tryz.prog 72 #[.agg #[.int .u64 P, .int .u64 Q, .int .u64 G], .agg (byteV bs)] w fun e w' => e = .returned (.int .u64 v) ∧ Below w.heap.size w w' := by
  obtain ⟨p5, p3, hQ, pq, g2, gP⟩ := id hH
  have q3 : Q < 1073741824 := by omega
  have q2 : 2 ≤ Q := by omega
  have HB := Lh hB
  clear hB
  have HV := Lh hv
  clear hv
  have HL := Lh hlen
  clear hlen
  clear pq hH
  have HS := Lh (show ∀ i, i < bs.length → (((w.alloc (.cells #[.int .u64 P, .int .u64 Q, .int .u64 G] 24)).alloc (.cells (byteV bs) 83))).cell? ⟨w.heap.size + 1, i, none⟩ = some (.int .u8 (bs.getD i 0)) from fun i hi => by
   rw [← byteV_get bs i hi]; go_simp)
  go_enter Tryz.func72, Tryz.ntmps72
  go_wp2_with fail
  go_loop [5, 6] (fun n i => ∃ k : Nat, k ≤ 8 ∧ i = .int .i64 k ∧ n = .int .u64 (beN (bs.take k))) (fun _ i => 8 - (intOf i).toNat)
  case atStart => exact ⟨0, by omega, rfl, rfl⟩
  case round =>
   obtain ⟨k, hk, rfl, rfl⟩ := hrel
   by_cases hlt : k < 8
   · have hck := HS.o k (by have := HL.o; omega)
     have hk32 : (k : Int) < 32 := by omega
     have HN := Lh (beN_snoc bs k (by have := HL.o; omega))
     obtain ⟨n0, n1⟩ := beN_bound HB.o k (by have := HL.o; omega)
     have n2 := pow256_le k hlt
     obtain ⟨c0, c1⟩ := HB.o.get k
     generalize bs.getD k 0 = c at hck HN c0 c1
     generalize beN (bs.take k) = n at HN n0 n1
     have n3 : n < 72057594037927936 := by omega
     clear n1 n2
     go_wp2_with fail
     go_round
     case rel => exact ⟨k + 1, by omega, by go_num, by rw [HN.o, Int.mul_comm]⟩
     case measure => simp [intOf]; omega
   · obtain rfl : k = 8 := by omega
     have n0 := (beN_bound HB.o 8 (by have := HL.o; omega)).1
     go_wp2_with fail
     go_ret
     exact ⟨ret_int HV.o, ((Below.refl _ _).alloc (Nat.le_refl _) _).alloc (by simp) _⟩
open Go.RowKit
structure Boxed (w : World) (B : Nat) (P Q G : Int) : Prop where
  c0 : w.cell? ⟨B, 0, none⟩ = some (.int .u64 P)
  c1 : w.cell? ⟨B, 1, none⟩ = some (.int .u64 Q)
  c2 : w.cell? ⟨B, 2, none⟩ = some (.int .u64 G)
  lt : B < w.heap.size
theorem Boxed.new (w : World) (P Q G : Int) (T : TypeId) : Boxed (w.alloc (.cells #[.int .u64 P, .int .u64 Q, .int .u64 G] T)) w.heap.size P Q G := by
 refine ⟨?_, ?_, ?_, ?_⟩
 · rw [World.cell?_alloc_new]; rfl
 · rw [World.cell?_alloc_new]; rfl
 · rw [World.cell?_alloc_new]; rfl
 · simp
theorem Boxed.keep {w w' : World} {B : Nat} {P Q G : Int} (h : Boxed w B P Q G) (hb : Below w.heap.size w w') : Boxed w' B P Q G :=
  ⟨(hb.cell (p := ⟨B, 0, none⟩) h.lt).trans h.c0, (hb.cell (p := ⟨B, 1, none⟩) h.lt).trans h.c1, (hb.cell (p := ⟨B, 2, none⟩) h.lt).trans h.c2, Nat.lt_of_lt_of_le h.lt hb.size⟩
theorem Boxed.drew {w : World} {B : Nat} {P Q G : Int} (h : Boxed w B P Q G) : Boxed w.drew B P Q G := h.keep (Below.refl _ _).drew
theorem Boxed.alloc {w : World} {B : Nat} {P Q G : Int} (h : Boxed w B P Q G) (o : Obj) : Boxed (w.alloc o) B P Q G := h.keep ((Below.refl _ _).alloc (Nat.le_refl _) o)
open Go.RowKit Num
def ShL (w : World) (a : Option Addr) (n c : Nat) (xs : List Int) : Prop :=
  (a = none ∧ n = 0 ∧ c = 0 ∧ xs = []) ∨ ∃ s, a = some ⟨s, 0, none⟩ ∧ n = xs.length ∧ s < w.heap.size ∧ ∀ i, i < xs.length → w.cell? ⟨s, i, none⟩ = some (.int .u64 (xs.getD i 0))
theorem ShL.len {w : World} {a : Option Addr} {n c : Nat} {xs : List Int} (h : ShL w a n c xs) : n = xs.length := by
 rcases h with ⟨_, h1, _, h2⟩ | ⟨s, _, h1, _⟩
 · rw [h1, h2]; rfl
 · exact h1
theorem ShL.keep {w w' : World} {a : Option Addr} {n c : Nat} {xs : List Int} (h : ShL w a n c xs) (hb : Below w.heap.size w w') : ShL w' a n c xs := by
 rcases h with h | ⟨s, h0, h1, h2, h3⟩
 · exact .inl h
 · exact .inr ⟨s, h0, h1, Nat.lt_of_lt_of_le h2 hb.size, fun i hi => (hb.cell (p := ⟨s, i, none⟩) h2).trans (h3 i hi)⟩
theorem ShL.drew {w : World} {a : Option Addr} {n c : Nat} {xs : List Int} (h : ShL w a n c xs) : ShL w.drew a n c xs := h.keep (Below.refl _ _).drew
theorem ShL.alloc {w : World} {a : Option Addr} {n c : Nat} {xs : List Int} (h : ShL w a n c xs) (o : Obj) : ShL (w.alloc o) a n c xs := h.keep ((Below.refl _ _).alloc (Nat.le_refl _) o)
theorem ShL.nil (w : World) : ShL w none 0 0 [] := .inl ⟨rfl, rfl, rfl, rfl⟩
theorem getD_map (xs : List Int) (i : Nat) (h : i < xs.length) : (xs.map (Value.int IntKind.u64)).toArray[i]? = some (.int .u64 (xs.getD i 0)) := by
 simp [h, List.getD_eq_getElem?_getD]
theorem ShL.new (w : World) (xs : List Int) (vs : Array Value) (T : TypeId) (n c : Nat) (hn : n = xs.length) (hv : vs = (xs.map (Value.int IntKind.u64)).toArray) : ShL (w.alloc (.cells vs T)) (some ⟨w.heap.size, 0, none⟩) n c xs := by
 refine .inr ⟨w.heap.size, rfl, hn, by simp, fun i hi => ?_⟩
 rw [World.cell?_alloc_new, hv, getD_map xs i hi]
theorem ShL.at {w : World} {a : Option Addr} {n c : Nat} {xs : List Int} (h : ShL w a n c xs) (k : Nat) (hk : k < n) : ∃ s, a = some ⟨s, 0, none⟩ ∧ w.cell? ⟨s, k, none⟩ = some (.int .u64 (xs.getD k 0)) := by
 rcases h with ⟨_, h1, _, _⟩ | ⟨s, h0, h1, _, h3⟩
 · omega
 · exact ⟨s, h0, h3 k (by omega)⟩
def askS (P Q G : Int) (es ns : List Int) : Int := if Has P Q G then (if okAll Q es && okAll P ns then 0 else 2) else 300
theorem askS_zero {P Q G : Int} {es ns : List Int} (h : askS P Q G es ns = 0) : Has P Q G ∧ (∀ x, x ∈ es → x < Q) ∧ ∀ x, x ∈ ns → x < P := by
 unfold askS at h
 by_cases hH : Has P Q G
 · rw [if_pos hH] at h
   refine ⟨hH, ?_⟩
   by_cases ho : (okAll Q es && okAll P ns) = true
   · rw [Bool.and_eq_true] at ho
     exact ⟨fun x hx => by simpa using List.all_eq_true.1 ho.1 x hx, fun x hx => by simpa using List.all_eq_true.1 ho.2 x hx⟩
   · rw [if_neg ho] at h; omega
 · rw [if_neg hH] at h; omega
theorem askS_ok {P Q G : Int} {es ns : List Int} (hH : Has P Q G) (h1 : ∀ x, x ∈ es → x < Q) (h2 : ∀ x, x ∈ ns → x < P) : askS P Q G es ns = 0 := by
 rw [askS, if_pos hH, if_pos]
 rw [Bool.and_eq_true]
 exact ⟨List.all_eq_true.2 fun x hx => by simpa using h1 x hx, List.all_eq_true.2 fun x hx => by simpa using h2 x hx⟩
theorem askS_no {P Q G : Int} {es ns : List Int} (hH : ¬ Has P Q G) : askS P Q G es ns = 300 := by rw [askS, if_neg hH]
theorem askS_e {P Q G : Int} {es ns : List Int} (hH : Has P Q G) (h : okAll Q es = false) : askS P Q G es ns = 2 := by rw [askS, if_pos hH, h]; rfl
theorem askS_n {P Q G : Int} {es ns : List Int} (hH : Has P Q G) (h : okAll P ns = false) : askS P Q G es ns = 2 := by rw [askS, if_pos hH, h, Bool.and_false]; rfl
theorem okAll_end (L : Int) (xs : List Int) (k : Nat) (hk : k = xs.length) (h : okAll L (xs.take k) = true) : okAll L xs = true := by
 rw [hk, List.take_length] at h; exact h
set_option maxHeartbeats 1600000 in
theorem scheck_any {P Q G r : Int} {es ns : List Int} {a b : Option Addr} {n c m d : Nat} (w : World) (hP : 0 ≤ P) (hQ : 0 ≤ Q) (hG : 0 ≤ G) (ha : ShL w a n c es) (hb : ShL w b m d ns) (hn : n ≤ 20) (hm : m ≤ 20) (hr : askS P Q G es ns = r) :
    Calls Tryz.prog 55 #[.agg #[.int .u64 P, .int .u64 Q, .int .u64 G], .slice a n c, .slice b m d] w fun e w' => e = .returned (.int .i64 r) ∧ Below w.heap.size w w' := by
  have HR := Lh hr
  clear hr
  have hx0 := Boxed.new w P Q G 24
  have HA := Lh ha
  have HB := Lh hb
  clear ha hb
  by_cases hH : Has P Q G
  case neg =>
   have HZ := Lh (show 300 = r by rw [← HR.o, askS_no hH])
   have HH := Lh hH
   clear hH
   go_enter Tryz.func55, Tryz.ntmps55
   go_wp2_with fail
   refine (form_no P Q G _ hP hQ hG HH.o).mono ?_
   rintro e w1 ⟨rfl, hb1⟩
   go_wp2_with fail
   go_ret
   exact ⟨ret_int HZ.o, ((Below.refl _ _).alloc (Nat.le_refl _) _).trans (hb1.mono (by simp))⟩
  case pos =>
   have HH := Lh hH
   clear hH
   go_enter Tryz.func55, Tryz.ntmps55
   go_wp2_with fail
   refine (form_yes P Q G _ HH.o).mono ?_
   rintro e w1 ⟨rfl, hb1⟩
   have hx1 := hx0.keep hb1
   have HB1 : Below w.heap.size w w1 := ((Below.refl _ _).alloc (Nat.le_refl _) _).trans (hb1.mono (by simp))
   have HA1 := Lh (HA.o.keep HB1)
   have HB2 := Lh (HB.o.keep HB1)
   obtain ⟨g0, g1, g2, gl⟩ := hx1
   clear hb1 hx0
   have hbn := Lh HB1
   clear HB1
   go_wp2_with fail
   go_loop [9, 19] (fun c0 c1 => ∃ k : Nat, k ≤ n ∧ c1 = .int .i64 k ∧ Hid (okAll Q (es.take k) = true)) (fun c0 c1 => n - (intOf c1).toNat)
   case atStart => exact ⟨0, Nat.zero_le _, rfl, rfl⟩
   case round =>
    obtain ⟨k, hk, rfl, HK⟩ := hrel
    by_cases hlt : k < n
    case neg =>
     have HEes := Lh (okAll_end Q es k (by rw [← HA1.o.len]; omega) HK.o)
     go_wp2_with fail
     go_loop [11, 30] (fun c0 c1 => ∃ k : Nat, k ≤ m ∧ c1 = .int .i64 k ∧ Hid (okAll P (ns.take k) = true)) (fun c0 c1 => m - (intOf c1).toNat)
     case atStart => exact ⟨0, Nat.zero_le _, rfl, rfl⟩
     case round =>
      obtain ⟨k, hk, rfl, HK⟩ := hrel
      by_cases hlt : k < m
      case neg =>
       have HEns := Lh (okAll_end P ns k (by rw [← HB2.o.len]; omega) HK.o)
       go_wp2_with fail
       go_ret
       exact ⟨ret_int (by rw [← HR.o, askS, if_pos HH.o, HEes.o, HEns.o]; rfl), hbn.o⟩
      case pos =>
       obtain ⟨s, hsa, hck⟩ := HB2.o.at k hlt
       have hlx : k < ns.length := by rw [← HB2.o.len]; exact hlt
       have hsn := okAll_snoc P ns k hlx
       have hno := okAll_not P ns k hlx
       rw [HK.o] at hsn
       generalize ns.getD k 0 = v at hck hsn hno
       have HN := Lh hno
       have HT := Lh hsn
       clear hno hsn hlx
       subst hsa
       have hk0 : (0 : Int) ≤ (k : Int) := by omega
       have hk1 : (k : Int) < (m : Int) := by omega
       by_cases hv : v < P
       case neg =>
        have hd : decide (v < P) = false := by simpa using hv
        have hd2 : decide (P ≤ v) = true := by simp; omega
        go_wp2_with fail
        go_ret
        exact ⟨ret_int (by rw [← HR.o, askS_n HH.o (HN.o (by omega))]), hbn.o⟩
       case pos =>
        go_wp2_with fail
        go_round
        case rel => exact ⟨k + 1, by omega, by go_num, (by show okAll P (ns.take (k + 1)) = true; rw [HT.o]; simpa using hv)⟩
        case measure => simp [intOf]; omega
    case pos =>
     obtain ⟨s, hsa, hck⟩ := HA1.o.at k hlt
     have hlx : k < es.length := by rw [← HA1.o.len]; exact hlt
     have hsn := okAll_snoc Q es k hlx
     have hno := okAll_not Q es k hlx
     rw [HK.o] at hsn
     generalize es.getD k 0 = v at hck hsn hno
     have HN := Lh hno
     have HT := Lh hsn
     clear hno hsn hlx
     subst hsa
     have hk0 : (0 : Int) ≤ (k : Int) := by omega
     have hk1 : (k : Int) < (n : Int) := by omega
     by_cases hv : v < Q
     case neg =>
      have hd : decide (v < Q) = false := by simpa using hv
      have hd2 : decide (Q ≤ v) = true := by simp; omega
      go_wp2_with fail
      go_ret
      exact ⟨ret_int (by rw [← HR.o, askS_e HH.o (HN.o (by omega))]), hbn.o⟩
     case pos =>
      go_wp2_with fail
      go_round
      case rel => exact ⟨k + 1, by omega, by go_num, (by show okAll Q (es.take (k + 1)) = true; rw [HT.o]; simpa using hv)⟩
      case measure => simp [intOf]; omega
set_option maxHeartbeats 1600000 in
theorem pcheck_any {P Q G r : Int} {es ns : List Int} {a b : Option Addr} {n c m d : Nat} (w : World) (hP : 0 ≤ P) (hQ : 0 ≤ Q) (hG : 0 ≤ G) (ha : ShL w a n c es) (hb : ShL w b m d ns) (hn : n ≤ 20) (hm : m ≤ 20) (hr : askS P Q G es ns = r) :
    Calls Tryz.prog 35 #[.agg #[.int .u64 P, .int .u64 Q, .int .u64 G], .slice a n c, .slice b m d] w fun e w' => e = .returned (.int .i64 r) ∧ Below w.heap.size w w' := by
  have HR := Lh hr
  clear hr
  have hx0 := Boxed.new w P Q G 24
  have HA := Lh ha
  have HB := Lh hb
  clear ha hb
  by_cases hH : Has P Q G
  case neg =>
   have HZ := Lh (show 300 = r by rw [← HR.o, askS_no hH])
   have HH := Lh hH
   clear hH
   go_enter Tryz.func35, Tryz.ntmps35
   go_wp2_with fail
   refine (form_no P Q G _ hP hQ hG HH.o).mono ?_
   rintro e w1 ⟨rfl, hb1⟩
   go_wp2_with fail
   go_ret
   exact ⟨ret_int HZ.o, ((Below.refl _ _).alloc (Nat.le_refl _) _).trans (hb1.mono (by simp))⟩
  case pos =>
   have HH := Lh hH
   clear hH
   go_enter Tryz.func35, Tryz.ntmps35
   go_wp2_with fail
   refine (form_yes P Q G _ HH.o).mono ?_
   rintro e w1 ⟨rfl, hb1⟩
   have hx1 := hx0.keep hb1
   have HB1 : Below w.heap.size w w1 := ((Below.refl _ _).alloc (Nat.le_refl _) _).trans (hb1.mono (by simp))
   have HA1 := Lh (HA.o.keep HB1)
   have HB2 := Lh (HB.o.keep HB1)
   obtain ⟨g0, g1, g2, gl⟩ := hx1
   clear hb1 hx0
   have hbn := Lh HB1
   clear HB1
   go_wp2_with fail
   go_loop [9, 19] (fun c0 c1 => ∃ k : Nat, k ≤ n ∧ c1 = .int .i64 k ∧ Hid (okAll Q (es.take k) = true)) (fun c0 c1 => n - (intOf c1).toNat)
   case atStart => exact ⟨0, Nat.zero_le _, rfl, rfl⟩
   case round =>
    obtain ⟨k, hk, rfl, HK⟩ := hrel
    by_cases hlt : k < n
    case neg =>
     have HEes := Lh (okAll_end Q es k (by rw [← HA1.o.len]; omega) HK.o)
     go_wp2_with fail
     go_loop [11, 30] (fun c0 c1 => ∃ k : Nat, k ≤ m ∧ c1 = .int .i64 k ∧ Hid (okAll P (ns.take k) = true)) (fun c0 c1 => m - (intOf c1).toNat)
     case atStart => exact ⟨0, Nat.zero_le _, rfl, rfl⟩
     case round =>
      obtain ⟨k, hk, rfl, HK⟩ := hrel
      by_cases hlt : k < m
      case neg =>
       have HEns := Lh (okAll_end P ns k (by rw [← HB2.o.len]; omega) HK.o)
       go_wp2_with fail
       go_ret
       exact ⟨ret_int (by rw [← HR.o, askS, if_pos HH.o, HEes.o, HEns.o]; rfl), hbn.o⟩
      case pos =>
       obtain ⟨s, hsa, hck⟩ := HB2.o.at k hlt
       have hlx : k < ns.length := by rw [← HB2.o.len]; exact hlt
       have hsn := okAll_snoc P ns k hlx
       have hno := okAll_not P ns k hlx
       rw [HK.o] at hsn
       generalize ns.getD k 0 = v at hck hsn hno
       have HN := Lh hno
       have HT := Lh hsn
       clear hno hsn hlx
       subst hsa
       have hk0 : (0 : Int) ≤ (k : Int) := by omega
       have hk1 : (k : Int) < (m : Int) := by omega
       by_cases hv : v < P
       case neg =>
        have hd : decide (v < P) = false := by simpa using hv
        have hd2 : decide (P ≤ v) = true := by simp; omega
        go_wp2_with fail
        go_ret
        exact ⟨ret_int (by rw [← HR.o, askS_n HH.o (HN.o (by omega))]), hbn.o⟩
       case pos =>
        go_wp2_with fail
        go_round
        case rel => exact ⟨k + 1, by omega, by go_num, (by show okAll P (ns.take (k + 1)) = true; rw [HT.o]; simpa using hv)⟩
        case measure => simp [intOf]; omega
    case pos =>
     obtain ⟨s, hsa, hck⟩ := HA1.o.at k hlt
     have hlx : k < es.length := by rw [← HA1.o.len]; exact hlt
     have hsn := okAll_snoc Q es k hlx
     have hno := okAll_not Q es k hlx
     rw [HK.o] at hsn
     generalize es.getD k 0 = v at hck hsn hno
     have HN := Lh hno
     have HT := Lh hsn
     clear hno hsn hlx
     subst hsa
     have hk0 : (0 : Int) ≤ (k : Int) := by omega
     have hk1 : (k : Int) < (n : Int) := by omega
     by_cases hv : v < Q
     case neg =>
      have hd : decide (v < Q) = false := by simpa using hv
      have hd2 : decide (Q ≤ v) = true := by simp; omega
      go_wp2_with fail
      go_ret
      exact ⟨ret_int (by rw [← HR.o, askS_e HH.o (HN.o (by omega))]), hbn.o⟩
     case pos =>
      go_wp2_with fail
      go_round
      case rel => exact ⟨k + 1, by omega, by go_num, (by show okAll Q (es.take (k + 1)) = true; rw [HT.o]; simpa using hv)⟩
      case measure => simp [intOf]; omega
set_option maxHeartbeats 1600000 in
theorem rAsked_any {P Q G r : Int} {es ns : List Int} {a b : Option Addr} {n c m d : Nat} (w : World) (hP : 0 ≤ P) (hQ : 0 ≤ Q) (hG : 0 ≤ G) (ha : ShL w a n c es) (hb : ShL w b m d ns) (hn : n ≤ 20) (hm : m ≤ 20) (hr : askS P Q G es ns = r) :
    Calls Tryz.prog 40 #[.agg #[.int .u64 P, .int .u64 Q, .int .u64 G], .slice a n c, .slice b m d] w fun e w' => e = .returned (.int .i64 r) ∧ Below w.heap.size w w' := by
  have HR := Lh hr
  clear hr
  have hx0 := Boxed.new w P Q G 24
  have HA := Lh ha
  have HB := Lh hb
  clear ha hb
  by_cases hH : Has P Q G
  case neg =>
   have HZ := Lh (show 300 = r by rw [← HR.o, askS_no hH])
   have HH := Lh hH
   clear hH
   go_enter Tryz.func40, Tryz.ntmps40
   go_wp2_with fail
   refine (rHas_any P Q G false _ hP hG (by simp [HH.o])).mono ?_
   rintro e w1 ⟨rfl, hb1⟩
   go_wp2_with fail
   go_ret
   exact ⟨ret_int HZ.o, ((Below.refl _ _).alloc (Nat.le_refl _) _).trans (hb1.mono (by simp))⟩
  case pos =>
   have HH := Lh hH
   clear hH
   go_enter Tryz.func40, Tryz.ntmps40
   go_wp2_with fail
   refine (rHas_any P Q G true _ hP hG (by simp [HH.o])).mono ?_
   rintro e w1 ⟨rfl, hb1⟩
   have hx1 := hx0.keep hb1
   have HB1 : Below w.heap.size w w1 := ((Below.refl _ _).alloc (Nat.le_refl _) _).trans (hb1.mono (by simp))
   have HA1 := Lh (HA.o.keep HB1)
   have HB2 := Lh (HB.o.keep HB1)
   obtain ⟨g0, g1, g2, gl⟩ := hx1
   clear hb1 hx0
   have hbn := Lh HB1
   clear HB1
   go_wp2_with fail
   go_loopw [7] (fun c0 wr => ∃ k : Nat, k ≤ n ∧ c0 = .int .i64 k ∧ Hid (okAll Q (es.take k) = true) ∧ Hid (Boxed wr w.heap.size P Q G ∧ Below w.heap.size w wr)) (fun c0 _ => n - (intOf c0).toNat)
   case atStart => exact ⟨0, Nat.zero_le _, rfl, rfl, ⟨⟨g0, g1, g2, gl⟩, hbn.o⟩⟩
   case round =>
    obtain ⟨k, hk, rfl, HK, HW⟩ := hrel
    obtain ⟨q0, q1, q2, ql⟩ := HW.o.1
    by_cases hlt : k < n
    case neg =>
     have HEes := Lh (okAll_end Q es k (by rw [← HA.o.len]; omega) HK.o)
     go_wp2_with fail
     go_loopw [8] (fun c0 wr => ∃ k : Nat, k ≤ m ∧ c0 = .int .i64 k ∧ Hid (okAll P (ns.take k) = true) ∧ Hid (Boxed wr w.heap.size P Q G ∧ Below w.heap.size w wr)) (fun c0 _ => m - (intOf c0).toNat)
     case atStart => exact ⟨0, Nat.zero_le _, rfl, rfl, HW⟩
     case round =>
      obtain ⟨k, hk, rfl, HK, HW⟩ := hrel
      obtain ⟨q0, q1, q2, ql⟩ := HW.o.1
      by_cases hlt : k < m
      case neg =>
       have HEns := Lh (okAll_end P ns k (by rw [← HB.o.len]; omega) HK.o)
       go_wp2_with fail
       go_ret
       exact ⟨ret_int (by rw [← HR.o, askS, if_pos HH.o, HEes.o, HEns.o]; rfl), HW.o.2⟩
      case pos =>
       obtain ⟨s, hsa, hck⟩ := (HB.o.keep HW.o.2).at k hlt
       have hlx : k < ns.length := by rw [← HB.o.len]; exact hlt
       have hsn := okAll_snoc P ns k hlx
       have hno := okAll_not P ns k hlx
       rw [HK.o] at hsn
       generalize ns.getD k 0 = v at hck hsn hno
       have HN := Lh hno
       have HT := Lh hsn
       clear hno hsn hlx
       subst hsa
       have hk0 : (0 : Int) ≤ (k : Int) := by omega
       have hk1 : (k : Int) < (m : Int) := by omega
       by_cases hv : v < P
       case neg =>
        have hd : decide (v < P) = false := by simpa using hv
        have hd2 : decide (P ≤ v) = true := by simp; omega
        go_wp2_with fail
        go_quiet (fail)
        go_wp2_with fail
        go_ret
        exact ⟨ret_int (by rw [← HR.o, askS_n HH.o (HN.o (by omega))]), below_drewN HW.o.2 _⟩
       case pos =>
        go_wp2_with fail
        go_quiet (fail)
        go_wp2_with fail
        go_roundw
        case rel => exact ⟨k + 1, by omega, by go_num, (by show okAll P (ns.take (k + 1)) = true; rw [HT.o]; simpa using hv), ⟨HW.o.1.keep (below_drewN (Below.refl _ _) _), below_drewN HW.o.2 _⟩⟩
        case measure => simp [intOf]; omega
    case pos =>
     obtain ⟨s, hsa, hck⟩ := (HA.o.keep HW.o.2).at k hlt
     have hlx : k < es.length := by rw [← HA.o.len]; exact hlt
     have hsn := okAll_snoc Q es k hlx
     have hno := okAll_not Q es k hlx
     rw [HK.o] at hsn
     generalize es.getD k 0 = v at hck hsn hno
     have HN := Lh hno
     have HT := Lh hsn
     clear hno hsn hlx
     subst hsa
     have hk0 : (0 : Int) ≤ (k : Int) := by omega
     have hk1 : (k : Int) < (n : Int) := by omega
     by_cases hv : v < Q
     case neg =>
      have hd : decide (v < Q) = false := by simpa using hv
      have hd2 : decide (Q ≤ v) = true := by simp; omega
      go_wp2_with fail
      go_quiet (fail)
      go_wp2_with fail
      go_ret
      exact ⟨ret_int (by rw [← HR.o, askS_e HH.o (HN.o (by omega))]), below_drewN HW.o.2 _⟩
     case pos =>
      go_wp2_with fail
      go_quiet (fail)
      go_wp2_with fail
      go_roundw
      case rel => exact ⟨k + 1, by omega, by go_num, (by show okAll Q (es.take (k + 1)) = true; rw [HT.o]; simpa using hv), ⟨HW.o.1.keep (below_drewN (Below.refl _ _) _), below_drewN HW.o.2 _⟩⟩
      case measure => simp [intOf]; omega
open Go.RowKit Go.Shelf
attribute [local go_sem] Oper.semAt_some
def upTo {α : Type} (f : Nat → α) (k : Nat) : List α := (List.range k).map f
theorem upTo_succ {α : Type} (f : Nat → α) (k : Nat) : upTo f (k + 1) = upTo f k ++ [f k] := by simp [upTo, List.range_succ]
theorem upTo_length {α : Type} (f : Nat → α) (k : Nat) : (upTo f k).length = k := by simp [upTo]
theorem upTo_all (zs : List Int) : upTo (fun j => zs[j]?.getD 0) zs.length = zs := by
 apply List.ext_getElem
 · simp [upTo]
 · intro i h1 h2
   simp [upTo, h2]
theorem upTo_take (zs : List Int) {k : Nat} (hk : k ≤ zs.length) : upTo (fun j => zs[j]?.getD 0) k = zs.take k := by
 apply List.ext_getElem
 · simp [upTo, hk]
 · intro i h1 h2
   have : i < zs.length := by simp [upTo] at h1; omega
   simp [upTo, this]
set_option maxHeartbeats 2000000 in
theorem vals1_in (F : Fence) (n : Nat) (h7 : F.fn 91) (hro : F.round = none) (hn : 1 ≤ n) (l Bs n₀ b off len cap : Nat) (zs : List Int) (hreach : len ≤ 1000000) (hb : b < n₀) (J Jx : List Int → World → Prop)
    (hY : ∀ pre x W, J pre W → pre.length < len → YieldAt F (n - 1) Tryz.prog l #[.int .u64 x] W fun e W' =>
      (e = .returned (.bool true) ∧ J (pre ++ [x]) W' ∧ Below n₀ W W') ∨ (e = .returned (.bool false) ∧ Jx (pre ++ [x]) W'))
    (W : World) (hBs : W.cell? ⟨Bs, 0, none⟩ = some (.slice (some ⟨b, off, none⟩) len cap)) (hc : ∀ j, j < len → W.cell? ⟨b, off + j, none⟩ = some (.int .u64 (zs[j]?.getD 0))) (h0 : J [] W) :
    CallsIn F n Tryz.prog 91 #[.func (.yield l) #[] #[], .pointer (some ⟨Bs, 0, none⟩)] W fun e W' => (∃ v, e = .returned v) ∧
      ((∃ ys, ys = upTo (fun j => zs[j]?.getD 0) len ∧ J ys W') ∨ (∃ pre, (∃ k, k ≤ len ∧ pre = upTo (fun j => zs[j]?.getD 0) k) ∧ Jx pre W')) := by
  refine callsIn_of_wp Tryz.func91 rfl h7 ?_ hro
  simp only [Tryz.ntmps91, List.size_toArray, List.length_cons, List.length_nil, Nat.reduceAdd, Nat.reduceSub, Array.replicate_succ, Array.replicate_zero, List.push_toArray, List.append_toArray, List.nil_append, List.cons_append]
  gi_wp2
  gi_loopw [4, 7] (fun _ i wr => ∃ k : Nat, k ≤ len ∧ i = .int .i64 k ∧ J (upTo (fun j => zs[j]?.getD 0) k) wr ∧ Below n₀ W wr)
    (fun _ i _ => len - (intOf i).toNat)
  case atStart => exact ⟨0, Nat.zero_le _, rfl, h0, Below.refl _ _⟩
  case round =>
   obtain ⟨k, hk, rfl, hJs, hnx⟩ := hrel
   have hcx : k < len → wr.cell? ⟨b, off + k, none⟩ = some (.int .u64 (zs[k]?.getD 0)) := fun h => (hnx.cell (p := ⟨b, off + k, none⟩) hb).trans (hc k h)
   by_cases hlt : k < len
   · obtain ⟨fn, tmps, assign, body, hy, hR⟩ := hY _ (zs[k]?.getD 0) wr hJs (by rw [upTo_length]; exact hlt)
     have hcx' := hcx hlt
     gi_wp2
     refine hR.mono ?_
     rintro e W3 (⟨rfl, hJ3, hk3⟩ | ⟨rfl, hJx3⟩)
     · gi_wp2
       go_roundw
       case rel => exact ⟨k + 1, by omega, by simp, by rw [upTo_succ]; exact hJ3, hnx.trans hk3⟩
       case measure => simp [intOf]; omega
     · gi_wp2
       refine bodyPost_ret (results_none rfl _ _ _) rfl ?_
       exact ⟨⟨_, rfl⟩, .inr ⟨_, ⟨k + 1, by omega, (upTo_succ _ _).symm⟩, hJx3⟩⟩
   · obtain rfl : k = len := by omega
     gi_wp2
     go_end0
     exact ⟨⟨_, rfl⟩, .inl ⟨_, rfl, hJs⟩⟩
set_option maxHeartbeats 1000000 in
theorem vals_in (F : Fence) (n : Nat) (h5 : F.fn 77) (hro : F.round = none) (a : Option Addr) (len cap : Nat) (w : World) :
    CallsIn F n Tryz.prog 77 #[.slice a len cap] w fun e w' => e = .returned (.func (.func 91) #[] #[.pointer (some ⟨w.heap.size, 0, none⟩)]) ∧ w' = w.alloc (.cells #[.slice a len cap] 26) := by
  refine callsIn_of_wp Tryz.func77 rfl h5 ?_ hro
  simp only [Tryz.ntmps77, List.size_toArray, List.length_cons, List.length_nil, Nat.reduceAdd, Nat.reduceSub, Array.replicate_succ, Array.replicate_zero, List.push_toArray, List.append_toArray, List.nil_append, List.cons_append]
  gi_wp2
  go_ret
  exact ⟨rfl, rfl⟩
theorem vals_stops (F : Fence) (n : Nat) (h7 : F.fn 91) (hro : F.round = none) (hn : 1 ≤ n) (Bs n₀ b off cap : Nat) (zs : List Int) (hreach : zs.length ≤ 1000000) (w : World) (hBs : Bs < w.heap.size) (hn₀ : n₀ ≤ w.heap.size)
    (hc : w.cell? ⟨Bs, 0, none⟩ = some (.slice (some ⟨b, off, none⟩) zs.length cap)) (hb : b < n₀) (hI : ∀ j, j < zs.length → w.cell? ⟨b, off + j, none⟩ = some (.int .u64 (zs[j]?.getD 0))) :
    SeqStopsK F n Tryz.prog 91 #[.pointer (some ⟨Bs, 0, none⟩)] (fun x : Int => #[Value.int .u64 x]) (Below n₀) (fun ys => ys = zs) (fun pre => pre <+: zs) zs.length w := fun l J Jx W hW _ _ hY h0 => by
  have hc' := (hW.cell (p := ⟨Bs, 0, none⟩) hBs).trans hc
  have hcs : ∀ j, j < zs.length → W.cell? ⟨b, off + j, none⟩ = some (.int .u64 (zs[j]?.getD 0)) := fun j hj => (hW.cell (p := ⟨b, off + j, none⟩) (by show b < w.heap.size; omega)).trans (hI j hj)
  refine (vals1_in F n h7 hro hn l Bs n₀ b off zs.length cap zs hreach hb J Jx hY W hc' hcs h0).mono ?_
  rintro e W' ⟨he, ⟨ys, rfl, hj⟩ | ⟨pre, ⟨k, hk, rfl⟩, hj⟩⟩
  · exact ⟨he, .inl ⟨_, upTo_all zs, hj⟩⟩
  · exact ⟨he, .inr ⟨_, by rw [upTo_take zs hk]; exact List.take_prefix _ _, hj⟩⟩
set_option maxHeartbeats 1000000 in
theorem sbelow1_any (ok : Bool) (x L : Int) (b : Nat) (w : World) (hb : w.cell? ⟨b, 0, none⟩ = some (.int .u64 L)) :
    Calls Tryz.prog 78 #[.bool ok, .int .u64 x, .pointer (some ⟨b, 0, none⟩)] w fun e w' => e = .returned (.bool (ok && decide (x < L))) ∧ w = w' := by
  cases ok
  · go_enter Tryz.func78, Tryz.ntmps78
    go_wp2
    go_ret
    exact ⟨rfl, rfl⟩
  · go_enter Tryz.func78, Tryz.ntmps78
    go_wp2
    go_ret
    exact ⟨rfl, rfl⟩
theorem okAll_push (L : Int) (pre : List Int) (x : Int) : okAll L (pre ++ [x]) = (okAll L pre && decide (x < L)) := by simp [okAll]
set_option maxHeartbeats 4000000 in
theorem sfold_any {L : Int} {zs : List Int} (w : World) (Bs lb b off cap : Nat) (hBs : Bs < w.heap.size) (hlb : lb < w.heap.size) (hb : b < w.heap.size) (hlen : zs.length ≤ 1000000)
    (hcs : w.cell? ⟨Bs, 0, none⟩ = some (.slice (some ⟨b, off, none⟩) zs.length cap)) (hcl : w.cell? ⟨lb, 0, none⟩ = some (.int .u64 L)) (hI : ∀ j, j < zs.length → w.cell? ⟨b, off + j, none⟩ = some (.int .u64 (zs[j]?.getD 0))) :
    Calls Tryz.prog 76 #[.func (.func 91) #[] #[.pointer (some ⟨Bs, 0, none⟩)], .bool true, .func (.func 78) #[] #[.pointer (some ⟨lb, 0, none⟩)]] w fun e w' => e = .returned (.bool (okAll L zs)) ∧ Below w.heap.size w w' := by
  refine (callsIn_wide (n := 6)).1 ?_
  refine callsIn_of_wp_marks Tryz.func76 rfl trivial ?_ rfl
  simp only [Tryz.ntmps76, List.size_toArray, List.length_cons, List.length_nil, Nat.reduceAdd, Nat.reduceSub, Array.replicate_succ, Array.replicate_zero, List.push_toArray, List.append_toArray, List.nil_append, List.cons_append]
  gi_wp2
  have hB0 : Below w.heap.size w ((w.alloc (.cells #[.bool true] 4)).alloc (.cells #[(.func (.func 78) #[] #[.pointer (some ⟨lb, 0, none⟩)])] 103)) := ((Below.refl _ w).alloc (Nat.le_refl _) _).alloc (by simp) _
  have c0 : ((w.alloc (.cells #[.bool true] 4)).alloc (.cells #[(.func (.func 78) #[] #[.pointer (some ⟨lb, 0, none⟩)])] 103)).cell? ⟨w.heap.size, 0, none⟩ = some (.bool true) := by
   rw [World.cell?_alloc_past _ _ _ (by simp), World.cell?_alloc_new]; rfl
  have f0 : ((w.alloc (.cells #[.bool true] 4)).alloc (.cells #[(.func (.func 78) #[] #[.pointer (some ⟨lb, 0, none⟩)])] 103)).frozen? ⟨w.heap.size, 0, none⟩ = false := by simp
  have c1 : ((w.alloc (.cells #[.bool true] 4)).alloc (.cells #[(.func (.func 78) #[] #[.pointer (some ⟨lb, 0, none⟩)])] 103)).cell? ⟨w.heap.size + 1, 0, none⟩ = some (.func (.func 78) #[] #[.pointer (some ⟨lb, 0, none⟩)]) := by
   rw [World.cell?_alloc_at _ _ _ _ (by simp)]; rfl
  refine wpIn_rangeFunc_ownG rfl (by omega) (gf := 91) (lb := #[.pointer (some ⟨Bs, 0, none⟩)]) rfl trivial (enters_of Tryz.func91 (by kernel_rfl) rfl)
    (vals_stops Fence.wide (6 - 1) trivial rfl (by omega) Bs w.heap.size b off cap zs hlen _ (by simp; omega) (by simp; omega) ((hB0.cell (p := ⟨Bs, 0, none⟩) hBs).trans hcs) hb (fun j hj => (hB0.cell (p := ⟨b, off + j, none⟩) hb).trans (hI j hj))) belowK_t (belowK_b (by simp; omega)) (Below.refl _ _) (fun _ => rfl)
    (fun pre W => (W.cell? ⟨w.heap.size, 0, none⟩ = some (.bool (okAll L pre)) ∧ W.frozen? ⟨w.heap.size, 0, none⟩ = false ∧ W.cell? ⟨w.heap.size + 1, 0, none⟩ = some (.func (.func 78) #[] #[.pointer (some ⟨lb, 0, none⟩)])) ∧ Below w.heap.size w W)
    (fun _ _ _ => False)
    (OwnFrom.and (Own.from (fun s A B row hs hg hr => ⟨cell_kept hs.1 hg hr, (frozen_kept hs.1 hg hr).trans hs.2.1, cell_kept hs.2.2 hg hr⟩) _) (ownFrom_below (Nat.le_refl _) (by simp; omega)))
    (fun _ _ _ _ _ hs _ _ => hs)
    ⟨⟨c0, f0, c1⟩, hB0⟩
    (fun x => { tmps := #[.func (.func 91) #[] #[.pointer (some ⟨Bs, 0, none⟩)], .bool true, .func (.func 78) #[] #[.pointer (some ⟨lb, 0, none⟩)], undef, .pointer (some ⟨w.heap.size, 0, none⟩), .pointer (some ⟨w.heap.size + 1, 0, none⟩), .bool false, .int .u64 x, .func (.func 91) #[] #[.pointer (some ⟨Bs, 0, none⟩)], .int .u64 x, undef, undef, undef, undef, undef], defers := [] }) ?assign ?body ?done ?stop
  case assign =>
   intro l x W K hK
   gi_wp2
   exact hK
  case body =>
   rintro l pre x W ⟨⟨hc, hf, hs⟩, hB⟩ _
   have hl : W.cell? ⟨lb, 0, none⟩ = some (.int .u64 L) := (hB.cell (p := ⟨lb, 0, none⟩) hlb).trans hcl
   gi_wp2_with (refine ⟨trivial, ?_⟩; gi_at_call 78; refine (CallsIn.inRound l (callsIn_wide.2 (sbelow1_any _ x L lb _ hl))).mono ?_; rintro e w5 ⟨rfl, rfl⟩)
   exact ⟨(KeepsOthers.setCell _ _ _).from _, (Below.refl w.heap.size W).setCell (p := ⟨w.heap.size, 0, none⟩) (Nat.le_refl _) _, ⟨by rw [okAll_push]; exact World.cell?_setCell_same' _ _ _ (by rw [hc]; rfl), by rw [World.frozen?_setCell]; exact hf, by rw [World.cell?_setCell_other _ _ _ _ (by simp)]; exact hs⟩, hB.setCell (p := ⟨w.heap.size, 0, none⟩) (Nat.le_refl _) _⟩
  case done =>
   rintro D ys W hD rfl ⟨⟨hc, _, _⟩, hB⟩ hK
   gi_wp2
   refine ⟨by simp, .inl ⟨_, _, rfl, run_takeDeferred hK, ?_⟩⟩
   exact ⟨_, results_tmp rfl _ _ _, rfl, hB.trans (belowK_b (w := w) (Nat.le_refl _) W D _ _ (by simp at hD; omega) hK rfl rfl)⟩
  case stop =>
   rintro D c pre W _ _ h _
   exact h.elim
open Go.ChangeShapes Go.WideShapes Go.ChangeAt Go.RowKit
theorem own : ownKnob Tryz.prog.godebug = none := by kernel_rfl
theorem laidOut : laidOutB Tryz.prog = true := by kernel_rfl
section
variable {H : Type} {enc : TypeId × Value → H} {P : Program} {W W' : World}
theorem trodAll_lt : ∀ {ts : List TypeId} {vs : List Value} {ds : List (DataW H)} {ps : List MemPlace}, DataW.TrodAll enc P W 0 (fun _ => true) true ts vs ds ps → ∀ x ∈ ps, x.block < W.heap.size
  | [], _, _, _, h => by obtain ⟨rfl, rfl, rfl⟩ := trodAll_nil h; intro x hx; cases hx
  | t :: ts, _, _, _, h => by
   obtain ⟨v, vs, d, ds, p, q, rfl, rfl, rfl, h0, r⟩ := trodAll_cons h
   intro x hx
   rcases List.mem_append.1 hx with hx | hx
   · obtain ⟨m, hm⟩ := h0; exact DataW.trod_lt m _ _ _ hm x hx
   · exact trodAll_lt r x hx
theorem trodAll_stays (hl : laidOutB P = true) : ∀ {ts : List TypeId} {vs : List Value} {ds : List (DataW H)} {ps : List MemPlace}, (ts.all fun t => P.readableRec t && decide (t < P.types.size)) = true →
    DataW.TrodAll enc P W 0 (fun _ => true) true ts vs ds ps → Below W.heap.size W W' → DataW.TrodAll enc P W' 0 (fun b => decide (b < W.heap.size)) true ts vs ds ps
  | [], _, _, _, _, h, _ => by obtain ⟨rfl, rfl, rfl⟩ := trodAll_nil h; exact trodAll_mk0
  | t :: ts, _, _, _, hr, h, hb => by
   have hlt := trodAll_lt h
   obtain ⟨v, vs, d, ds, p, q, rfl, rfl, rfl, h0, r⟩ := trodAll_cons h
   simp only [List.all_cons, Bool.and_eq_true, decide_eq_true_eq] at hr
   exact trodAll_cons_mk (Below.trod hl hr.1.1 hr.1.2 h0 hb (fun x hx => hlt x (List.mem_append_left _ hx))) (trodAll_stays hl hr.2 r hb)
end
section
variable {H : Type} {enc : TypeId × Value → H} {w : World} {base : Nat} {spare : Nat → Bool} {held : Bool} {r : Reach} {b0 : Nat} {v : Value} {d : DataW H} {p : List MemPlace}
theorem open_group (hv : Value.okWide Tryz.prog w r b0 24 v) (h : DataW.Trod enc Tryz.prog w base spare held 24 v d p) :
    ∃ P Q G : Int, v = .agg #[.int .u64 P, .int .u64 Q, .int .u64 G] ∧ U64 P ∧ U64 Q ∧ U64 G := by
  obtain ⟨c0, c1, c2, y0, y1, y2, m, rfl, rfl, rfl, hy0, hy1, hy2⟩ := Joins.open_agg3 Tryz.underlying24 (by kernel_rfl) (by kernel_rfl) hv h
  obtain ⟨a, e0, rfl, wa⟩ := DataW.trod_int Tryz.underlying22 hy0
  obtain ⟨b, e1, rfl, wb⟩ := DataW.trod_int Tryz.underlying22 hy1
  obtain ⟨c, e2, rfl, wc⟩ := DataW.trod_int Tryz.underlying22 hy2
  simp at e0 e1 e2
  subst e0 e1 e2
  exact ⟨a, b, c, rfl, U64.wf wa, U64.wf wb, U64.wf wc⟩
theorem open_u64 (hv : Value.okWide Tryz.prog w r b0 22 v) (h : DataW.Trod enc Tryz.prog w base spare held 22 v d p) : ∃ x : Int, v = .int .u64 x ∧ U64 x := by
 obtain ⟨x, rfl, rfl, rfl, wx⟩ := open_int Tryz.underlying22 hv h
 exact ⟨x, rfl, U64.wf wx⟩
theorem open_i64 (hv : Value.okWide Tryz.prog w r b0 3 v) (h : DataW.Trod enc Tryz.prog w base spare held 3 v d p) : ∃ x : Int, v = .int .i64 x ∧ -9223372036854775808 ≤ x ∧ x ≤ 9223372036854775807 := by
 obtain ⟨x, rfl, rfl, rfl, wx⟩ := open_int Tryz.underlying3 hv h
 exact ⟨x, rfl, bounds_i64 wx⟩
end
open Go.ChangeShapes Go.WideShapes Go.ChangeAt Go.RowKit
theorem add_plain' (s o i : Nat) : (⟨s, o, none⟩ : Addr).add i = ⟨s, o + i, none⟩ := by unfold Addr.add; split <;> simp_all
def ShI (q : IntKind) (w : World) (a : Option Addr) (n : Nat) (xs : List Int) : Prop :=
  (n = 0 ∧ xs = []) ∨ ∃ s o, a = some ⟨s, o, none⟩ ∧ n = xs.length ∧ s < w.heap.size ∧ ∀ i, i < xs.length → w.cell? ⟨s, o + i, none⟩ = some (.int q (xs.getD i 0))
theorem ShI.len {q : IntKind} {w : World} {a : Option Addr} {n : Nat} {xs : List Int} (h : ShI q w a n xs) : n = xs.length := by
 rcases h with ⟨h1, h2⟩ | ⟨s, o, _, h1, _⟩
 · rw [h1, h2]; rfl
 · exact h1
theorem ShI.keep {q : IntKind} {w w' : World} {a : Option Addr} {n : Nat} {xs : List Int} (h : ShI q w a n xs) (hb : Below w.heap.size w w') : ShI q w' a n xs := by
 rcases h with h | ⟨s, o, h0, h1, h2, h3⟩
 · exact .inl h
 · exact .inr ⟨s, o, h0, h1, Nat.lt_of_lt_of_le h2 hb.size, fun i hi => (hb.cell (p := ⟨s, o + i, none⟩) h2).trans (h3 i hi)⟩
theorem ShI.at {q : IntKind} {w : World} {a : Option Addr} {n : Nat} {xs : List Int} (h : ShI q w a n xs) (k : Nat) (hk : k < n) : ∃ s o, a = some ⟨s, o, none⟩ ∧ s < w.heap.size ∧ w.cell? ⟨s, o + k, none⟩ = some (.int q (xs.getD k 0)) ∧ xs.getD k 0 ∈ xs := by
 rcases h with ⟨h1, _⟩ | ⟨s, o, h0, h1, h2, h3⟩
 · omega
 · refine ⟨s, o, h0, h2, h3 k (by omega), ?_⟩
   have hkl : k < xs.length := by omega
   rw [List.getD_eq_getElem?_getD, List.getElem?_eq_getElem hkl, Option.getD_some]
   exact List.getElem_mem hkl
section
variable {H : Type} {enc : TypeId × Value → H} {w : World} {base : Nat} {held : Bool} {r : Reach} {b0 : Nat} {v : Value} {d : DataW H} {p : List MemPlace}
theorem open_nums {P : Program} {t e : TypeId} {q : IntKind} (ht : P.underlying t = some (.slice e)) (he : P.underlying e = some (.int q)) (hc1 : P.cellsOf e = 1) (hv : Value.okWide P w r b0 t v) (h : DataW.Trod enc P w base (fun _ => true) held t v d p) :
    ∃ a n c xs, v = .slice a n c ∧ ShI q w a n xs ∧ (∀ x, x ∈ xs → (Lit.int q x).wf = true) ∧ (a = none → c = 0) ∧ n ≤ c := by
  obtain ⟨a0, l0, c0, rfl⟩ := okWide_slice ht hv
  obtain ⟨fuel, hf⟩ := h
  rcases open_ints ht he hc1 hf with ⟨hcs, -⟩ | ⟨a, len, cap, zs, hcs, -, hl, hm, hz, -, hcell, hw⟩
  · simp [Value.cells] at hcs
    obtain ⟨rfl, rfl, rfl⟩ := hcs
    exact ⟨none, 0, 0, [], rfl, .inl ⟨rfl, rfl⟩, (fun q hq => by cases hq), (fun _ => rfl), Nat.le_refl _⟩
  · simp [Value.cells] at hcs
    obtain ⟨rfl, rfl, rfl⟩ := hcs
    have hmc : zs.length = c0 := by simpa using hz
    by_cases hl0 : l0 = 0
    · subst hl0
      exact ⟨_, _, _, [], rfl, .inl ⟨rfl, rfl⟩, (fun q hq => by cases hq), (fun h => by cases h), hl⟩
    · obtain ⟨b, off, spot⟩ := a
      have g0 := hcell 0 (by omega)
      have hspot : spot = none := by simpa [Addr.add] using World.cell?_spot g0
      subst hspot
      have hlt : b < w.heap.size := by
       have := World.block_lt_of_cell? w _ g0
       simpa [add_plain'] using this
      refine ⟨_, _, _, zs.take l0, rfl, .inr ⟨b, off, rfl, by simp; omega, hlt, fun i hi => ?_⟩, fun z hz => hw z (List.mem_of_mem_take hz), (fun h => by cases h), hl⟩
      have hi' : i < l0 ∧ i < zs.length := by simp at hi; omega
      have e : (zs.take l0).getD i 0 = zs.getD i 0 := by simp [List.getD_eq_getElem?_getD, List.getElem?_take, hi'.1]
      rw [e, ← add_plain']; exact hcell i hi'.2
theorem open_u64s (hv : Value.okWide Tryz.prog w r b0 26 v) (h : DataW.Trod enc Tryz.prog w base (fun _ => true) held 26 v d p) :
    ∃ a n c xs, v = .slice a n c ∧ ShI .u64 w a n xs ∧ (∀ x, x ∈ xs → U64 x) ∧ (a = none → c = 0) ∧ n ≤ c := by
  obtain ⟨a, n, c, xs, h1, h2, h3, h4, h5⟩ := open_nums Tryz.underlying26 Tryz.underlying22 (by kernel_rfl) hv h
  exact ⟨a, n, c, xs, h1, h2, fun x hx => U64.wf (h3 x hx), h4, h5⟩
end
theorem ShI.nil (q : IntKind) (w : World) (a : Option Addr) : ShI q w a 0 [] := .inl ⟨rfl, rfl⟩
theorem ShI.cells {q : IntKind} {w : World} {ad : Addr} {n : Nat} {xs : List Int} (h : ShI q w (some ad) n xs) : ∀ j u, (xs.map (Value.int q))[j]? = some u → w.cell? (ad.add j) = some u := by
 rcases h with ⟨_, h⟩ | ⟨s, o, h0, h1, h2, h3⟩
 · subst h; intro j u hj; simp at hj
 · cases h0
   intro j u hj
   have hl : j < xs.length := by simpa using (List.getElem?_eq_some_iff.1 hj).1
   rw [add_plain', h3 j hl]
   rw [List.getElem?_map, List.getElem?_eq_getElem hl] at hj
   rw [List.getD_eq_getElem?_getD, List.getElem?_eq_getElem hl]
   simpa using hj
theorem ShI.of_owned {q : IntKind} {w : World} {base : Nat} {e : TypeId} {v : Value} {n : Nat} {xs : List Int} (h : w.ownsRow base e 1 v n (xs.map (Value.int q))) : ∃ a c, v = .slice a n c ∧ ShI q w a n xs := by
 have hl := h.1
 rw [List.length_map, Nat.mul_one] at hl
 rcases h.2 with ⟨rfl, h0⟩ | ⟨g, cap, cur, rfl, hb, hg, _⟩
 · subst h0
   have : xs = [] := List.eq_nil_of_length_eq_zero hl
   subst this
   exact ⟨none, 0, rfl, ShI.nil _ w _⟩
 · refine ⟨_, _, rfl, .inr ⟨g, 0, rfl, hl.symm, (h.lt g rfl).2, fun i hi => ?_⟩⟩
   have hc := h.cells (g := g) rfl i (.int q (xs.getD i 0)) (by
    rw [List.getElem?_map, List.getElem?_eq_getElem hi, List.getD_eq_getElem?_getD, List.getElem?_eq_getElem hi]; rfl)
   rw [add_plain'] at hc
   exact hc
end Go.Proofs.YtkjkdfhjfnoalaaGreatDoor
namespace Go.Proofs.YtkjkdfhjfnoalaaGreatDoor.Num
def noneB (n : Nat) : Nat → Nat → Bool
  | 0, d => n % d != 0
  | k + 1, d => noneB n k d && noneB n k (d + 2 ^ k)
end Go.Proofs.YtkjkdfhjfnoalaaGreatDoor.Num
