/- Folded: PairZ, PairS, RelZ, LawZ. -/
import Derived.Test.YtkjkdfhjfnoalaaGreatDoorTqB
import Derived.Test.YtkjkdfhjfnoalaaGreatDoorTqA
import Derived.LoopTactic
import Derived.Deep.RegionHeld3
import Derived.OrdersIn
import Derived.OwnWalkIn
import Derived.RangeFuncCalls
set_option linter.unusedSimpArgs false
set_option linter.unusedVariables false
set_option maxRecDepth 100000
/- Two numbers, and rows of numbers, that lie in memory. -/
namespace Go.Proofs.YtkjkdfhjfnoalaaGreatDoor
open Go.RowKit Num
structure Pair (w : World) (b : Nat) (x y : Int) : Prop where
  c0 : w.cell? ⟨b, 0, none⟩ = some (.int .u64 x)
  c1 : w.cell? ⟨b, 1, none⟩ = some (.int .u64 y)
  f0 : w.frozen? ⟨b, 0, none⟩ = false
  f1 : w.frozen? ⟨b, 1, none⟩ = false
  lt : b < w.heap.size
theorem Pair.new (w : World) (x y : Int) (T : TypeId) : Pair (w.alloc (.cells #[.int .u64 x, .int .u64 y] T)) w.heap.size x y := by
 refine ⟨?_, ?_, ?_, ?_, by simp⟩
 · rw [World.cell?_alloc_new]; rfl
 · rw [World.cell?_alloc_new]; rfl
 · simp
 · simp
theorem Pair.at (w : World) (x y : Int) (T : TypeId) (b : Nat) (hb : b = w.heap.size) : Pair (w.alloc (.cells #[.int .u64 x, .int .u64 y] T)) b x y := by
 rw [hb]; exact Pair.new w x y T
theorem Boxed.at (w : World) (P Q G : Int) (T : TypeId) (b : Nat) (hb : b = w.heap.size) : Boxed (w.alloc (.cells #[.int .u64 P, .int .u64 Q, .int .u64 G] T)) b P Q G := by
 rw [hb]; exact Boxed.new w P Q G T
theorem ShL.laid (w : World) (xs : List Int) (vs : Array Value) (T : TypeId) (s n c : Nat) (hs : s = w.heap.size) (hn : n = xs.length) (hv : vs = (xs.map (Value.int IntKind.u64)).toArray) : ShL (w.alloc (.cells vs T)) (some ⟨s, 0, none⟩) n c xs := by
 rw [hs]; exact ShL.new w xs vs T n c hn hv
theorem Pair.keep {w w' : World} {b : Nat} {x y : Int} (h : Pair w b x y) (hb : Below w.heap.size w w') : Pair w' b x y :=
  ⟨(hb.cell (p := ⟨b, 0, none⟩) h.lt).trans h.c0, (hb.cell (p := ⟨b, 1, none⟩) h.lt).trans h.c1, (hb.frozen (p := ⟨b, 0, none⟩) h.lt).trans h.f0, (hb.frozen (p := ⟨b, 1, none⟩) h.lt).trans h.f1, Nat.lt_of_lt_of_le h.lt hb.size⟩
theorem Pair.drew {w : World} {b : Nat} {x y : Int} (h : Pair w b x y) : Pair w.drew b x y := h.keep (Below.refl _ _).drew
theorem Pair.alloc {w : World} {b : Nat} {x y : Int} (h : Pair w b x y) (o : Obj) : Pair (w.alloc o) b x y := h.keep ((Below.refl _ _).alloc (Nat.le_refl _) o)
theorem Pair.first {w : World} {b : Nat} {x y : Int} (h : Pair w b x y) (x' : Int) : Pair (w.setCell ⟨b, 0, none⟩ (.int .u64 x')) b x' y := by
 refine ⟨World.cell?_setCell_same _ _ _ h.c0, ?_, ?_, ?_, by simpa using h.lt⟩
 · rw [World.cell?_setCell_other _ _ _ _ (by simp)]; exact h.c1
 · rw [World.frozen?_setCell]; exact h.f0
 · rw [World.frozen?_setCell]; exact h.f1
theorem Pair.second {w : World} {b : Nat} {x y : Int} (h : Pair w b x y) (y' : Int) : Pair (w.setCell ⟨b, 1, none⟩ (.int .u64 y')) b x y' := by
 refine ⟨?_, World.cell?_setCell_same _ _ _ h.c1, ?_, ?_, by simpa using h.lt⟩
 · rw [World.cell?_setCell_other _ _ _ _ (by simp)]; exact h.c0
 · rw [World.frozen?_setCell]; exact h.f0
 · rw [World.frozen?_setCell]; exact h.f1
theorem Pair.stored {w : World} {b : Nat} {x y : Int} (h : Pair w b x y) (x' y' : Int) : Pair ((w.setCell ⟨b, 0, none⟩ (.int .u64 x')).setCell ⟨b, 1, none⟩ (.int .u64 y')) b x' y' := (h.first x').second y'
theorem Pair.far {w : World} {b c o : Nat} {x y : Int} (h : Pair w b x y) (hn : c ≠ b) (v : Value) : Pair (w.setCell ⟨c, o, none⟩ v) b x y := by
 refine ⟨?_, ?_, ?_, ?_, by simpa using h.lt⟩
 · rw [World.cell?_setCell_other _ _ _ _ (fun e => hn (congrArg Addr.block e))]; exact h.c0
 · rw [World.cell?_setCell_other _ _ _ _ (fun e => hn (congrArg Addr.block e))]; exact h.c1
 · rw [World.frozen?_setCell]; exact h.f0
 · rw [World.frozen?_setCell]; exact h.f1
theorem Boxed.far {w : World} {c o B : Nat} {P Q G : Int} (h : Boxed w B P Q G) (hn : c ≠ B) (v : Value) : Boxed (w.setCell ⟨c, o, none⟩ v) B P Q G := by
 refine ⟨?_, ?_, ?_, by simpa using h.lt⟩
 · rw [World.cell?_setCell_other _ _ _ _ (fun e => hn (congrArg Addr.block e))]; exact h.c0
 · rw [World.cell?_setCell_other _ _ _ _ (fun e => hn (congrArg Addr.block e))]; exact h.c1
 · rw [World.cell?_setCell_other _ _ _ _ (fun e => hn (congrArg Addr.block e))]; exact h.c2
def SBox (w : World) (B : Nat) (P Q G : Int) : Prop :=
  w.cell? ⟨B, 0, none⟩ = some (.int .u64 P) ∧ w.cell? ⟨B, 1, none⟩ = some (.int .u64 Q) ∧ w.cell? ⟨B, 2, none⟩ = some (.int .u64 G)
theorem Boxed.s {w : World} {B : Nat} {P Q G : Int} (h : Boxed w B P Q G) : SBox w B P Q G := ⟨h.c0, h.c1, h.c2⟩
def SPair (w : World) (B : Nat) (x y : Int) : Prop := w.cell? ⟨B, 0, none⟩ = some (.int .u64 x) ∧ w.cell? ⟨B, 1, none⟩ = some (.int .u64 y)
theorem Pair.s {w : World} {B : Nat} {x y : Int} (h : Pair w B x y) : SPair w B x y := ⟨h.c0, h.c1⟩
theorem wrap_u {x : Int} (h : 0 ≤ x) (h' : x < 18446744073709551616) : IntKind.u64.wrap x = x := by rw [IntKind.wrap_u64]; omega
theorem tmod_u {x y : Int} (h : 0 ≤ x) : x.tmod y = x % y := Int.tmod_eq_emod_of_nonneg h
end Go.Proofs.YtkjkdfhjfnoalaaGreatDoor
/- What a function hands back that returns a ciphertext. -/
namespace Go.Proofs.YtkjkdfhjfnoalaaGreatDoor
open Go.RowKit Num
end Go.Proofs.YtkjkdfhjfnoalaaGreatDoor
/- The reference's Power. -/
namespace Go.Proofs.YtkjkdfhjfnoalaaGreatDoor
open Go.RowKit Num
set_option maxHeartbeats 1000000 in
theorem r31Power_any {P Q G a x r : Int} (w : World) (m1 : 1 ≤ P) (m3 : P < 2147483648) (a0 : 0 ≤ a) (a1 : a < 2147483648) (hx : U64 x) (hr : powm a x P = r) :
    Calls Tryz.prog 42 #[.agg #[.int .u64 P, .int .u64 Q, .int .u64 G], .int .u64 a, .int .u64 x] w fun e w' => e = .returned (.int .u64 r) ∧ Below w.heap.size w w' := by
  have HR := Lh hr
  have HX := Lh hx
  clear hr hx
  have F_g := Lh (show Boxed (w.alloc (.cells #[.int .u64 P, .int .u64 Q, .int .u64 G] 24)) (w.heap.size) P Q G from Boxed.at _ P Q G _ (w.heap.size) (by simp))
  have HBW := Lh (show Below w.heap.size w (w.alloc (.cells #[.int .u64 P, .int .u64 Q, .int .u64 G] 24)) from (Below.refl _ _).alloc (by simp <;> omega) _)
  go_enter Tryz.func42, Tryz.ntmps42
  obtain ⟨x0a, x0b, x0c, -⟩ := id F_g.o
  go_wp2_with fail
  clear x0a x0b x0c
  refine (rPower_any P a x r _ m1 m3 a0 a1 HX.o HR.o).mono ?_
  rintro e w1 ⟨rfl, rfl⟩
  obtain ⟨x0a, x0b, x0c, -⟩ := id F_g.o
  go_wp2_with fail
  go_ret
  exact ⟨rfl, HBW.o⟩
end Go.Proofs.YtkjkdfhjfnoalaaGreatDoor
/- Plain laws of a group that several chapters use, and the group of the examples. -/
namespace Go.Proofs.YtkjkdfhjfnoalaaGreatDoor
open Num
open Go.RowKit Num
def belowS (L : Int) (xs : List Int) : Bool := decide (1 ≤ xs.length) && decide (xs.length ≤ 8) && okAll L xs
def numS (Q i : Int) : Bool := decide (0 ≤ i) && decide (i ≤ 8) && decide (i < Q)
set_option maxHeartbeats 1000000 in
theorem stimes_ok {P Q G x y v : Int} (w : World) (hH : Has P Q G) (x0 : 0 ≤ x) (xQ : x < Q) (y0 : 0 ≤ y) (yQ : y < Q) (hv : x * y % Q = v) :
    Calls Tryz.prog 80 #[.agg #[.int .u64 P, .int .u64 Q, .int .u64 G], .int .u64 x, .int .u64 y] w fun e w' => e = .returned (.int .u64 v) ∧ Below w.heap.size w w' := by
  have HH := Lh hH
  have HV := Lh hv
  clear hH hv
  have F_g := Lh (show Boxed (w.alloc (.cells #[.int .u64 P, .int .u64 Q, .int .u64 G] 24)) (w.heap.size) P Q G from Boxed.at _ P Q G _ (w.heap.size) (by simp))
  have HBW := Lh (show Below w.heap.size w (w.alloc (.cells #[.int .u64 P, .int .u64 Q, .int .u64 G] 24)) from (Below.refl _ _).alloc (by simp <;> omega) _)
  go_enter Tryz.func80, Tryz.ntmps80
  obtain ⟨x0a, x0b, x0c, -⟩ := id F_g.o
  go_wp2_with fail
  clear x0a x0b x0c
  refine (mulExp_ok P Q G x y v _ HH.o x0 xQ y0 yQ HV.o).mono ?_
  rintro e w1 ⟨rfl, hb1⟩
  replace F_g := Lh (F_g.o.keep hb1)
  replace HBW := Lh (HBW.o.trans (hb1.mono HBW.o.size))
  clear hb1
  obtain ⟨x0a, x0b, x0c, -⟩ := id F_g.o
  go_wp2_with fail
  go_ret
  exact ⟨rfl, HBW.o⟩
set_option maxHeartbeats 2000000 in
theorem snumbered_any {P Q G i : Int} {v : Bool} (w : World) (il : -9223372036854775808 ≤ i) (iu : i ≤ 9223372036854775807) (hv : numS Q i = v) :
    Calls Tryz.prog 63 #[.agg #[.int .u64 P, .int .u64 Q, .int .u64 G], .int .i64 i] w fun e w' => e = .returned (.bool v) ∧ Below w.heap.size w w' := by
  by_cases h0 : 0 ≤ i
  case neg =>
   have HZ := Lh (show false = v by rw [← hv]; simp [numS, h0])
   have d0 : decide (0 ≤ i) = false := by simpa using h0
   clear hv
   have F_g := Lh (show Boxed (w.alloc (.cells #[.int .u64 P, .int .u64 Q, .int .u64 G] 24)) (w.heap.size) P Q G from Boxed.at _ P Q G _ (w.heap.size) (by simp))
   have HBW := Lh (show Below w.heap.size w (w.alloc (.cells #[.int .u64 P, .int .u64 Q, .int .u64 G] 24)) from (Below.refl _ _).alloc (by simp <;> omega) _)
   go_enter Tryz.func63, Tryz.ntmps63
   obtain ⟨x0a, x0b, x0c, -⟩ := id F_g.o
   go_wp2_with fail
   go_ret
   exact ⟨ret_bool HZ.o, HBW.o⟩
  case pos =>
   have d0 : decide (0 ≤ i) = true := by simpa using h0
   by_cases h1 : i ≤ 8
   case neg =>
    have HZ := Lh (show false = v by rw [← hv]; simp [numS, h1])
    have d1 : decide (i ≤ 8) = false := by simpa using h1
    clear hv
    have F_g := Lh (show Boxed (w.alloc (.cells #[.int .u64 P, .int .u64 Q, .int .u64 G] 24)) (w.heap.size) P Q G from Boxed.at _ P Q G _ (w.heap.size) (by simp))
    have HBW := Lh (show Below w.heap.size w (w.alloc (.cells #[.int .u64 P, .int .u64 Q, .int .u64 G] 24)) from (Below.refl _ _).alloc (by simp <;> omega) _)
    go_enter Tryz.func63, Tryz.ntmps63
    obtain ⟨x0a, x0b, x0c, -⟩ := id F_g.o
    go_wp2_with fail
    go_ret
    exact ⟨ret_bool HZ.o, HBW.o⟩
   case pos =>
    have d1 : decide (i ≤ 8) = true := by simpa using h1
    have hw : IntKind.u64.wrap i = i := wrap_u h0 (by omega)
    by_cases h2 : i < Q
    case neg =>
     have HZ := Lh (show false = v by rw [← hv]; simp [numS, h2])
     have d2 : decide (i < Q) = false := by simpa using h2
     clear hv
     have F_g := Lh (show Boxed (w.alloc (.cells #[.int .u64 P, .int .u64 Q, .int .u64 G] 24)) (w.heap.size) P Q G from Boxed.at _ P Q G _ (w.heap.size) (by simp))
     have HBW := Lh (show Below w.heap.size w (w.alloc (.cells #[.int .u64 P, .int .u64 Q, .int .u64 G] 24)) from (Below.refl _ _).alloc (by simp <;> omega) _)
     go_enter Tryz.func63, Tryz.ntmps63
     obtain ⟨x0a, x0b, x0c, -⟩ := id F_g.o
     go_wp2_with fail
     go_ret
     exact ⟨ret_bool HZ.o, HBW.o⟩
    case pos =>
     have HZ := Lh (show true = v by rw [← hv]; simp [numS, h0, h1, h2])
     have d2 : decide (i < Q) = true := by simpa using h2
     clear hv
     have F_g := Lh (show Boxed (w.alloc (.cells #[.int .u64 P, .int .u64 Q, .int .u64 G] 24)) (w.heap.size) P Q G from Boxed.at _ P Q G _ (w.heap.size) (by simp))
     have HBW := Lh (show Below w.heap.size w (w.alloc (.cells #[.int .u64 P, .int .u64 Q, .int .u64 G] 24)) from (Below.refl _ _).alloc (by simp <;> omega) _)
     go_enter Tryz.func63, Tryz.ntmps63
     obtain ⟨x0a, x0b, x0c, -⟩ := id F_g.o
     go_wp2_with fail
     go_ret
     exact ⟨ret_bool HZ.o, HBW.o⟩
set_option maxHeartbeats 4000000 in
theorem sbelow_any {L : Int} {a : Option Addr} {n c : Nat} {xs : List Int} {v : Bool} (w : World) (h : ShI .u64 w a n xs) (hv : belowS L xs = v) :
    Calls Tryz.prog 62 #[.slice a n c, .int .u64 L] w fun e w' => e = .returned (.bool v) ∧ Below w.heap.size w w' := by
  have hmf : ∀ (fn : Fn) (first cap : Array Value) (w : World), (Instr.makeFunc fn first cap).run Tryz.prog w = .ok (.func fn first cap) w := fun _ _ _ _ => rfl
  have hl := Lh h.len
  have HS := Lh h
  by_cases h1 : 1 ≤ n
  case neg =>
   have HZ := Lh (show false = v by rw [← hv]; have := hl.o; simp [belowS]; omega)
   have d1 : decide ((n : Int) < 1) = true := by simp; omega
   clear hv h
   go_enter Tryz.func62, Tryz.ntmps62
   go_wp2_with fail
   go_ret
   exact ⟨ret_bool HZ.o, (Below.refl _ _).alloc (Nat.le_refl _) _⟩
  case pos =>
   have d1 : decide ((n : Int) < 1) = false := by simp; omega
   by_cases h8 : n ≤ 8
   case neg =>
    have HZ := Lh (show false = v by rw [← hv]; have := hl.o; simp [belowS]; omega)
    have d2 : decide ((8 : Int) < (n : Int)) = true := by simp; omega
    clear hv h
    go_enter Tryz.func62, Tryz.ntmps62
    go_wp2_with fail
    go_ret
    exact ⟨ret_bool HZ.o, (Below.refl _ _).alloc (Nat.le_refl _) _⟩
   case pos =>
    have d2 : decide ((8 : Int) < (n : Int)) = false := by simp; omega
    have HZ := Lh (show okAll L xs = v by rw [← hv]; have h := hl.o; simp [belowS, ← h, h1, h8])
    rcases h with ⟨h0, -⟩ | ⟨s, o, rfl, hn, hs, hc⟩
    · omega
    · subst hn
      have HC := Lh hc
      clear hv hc
      have hB0 : Below w.heap.size w ((w.alloc (.cells #[.int .u64 L] 22)).alloc (.cells #[.slice (some ⟨s, o, none⟩) xs.length c] 26)) := ((Below.refl _ w).alloc (Nat.le_refl _) _).alloc (by simp) _
      go_enter Tryz.func62, Tryz.ntmps62
      go_wp2_with (go_at_call 77; refine (callsIn_wide.1 (vals_in Fence.wide 1 trivial rfl (some ⟨s, o, none⟩) xs.length c _)).mono ?_; rintro e w1 ⟨rfl, rfl⟩)
      refine (sfold_any (L := L) (zs := xs) _ (w.heap.size + 1) w.heap.size s o c (by simp) (by simp; omega) (by simp; omega) (by omega) (by rw [World.cell?_alloc_at _ _ _ _ (by simp)]; rfl) (by rw [World.cell?_alloc_past _ _ _ (by simp), World.cell?_alloc_new]; rfl) (fun j hj => by
       rw [hB0.cell (p := ⟨s, o + j, none⟩) hs, ← List.getD_eq_getElem?_getD]; exact HC.o j hj)).mono ?_
      rintro e w2 ⟨rfl, hb2⟩
      go_wp2_with fail
      go_ret
      exact ⟨ret_bool HZ.o, hB0.trans (hb2.mono hB0.size)⟩
open Go
section
variable {P : Program} {ops : Array Oper} {Q : Exit → Act → World → Prop} {md : Region.Mode} {b : Nat} {S : World → Prop}
def wpAnyB (P : Program) (md : Region.Mode) (ops : Array Oper) (Q : Exit → Act → World → Prop) (b : Nat) (S : World → Prop) : Nat → Array Bool → Act → World → Prop
  | 0, listed, a, w => Region.ready md ops listed = [] ∧ Q .normal a w
  | fuel + 1, listed, a, w =>
   (Region.ready md ops listed = [] → Q .normal a w) ∧
   ∀ i ∈ Region.ready md ops listed, wpOp P ops Q i (fun a' w' => ((listed.setIfInBounds i true).getD b true = false → S w') ∧ wpAnyB P md ops Q b S fuel (listed.setIfInBounds i true) a' w') a w
theorem wpAny_of_stage : ∀ (fuel : Nat) (listed : Array Bool) (a : Act) (w : World), wpAnyB P md ops Q b S fuel listed a w → wpAny P md ops Q fuel listed a w
  | 0, _, _, _, h => h
  | fuel + 1, _, _, _, h => ⟨h.1, fun i hi => wpOp_mono (fun a' w' h' => wpAny_of_stage fuel _ a' w' h'.2) (h.2 i hi)⟩
theorem listed_not {i : Nat} {listed : Array Bool} {oj : Oper} (hr : listed.getD i true = false) (hall : ∀ e ∈ oj.after, Region.binds md e = true → listed.getD e.on false = true) : ∀ e ∈ oj.after, Region.binds md e = true → e.on ≠ i := fun e he hb heq => by
 have h1 := hall e he hb
 rw [heq] at h1
 rcases Nat.lt_or_ge i listed.size with h' | h'
 · simp [h'] at hr h1; rw [hr] at h1; cases h1
 · simp [Array.getElem?_eq_none h'] at h1
theorem wpAnyB_first {i : Nat} {oi : Oper} {v : Value} (hi : ops[i]? = some oi) (hsel : ∀ (j : Nat) (o : Oper) cs b, ops[j]? = some o → o.op ≠ .select cs b)
    (hQ : ∀ c a w, Q (.panic c) (a.put oi.dst v) w → Q (.panic c) a w) (T : List Nat) (hbT : b ∈ T) (hiT : i ∉ T) (hw : ∀ t, t ∈ T → ∃ ob, ops[t]? = some ob ∧ ∃ e, e ∈ ob.after ∧ Region.binds md e = true ∧ (e.on = i ∨ e.on ∈ T)) :
    ∀ (fuel : Nat) (listed : Array Bool) (a : Act) (w : World),
      (∀ j oj, ops[j]? = some oj → j ≠ i → listed.getD j true = false → (∀ e ∈ oj.after, Region.binds md e = true → e.on ≠ i) → oi.apart ops oj = true) →
      i ∈ Region.ready md ops listed → (∀ t, t ∈ T → listed.getD t true = false) → YieldsIf P ops S oi v a → S w →
      wpAnyB P md ops Q b S fuel (listed.setIfInBounds i true) (a.put oi.dst v) w → wpAnyB P md ops Q b S (fuel + 1) listed a w := by
  intro fuel
  induction fuel with
  | zero =>
   intro listed a w _ hr _ hy hS H
   refine ⟨fun h => (by rw [h] at hr; cases hr), fun j hj => ?_⟩
   by_cases hji : j = i
   · subst hji; exact hy.wpOp hi hS ⟨fun _ => hS, H⟩
   · have := ready_mono hj hji
     rw [H.1] at this
     cases this
  | succ fuel ih =>
   intro listed a w hfree hr hb hy hS H
   refine ⟨fun h => (by rw [h] at hr; cases hr), fun j hj => ?_⟩
   by_cases hji : j = i
   · subst hji; exact hy.wpOp hi hS ⟨fun _ => hS, H⟩
   · have h1 := H.2 j (ready_mono hj hji)
     obtain ⟨hjun, oj, hoj, hall⟩ := mem_ready.1 hj
     have hnot : ∀ e ∈ oj.after, Region.binds md e = true → e.on ≠ i := listed_not (mem_ready.1 hr).1 hall
     have hjT : j ∉ T := fun hjT => by
      obtain ⟨ob, hob, e, he, hbi, hon⟩ := hw j hjT
      rw [hoj] at hob
      cases hob
      rcases hon with hon | hon
      · exact hnot e he hbi hon
      · exact listed_not (hb e.on hon) hall e he hbi rfl
     have hjb : j ≠ b := fun h => hjT (h ▸ hbT)
     have hib : i ≠ b := fun h => hiT (h ▸ hbT)
     have h2 := wpOp_putIf hoj (hfree j oj hoj hji hjun hnot) (fun cs b => hsel i oi cs b hi) (fun cs b => hsel j oj cs b hoj) hQ hy h1
     have hfree' : ∀ k ok, ops[k]? = some ok → k ≠ i → (listed.setIfInBounds j true).getD k true = false →
         (∀ e ∈ ok.after, Region.binds md e = true → e.on ≠ i) → oi.apart ops ok = true := fun k ok hk hki hun hno => by
       refine hfree k ok hk hki ?_ hno
       by_cases hjk : j = k
       · subst hjk; exact hjun
       · rw [getD_set_ne true hjk] at hun; exact hun
     have hb1 : ((listed.setIfInBounds i true).setIfInBounds j true).getD b true = false := by
      rw [getD_set_ne true hjb, getD_set_ne true hib]; exact hb b hbT
     refine wpOp_mono (fun a' w' h3 => ⟨fun _ => h3.2.1 hb1, ih (listed.setIfInBounds j true) a' w' hfree' (ready_mono hr (Ne.symm hji)) (fun t ht => by rw [getD_set_ne true (fun h => hjT (by rw [h]; exact ht))]; exact hb t ht) h3.1 (h3.2.1 hb1) ?_⟩) h2
     rw [Array.setIfInBounds_comm _ _ hji]
     exact h3.2.2
theorem wpAnyB_firstP {i : Nat} {oi : Oper} {v : Value} (hi : ops[i]? = some oi) (hsel : ∀ (j : Nat) (o : Oper) cs b, ops[j]? = some o → o.op ≠ .select cs b)
    (hQ : ∀ c a w, Q (.panic c) (a.put oi.dst v) w → Q (.panic c) a w) (hib : i ≠ b) :
    ∀ (fuel : Nat) (listed : Array Bool) (a : Act) (w : World),
      (∀ j oj, ops[j]? = some oj → j ≠ i → listed.getD j true = false → (∀ e ∈ oj.after, Region.binds md e = true → e.on ≠ i) → oi.apart ops oj = true) →
      i ∈ Region.ready md ops listed → Yields P ops oi v a → (listed.getD b true = false → S w) →
      wpAnyB P md ops Q b S fuel (listed.setIfInBounds i true) (a.put oi.dst v) w → wpAnyB P md ops Q b S (fuel + 1) listed a w := by
  intro fuel
  induction fuel with
  | zero =>
   intro listed a w _ hr hy hS H
   refine ⟨fun h => (by rw [h] at hr; cases hr), fun j hj => ?_⟩
   by_cases hji : j = i
   · subst hji; exact hy.wpOp hi ⟨fun h => hS (by rw [getD_set_ne true hib] at h; exact h), H⟩
   · have := ready_mono hj hji
     rw [H.1] at this
     cases this
  | succ fuel ih =>
   intro listed a w hfree hr hy hS H
   refine ⟨fun h => (by rw [h] at hr; cases hr), fun j hj => ?_⟩
   by_cases hji : j = i
   · subst hji; exact hy.wpOp hi ⟨fun h => hS (by rw [getD_set_ne true hib] at h; exact h), H⟩
   · have h1 := H.2 j (ready_mono hj hji)
     obtain ⟨hjun, oj, hoj, hall⟩ := mem_ready.1 hj
     have hnot : ∀ e ∈ oj.after, Region.binds md e = true → e.on ≠ i := listed_not (mem_ready.1 hr).1 hall
     have h2 := wpOp_put hoj (hfree j oj hoj hji hjun hnot) (fun cs b => hsel i oi cs b hi) (fun cs b => hsel j oj cs b hoj) hQ hy h1
     have hfree' : ∀ k ok, ops[k]? = some ok → k ≠ i → (listed.setIfInBounds j true).getD k true = false →
         (∀ e ∈ ok.after, Region.binds md e = true → e.on ≠ i) → oi.apart ops ok = true := fun k ok hk hki hun hno => by
       refine hfree k ok hk hki ?_ hno
       by_cases hjk : j = k
       · subst hjk; exact hjun
       · rw [getD_set_ne true hjk] at hun; exact hun
     have hs3 : ∀ w', (((listed.setIfInBounds i true).setIfInBounds j true).getD b true = false → S w') → (listed.setIfInBounds j true).getD b true = false → S w' := fun w' h h' => h (by
      rw [Array.setIfInBounds_comm _ _ (Ne.symm hji), getD_set_ne true hib]; exact h')
     refine wpOp_mono (fun a' w' h3 => ⟨hs3 w' h3.2.1, ih (listed.setIfInBounds j true) a' w' hfree' (ready_mono hr (Ne.symm hji)) h3.1 (hs3 w' h3.2.1) ?_⟩) h2
     rw [Array.setIfInBounds_comm _ _ hji]
     exact h3.2.2
def waitsAll (md : Region.Mode) (ops : Array Oper) (listed : Array Bool) (T : List Nat) (b i : Nat) : Bool :=
  T.contains b && !T.contains i && T.all fun t => !listed.getD t true && match ops[t]? with
    | none => false
    | some ob => ob.after.any fun e => Region.binds md e && (e.on == i || T.contains e.on)
theorem waitsAll_spec {listed : Array Bool} {T : List Nat} {i : Nat} (h : waitsAll md ops listed T b i = true) : b ∈ T ∧ i ∉ T ∧ (∀ t, t ∈ T → listed.getD t true = false) ∧
    ∀ t, t ∈ T → ∃ ob, ops[t]? = some ob ∧ ∃ e, e ∈ ob.after ∧ Region.binds md e = true ∧ (e.on = i ∨ e.on ∈ T) := by
  unfold waitsAll at h
  simp only [Bool.and_eq_true, Bool.not_eq_true', List.all_eq_true] at h
  obtain ⟨⟨h1, h2⟩, h3⟩ := h
  refine ⟨by simpa using h1, by simpa using h2, fun t ht => (h3 t ht).1, fun t ht => ?_⟩
  have h4 := (h3 t ht).2
  cases hb : ops[t]? with
  | none => simp [hb] at h4
  | some ob =>
   simp only [hb] at h4
   obtain ⟨e, he, hx⟩ := Array.any_eq_true'.1 h4
   simp only [Bool.and_eq_true, Bool.or_eq_true, beq_iff_eq] at hx
   exact ⟨ob, rfl, e, he, hx.1, hx.2.imp id fun h => by simpa using h⟩
def bareOp (dst : Option Tmp) (op : Op) (ty : TypeId) : Oper := { dst, op, type := ty, pos := "", after := #[], guard := none }
def isBare (ops : Array Oper) (i : Nat) (dst : Option Tmp) (op : Op) (ty : TypeId) : Prop := ∃ o, ops[i]? = some o ∧ o.dst = dst ∧ o.op = op ∧ o.type = ty ∧ o.guard = none
theorem exec_bare {o : Oper} {dst : Option Tmp} {op : Op} {ty : TypeId} (h : o.op = op) (h' : o.type = ty) (ρ : Operand → Value) : execOp ρ o = execOp ρ (bareOp dst op ty) := by
 subst h h'
 obtain ⟨d, o, t, p, af, g⟩ := o
 cases o <;> rfl
theorem wpAnyB_take {i : Nat} (dst : Option Tmp) (op : Op) (ty : TypeId) {v : Value} {fuel : Nat} {listed : Array Bool} {a : Act} {w : World} (hi : isBare ops i dst op ty)
    (hs : Region.noSelect ops = true) (hf : Region.free md ops listed i = true) (hr : (Region.ready md ops listed).contains i = true)
    (T : List Nat) (hwf : waitsAll md ops listed T b i = true)
    (hQ : ∀ c a w, Q (.panic c) (a.put dst v) w → Q (.panic c) a w) (hS : S w) (hy : ∀ w, S w → (execOp a.eval (bareOp dst op ty)).run P w = .ok (.value v) w)
    (h : wpAnyB P md ops Q b S fuel (listed.setIfInBounds i true) (a.put dst v) w) : wpAnyB P md ops Q b S (fuel + 1) listed a w := by
  obtain ⟨o, ho, rfl, h1, h2, h3⟩ := hi
  exact wpAnyB_first ho (Region.noSelect_spec hs) hQ T (waitsAll_spec hwf).1 (waitsAll_spec hwf).2.1 (waitsAll_spec hwf).2.2.2 fuel listed a w (Region.free_spec ho hf) (by simpa using hr) (waitsAll_spec hwf).2.2.1
    (.inl ⟨by simp [Region.wanted, h3], fun w hw => by rw [exec_bare h1 h2]; exact hy w hw⟩) hS h
theorem tkL {i : Nat} (dst : Option Tmp) (op : Op) (ty : TypeId) (T : List Nat) {v : Value} {fuel : Nat} {listed : Array Bool} {a : Act} {w : World} (hS : S w) (hy : ∀ w, S w → (execOp a.eval (bareOp dst op ty)).run P w = .ok (.value v) w)
    (h : wpAnyB P md ops Q b S fuel (listed.setIfInBounds i true) (a.put dst v) w) (hi : isBare ops i dst op ty := by exact ⟨_, rfl, rfl, rfl, rfl, rfl⟩) (hs : Region.noSelect ops = true := by kernel_rfl) (hf : Region.free md ops listed i = true := by kernel_rfl) (hr : (Region.ready md ops listed).contains i = true := by kernel_rfl)
    (hwf : waitsAll md ops listed T b i = true := by kernel_rfl) (hQ : ∀ c a w, Q (.panic c) (a.put dst v) w → Q (.panic c) a w := by exact fun _ _ _ h => h) : wpAnyB P md ops Q b S (fuel + 1) listed a w := wpAnyB_take dst op ty hi hs hf hr T hwf hQ hS hy h
theorem lt8 {p : Prop} {x : Bool} (hx : x = true := by kernel_rfl) : x = false → p := fun h => absurd (h.symm.trans hx) (by decide)
theorem wpAnyB_takeP {i : Nat} (dst : Option Tmp) (op : Op) (ty : TypeId) {v : Value} {fuel : Nat} {listed : Array Bool} {a : Act} {w : World} (hi : isBare ops i dst op ty)
    (hs : Region.noSelect ops = true) (hf : Region.free md ops listed i = true) (hr : (Region.ready md ops listed).contains i = true)
    (hib : (i == b) = false)
    (hQ : ∀ c a w, Q (.panic c) (a.put dst v) w → Q (.panic c) a w) (hS : listed.getD b true = false → S w) (hy : ∀ w, (execOp a.eval (bareOp dst op ty)).run P w = .ok (.value v) w)
    (h : wpAnyB P md ops Q b S fuel (listed.setIfInBounds i true) (a.put dst v) w) : wpAnyB P md ops Q b S (fuel + 1) listed a w := by
  obtain ⟨o, ho, rfl, h1, h2, h3⟩ := hi
  exact wpAnyB_firstP ho (Region.noSelect_spec hs) hQ (by simpa using hib) fuel listed a w (Region.free_spec ho hf) (by simpa using hr)
    (.inl ⟨by simp [Region.wanted, h3], fun w => by rw [exec_bare h1 h2]; exact hy w⟩) hS h
theorem tkP {i : Nat} (dst : Option Tmp) (op : Op) (ty : TypeId) {v : Value} {fuel : Nat} {listed : Array Bool} {a : Act} {w : World} (hS : listed.getD b true = false → S w)
    (h : wpAnyB P md ops Q b S fuel (listed.setIfInBounds i true) (a.put dst v) w) (hy : ∀ w, (execOp a.eval (bareOp dst op ty)).run P w = .ok (.value v) w := by (intro w; unfold bareOp; go_simp; try with_reducible rfl)) (hi : isBare ops i dst op ty := by exact ⟨_, rfl, rfl, rfl, rfl, rfl⟩) (hs : Region.noSelect ops = true := by kernel_rfl) (hf : Region.free md ops listed i = true := by kernel_rfl) (hr : (Region.ready md ops listed).contains i = true := by kernel_rfl)
    (hib : (i == b) = false := by kernel_rfl) (hQ : ∀ c a w, Q (.panic c) (a.put dst v) w → Q (.panic c) a w := by exact fun _ _ _ h => h) : wpAnyB P md ops Q b S (fuel + 1) listed a w := wpAnyB_takeP dst op ty hi hs hf hr hib hQ hS hy h
theorem wpAnyB_only {i : Nat} (dst : Option Tmp) (op : Op) (ty : TypeId) {fuel : Nat} {listed : Array Bool} {a : Act} {w : World} (hi : isBare ops i dst op ty) (hr : Region.ready md ops listed = [i])
    (h : ∀ K : Act → World → Prop, RowKit.Hid (∀ a w, ((listed.setIfInBounds i true).getD b true = false → S w) → wpAnyB P md ops Q b S fuel (listed.setIfInBounds i true) a w → K a w) →
      Oper.wp P (bareOp dst op ty) a w K Q) :
    wpAnyB P md ops Q b S (fuel + 1) listed a w := by
  obtain ⟨o, ho, rfl, h1, h2, h3⟩ := hi
  refine ⟨fun h0 => (by rw [hr] at h0; cases h0), fun j hj => ?_⟩
  rw [hr] at hj
  rcases List.mem_singleton.1 hj with rfl
  refine wpOp_step ho (fun K hK => ?_)
  rw [if_pos (by simp [Region.wanted, h3])]
  have h4 := h K (Lh fun a w hS hW => hK a w ⟨hS, hW⟩)
  unfold Oper.wp at h4 ⊢
  rw [exec_bare (dst := o.dst) h1 h2]
  exact h4
theorem onl {i : Nat} (dst : Option Tmp) (op : Op) (ty : TypeId) {fuel : Nat} {listed : Array Bool} {a : Act} {w : World}
    (h : ∀ K : Act → World → Prop, RowKit.Hid (∀ a w, ((listed.setIfInBounds i true).getD b true = false → S w) → wpAnyB P md ops Q b S fuel (listed.setIfInBounds i true) a w → K a w) →
      Oper.wp P (bareOp dst op ty) a w K Q) (hi : isBare ops i dst op ty := by exact ⟨_, rfl, rfl, rfl, rfl, rfl⟩) (hr : Region.ready md ops listed = [i] := by kernel_rfl) :
    wpAnyB P md ops Q b S (fuel + 1) listed a w := wpAnyB_only dst op ty hi hr h
theorem wpAnyB_done {listed : Array Bool} {a : Act} {w : World} (hr : Region.ready md ops listed = []) (h : Q .normal a w) :
    ∀ fuel, wpAnyB P md ops Q b S fuel listed a w
  | 0 => ⟨hr, h⟩
  | _ + 1 => ⟨fun _ => h, by rw [hr]; simp⟩
theorem wp_region_stage {id : Nat} {a : Act} {w : World} (b : Nat) (S : World → Prop) (hm : P.follows .mixedOrders = true)
    (h : wpAnyB P .any ops Q b S ops.size (Array.replicate ops.size false) a w.drew) : (Code.region id ops true).wp P Q a w :=
  wp_region_any hm (wpAny_of_stage _ _ _ _ h)
end
end Go.Proofs.YtkjkdfhjfnoalaaGreatDoor
/- Staged regions with guarded operations. -/
namespace Go.Proofs.YtkjkdfhjfnoalaaGreatDoor
open Go
section
variable {P : Program} {ops : Array Oper} {Q : Exit → Act → World → Prop} {md : Region.Mode} {b : Nat} {S : World → Prop}
def guardOp (g : Option (Nat × Bool)) : Oper := { dst := none, op := .move (.tmp 0), type := 0, pos := "", after := #[], guard := g }
theorem wanted_guard {o : Oper} {g : Option (Nat × Bool)} (h : o.guard = g) (f : Nat → Option Bool) : Region.wanted o f = Region.wanted (guardOp g) f := by
 unfold Region.wanted
 rw [h]
 rfl
def isGuard (ops : Array Oper) (i : Nat) (dst : Option Tmp) (op : Op) (ty : TypeId) (g : Option (Nat × Bool)) : Prop := ∃ o, ops[i]? = some o ∧ o.dst = dst ∧ o.op = op ∧ o.type = ty ∧ o.guard = g
theorem wpAnyB_takeG {i : Nat} (dst : Option Tmp) (op : Op) (ty : TypeId) (g : Option (Nat × Bool)) {v : Value} {fuel : Nat} {listed : Array Bool} {a : Act} {w : World} (hi : isGuard ops i dst op ty g)
    (hg : Region.wanted (guardOp g) (yielded ops a.tmps) = true)
    (hs : Region.noSelect ops = true) (hf : Region.free md ops listed i = true) (hr : (Region.ready md ops listed).contains i = true)
    (T : List Nat) (hwf : waitsAll md ops listed T b i = true)
    (hQ : ∀ c a w, Q (.panic c) (a.put dst v) w → Q (.panic c) a w) (hS : S w) (hy : ∀ w, S w → (execOp a.eval (bareOp dst op ty)).run P w = .ok (.value v) w)
    (h : wpAnyB P md ops Q b S fuel (listed.setIfInBounds i true) (a.put dst v) w) : wpAnyB P md ops Q b S (fuel + 1) listed a w := by
  obtain ⟨o, ho, rfl, h1, h2, h3⟩ := hi
  exact wpAnyB_first ho (Region.noSelect_spec hs) hQ T (waitsAll_spec hwf).1 (waitsAll_spec hwf).2.1 (waitsAll_spec hwf).2.2.2 fuel listed a w (Region.free_spec ho hf) (by simpa using hr) (waitsAll_spec hwf).2.2.1
    (.inl ⟨(wanted_guard h3 _).trans hg, fun w hw => by rw [exec_bare h1 h2]; exact hy w hw⟩) hS h
theorem tkLG {i : Nat} (dst : Option Tmp) (op : Op) (ty : TypeId) (g : Option (Nat × Bool)) (T : List Nat) {v : Value} {fuel : Nat} {listed : Array Bool} {a : Act} {w : World} (hS : S w) (hy : ∀ w, S w → (execOp a.eval (bareOp dst op ty)).run P w = .ok (.value v) w)
    (h : wpAnyB P md ops Q b S fuel (listed.setIfInBounds i true) (a.put dst v) w) (hi : isGuard ops i dst op ty g := by exact ⟨_, rfl, rfl, rfl, rfl, rfl⟩) (hg : Region.wanted (guardOp g) (yielded ops a.tmps) = true := by rfl) (hs : Region.noSelect ops = true := by kernel_rfl) (hf : Region.free md ops listed i = true := by kernel_rfl) (hr : (Region.ready md ops listed).contains i = true := by kernel_rfl)
    (hwf : waitsAll md ops listed T b i = true := by kernel_rfl) (hQ : ∀ c a w, Q (.panic c) (a.put dst v) w → Q (.panic c) a w := by exact fun _ _ _ h => h) : wpAnyB P md ops Q b S (fuel + 1) listed a w := wpAnyB_takeG dst op ty g hi hg hs hf hr T hwf hQ hS hy h
theorem wpAnyB_takePG {i : Nat} (dst : Option Tmp) (op : Op) (ty : TypeId) (g : Option (Nat × Bool)) {v : Value} {fuel : Nat} {listed : Array Bool} {a : Act} {w : World} (hi : isGuard ops i dst op ty g)
    (hg : Region.wanted (guardOp g) (yielded ops a.tmps) = true)
    (hs : Region.noSelect ops = true) (hf : Region.free md ops listed i = true) (hr : (Region.ready md ops listed).contains i = true)
    (hib : (i == b) = false)
    (hQ : ∀ c a w, Q (.panic c) (a.put dst v) w → Q (.panic c) a w) (hS : listed.getD b true = false → S w) (hy : ∀ w, (execOp a.eval (bareOp dst op ty)).run P w = .ok (.value v) w)
    (h : wpAnyB P md ops Q b S fuel (listed.setIfInBounds i true) (a.put dst v) w) : wpAnyB P md ops Q b S (fuel + 1) listed a w := by
  obtain ⟨o, ho, rfl, h1, h2, h3⟩ := hi
  exact wpAnyB_firstP ho (Region.noSelect_spec hs) hQ (by simpa using hib) fuel listed a w (Region.free_spec ho hf) (by simpa using hr)
    (.inl ⟨(wanted_guard h3 _).trans hg, fun w => by rw [exec_bare h1 h2]; exact hy w⟩) hS h
theorem tkPG {i : Nat} (dst : Option Tmp) (op : Op) (ty : TypeId) (g : Option (Nat × Bool)) {v : Value} {fuel : Nat} {listed : Array Bool} {a : Act} {w : World} (hS : listed.getD b true = false → S w)
    (h : wpAnyB P md ops Q b S fuel (listed.setIfInBounds i true) (a.put dst v) w) (hy : ∀ w, (execOp a.eval (bareOp dst op ty)).run P w = .ok (.value v) w := by (intro w; unfold bareOp; go_simp; try with_reducible rfl)) (hi : isGuard ops i dst op ty g := by exact ⟨_, rfl, rfl, rfl, rfl, rfl⟩) (hg : Region.wanted (guardOp g) (yielded ops a.tmps) = true := by rfl) (hs : Region.noSelect ops = true := by kernel_rfl) (hf : Region.free md ops listed i = true := by kernel_rfl) (hr : (Region.ready md ops listed).contains i = true := by kernel_rfl)
    (hib : (i == b) = false := by kernel_rfl) (hQ : ∀ c a w, Q (.panic c) (a.put dst v) w → Q (.panic c) a w := by exact fun _ _ _ h => h) : wpAnyB P md ops Q b S (fuel + 1) listed a w := wpAnyB_takePG dst op ty g hi hg hs hf hr hib hQ hS hy h
theorem wpAnyB_skip {i : Nat} (dst : Option Tmp) (op : Op) (ty : TypeId) (g : Option (Nat × Bool)) {fuel : Nat} {listed : Array Bool} {a : Act} {w : World} (hi : isGuard ops i dst op ty g)
    (hg : Region.wanted (guardOp g) (yielded ops a.tmps) = false)
    (hs : Region.noSelect ops = true) (hf : Region.free md ops listed i = true) (hr : (Region.ready md ops listed).contains i = true)
    (hib : (i == b) = false)
    (hQ : ∀ c a w, Q (.panic c) (a.put dst undef) w → Q (.panic c) a w) (hS : listed.getD b true = false → S w)
    (h : wpAnyB P md ops Q b S fuel (listed.setIfInBounds i true) (a.put dst undef) w) : wpAnyB P md ops Q b S (fuel + 1) listed a w := by
  obtain ⟨o, ho, rfl, h1, h2, h3⟩ := hi
  exact wpAnyB_firstP ho (Region.noSelect_spec hs) hQ (by simpa using hib) fuel listed a w (Region.free_spec ho hf) (by simpa using hr)
    (.inr ⟨(wanted_guard h3 _).trans hg, rfl⟩) hS h
theorem skG {i : Nat} (dst : Option Tmp) (op : Op) (ty : TypeId) (g : Option (Nat × Bool)) {fuel : Nat} {listed : Array Bool} {a : Act} {w : World} (hS : listed.getD b true = false → S w)
    (h : wpAnyB P md ops Q b S fuel (listed.setIfInBounds i true) (a.put dst undef) w) (hi : isGuard ops i dst op ty g := by exact ⟨_, rfl, rfl, rfl, rfl, rfl⟩) (hg : Region.wanted (guardOp g) (yielded ops a.tmps) = false := by rfl) (hs : Region.noSelect ops = true := by kernel_rfl) (hf : Region.free md ops listed i = true := by kernel_rfl) (hr : (Region.ready md ops listed).contains i = true := by kernel_rfl)
    (hib : (i == b) = false := by kernel_rfl) (hQ : ∀ c a w, Q (.panic c) (a.put dst undef) w → Q (.panic c) a w := by exact fun _ _ _ h => h) : wpAnyB P md ops Q b S (fuel + 1) listed a w := wpAnyB_skip dst op ty g hi hg hs hf hr hib hQ hS h
theorem wpAnyB_onlyG {i : Nat} (dst : Option Tmp) (op : Op) (ty : TypeId) (g : Option (Nat × Bool)) {fuel : Nat} {listed : Array Bool} {a : Act} {w : World} (hi : isGuard ops i dst op ty g) (hr : Region.ready md ops listed = [i])
    (hg : Region.wanted (guardOp g) (yielded ops a.tmps) = true)
    (h : ∀ K : Act → World → Prop, RowKit.Hid (∀ a w, ((listed.setIfInBounds i true).getD b true = false → S w) → wpAnyB P md ops Q b S fuel (listed.setIfInBounds i true) a w → K a w) →
      Oper.wp P (bareOp dst op ty) a w K Q) :
    wpAnyB P md ops Q b S (fuel + 1) listed a w := by
  obtain ⟨o, ho, rfl, h1, h2, h3⟩ := hi
  refine ⟨fun h0 => (by rw [hr] at h0; cases h0), fun j hj => ?_⟩
  rw [hr] at hj
  rcases List.mem_singleton.1 hj with rfl
  refine wpOp_step ho (fun K hK => ?_)
  rw [if_pos ((wanted_guard h3 _).trans hg)]
  have h4 := h K (Lh fun a w hS hW => hK a w ⟨hS, hW⟩)
  unfold Oper.wp at h4 ⊢
  rw [exec_bare (dst := o.dst) h1 h2]
  exact h4
end
end Go.Proofs.YtkjkdfhjfnoalaaGreatDoor
/- A staged region where two operations may come up. -/
namespace Go.Proofs.YtkjkdfhjfnoalaaGreatDoor
open Go
section
variable {P : Program} {ops : Array Oper} {Q : Exit → Act → World → Prop} {md : Region.Mode} {b : Nat} {S : World → Prop}
theorem wpAnyB_two {i j : Nat} (dst : Option Tmp) (op : Op) (ty : TypeId) (dst' : Option Tmp) (op' : Op) (ty' : TypeId) {fuel : Nat} {listed : Array Bool} {a : Act} {w : World} (hi : isBare ops i dst op ty) (hj : isBare ops j dst' op' ty') (hr : Region.ready md ops listed = [i, j])
    (h : ∀ K : Act → World → Prop, RowKit.Hid (∀ a w, ((listed.setIfInBounds i true).getD b true = false → S w) → wpAnyB P md ops Q b S fuel (listed.setIfInBounds i true) a w → K a w) → Oper.wp P (bareOp dst op ty) a w K Q)
    (h' : ∀ K : Act → World → Prop, RowKit.Hid (∀ a w, ((listed.setIfInBounds j true).getD b true = false → S w) → wpAnyB P md ops Q b S fuel (listed.setIfInBounds j true) a w → K a w) → Oper.wp P (bareOp dst' op' ty') a w K Q) :
    wpAnyB P md ops Q b S (fuel + 1) listed a w := by
  obtain ⟨o, ho, rfl, h1, h2, h3⟩ := hi
  obtain ⟨o', ho', rfl, h1', h2', h3'⟩ := hj
  refine ⟨fun h0 => (by rw [hr] at h0; cases h0), fun k hk => ?_⟩
  rw [hr] at hk
  rcases List.mem_cons.1 hk with rfl | hk
  · refine wpOp_step ho (fun K hK => ?_)
    rw [if_pos (by simp [Region.wanted, h3])]
    have h4 := h K (Lh fun a w hS hW => hK a w ⟨hS, hW⟩)
    unfold Oper.wp at h4 ⊢
    rw [exec_bare (dst := o.dst) h1 h2]
    exact h4
  · rcases List.mem_singleton.1 hk with rfl
    refine wpOp_step ho' (fun K hK => ?_)
    rw [if_pos (by simp [Region.wanted, h3'])]
    have h4 := h' K (Lh fun a w hS hW => hK a w ⟨hS, hW⟩)
    unfold Oper.wp at h4 ⊢
    rw [exec_bare (dst := o'.dst) h1' h2']
    exact h4
end
end Go.Proofs.YtkjkdfhjfnoalaaGreatDoor
/- A staged region where three operations may come up. -/
namespace Go.Proofs.YtkjkdfhjfnoalaaGreatDoor
open Go
section
variable {P : Program} {ops : Array Oper} {Q : Exit → Act → World → Prop} {md : Region.Mode} {b : Nat} {S : World → Prop}
theorem wpAnyB_three {i j k : Nat} (dst : Option Tmp) (op : Op) (ty : TypeId) (dst' : Option Tmp) (op' : Op) (ty' : TypeId) (dst'' : Option Tmp) (op'' : Op) (ty'' : TypeId) {fuel : Nat} {listed : Array Bool} {a : Act} {w : World} (hi : isBare ops i dst op ty) (hj : isBare ops j dst' op' ty') (hk : isBare ops k dst'' op'' ty'') (hr : Region.ready md ops listed = [i, j, k])
    (h : ∀ K : Act → World → Prop, RowKit.Hid (∀ a w, ((listed.setIfInBounds i true).getD b true = false → S w) → wpAnyB P md ops Q b S fuel (listed.setIfInBounds i true) a w → K a w) → Oper.wp P (bareOp dst op ty) a w K Q)
    (h' : ∀ K : Act → World → Prop, RowKit.Hid (∀ a w, ((listed.setIfInBounds j true).getD b true = false → S w) → wpAnyB P md ops Q b S fuel (listed.setIfInBounds j true) a w → K a w) → Oper.wp P (bareOp dst' op' ty') a w K Q)
    (h'' : ∀ K : Act → World → Prop, RowKit.Hid (∀ a w, ((listed.setIfInBounds k true).getD b true = false → S w) → wpAnyB P md ops Q b S fuel (listed.setIfInBounds k true) a w → K a w) → Oper.wp P (bareOp dst'' op'' ty'') a w K Q) :
    wpAnyB P md ops Q b S (fuel + 1) listed a w := by
  have one : ∀ (n : Nat) (d : Option Tmp) (p : Op) (t : TypeId), isBare ops n d p t → (∀ K : Act → World → Prop, RowKit.Hid (∀ a w, ((listed.setIfInBounds n true).getD b true = false → S w) → wpAnyB P md ops Q b S fuel (listed.setIfInBounds n true) a w → K a w) → Oper.wp P (bareOp d p t) a w K Q) →
      wpOp P ops Q n (fun a' w' => ((listed.setIfInBounds n true).getD b true = false → S w') ∧ wpAnyB P md ops Q b S fuel (listed.setIfInBounds n true) a' w') a w := by
    intro n d p t hn hh
    obtain ⟨o, ho, rfl, h1, h2, h3⟩ := hn
    refine wpOp_step ho (fun K hK => ?_)
    rw [if_pos (by simp [Region.wanted, h3])]
    have h4 := hh K (Lh fun a w hS hW => hK a w ⟨hS, hW⟩)
    unfold Oper.wp at h4 ⊢
    rw [exec_bare (dst := o.dst) h1 h2]
    exact h4
  refine ⟨fun h0 => (by rw [hr] at h0; cases h0), fun n hn => ?_⟩
  rw [hr] at hn
  simp only [List.mem_cons, List.not_mem_nil, or_false] at hn
  rcases hn with rfl | rfl | rfl
  · exact one _ _ _ _ hi h
  · exact one _ _ _ _ hj h'
  · exact one _ _ _ _ hk h''
end
end Go.Proofs.YtkjkdfhjfnoalaaGreatDoor
/- Staged regions inside a round of a range over a function, where no bound stands on the calls. -/
namespace Go.Proofs.YtkjkdfhjfnoalaaGreatDoor
open Go
def OnlyN (Q : Exit → Act → World → Prop) : Exit → Act → World → Prop
  | .normal, a, w => Q .normal a w
  | _, _, _ => False
theorem OnlyN.never {Q : Exit → Act → World → Prop} : ¬ LetsOut (OnlyN Q) := fun ⟨_, _, h⟩ => h
def Op.noDefer : Op → Bool
  | .defer _ => false
  | _ => true
section
variable {P : Program} {ops : Array Oper} {Q : Exit → Act → World → Prop} {md : Region.Mode} {l n : Nat}
theorem oper_in {o : Oper} (hd : Op.noDefer o.op = true) {a : Act} {w : World} {K : Act → World → Prop} (h : o.wp P a w K (OnlyN Q)) : o.wpIn (Fence.wide.inRound l) n P a w K Q := by
 refine ⟨fun _ _ => trivial, ?_⟩
 rw [Oper.semAt_plain _ _ _ (fun c hc => by rw [hc] at hd; cases hd)]
 unfold Oper.wp at h
 generalize (execOp a.eval o).run P w = r at *
 cases r with
 | ok x w' =>
  cases x <;> simp only [Oper.upon, Oper.uponIn] at h ⊢ <;> first | exact h | skip
  case enter f args =>
   refine ⟨(fun hx => by cases hx), CallsIn.inRound l (callsIn_wide.2 (Calls.mono h fun e w'' he => ?_))⟩
   cases e with
   | returned v => exact he
   | panicked c => exact he.elim
   | outgrown => exact (OnlyN.never he).elim
  case row row args =>
   refine ⟨(fun hx => by cases hx), fun c cs _ => ?_⟩
   obtain ⟨v, w', r, s⟩ := h c cs
   exact ⟨v, w', r, stepsIn_wide.2 s⟩
 | halt x w' => cases x <;> simp only [Oper.upon, Oper.uponIn] at h ⊢ <;> exact h.elim
end
open Go.RowKit Num
set_option maxHeartbeats 4000000 in
theorem rsame64_any {a b : Option Addr} {n c d : Nat} {xs : List Int} (w : World) (ha : ShI .u64 w a n xs) (hb : ShI .u64 w b n xs) (hn : n ≤ 10000) :
    Calls Tryz.prog 28 #[.slice a n c, .slice b n d] w fun e w' => e = .returned (.bool true) ∧ Below w.heap.size w w' := by
  have HA := Lh ha
  have HB := Lh hb
  clear ha hb
  go_enter Tryz.func28, Tryz.ntmps28
  go_wp2_with fail
  go_loopw [5] (fun c5 wr => ∃ k : Nat, k ≤ n ∧ c5 = .int .i64 k ∧ Hid (Below w.heap.size w wr)) (fun c5 _ => n - (intOf c5).toNat)
  case atStart => exact ⟨0, Nat.zero_le _, rfl, Below.refl _ _⟩
  case round =>
   obtain ⟨k, hk, rfl, HK⟩ := hrel
   by_cases hlt : k < n
   case neg =>
    go_wp2_with fail
    go_ret
    exact ⟨rfl, HK.o⟩
   case pos =>
    obtain ⟨s, o, hsa, hsl, a0, -⟩ := (HA.o.keep HK.o).at k hlt
    obtain ⟨t, p, hta, htl, b0, -⟩ := (HB.o.keep HK.o).at k hlt
    generalize xs.getD k 0 = z at a0 b0
    subst hsa hta
    have hk0 : (0 : Int) ≤ (k : Int) := by omega
    have hk1 : (k : Int) < (n : Int) := by omega
    go_wp2_with fail
    go_region
    go_wp2_with fail
    go_roundw
    case rel => exact ⟨k + 1, by omega, by go_num, HK.o.drew⟩
    case measure => simp [intOf]; omega
open Go.RowKit Num
def atS (Q i : Int) (xs : List Int) : Nat → Int
  | 0 => 0
  | k + 1 => (atS Q i xs k + xs.getD k 0 * powm i k Q % Q) % Q
def keyOfS (P Q i : Int) (xs : List Int) : Nat → Int
  | 0 => 1
  | k + 1 => keyOfS P Q i xs k * powm (xs.getD k 0) (powm i k Q) P % P
theorem keyOfS_range {P Q i : Int} (hP : 1 < P) (xs : List Int) : ∀ k, 0 ≤ keyOfS P Q i xs k ∧ keyOfS P Q i xs k < P
  | 0 => ⟨by simp [keyOfS], by simpa [keyOfS] using hP⟩
  | k + 1 => ⟨Int.emod_nonneg _ (by omega), Int.emod_lt_of_pos _ (by omega)⟩
end Go.Proofs.YtkjkdfhjfnoalaaGreatDoor
