/- The reference's SameVote (of equal votes) and GreatVote. -/
import Derived.Test.YtlbldpkgnonbpaaDoorOzP
import Derived.Laws.StructEq
import Derived.Test.YtlbldpkgnonbpaaDoorOzN
import Derived.Test.YtlbldpkgnonbpaaDoorOzO
import Derived.Deep.Cut
set_option linter.unusedSimpArgs false
set_option linter.unusedVariables false
set_option maxRecDepth 100000
namespace Go.Proofs.YtlbldpkgnonbpaaDoor
open Go Go.RowKit Num Sha
theorem eq_p64d (n : Nat) (a b c d : Int) (w : World) : (Op.equalIn (n + 2) 25 (.agg #[.int .u64 a, .int .u64 b]) (.agg #[.int .u64 c, .int .u64 d])).run Tryd.prog w = .ok (a == c && b == d) w := by
 have u3 := Tryd.underlying24
 have a3 := Tryd.isAgg24
 have z3 := Tryd.sizeOf24
 rw [Op.equalIn]
 simp only [Sem.run_bind, run_underlying Tryd.underlying25, Result.andThen_ok]
 simp only [Std.Legacy.Range.forIn_eq_forIn_range', Std.Legacy.Range.size, Nat.sub_zero, Nat.add_sub_cancel, Nat.div_one, List.range'_succ, List.range'_zero, List.forIn_cons, List.forIn_nil]
 go_simp
 by_cases h1 : a = c <;> by_cases h2 : b = d <;> simp [h1, h2]
@[go_sem] theorem eq_p64l (a b : Int) (w : World) : (Op.equalIn 9999 25 (.agg #[.int .u64 a, .int .u64 b]) (.agg #[.int .u64 a, .int .u64 b])).run Tryd.prog w = .ok true w := by
 rw [eq_p64d 9997 a b a b w]; simp
set_option maxHeartbeats 8000000 in
theorem rSame_aux {a1 a2 b1 b2 : Option Addr} {n m c1 c2 d1 d2 : Nat} {bs : List (Int × Int)} {ps : List Bt} {one : Bool} {z : Bt} (w : World) (hn : n ≤ 1000) (hm : m ≤ 1000) (h1 : ShS w a1 n bs) (h2 : ShS w a2 n bs) (h3 : ShB w b1 m ps) (h4 : ShB w b2 m ps) :
    Calls Tryd.prog 16 #[.agg #[.slice a1 n c1, .slice b1 m d1, .bool one, .int .u64 z.r0, .int .u64 z.r1, .int .u64 z.s0, .int .u64 z.s1, .int .u64 z.c0, .int .u64 z.c1, .int .u64 z.z0, .int .u64 z.z1], .agg #[.slice a2 n c2, .slice b2 m d2, .bool one, .int .u64 z.r0, .int .u64 z.r1, .int .u64 z.s0, .int .u64 z.s1, .int .u64 z.c0, .int .u64 z.c1, .int .u64 z.z0, .int .u64 z.z1]] w fun e w' => e = .returned (.bool true) ∧ Below w.heap.size w w' := by
  have H1 := Lh h1
  have H2 := Lh h2
  have H3 := Lh h3
  have H4 := Lh h4
  have F_v := Lh (show Cl ((w.alloc (.cells #[.slice a1 n c1, .slice b1 m d1, .bool one, .int .u64 z.r0, .int .u64 z.r1, .int .u64 z.s0, .int .u64 z.s1, .int .u64 z.c0, .int .u64 z.c1, .int .u64 z.z0, .int .u64 z.z1] 29)).alloc (.cells #[.slice a2 n c2, .slice b2 m d2, .bool one, .int .u64 z.r0, .int .u64 z.r1, .int .u64 z.s0, .int .u64 z.s1, .int .u64 z.c0, .int .u64 z.c1, .int .u64 z.z0, .int .u64 z.z1] 29)) w.heap.size [.slice a1 n c1, .slice b1 m d1, .bool one, .int .u64 z.r0, .int .u64 z.r1, .int .u64 z.s0, .int .u64 z.s1, .int .u64 z.c0, .int .u64 z.c1, .int .u64 z.z0, .int .u64 z.z1] from (Cl.at w [.slice a1 n c1, .slice b1 m d1, .bool one, .int .u64 z.r0, .int .u64 z.r1, .int .u64 z.s0, .int .u64 z.s1, .int .u64 z.c0, .int .u64 z.c1, .int .u64 z.z0, .int .u64 z.z1] 29 w.heap.size rfl).alloc _)
  have F_u := Lh (show Cl ((w.alloc (.cells #[.slice a1 n c1, .slice b1 m d1, .bool one, .int .u64 z.r0, .int .u64 z.r1, .int .u64 z.s0, .int .u64 z.s1, .int .u64 z.c0, .int .u64 z.c1, .int .u64 z.z0, .int .u64 z.z1] 29)).alloc (.cells #[.slice a2 n c2, .slice b2 m d2, .bool one, .int .u64 z.r0, .int .u64 z.r1, .int .u64 z.s0, .int .u64 z.s1, .int .u64 z.c0, .int .u64 z.c1, .int .u64 z.z0, .int .u64 z.z1] 29)) (w.heap.size + 1) [.slice a2 n c2, .slice b2 m d2, .bool one, .int .u64 z.r0, .int .u64 z.r1, .int .u64 z.s0, .int .u64 z.s1, .int .u64 z.c0, .int .u64 z.c1, .int .u64 z.z0, .int .u64 z.z1] from Cl.at (w.alloc (.cells #[.slice a1 n c1, .slice b1 m d1, .bool one, .int .u64 z.r0, .int .u64 z.r1, .int .u64 z.s0, .int .u64 z.s1, .int .u64 z.c0, .int .u64 z.c1, .int .u64 z.z0, .int .u64 z.z1] 29)) [.slice a2 n c2, .slice b2 m d2, .bool one, .int .u64 z.r0, .int .u64 z.r1, .int .u64 z.s0, .int .u64 z.s1, .int .u64 z.c0, .int .u64 z.c1, .int .u64 z.z0, .int .u64 z.z1] 29 (w.heap.size + 1) (by simp))
  have HBW := Lh (show Below w.heap.size w ((w.alloc (.cells #[.slice a1 n c1, .slice b1 m d1, .bool one, .int .u64 z.r0, .int .u64 z.r1, .int .u64 z.s0, .int .u64 z.s1, .int .u64 z.c0, .int .u64 z.c1, .int .u64 z.z0, .int .u64 z.z1] 29)).alloc (.cells #[.slice a2 n c2, .slice b2 m d2, .bool one, .int .u64 z.r0, .int .u64 z.r1, .int .u64 z.s0, .int .u64 z.s1, .int .u64 z.c0, .int .u64 z.c1, .int .u64 z.z0, .int .u64 z.z1] 29)) from ((Below.refl _ _).alloc (Nat.le_refl _) _).alloc (by simp) _)
  clear h1 h2 h3 h4
  go_enter Tryd.func16, Tryd.ntmps16
  obtain ⟨⟨q0, q1, q2, q3, q4, q5, q6, q7, q8, q9, q10⟩, -⟩ := F_v.o.k11
  obtain ⟨⟨y0, y1, y2, y3, y4, y5, y6, y7, y8, y9, y10⟩, -⟩ := F_u.o.k11
  go_wp2_with fail
  clear q0 q1 q2 q3 q4 q5 q6 q7 q8 q9 q10 y0 y1 y2 y3 y4 y5 y6 y7 y8 y9 y10
  go_loopw [5] (fun c5 wr => ∃ (i : Nat), i ≤ n ∧ c5 = .int .i64 i ∧ Hid (Cl wr w.heap.size [.slice a1 n c1, .slice b1 m d1, .bool one, .int .u64 z.r0, .int .u64 z.r1, .int .u64 z.s0, .int .u64 z.s1, .int .u64 z.c0, .int .u64 z.c1, .int .u64 z.z0, .int .u64 z.z1]) ∧ Hid (Cl wr (w.heap.size + 1) [.slice a2 n c2, .slice b2 m d2, .bool one, .int .u64 z.r0, .int .u64 z.r1, .int .u64 z.s0, .int .u64 z.s1, .int .u64 z.c0, .int .u64 z.c1, .int .u64 z.z0, .int .u64 z.z1]) ∧ Hid (Below w.heap.size w wr)) (fun c5 _ => n - (intOf c5).toNat)
  case atStart => exact ⟨0, by omega, rfl, F_v.o, F_u.o, HBW.o⟩
  case round =>
   clear F_v F_u HBW
   obtain ⟨i, hi, rfl, F_v, F_u, HBW⟩ := hrel
   have hwi : IntKind.i64.wrap ((i : Int) + 1) = (i : Int) + 1 := IntWalk.i64_in _ (by omega)
   have hi0 : (0 : Int) ≤ (i : Int) := by omega
   obtain ⟨⟨q0, q1, q2, q3, q4, q5, q6, q7, q8, q9, q10⟩, -⟩ := F_v.o.k11
   obtain ⟨⟨y0, y1, y2, y3, y4, y5, y6, y7, y8, y9, y10⟩, -⟩ := F_u.o.k11
   by_cases hlt : i < n
   case pos =>
    have hi2 : (i : Int) < (n : Int) := by omega
    have cS : Tryd.prog.cellsOf 78 = 2 := by kernel_rfl
    obtain ⟨s, o, hsa, hsl, e0, e1⟩ := (H1.o.keep HBW.o).at i hlt
    obtain ⟨s', o', hsa', hsl', e0', e1'⟩ := (H2.o.keep HBW.o).at i hlt
    obtain ⟨x, y, hxy⟩ : ∃ x y, bs.getD i (0, 0) = (x, y) := ⟨_, _, rfl⟩
    rw [hxy] at e0 e1 e0' e1'
    simp only at e0 e1 e0' e1'
    clear hxy hsl hsl'
    rw [hsa] at q0
    rw [hsa'] at y0
    clear hsa hsa'
    go_wp2_with fail
    go_region
    go_wp2_with fail
    go_roundw
    case rel => exact ⟨i + 1, by omega, by go_num, F_v.o.drew, F_u.o.drew, HBW.o.drew⟩
    case measure => simp [intOf] <;> omega
   case neg =>
    have hi2 : ¬ ((i : Int) < (n : Int)) := by omega
    go_wp2_with fail
    clear q0 q1 q2 q3 q4 q5 q6 q7 q8 q9 q10 y0 y1 y2 y3 y4 y5 y6 y7 y8 y9 y10 hwi hi0 hi2
    obtain ⟨wb, rfl⟩ : ∃ wb, wb = wr := ⟨_, rfl⟩
    go_loopw [6] (fun c6 wr => ∃ (j : Nat), j ≤ m ∧ c6 = .int .i64 j ∧ Hid (Cl wr w.heap.size [.slice a1 n c1, .slice b1 m d1, .bool one, .int .u64 z.r0, .int .u64 z.r1, .int .u64 z.s0, .int .u64 z.s1, .int .u64 z.c0, .int .u64 z.c1, .int .u64 z.z0, .int .u64 z.z1]) ∧ Hid (Cl wr (w.heap.size + 1) [.slice a2 n c2, .slice b2 m d2, .bool one, .int .u64 z.r0, .int .u64 z.r1, .int .u64 z.s0, .int .u64 z.s1, .int .u64 z.c0, .int .u64 z.c1, .int .u64 z.z0, .int .u64 z.z1]) ∧ Hid (Below w.heap.size w wr)) (fun c6 _ => m - (intOf c6).toNat)
    case atStart => exact ⟨0, by omega, rfl, F_v.o, F_u.o, HBW.o⟩
    case round =>
     clear F_v F_u HBW
     obtain ⟨j, hj, rfl, F_v, F_u, HBW⟩ := hrel
     have hwi : IntKind.i64.wrap ((j : Int) + 1) = (j : Int) + 1 := IntWalk.i64_in _ (by omega)
     have hi0 : (0 : Int) ≤ (j : Int) := by omega
     obtain ⟨⟨q0, q1, q2, q3, q4, q5, q6, q7, q8, q9, q10⟩, -⟩ := F_v.o.k11
     obtain ⟨⟨y0, y1, y2, y3, y4, y5, y6, y7, y8, y9, y10⟩, -⟩ := F_u.o.k11
     by_cases hlt : j < m
     case pos =>
      have hi2 : (j : Int) < (m : Int) := by omega
      have cB : Tryd.prog.cellsOf 27 = 8 := by kernel_rfl
      obtain ⟨s, o, x, hsa, hz, hbc⟩ := (H3.o.keep HBW.o).at j hlt
      obtain ⟨s', o', x', hsa', hz', hbc'⟩ := (H4.o.keep HBW.o).at j hlt
      obtain rfl : x = x' := Option.some.inj (hz.symm.trans hz')
      obtain ⟨-, t0, t1, t2, t3, t4, t5, t6, t7⟩ := hbc
      obtain ⟨-, r0, r1, r2, r3, r4, r5, r6, r7⟩ := hbc'
      rw [hsa] at q1
      rw [hsa'] at y1
      clear hsa hsa' hz hz'
      go_wp2_with fail
      go_region
      go_wp2_with fail
      go_roundw
      case rel => exact ⟨j + 1, by omega, by go_num, F_v.o.drew, F_u.o.drew, HBW.o.drew⟩
      case measure => simp [intOf] <;> omega
     case neg =>
      have hi2 : ¬ ((j : Int) < (m : Int)) := by omega
      go_wp2_with fail
      go_ret
      exact ⟨rfl, HBW.o⟩
theorem rSame_any {V U : Vt} (w : World) (hV : VtIn w V) (hU : VtIn w U) (hb : V.bs = U.bs) (hp : V.ps = U.ps) (ho : V.one = U.one) (hz : V.z = U.z) (hn : V.n ≤ 1000) (hm : V.m ≤ 1000) :
    Calls Tryd.prog 16 #[V.v, U.v] w fun e w' => e = .returned (.bool true) ∧ Below w.heap.size w w' := by
  have e1 := hV.h1.len
  have e2 := hU.h1.len
  have e3 := hV.h2.len
  have e4 := hU.h2.len
  obtain ⟨a1, n, c1, bs, b1, m, d1, ps, one, z⟩ := V
  obtain ⟨a2, n', c2, bs', b2, m', d2, ps', one', z'⟩ := U
  simp only at *
  subst hb hp ho hz
  obtain rfl : n' = n := by omega
  obtain rfl : m' = m := by omega
  exact rSame_aux w hn hm hV.h1 hU.h1 hV.h2 hU.h2
def greatV (V : Vt) : Bool := decide (20 < V.n) || decide (20 < V.m)
set_option maxHeartbeats 8000000 in
theorem greatV_any {V : Vt} (w : World) :
    Calls Tryd.prog 9 #[V.v] w fun e w' => e = .returned (.bool (greatV V)) ∧ Below w.heap.size w w' := by
  have F_v := Lh (VBox.at w V 29 w.heap.size rfl)
  have HBW := Lh (show Below w.heap.size w (w.alloc (.cells V.ca 29)) from (Below.refl _ _).alloc (Nat.le_refl _) _)
  obtain ⟨-, v0, v1, -⟩ := id F_v.o
  unfold Vt.v
  by_cases h : 20 < V.n
  case pos =>
   have d1 : decide ((20 : Int) < (V.n : Int)) = true := by simp; omega
   go_enter Tryd.func9, Tryd.ntmps9
   go_wp2_with fail
   go_ret
   exact ⟨by simp [greatV, h], HBW.o⟩
  case neg =>
   have d1 : decide ((20 : Int) < (V.n : Int)) = false := by simp; omega
   go_enter Tryd.func9, Tryd.ntmps9
   go_wp2_with fail
   go_ret
   exact ⟨by simp [greatV, h, show ((20 : Int) < (V.m : Int)) ↔ 20 < V.m by omega], HBW.o⟩
open Go Go.RowKit Num Sha
theorem Bt.u.nn {z : Bt} (h : z.u) : 0 ≤ z.r0 ∧ 0 ≤ z.r1 ∧ 0 ≤ z.s0 ∧ 0 ≤ z.s1 ∧ 0 ≤ z.c0 ∧ 0 ≤ z.c1 ∧ 0 ≤ z.z0 ∧ 0 ≤ z.z1 := by
 obtain ⟨h0, h1, h2, h3, h4, h5, h6, h7⟩ := h
 exact ⟨h0.1, h1.1, h2.1, h3.1, h4.1, h5.1, h6.1, h7.1⟩
theorem ShI.lit1 (q : IntKind) (w : World) (x : Int) (T : TypeId) (s : Nat) (hs : s = w.heap.size) : ShI q (w.alloc (.cells #[.int q x] T)) (some ⟨s, 0, none⟩) 1 [x] :=
  .inr ⟨s, 0, rfl, rfl, by subst hs; simp, fun i hi => by rw [Nat.zero_add]; exact (Arr.new q w [x] T s hs).c i hi⟩
def provB (P Q G y a b : Int) (z : Bt) (x : Int) : Prop :=
  askS P Q G [z.c0, z.c1, z.z0, z.z1] [y, a, b, z.r0, z.r1, z.s0, z.s1] = 0 ∧ bvP P Q G y a b z.r0 z.r1 z.s0 z.s1 z.c0 z.c1 z.z0 z.z1 [x]
set_option maxHeartbeats 8000000 in
theorem proved_any {P Q G y a b x : Int} {z : Bt} {v : Bool} (w : World) (hT : Tabs w) (hP : 0 ≤ P) (hQ : 0 ≤ Q) (hG : 0 ≤ G) (hy : 0 ≤ y) (ha : 0 ≤ a) (hb : 0 ≤ b) (hz : z.u) (hx0 : 0 ≤ x) (hx1 : x < 256) (hv : v = true ↔ provB P Q G y a b z x) :
    Calls Tryd.prog 88 #[.agg #[.int .u64 P, .int .u64 Q, .int .u64 G], .int .u64 y, .agg #[.int .u64 a, .int .u64 b], .agg #[.int .u64 z.r0, .int .u64 z.r1, .int .u64 z.s0, .int .u64 z.s1, .int .u64 z.c0, .int .u64 z.c1, .int .u64 z.z0, .int .u64 z.z1], .int .u8 x] w fun e w' => e = .returned (.bool v) ∧ Below w.heap.size w w' := by
  have HT := Lh hT
  obtain ⟨n0, n1, n2, n3, n4, n5, n6, n7⟩ := hz.nn
  have HV := Lh hv
  have F_g := Lh (show Cl (((w.alloc (.cells #[.int .u64 P, .int .u64 Q, .int .u64 G] 49)).alloc (.cells #[.int .u64 a, .int .u64 b] 78)).alloc (.cells #[.int .u64 z.r0, .int .u64 z.r1, .int .u64 z.s0, .int .u64 z.s1, .int .u64 z.c0, .int .u64 z.c1, .int .u64 z.z0, .int .u64 z.z1] 27)) w.heap.size [.int .u64 P, .int .u64 Q, .int .u64 G] from ((Cl.at w [.int .u64 P, .int .u64 Q, .int .u64 G] _ w.heap.size rfl).alloc _).alloc _)
  have F_s := Lh (show Cl (((w.alloc (.cells #[.int .u64 P, .int .u64 Q, .int .u64 G] 49)).alloc (.cells #[.int .u64 a, .int .u64 b] 78)).alloc (.cells #[.int .u64 z.r0, .int .u64 z.r1, .int .u64 z.s0, .int .u64 z.s1, .int .u64 z.c0, .int .u64 z.c1, .int .u64 z.z0, .int .u64 z.z1] 27)) (w.heap.size + 1) [.int .u64 a, .int .u64 b] from (Cl.at (w.alloc (.cells #[.int .u64 P, .int .u64 Q, .int .u64 G] 49)) [.int .u64 a, .int .u64 b] _ (w.heap.size + 1) (by simp)).alloc _)
  have F_z := Lh (show Cl (((w.alloc (.cells #[.int .u64 P, .int .u64 Q, .int .u64 G] 49)).alloc (.cells #[.int .u64 a, .int .u64 b] 78)).alloc (.cells #[.int .u64 z.r0, .int .u64 z.r1, .int .u64 z.s0, .int .u64 z.s1, .int .u64 z.c0, .int .u64 z.c1, .int .u64 z.z0, .int .u64 z.z1] 27)) (w.heap.size + 1 + 1) [.int .u64 z.r0, .int .u64 z.r1, .int .u64 z.s0, .int .u64 z.s1, .int .u64 z.c0, .int .u64 z.c1, .int .u64 z.z0, .int .u64 z.z1] from Cl.at ((w.alloc (.cells #[.int .u64 P, .int .u64 Q, .int .u64 G] 49)).alloc (.cells #[.int .u64 a, .int .u64 b] 78)) [.int .u64 z.r0, .int .u64 z.r1, .int .u64 z.s0, .int .u64 z.s1, .int .u64 z.c0, .int .u64 z.c1, .int .u64 z.z0, .int .u64 z.z1] _ (w.heap.size + 1 + 1) (by simp))
  have HBW := Lh (show Below w.heap.size w (((w.alloc (.cells #[.int .u64 P, .int .u64 Q, .int .u64 G] 49)).alloc (.cells #[.int .u64 a, .int .u64 b] 78)).alloc (.cells #[.int .u64 z.r0, .int .u64 z.r1, .int .u64 z.s0, .int .u64 z.s1, .int .u64 z.c0, .int .u64 z.c1, .int .u64 z.z0, .int .u64 z.z1] 27)) from (((Below.refl _ _).alloc (Nat.le_refl _) _).alloc (by simp) _).alloc (by simp <;> omega) _)
  have HX := Lh (show Txt ((((w.alloc (.cells #[.int .u64 P, .int .u64 Q, .int .u64 G] 49)).alloc (.cells #[.int .u64 a, .int .u64 b] 78)).alloc (.cells #[.int .u64 z.r0, .int .u64 z.r1, .int .u64 z.s0, .int .u64 z.s1, .int .u64 z.c0, .int .u64 z.c1, .int .u64 z.z0, .int .u64 z.z1] 27)).alloc (.cells #[.int .u8 x] 5)) (some ⟨w.heap.size + 1 + 1 + 1, 0, none⟩) 1 [x] from
    ⟨(HT.o.below HBW.o).below ((Below.refl _ _).alloc (Nat.le_refl _) _), ShI.lit1 .u8 _ x _ _ (by simp), fun u hu => by simp at hu; subst hu; exact ⟨hx0, hx1⟩⟩)
  obtain ⟨v', e', hR⟩ := RetB.exists (lgS (askS P Q G [z.c0, z.c1, z.z0, z.z1] [y, a, b, z.r0, z.r1, z.s0, z.s1]) 1) (bvP P Q G y a b z.r0 z.r1 z.s0 z.s1 z.c0 z.c1 z.z0 z.z1 [x])
  have HR := Lh hR
  clear hT hz hv hR
  have g0 := F_g.o.c 0 _ rfl
  have g1 := F_g.o.c 1 _ rfl
  have g2 := F_g.o.c 2 _ rfl
  have s0 := F_s.o.c 0 _ rfl
  have s1 := F_s.o.c 1 _ rfl
  have z0 := F_z.o.c 0 _ rfl
  have z1 := F_z.o.c 1 _ rfl
  have z2 := F_z.o.c 2 _ rfl
  have z3 := F_z.o.c 3 _ rfl
  have z4 := F_z.o.c 4 _ rfl
  have z5 := F_z.o.c 5 _ rfl
  have z6 := F_z.o.c 6 _ rfl
  have z7 := F_z.o.c 7 _ rfl
  go_enter Tryd.func88, Tryd.ntmps88
  go_wp2_with fail
  clear g0 g1 g2 s0 s1 z0 z1 z2 z3 z4 z5 z6 z7
  refine (pbitVerify_any _ HX.o hP hQ hG hy ha hb n0 n1 n2 n3 n4 n5 n6 n7 (by decide) HR.o).mono ?_
  rintro e w5 ⟨rfl, hb5⟩
  have HB5 := Lh ((HBW.o.alloc HBW.o.size (.cells #[.int .u8 x] 5)).trans (hb5.mono (by simp; omega)))
  clear hb5
  rcases HR.o with ⟨h1, h2, rfl⟩ | ⟨h1, rfl, rfl⟩
  · have HE := Lh (show v' = v by
      have h3 : provB P Q G y a b z x ↔ v' = true := ⟨fun h => h2.2 h.2, fun h => ⟨(lgS_zero h1).1, h2.1 h⟩⟩
      have h4 := HV.o.trans h3
      cases v <;> cases v' <;> simp_all)
    clear h1 h2
    go_wp2_with fail
    go_ret
    exact ⟨by rw [HE.o]; rfl, HB5.o⟩
  · have HE := Lh (show v = false by
      cases v with
      | false => rfl
      | true => exact absurd (show lgS (askS P Q G [z.c0, z.c1, z.z0, z.z1] [y, a, b, z.r0, z.r1, z.s0, z.s1]) 1 = 0 by unfold lgS; rw [if_pos (HV.o.1 rfl).1]; rfl) h1)
    go_wp2_with fail
    go_ret
    exact ⟨by rw [HE.o]; rfl, HB5.o⟩
open Go Go.RowKit Num Sha
theorem fields_bit : (Tryd.prog.fieldsOf 27).toList.map (fun f => (f.name, f.type, f.offset)) = [("R", 25, 0), ("S", 25, 2), ("C", 25, 4), ("Z", 25, 6)] := by kernel_rfl
set_option maxHeartbeats 4000000 in
theorem eq_bit2 (z x : Bt) (b : Bool) (hb : b = true ↔ z = x) (w : World) : (Op.equalIn 10000 27 (.agg #[.int .u64 z.r0, .int .u64 z.r1, .int .u64 z.s0, .int .u64 z.s1, .int .u64 z.c0, .int .u64 z.c1, .int .u64 z.z0, .int .u64 z.z1]) (.agg #[.int .u64 x.r0, .int .u64 x.r1, .int .u64 x.s0, .int .u64 x.s1, .int .u64 x.c0, .int .u64 x.c1, .int .u64 x.z0, .int .u64 x.z1])).run Tryd.prog w = .ok b w := by
 have hu : Tryd.prog.underlying 27 = some (.struct (Tryd.prog.fieldsOf 27)) := by kernel_rfl
 rw [show (10000 : Nat) = 9999 + 1 from rfl, run_equalIn_struct w 9999 27 _ _ hu (by kernel_rfl)]
 have hf := fields_bit
 have ua := Tryd.isAgg25
 have za := Tryd.sizeOf25
 have hq : ∀ a b c d : Int, (Op.equalIn 9999 25 (.agg #[.int .u64 a, .int .u64 b]) (.agg #[.int .u64 c, .int .u64 d])).run Tryd.prog w = .ok (a == c && b == d) w := fun a b c d => eq_p64d 9997 a b c d w
 generalize (Tryd.prog.fieldsOf 27).toList = FF at hf ⊢
 have hl : FF.length = 4 := by have := congrArg List.length hf; simpa using this
 obtain ⟨f0, f1, f2, f3, rfl⟩ : ∃ f0 f1 f2 f3, FF = [f0, f1, f2, f3] := by
  match FF, hl with
  | [a, b, c, d], _ => exact ⟨a, b, c, d, rfl⟩
 simp only [List.map_cons, List.map_nil, List.cons.injEq, Prod.mk.injEq, and_true] at hf
 obtain ⟨⟨e0, e1, e2⟩, ⟨e3, e4, e5⟩, ⟨e6, e7, e8⟩, e9, e10, e11⟩ := hf
 have p0 : ∀ s : Bt, (part 25 #[.int .u64 s.r0, .int .u64 s.r1, .int .u64 s.s0, .int .u64 s.s1, .int .u64 s.c0, .int .u64 s.c1, .int .u64 s.z0, .int .u64 s.z1] 0).run Tryd.prog w = .ok (.agg #[.int .u64 s.r0, .int .u64 s.r1]) w := fun s => by go_simp
 have p2 : ∀ s : Bt, (part 25 #[.int .u64 s.r0, .int .u64 s.r1, .int .u64 s.s0, .int .u64 s.s1, .int .u64 s.c0, .int .u64 s.c1, .int .u64 s.z0, .int .u64 s.z1] 2).run Tryd.prog w = .ok (.agg #[.int .u64 s.s0, .int .u64 s.s1]) w := fun s => by go_simp
 have p4 : ∀ s : Bt, (part 25 #[.int .u64 s.r0, .int .u64 s.r1, .int .u64 s.s0, .int .u64 s.s1, .int .u64 s.c0, .int .u64 s.c1, .int .u64 s.z0, .int .u64 s.z1] 4).run Tryd.prog w = .ok (.agg #[.int .u64 s.c0, .int .u64 s.c1]) w := fun s => by go_simp
 have p6 : ∀ s : Bt, (part 25 #[.int .u64 s.r0, .int .u64 s.r1, .int .u64 s.s0, .int .u64 s.s1, .int .u64 s.c0, .int .u64 s.c1, .int .u64 s.z0, .int .u64 s.z1] 6).run Tryd.prog w = .ok (.agg #[.int .u64 s.z0, .int .u64 s.z1]) w := fun s => by go_simp
 have hb' : b = (((z.r0 == x.r0 && z.r1 == x.r1) && (z.s0 == x.s0 && z.s1 == x.s1)) && ((z.c0 == x.c0 && z.c1 == x.c1) && (z.z0 == x.z0 && z.z1 == x.z1))) := by
  rw [Bool.eq_iff_iff, hb]
  obtain ⟨z0, z1, z2, z3, z4, z5, z6, z7⟩ := z
  obtain ⟨x0, x1, x2, x3, x4, x5, x6, x7⟩ := x
  simp only [Bt.mk.injEq, Bool.and_eq_true, beq_iff_eq]
  constructor
  · rintro ⟨h0, h1, h2, h3, h4, h5, h6, h7⟩; exact ⟨⟨⟨h0, h1⟩, h2, h3⟩, ⟨h4, h5⟩, h6, h7⟩
  · rintro ⟨⟨⟨h0, h1⟩, h2, h3⟩, ⟨h4, h5⟩, h6, h7⟩; exact ⟨h0, h1, h2, h3, h4, h5, h6, h7⟩
 subst hb'
 simp only [Op.eqFields, e0, e1, e2, e3, e4, e5, e6, e7, e8, e9, e10, e11]
 rw [if_pos (by decide), if_pos (by decide), if_pos (by decide), if_pos (by decide)]
 simp only [Sem.run_bind, Sem.run_ite, Sem.run_pure, p0, p2, p4, p6, hq, Result.andThen_ok]
 generalize (z.r0 == x.r0 && z.r1 == x.r1) = b0
 generalize (z.s0 == x.s0 && z.s1 == x.s1) = b1
 generalize (z.c0 == x.c0 && z.c1 == x.c1) = b2
 generalize (z.z0 == x.z0 && z.z1 == x.z1) = b3
 cases b0 <;> cases b1 <;> cases b2 <;> cases b3 <;> simp
def validP (P Q G y : Int) (n : Nat) (V : Vt) : Prop := V.n = n ∧ V.m = n ∧ (∀ i, i < n → provB P Q G y (V.bs.getD i (0, 0)).1 (V.bs.getD i (0, 0)).2 (V.ps.getD i Bt.zero) (i : Int)) ∧
  ((V.one = true ∧ okS P V.bs = true ∧ provB P Q G y (allP P V.bs).1 (allP P V.bs).2 V.z 255) ∨ (V.one = false ∧ V.z = Bt.zero))
theorem boolP {v : Bool} {p : Prop} (hv : v = true ↔ p) (h : ¬ p) : v = false := by
 cases v with
 | false => rfl
 | true => exact absurd (hv.1 rfl) h
theorem Prop.bool (p : Prop) : ∃ v : Bool, v = true ↔ p := by
 by_cases h : p
 · exact ⟨true, by simp [h]⟩
 · exact ⟨false, by simp [h]⟩
theorem emod_nn {a P : Int} (ha : 0 ≤ a) (hP : 0 ≤ P) : 0 ≤ a % P := by
 by_cases h : P = 0
 · subst h; simpa using ha
 · exact Int.emod_nonneg _ h
theorem allP_nn {P : Int} (hP : 0 ≤ P) (ps : List (Int × Int)) (h : ∀ p, p ∈ ps → 0 ≤ p.1 ∧ 0 ≤ p.2) : 0 ≤ (allP P ps).1 ∧ 0 ≤ (allP P ps).2 := by
 suffices hs : ∀ (l : List (Int × Int)) (x : Int × Int), 0 ≤ x.1 → 0 ≤ x.2 → (∀ p, p ∈ l → 0 ≤ p.1 ∧ 0 ≤ p.2) → 0 ≤ (l.foldl (plusP P) x).1 ∧ 0 ≤ (l.foldl (plusP P) x).2 from hs ps (1, 1) (by decide) (by decide) h
 intro l
 induction l with
 | nil => intro x h1 h2 _; exact ⟨h1, h2⟩
 | cons p l ih =>
  intro x h1 h2 h3
  rw [List.foldl_cons]
  have h4 := h3 p (by simp)
  have e1 : 0 ≤ x.1 * p.1 := Int.mul_nonneg h1 h4.1
  have e2 : 0 ≤ x.2 * p.2 := Int.mul_nonneg h2 h4.2
  exact ih _ (by unfold plusP; exact emod_nn e1 hP) (by unfold plusP; exact emod_nn e2 hP) (fun q hq => h3 q (by simp [hq]))
set_option maxHeartbeats 8000000 in
theorem valid_aux {P Q G y : Int} {a b : Option Addr} {n c d : Nat} {bs : List (Int × Int)} {ps : List Bt} {one : Bool} {z : Bt} {v : Bool} (w : World) (hT : Tabs w) (hH : Has P Q G) (hy : 0 ≤ y) (hn : n ≤ 10) (hn1 : 1 ≤ n)
    (h1 : ShS w a n bs) (u1 : ∀ q, q ∈ bs → U64 q.1 ∧ U64 q.2) (h2 : ShB w b n ps) (u2 : ∀ q, q ∈ ps → q.u) (uz : z.u)
    (hv : v = true ↔ (∀ i, i < n → provB P Q G y (bs.getD i (0, 0)).1 (bs.getD i (0, 0)).2 (ps.getD i Bt.zero) (i : Int)) ∧ ((one = true ∧ okS P bs = true ∧ provB P Q G y (allP P bs).1 (allP P bs).2 z 255) ∨ (one = false ∧ z = Bt.zero))) :
    Calls Tryd.prog 57 #[.agg #[.int .u64 P, .int .u64 Q, .int .u64 G], .int .u64 y, .int .i64 (n : Int), .agg #[.slice a n c, .slice b n d, .bool one, .int .u64 z.r0, .int .u64 z.r1, .int .u64 z.s0, .int .u64 z.s1, .int .u64 z.c0, .int .u64 z.c1, .int .u64 z.z0, .int .u64 z.z1]] w fun e w' => e = .returned (.bool v) ∧ Below w.heap.size w w' := by
  have hP : 0 ≤ P := by obtain ⟨p5, p3, hQ, pq, g2, gP⟩ := id hH; omega
  have hG : 0 ≤ G := by obtain ⟨p5, p3, hQ, pq, g2, gP⟩ := id hH; omega
  have hQ : 0 ≤ Q := by obtain ⟨p5, p3, hQ, pq, g2, gP⟩ := id hH; omega
  obtain ⟨s, o, hsa, -⟩ := h1.at 0 (by omega)
  obtain ⟨s', o', -, hsb, -⟩ := h2.at 0 (by omega)
  subst hsa hsb
  have HH := Lh hH
  have HT := Lh hT
  have H1 := Lh h1
  have H2 := Lh h2
  have U1 := Lh u1
  have U2 := Lh u2
  have UZ := Lh uz
  have HV := Lh hv
  have F_g := Lh (show Cl ((w.alloc (.cells #[.int .u64 P, .int .u64 Q, .int .u64 G] 49)).alloc (.cells #[.slice (some ⟨s, o, none⟩) n c, .slice (some ⟨s', o', none⟩) n d, .bool one, .int .u64 z.r0, .int .u64 z.r1, .int .u64 z.s0, .int .u64 z.s1, .int .u64 z.c0, .int .u64 z.c1, .int .u64 z.z0, .int .u64 z.z1] 29)) w.heap.size [.int .u64 P, .int .u64 Q, .int .u64 G] from (Cl.at w [.int .u64 P, .int .u64 Q, .int .u64 G] _ w.heap.size rfl).alloc _)
  have F_v := Lh (show Cl ((w.alloc (.cells #[.int .u64 P, .int .u64 Q, .int .u64 G] 49)).alloc (.cells #[.slice (some ⟨s, o, none⟩) n c, .slice (some ⟨s', o', none⟩) n d, .bool one, .int .u64 z.r0, .int .u64 z.r1, .int .u64 z.s0, .int .u64 z.s1, .int .u64 z.c0, .int .u64 z.c1, .int .u64 z.z0, .int .u64 z.z1] 29)) (w.heap.size + 1) [.slice (some ⟨s, o, none⟩) n c, .slice (some ⟨s', o', none⟩) n d, .bool one, .int .u64 z.r0, .int .u64 z.r1, .int .u64 z.s0, .int .u64 z.s1, .int .u64 z.c0, .int .u64 z.c1, .int .u64 z.z0, .int .u64 z.z1] from Cl.at (w.alloc (.cells #[.int .u64 P, .int .u64 Q, .int .u64 G] 49)) [.slice (some ⟨s, o, none⟩) n c, .slice (some ⟨s', o', none⟩) n d, .bool one, .int .u64 z.r0, .int .u64 z.r1, .int .u64 z.s0, .int .u64 z.s1, .int .u64 z.c0, .int .u64 z.c1, .int .u64 z.z0, .int .u64 z.z1] _ (w.heap.size + 1) (by simp))
  have HBW := Lh (show Below w.heap.size w ((w.alloc (.cells #[.int .u64 P, .int .u64 Q, .int .u64 G] 49)).alloc (.cells #[.slice (some ⟨s, o, none⟩) n c, .slice (some ⟨s', o', none⟩) n d, .bool one, .int .u64 z.r0, .int .u64 z.r1, .int .u64 z.s0, .int .u64 z.s1, .int .u64 z.c0, .int .u64 z.c1, .int .u64 z.z0, .int .u64 z.z1] 29)) from ((Below.refl _ _).alloc (Nat.le_refl _) _).alloc (by simp) _)
  clear hT h1 h2 u1 u2 uz hv hH
  go_enter Tryd.func57, Tryd.ntmps57
  obtain ⟨⟨q0, q1, q2, q3, q4, q5, q6, q7, q8, q9, q10⟩, -⟩ := F_v.o.k11
  go_wp2_with fail
  clear q0 q1 q2 q3 q4 q5 q6 q7 q8 q9 q10
  go_loopw [28] (fun c28 wr => ∃ i : Nat, i ≤ n ∧ c28 = .int .i64 i ∧ Hid (∀ j, j < i → provB P Q G y (bs.getD j (0, 0)).1 (bs.getD j (0, 0)).2 (ps.getD j Bt.zero) (j : Int)) ∧ Hid (Cl wr w.heap.size [.int .u64 P, .int .u64 Q, .int .u64 G]) ∧ Hid (Cl wr (w.heap.size + 1) [.slice (some ⟨s, o, none⟩) n c, .slice (some ⟨s', o', none⟩) n d, .bool one, .int .u64 z.r0, .int .u64 z.r1, .int .u64 z.s0, .int .u64 z.s1, .int .u64 z.c0, .int .u64 z.c1, .int .u64 z.z0, .int .u64 z.z1]) ∧ Hid (Below w.heap.size w wr)) (fun c28 _ => n - (intOf c28).toNat)
  case atStart => exact ⟨0, by omega, rfl, Lh (fun j hj => by omega), F_g.o, F_v.o, HBW.o⟩
  case round =>
   clear F_g F_v HBW
   obtain ⟨i, hi, rfl, HPR, F_g, F_v, HBW⟩ := hrel
   by_cases hlt : i < n
   case pos =>
    have hd : decide ((i : Int) < (n : Int)) = true := decide_eq_true (by omega)
    have hi0 : (0 : Int) ≤ (i : Int) := by omega
    have hi2 : (i : Int) < (n : Int) := by omega
    have hwi : IntKind.i64.wrap ((i : Int) + 1) = (i : Int) + 1 := IntWalk.i64_in _ (by omega)
    have hw8 : IntKind.u8.wrap (i : Int) = (i : Int) := by simp [IntKind.wrap, IntKind.bits, IntKind.signed]; omega
    have cS : Tryd.prog.cellsOf 78 = 2 := by kernel_rfl
    have cB : Tryd.prog.cellsOf 27 = 8 := by kernel_rfl
    obtain ⟨s1, o1, hsa, hsl, e0, e1⟩ := (H1.o.keep HBW.o).at i hlt
    injection hsa with hsa; injection hsa with ea eb _; subst ea eb
    obtain ⟨x, x2, hxy⟩ : ∃ x y, bs.getD i (0, 0) = (x, y) := ⟨_, _, rfl⟩
    rw [hxy] at e0 e1
    simp only at e0 e1
    have hxm : (x, x2) ∈ bs := by
     have hl : i < bs.length := by rw [← H1.o.len]; exact hlt
     rw [← hxy, List.getD_eq_getElem?_getD, List.getElem?_eq_getElem hl]; exact List.getElem_mem hl
    have x0 := (U1.o _ hxm).1.1
    have y0 := (U1.o _ hxm).2.1
    have HBW6 := Lh (HBW.o.alloc HBW.o.size (.cells #[.int .u64 x, .int .u64 x2] 78))
    obtain ⟨s2, o2, zi, hsb, hz_, hbc⟩ := (H2.o.keep HBW6.o).at i hlt
    injection hsb with hsb; injection hsb with ea eb _; subst ea eb
    have HZI := Lh (show zi.u from U2.o zi (List.mem_of_getElem? hz_))
    obtain ⟨-, b0, b1, b2, b3, b4, b5, b6, b7⟩ := hbc
    have HPI := Lh (show provB P Q G y (bs.getD i (0, 0)).1 (bs.getD i (0, 0)).2 (ps.getD i Bt.zero) (i : Int) ↔ provB P Q G y x x2 zi (i : Int) by rw [hxy, List.getD_eq_getElem?_getD, hz_]; rfl)
    clear hxy hxm hsl hz_
    have F_s := Lh (Cl.at wr [.int .u64 x, .int .u64 x2] 78 wr.heap.size rfl)
    have F_g6 := Lh (F_g.o.alloc (.cells #[.int .u64 x, .int .u64 x2] 78))
    have F_v6 := Lh (F_v.o.alloc (.cells #[.int .u64 x, .int .u64 x2] 78))
    obtain ⟨v', hv'⟩ := Prop.bool (provB P Q G y x x2 zi (i : Int))
    have HV' := Lh hv'
    clear hv'
    go_wp2_with fail
    have g0 := F_g6.o.c 0 _ rfl
    have g1 := F_g6.o.c 1 _ rfl
    have g2' := F_g6.o.c 2 _ rfl
    have s0 := F_s.o.c 0 _ rfl
    have s1 := F_s.o.c 1 _ rfl
    have v1 := F_v6.o.c 1 _ rfl
    go_cut [28, 44] from 28 to 45 (fun c28 c44 wx => c28 = .int .i64 i ∧ c44 = .bool (!v') ∧ Hid (Cl wx w.heap.size [.int .u64 P, .int .u64 Q, .int .u64 G]) ∧ Hid (Cl wx (w.heap.size + 1) [.slice (some ⟨s, o, none⟩) n c, .slice (some ⟨s', o', none⟩) n d, .bool one, .int .u64 z.r0, .int .u64 z.r1, .int .u64 z.s0, .int .u64 z.s1, .int .u64 z.c0, .int .u64 z.c1, .int .u64 z.z0, .int .u64 z.z1]) ∧ Hid (Below w.heap.size w wx))
    case first =>
     go_region_law (first
       | (go_simp
          go_at_call 88
          refine (proved_any (v := v') _ ((HT.o.below HBW6.o).below (Below.refl _ _).drew) hP hQ hG hy x0 y0 HZI.o hi0 (by omega) HV'.o).mono ?_
          rintro e w5 ⟨rfl, hb5⟩
          have HB5 := Lh ((Below.refl _ _).drew.trans hb5)
          clear hb5))
     all_goals (go_wp2_with fail; go_meet)
     all_goals exact ⟨rfl, by simp, F_g6.o.keep HB5.o, F_v6.o.keep HB5.o, HBW6.o.trans (HB5.o.mono HBW6.o.size)⟩
    case rest =>
     clear F_g F_v HBW F_g6 F_v6 F_s HBW6 g0 g1 g2' s0 s1 v1 b0 b1 b2 b3 b4 b5 b6 b7 e0 e1
     obtain ⟨rfl, rfl, F_g, F_v, HBW⟩ := hcut
     cases v' with
     | true =>
      simp only [Bool.not_true]
      go_wp2_with fail
      go_roundw
      case rel => exact ⟨i + 1, by omega, by go_num, Lh (fun j hj => by
       by_cases hj' : j < i
       · exact HPR.o j hj'
       · obtain rfl : j = i := by omega
         exact HPI.o.2 (HV'.o.1 rfl)), F_g.o, F_v.o, HBW.o⟩
      case measure => simp [intOf] <;> omega
     | false =>
      have HVF := Lh (show v = false from boolP HV.o (fun h => by have := HV'.o.2 (HPI.o.1 (h.1 i hlt)); cases this))
      simp only [Bool.not_false]
      go_wp2_with fail
      go_ret
      exact ⟨by rw [HVF.o]; rfl, HBW.o⟩
   case neg =>
    obtain rfl : i = n := by omega
    have hd : decide ((i : Int) < (i : Int)) = false := decide_eq_false (by omega)
    obtain ⟨⟨q0, q1, q2, q3, q4, q5, q6, q7, q8, q9, q10⟩, -⟩ := F_v.o.k11
    cases one with
    | false =>
     obtain ⟨e, he⟩ := Prop.bool (z = Bt.zero)
     have HE := Lh (show v = e by
      have h1 : v = true ↔ z = Bt.zero := HV.o.trans ⟨fun h => by rcases h.2 with ⟨h2, -⟩ | ⟨-, h2⟩; cases h2; exact h2, fun h => ⟨HPR.o, .inr ⟨rfl, h⟩⟩⟩
      rw [Bool.eq_iff_iff, h1, he])
     have heq := eq_bit2 z Bt.zero e he
     simp only [Bt.zero] at heq
     clear he
     go_wp2_with fail
     go_ret
     exact ⟨by rw [HE.o]; rfl, HBW.o⟩
    | true =>
     obtain ⟨sx, sy, se, hS⟩ := SumS.exists P Q G bs
     have HS := Lh hS
     clear hS
     have HNN := Lh (show ∀ p, p ∈ bs → 0 ≤ p.1 ∧ 0 ≤ p.2 from fun p hp => ⟨(U1.o p hp).1.1, (U1.o p hp).2.1⟩)
     have g0 := F_g.o.c 0 _ rfl
     have g1 := F_g.o.c 1 _ rfl
     have g2' := F_g.o.c 2 _ rfl
     have HEB := Lh (show v = true ↔ okS P bs = true ∧ provB P Q G y (allP P bs).1 (allP P bs).2 z 255 from
       HV.o.trans ⟨fun h => (h.2.resolve_right (fun h3 => by cases h3.1)).2, fun h => ⟨HPR.o, .inl ⟨rfl, h⟩⟩⟩)
     go_wp2_with fail
     clear g0 g1 g2' q0 q1 q2 q3 q4 q5 q6 q7 q8 q9 q10
     refine (esum_any _ hP hQ hG (H1.o.keep HBW.o) HNN.o HS.o).mono ?_
     rintro e w6 ⟨rfl, hb6⟩
     have F_g6 := Lh ((F_g.o.keep hb6).alloc (.cells #[.int .u64 sx, .int .u64 sy] 78))
     have F_v6 := Lh ((F_v.o.keep hb6).alloc (.cells #[.int .u64 sx, .int .u64 sy] 78))
     have HB6' := HBW.o.trans (hb6.mono HBW.o.size)
     have HB6 := Lh (HB6'.alloc HB6'.size (.cells #[.int .u64 sx, .int .u64 sy] 78))
     have F_s := Lh (Cl.at w6 [.int .u64 sx, .int .u64 sy] 78 w6.heap.size rfl)
     clear hb6 HB6'
     have g0 := F_g6.o.c 0 _ rfl
     have g1 := F_g6.o.c 1 _ rfl
     have g2' := F_g6.o.c 2 _ rfl
     have s0 := F_s.o.c 0 _ rfl
     have s1 := F_s.o.c 1 _ rfl
     obtain ⟨⟨q0, q1, q2, q3, q4, q5, q6, q7, q8, q9, q10⟩, -⟩ := F_v6.o.k11
     have hlen : bs.length ≤ 4096 := by rw [← H1.o.len]; omega
     rcases HS.o with ⟨h, -⟩ | ⟨-, h, -⟩ | ⟨-, -, h, rfl, rfl, rfl⟩ | ⟨-, -, h, h2, rfl⟩
     · exact absurd HH.o h
     · omega
     · have HVF := Lh (show v = false from boolP HEB.o (fun hh => by rw [h] at hh; cases hh.1))
       clear hlen h
       go_wp2_with fail
       go_ret
       exact ⟨by rw [HVF.o]; rfl, HB6.o⟩
     · have hnn := allP_nn hP bs HNN.o
       rw [h2] at hnn
       have sx0 : 0 ≤ sx := hnn.1
       have sy0 : 0 ≤ sy := hnn.2
       have HE := Lh (show v = true ↔ provB P Q G y sx sy z 255 by rw [HEB.o, h2]; exact ⟨fun hh => hh.2, fun hh => ⟨h, hh⟩⟩)
       clear hlen h h2 hnn
       go_wp2_with fail
       refine (proved_any (v := v) _ (HT.o.below HB6.o) hP hQ hG hy sx0 sy0 UZ.o (by decide) (by decide) HE.o).mono ?_
       rintro e w7 ⟨rfl, hb7⟩
       have HB7 := Lh (HB6.o.trans (hb7.mono HB6.o.size))
       clear hb7 g0 g1 g2' s0 s1 q0 q1 q2 q3 q4 q5 q6 q7 q8 q9 q10
       go_wp2_with fail
       go_ret
       exact ⟨rfl, HB7.o⟩
open Go Go.RowKit Num Sha
set_option maxHeartbeats 8000000 in
theorem valid_any {P Q G y : Int} {n : Nat} {V : Vt} {v : Bool} (w : World) (hT : Tabs w) (hH : Has P Q G) (hy : 0 ≤ y) (hn : n ≤ 10) (hn1 : 1 ≤ n) (hV : VtIn w V) (hv : v = true ↔ validP P Q G y n V) :
    Calls Tryd.prog 57 #[.agg #[.int .u64 P, .int .u64 Q, .int .u64 G], .int .u64 y, .int .i64 (n : Int), V.v] w fun e w' => e = .returned (.bool v) ∧ Below w.heap.size w w' := by
  by_cases h1 : V.n = n
  case neg =>
   have HVF := Lh (show v = false from boolP hv (fun h => h1 h.1))
   have hne : ¬ ((V.n : Int) = (n : Int)) := by omega
   have F_v := Lh (VBox.at (w.alloc (.cells #[.int .u64 P, .int .u64 Q, .int .u64 G] 49)) V 29 (w.heap.size + 1) (by simp))
   have HBW := Lh (show Below w.heap.size w ((w.alloc (.cells #[.int .u64 P, .int .u64 Q, .int .u64 G] 49)).alloc (.cells V.ca 29)) from ((Below.refl _ _).alloc (Nat.le_refl _) _).alloc (by simp) _)
   clear hT hH hV hv h1
   obtain ⟨-, v0, v1, -⟩ := id F_v.o
   unfold Vt.v
   go_enter Tryd.func57, Tryd.ntmps57
   go_wp2_with fail
   go_ret
   exact ⟨by rw [HVF.o]; rfl, HBW.o⟩
  case pos =>
  by_cases h2 : V.m = n
  case neg =>
   have HVF := Lh (show v = false from boolP hv (fun h => h2 h.2.1))
   have hne : ¬ ((V.m : Int) = (n : Int)) := by omega
   have F_v := Lh (VBox.at (w.alloc (.cells #[.int .u64 P, .int .u64 Q, .int .u64 G] 49)) V 29 (w.heap.size + 1) (by simp))
   have HBW := Lh (show Below w.heap.size w ((w.alloc (.cells #[.int .u64 P, .int .u64 Q, .int .u64 G] 49)).alloc (.cells V.ca 29)) from ((Below.refl _ _).alloc (Nat.le_refl _) _).alloc (by simp) _)
   subst h1
   clear hT hH hV hv h2
   obtain ⟨-, v0, v1, -⟩ := id F_v.o
   unfold Vt.v
   go_enter Tryd.func57, Tryd.ntmps57
   go_wp2_with fail
   go_ret
   exact ⟨by rw [HVF.o]; rfl, HBW.o⟩
  case pos =>
  obtain ⟨g1, g2, g3, g4, g5, g6, g7⟩ := hV
  obtain ⟨a, k, c, bs, b, m, d, ps, one, z⟩ := V
  simp only at *
  subst h1 h2
  exact valid_aux w hT hH hy hn hn1 g1 g2 g4 g5 g7 (hv.trans ⟨fun h => ⟨h.2.2.1, h.2.2.2⟩, fun h => ⟨rfl, rfl, h.1, h.2⟩⟩)
def checkP (P Q G y n : Int) (V : Vt) (e : Int) : Prop := (chkB P Q G y n ≠ 0 ∧ e = chkB P Q G y n) ∨ (chkB P Q G y n = 0 ∧ ((validP P Q G y n.toNat V ∧ e = 0) ∨ (¬ validP P Q G y n.toNat V ∧ e = 360)))
theorem checkP.exists (P Q G y n : Int) (V : Vt) : ∃ e, checkP P Q G y n V e := by
 by_cases h : chkB P Q G y n = 0
 · by_cases hp : validP P Q G y n.toNat V
   · exact ⟨0, .inr ⟨h, .inl ⟨hp, rfl⟩⟩⟩
   · exact ⟨360, .inr ⟨h, .inr ⟨hp, rfl⟩⟩⟩
 · exact ⟨_, .inl ⟨h, rfl⟩⟩
set_option maxHeartbeats 8000000 in
theorem check_any {P Q G y n e' : Int} {V : Vt} (w : World) (hT : Tabs w) (hP : 0 ≤ P) (hQ : 0 ≤ Q) (hG : 0 ≤ G) (hy : 0 ≤ y) (hV : VtIn w V) (hc : checkP P Q G y n V e') :
    Calls Tryd.prog 27 #[.agg #[.int .u64 P, .int .u64 Q, .int .u64 G], .int .u64 y, .int .i64 n, V.v] w fun e w' => e = .returned (.int .i64 e') ∧ Below w.heap.size w w' := by
  have HT := Lh hT
  have HV := Lh hV
  have HC := Lh hc
  have F_g := Lh (show Cl ((w.alloc (.cells #[.int .u64 P, .int .u64 Q, .int .u64 G] 49)).alloc (.cells V.ca 29)) w.heap.size [.int .u64 P, .int .u64 Q, .int .u64 G] from (Cl.at w [.int .u64 P, .int .u64 Q, .int .u64 G] _ w.heap.size rfl).alloc _)
  have F_v := Lh (VBox.at (w.alloc (.cells #[.int .u64 P, .int .u64 Q, .int .u64 G] 49)) V 29 (w.heap.size + 1) (by simp))
  have HBW := Lh (show Below w.heap.size w ((w.alloc (.cells #[.int .u64 P, .int .u64 Q, .int .u64 G] 49)).alloc (.cells V.ca 29)) from ((Below.refl _ _).alloc (Nat.le_refl _) _).alloc (by simp) _)
  have g0 := F_g.o.c 0 _ rfl
  have g1 := F_g.o.c 1 _ rfl
  have g2 := F_g.o.c 2 _ rfl
  clear hT hV hc
  unfold Vt.v
  go_enter Tryd.func27, Tryd.ntmps27
  go_wp2_with fail
  clear g0 g1 g2
  refine (bcheck_any _ hP hQ hG hy).mono ?_
  rintro e w1 ⟨rfl, hb1⟩
  replace F_g := Lh (F_g.o.keep hb1)
  replace F_v := Lh (F_v.o.keep hb1)
  replace HBW := Lh (HBW.o.trans (hb1.mono HBW.o.size))
  clear hb1
  obtain ⟨k, hk⟩ : ∃ k, chkB P Q G y n = k := ⟨_, rfl⟩
  have HK := Lh hk
  have hC := HC.o
  unfold checkP at hC
  rw [hk] at hC ⊢
  clear hk HC
  rcases hC with ⟨h1, rfl⟩ | ⟨rfl, h1⟩
  · go_wp2_with fail
    go_ret
    exact ⟨rfl, HBW.o⟩
  · obtain ⟨hH, -, hn1, hn2⟩ := chkB_ok HK.o
    have HH := Lh hH
    clear hH
    obtain ⟨j, rfl⟩ : ∃ j : Nat, n = (j : Int) := ⟨n.toNat, by omega⟩
    simp only [Int.toNat_natCast] at h1
    have g0 := F_g.o.c 0 _ rfl
    have g1 := F_g.o.c 1 _ rfl
    have g2 := F_g.o.c 2 _ rfl
    obtain ⟨-, v0, v1, v2, v3, v4, v5, v6, v7, v8, v9, v10, vf⟩ := id F_v.o
    go_wp2_with fail
    clear g0 g1 g2 v0 v1 v2 v3 v4 v5 v6 v7 v8 v9 v10 vf
    obtain ⟨b, hb⟩ := Prop.bool (validP P Q G y j V)
    refine (valid_any (V := V) _ (HT.o.below HBW.o) HH.o hy (by omega) (by omega) (HV.o.keep HBW.o) hb).mono ?_
    rintro e w2 ⟨rfl, hb2⟩
    replace HBW := Lh (HBW.o.trans (hb2.mono HBW.o.size))
    clear hb2
    rcases h1 with ⟨h1, rfl⟩ | ⟨h1, rfl⟩
    · obtain rfl : b = true := hb.2 h1
      clear hb
      go_wp2_with fail
      go_ret
      exact ⟨rfl, HBW.o⟩
    · obtain rfl : b = false := boolP hb h1
      clear hb
      go_wp2_with fail
      go_ret
      exact ⟨rfl, HBW.o⟩
open Go Go.RowKit Num Sha
structure Rv where
  a : Option Addr
  n : Nat
  c : Nat
  ms : List Int
  b : Option Addr
  m : Nat
  d : Nat
  ns : List Int
def Rv.v (R : Rv) : Value := .agg #[.slice R.a R.n R.c, .slice R.b R.m R.d]
structure RvIn (w : World) (R : Rv) : Prop where
  h1 : ShI .i64 w R.a R.n R.ms
  u1 : ∀ x, x ∈ R.ms → -9223372036854775808 ≤ x ∧ x ≤ 9223372036854775807
  k1 : R.a = none → R.c = 0
  h2 : ShI .u64 w R.b R.m R.ns
  u2 : ∀ x, x ∈ R.ns → U64 x
  k2 : R.b = none → R.d = 0
theorem RvIn.keep {w w' : World} {R : Rv} (h : RvIn w R) (hb : Below w.heap.size w w') : RvIn w' R := ⟨h.h1.keep hb, h.u1, h.k1, h.h2.keep hb, h.u2, h.k2⟩
set_option maxHeartbeats 8000000 in
theorem great_any {Q x : Int} {Bg : Nat} (w : World) (hc : w.cell? ⟨Bg, 1, none⟩ = some (.int .u64 Q)) :
    Calls Tryd.prog 55 #[.int .u64 x, .pointer (some ⟨Bg, 0, none⟩)] w fun e w' => e = .returned (.bool (decide (Q ≤ x))) ∧ w' = w := by
  go_enter Tryd.func55, Tryd.ntmps55
  go_wp2_with fail
  go_ret
  exact ⟨rfl, rfl⟩
theorem indexF_any {Q : Int} {Bg : Nat} {a : Option Addr} {m c : Nat} {l : List Int} (w : World) (hc : w.cell? ⟨Bg, 1, none⟩ = some (.int .u64 Q)) (hS : ShI .u64 w a m l) (hm : m ≤ 100000) :
    Calls Tryd.prog 87 #[.slice a m c, .func (.func 55) #[] #[.pointer (some ⟨Bg, 0, none⟩)]] w fun e w' => (∃ r : Int, e = .returned (.int .i64 r) ∧ (0 ≤ r ↔ ∃ x, x ∈ l ∧ Q ≤ x)) ∧ w' = w := by
  have HL := Lh hS.len
  have HS := Lh hS
  have HC := Lh hc
  clear hS hc
  go_enter Tryd.func87, Tryd.ntmps87
  go_wp2_with fail
  go_loop [5, 8] (fun _ c8 => ∃ (k : Nat), k ≤ m ∧ c8 = .int .i64 k ∧ Hid (∀ x, x ∈ l.take k → x < Q)) (fun _ c8 => m - (intOf c8).toNat)
  case atStart => exact ⟨0, by omega, rfl, Lh (by rw [List.take_zero]; intro x hx; cases hx)⟩
  case round =>
   obtain ⟨k, hk, rfl, HR⟩ := hrel
   by_cases hlt : k < m
   case neg =>
    obtain rfl : k = m := by omega
    have hd : decide ((k : Int) < (k : Int)) = false := decide_eq_false (by omega)
    go_wp2_with fail
    go_ret
    have h := HR.o
    rw [List.take_of_length_le (by rw [← HL.o]; exact Nat.le_refl _)] at h
    exact ⟨⟨_, rfl, fun h' => absurd h' (by simp), fun ⟨x, h1, h2⟩ => absurd h2 (Int.not_le.2 (h x h1))⟩, rfl⟩
   case pos =>
    have hd : decide ((k : Int) < (m : Int)) = true := decide_eq_true (by omega)
    have i0 : (0 : Int) ≤ (k : Int) := by omega
    have i1 : (k : Int) < (m : Int) := by omega
    have w1 : IntKind.i64.wrap ((k : Int) + 1) = (k : Int) + 1 := IntWalk.i64_in _ (by omega)
    obtain ⟨s, o, rfl, hcc⟩ : ∃ s o, a = some ⟨s, o, none⟩ ∧ w.cell? ⟨s, o + k, none⟩ = some (.int .u64 (l.getD k 0)) := by
     rcases HS.o with ⟨h1, _⟩ | ⟨s, o, h0, h1, h2, h3⟩
     · omega
     · exact ⟨s, o, h0, h3 k (by omega)⟩
    have HD := Lh (show l.take (k + 1) = l.take k ++ [l.getD k 0] ∧ l.getD k 0 ∈ l by
     have hl : k < l.length := by rw [← HL.o]; exact hlt
     rw [List.take_succ_eq_append_getElem hl, List.getD_eq_getElem?_getD, List.getElem?_eq_getElem hl]; exact ⟨rfl, List.getElem_mem hl⟩)
    generalize l.getD k 0 = x at hcc HD
    go_wp2_with fail
    refine (great_any _ HC.o).mono ?_
    rintro e w1 ⟨rfl, rfl⟩
    by_cases h1 : Q ≤ x
    case pos =>
     rw [decide_eq_true h1]
     go_wp2_with fail
     go_ret
     exact ⟨⟨_, rfl, fun _ => ⟨x, HD.o.2, h1⟩, fun _ => by simp⟩, rfl⟩
    case neg =>
     rw [decide_eq_false h1]
     go_wp2_with fail
     go_round
     case rel => exact ⟨k + 1, by omega, by go_num, Lh (by rw [HD.o.1]; intro z h; rcases List.mem_append.1 h with h | h; exact HR.o z h; simp at h; subst h; omega)⟩
     case measure => simp [intOf]; omega
theorem containsF_any {Q : Int} {Bg : Nat} {a : Option Addr} {m c : Nat} {l : List Int} {v : Bool} (w : World) (hc : w.cell? ⟨Bg, 1, none⟩ = some (.int .u64 Q)) (hS : ShI .u64 w a m l) (hm : m ≤ 100000) (hv : v = true ↔ ∃ x, x ∈ l ∧ Q ≤ x) :
    Calls Tryd.prog 56 #[.slice a m c, .func (.func 55) #[] #[.pointer (some ⟨Bg, 0, none⟩)]] w fun e w' => e = .returned (.bool v) ∧ w' = w := by
  have HS := Lh hS
  have HC := Lh hc
  have HV := Lh hv
  clear hS hc hv
  go_enter Tryd.func56, Tryd.ntmps56
  go_wp2_with fail
  refine (indexF_any _ HC.o HS.o hm).mono ?_
  rintro e w1 ⟨⟨r, rfl, hr⟩, rfl⟩
  have HR := Lh (show decide (0 ≤ r) = v by rw [Bool.eq_iff_iff, decide_eq_true_iff, hr, HV.o])
  clear hr
  go_wp2_with fail
  go_ret
  exact ⟨by rw [← HR.o]; rfl, rfl⟩
end Go.Proofs.YtlbldpkgnonbpaaDoor
