/- The reference's SameVote (of equal votes) and GreatVote. -/
import Derived.Test.YtlbldpkgnonbpaaDoorByK
import Derived.Laws.StructEq
namespace Go.Proofs.YtlbldpkgnonbpaaDoor
open Go Go.RowKit Num Sha
set_option linter.unusedSimpArgs false
set_option linter.unusedVariables false
theorem eq_p64d (n : Nat) (a b c d : Int) (w : World) : (Op.equalIn (n + 2) 25 (.agg #[.int .u64 a, .int .u64 b]) (.agg #[.int .u64 c, .int .u64 d])).run Tryd.prog w = .ok (a == c && b == d) w := by
  have u3 := Tryd.underlying24
  have a3 := Tryd.isAgg24
  have z3 := Tryd.sizeOf24
  rw [Op.equalIn]
  simp only [Sem.run_bind, run_underlying Tryd.underlying25, Result.andThen_ok]
  simp only [Std.Legacy.Range.forIn_eq_forIn_range', Std.Legacy.Range.size, Nat.sub_zero, Nat.add_sub_cancel, Nat.div_one, List.range'_succ, List.range'_zero, List.forIn_cons, List.forIn_nil]
  go_simp
  by_cases h1 : a = c <;> by_cases h2 : b = d <;> simp [h1, h2]
@[go_sem] theorem eq_p64l (a b : Int) (w : World) : (Op.equalIn 9999 25 (.agg #[.int .u64 a, .int .u64 b]) (.agg #[.int .u64 a, .int .u64 b])).run Tryd.prog w = .ok true w := by
  rw [eq_p64d 9997 a b a b w]; simp
theorem eqFields_all {P : Program} {w : World} (d : Nat) (xs : Array Value) : ∀ fs : List Field, (∀ f, f ∈ fs → ∃ a, (part f.type xs f.offset).run P w = .ok a w ∧ (Op.equalIn d f.type a a).run P w = .ok true w) → (Op.eqFields d xs xs fs).run P w = .ok true w
  | [], _ => by simp [Op.eqFields]
  | f :: fs, h => by
    obtain ⟨a, h1, h2⟩ := h f (by simp)
    have ih := eqFields_all d xs fs (fun g hg => h g (by simp [hg]))
    rw [Op.eqFields]
    by_cases hn : f.name ≠ "_"
    · rw [if_pos hn]
      simp only [Sem.run_bind, h1, h2, Result.andThen_ok, Bool.not_true, Bool.false_eq_true, if_false]
      exact ih
    · rw [if_neg hn]; exact ih
set_option maxRecDepth 100000 in
set_option maxHeartbeats 1000000 in
@[go_sem] theorem eq_bit (r0 r1 s0 s1 c0 c1 z0 z1 : Int) (w : World) : (Op.equalIn 10000 27 (.agg #[.int .u64 r0, .int .u64 r1, .int .u64 s0, .int .u64 s1, .int .u64 c0, .int .u64 c1, .int .u64 z0, .int .u64 z1]) (.agg #[.int .u64 r0, .int .u64 r1, .int .u64 s0, .int .u64 s1, .int .u64 c0, .int .u64 c1, .int .u64 z0, .int .u64 z1])).run Tryd.prog w = .ok true w := by
  have hu : Tryd.prog.underlying 27 = some (.struct (Tryd.prog.fieldsOf 27)) := by kernel_rfl
  have hfs : ((Tryd.prog.fieldsOf 27).toList.all fun f => f.type == 25 && (f.offset == 0 || f.offset == 2 || f.offset == 4 || f.offset == 6)) = true := by kernel_rfl
  rw [show (10000 : Nat) = 9999 + 1 from rfl, run_equalIn_struct w 9999 27 _ _ hu (by kernel_rfl)]
  refine eqFields_all 9999 _ _ fun f hf => ?_
  have h := List.all_eq_true.1 hfs f hf
  generalize (Tryd.prog.fieldsOf 27) = FF at hf
  simp only [Bool.and_eq_true, Bool.or_eq_true, beq_iff_eq] at h
  obtain ⟨h1, h2⟩ := h
  rw [h1]
  have ua := Tryd.isAgg25
  have za := Tryd.sizeOf25
  have hq : ∀ a b : Int, (Op.equalIn 9999 25 (.agg #[.int .u64 a, .int .u64 b]) (.agg #[.int .u64 a, .int .u64 b])).run Tryd.prog w = .ok true w := fun a b => by rw [eq_p64d 9997 a b a b w]; simp
  rcases h2 with ((h2 | h2) | h2) | h2
  · rw [h2]; exact ⟨.agg #[.int .u64 r0, .int .u64 r1], by go_simp, hq _ _⟩
  · rw [h2]; exact ⟨.agg #[.int .u64 s0, .int .u64 s1], by go_simp, hq _ _⟩
  · rw [h2]; exact ⟨.agg #[.int .u64 c0, .int .u64 c1], by go_simp, hq _ _⟩
  · rw [h2]; exact ⟨.agg #[.int .u64 z0, .int .u64 z1], by go_simp, hq _ _⟩

set_option maxRecDepth 100000 in
set_option maxHeartbeats 8000000 in
theorem rSame_aux {a1 a2 b1 b2 : Option Addr} {n m c1 c2 d1 d2 : Nat} {bs : List (Int × Int)} {ps : List Bt} {one : Bool} {z : Bt} (w : World) (hn : n ≤ 1000) (hm : m ≤ 1000) (h1 : ShS w a1 n bs) (h2 : ShS w a2 n bs) (h3 : ShB w b1 m ps) (h4 : ShB w b2 m ps) :
    Calls Tryd.prog 16 #[.agg #[.slice a1 n c1, .slice b1 m d1, .bool one, .int .u64 z.r0, .int .u64 z.r1, .int .u64 z.s0, .int .u64 z.s1, .int .u64 z.c0, .int .u64 z.c1, .int .u64 z.z0, .int .u64 z.z1], .agg #[.slice a2 n c2, .slice b2 m d2, .bool one, .int .u64 z.r0, .int .u64 z.r1, .int .u64 z.s0, .int .u64 z.s1, .int .u64 z.c0, .int .u64 z.c1, .int .u64 z.z0, .int .u64 z.z1]] w fun e w' => e = .returned (.bool true) ∧ Below w.heap.size w w' := by
  have H1 := Lib.hid h1
  have H2 := Lib.hid h2
  have H3 := Lib.hid h3
  have H4 := Lib.hid h4
  have F_v := Lib.hid (show Cl ((w.alloc (.cells #[.slice a1 n c1, .slice b1 m d1, .bool one, .int .u64 z.r0, .int .u64 z.r1, .int .u64 z.s0, .int .u64 z.s1, .int .u64 z.c0, .int .u64 z.c1, .int .u64 z.z0, .int .u64 z.z1] 29)).alloc (.cells #[.slice a2 n c2, .slice b2 m d2, .bool one, .int .u64 z.r0, .int .u64 z.r1, .int .u64 z.s0, .int .u64 z.s1, .int .u64 z.c0, .int .u64 z.c1, .int .u64 z.z0, .int .u64 z.z1] 29)) w.heap.size [.slice a1 n c1, .slice b1 m d1, .bool one, .int .u64 z.r0, .int .u64 z.r1, .int .u64 z.s0, .int .u64 z.s1, .int .u64 z.c0, .int .u64 z.c1, .int .u64 z.z0, .int .u64 z.z1] from (Cl.at w [.slice a1 n c1, .slice b1 m d1, .bool one, .int .u64 z.r0, .int .u64 z.r1, .int .u64 z.s0, .int .u64 z.s1, .int .u64 z.c0, .int .u64 z.c1, .int .u64 z.z0, .int .u64 z.z1] 29 w.heap.size rfl).alloc _)
  have F_u := Lib.hid (show Cl ((w.alloc (.cells #[.slice a1 n c1, .slice b1 m d1, .bool one, .int .u64 z.r0, .int .u64 z.r1, .int .u64 z.s0, .int .u64 z.s1, .int .u64 z.c0, .int .u64 z.c1, .int .u64 z.z0, .int .u64 z.z1] 29)).alloc (.cells #[.slice a2 n c2, .slice b2 m d2, .bool one, .int .u64 z.r0, .int .u64 z.r1, .int .u64 z.s0, .int .u64 z.s1, .int .u64 z.c0, .int .u64 z.c1, .int .u64 z.z0, .int .u64 z.z1] 29)) (w.heap.size + 1) [.slice a2 n c2, .slice b2 m d2, .bool one, .int .u64 z.r0, .int .u64 z.r1, .int .u64 z.s0, .int .u64 z.s1, .int .u64 z.c0, .int .u64 z.c1, .int .u64 z.z0, .int .u64 z.z1] from Cl.at (w.alloc (.cells #[.slice a1 n c1, .slice b1 m d1, .bool one, .int .u64 z.r0, .int .u64 z.r1, .int .u64 z.s0, .int .u64 z.s1, .int .u64 z.c0, .int .u64 z.c1, .int .u64 z.z0, .int .u64 z.z1] 29)) [.slice a2 n c2, .slice b2 m d2, .bool one, .int .u64 z.r0, .int .u64 z.r1, .int .u64 z.s0, .int .u64 z.s1, .int .u64 z.c0, .int .u64 z.c1, .int .u64 z.z0, .int .u64 z.z1] 29 (w.heap.size + 1) (by simp))
  have HBW := Lib.hid (show Below w.heap.size w ((w.alloc (.cells #[.slice a1 n c1, .slice b1 m d1, .bool one, .int .u64 z.r0, .int .u64 z.r1, .int .u64 z.s0, .int .u64 z.s1, .int .u64 z.c0, .int .u64 z.c1, .int .u64 z.z0, .int .u64 z.z1] 29)).alloc (.cells #[.slice a2 n c2, .slice b2 m d2, .bool one, .int .u64 z.r0, .int .u64 z.r1, .int .u64 z.s0, .int .u64 z.s1, .int .u64 z.c0, .int .u64 z.c1, .int .u64 z.z0, .int .u64 z.z1] 29)) from ((Below.refl _ _).alloc (Nat.le_refl _) _).alloc (by simp) _)
  clear h1 h2 h3 h4
  go_enter Tryd.func16, Tryd.ntmps16
  obtain ⟨⟨q0, q1, q2, q3, q4, q5, q6, q7, q8, q9, q10⟩, -⟩ := F_v.out.k11
  obtain ⟨⟨y0, y1, y2, y3, y4, y5, y6, y7, y8, y9, y10⟩, -⟩ := F_u.out.k11
  go_wp2_with fail
  clear q0 q1 q2 q3 q4 q5 q6 q7 q8 q9 q10 y0 y1 y2 y3 y4 y5 y6 y7 y8 y9 y10
  go_loopw [5] (fun c5 wr => ∃ (i : Nat), i ≤ n ∧ c5 = .int .i64 i ∧ Hid (Cl wr w.heap.size [.slice a1 n c1, .slice b1 m d1, .bool one, .int .u64 z.r0, .int .u64 z.r1, .int .u64 z.s0, .int .u64 z.s1, .int .u64 z.c0, .int .u64 z.c1, .int .u64 z.z0, .int .u64 z.z1]) ∧ Hid (Cl wr (w.heap.size + 1) [.slice a2 n c2, .slice b2 m d2, .bool one, .int .u64 z.r0, .int .u64 z.r1, .int .u64 z.s0, .int .u64 z.s1, .int .u64 z.c0, .int .u64 z.c1, .int .u64 z.z0, .int .u64 z.z1]) ∧ Hid (Below w.heap.size w wr)) (fun c5 _ => n - (intOf c5).toNat)
  case atStart => exact ⟨0, by omega, rfl, F_v.out, F_u.out, HBW.out⟩
  case round =>
    clear F_v F_u HBW
    obtain ⟨i, hi, rfl, F_v, F_u, HBW⟩ := hrel
    have hwi : IntKind.i64.wrap ((i : Int) + 1) = (i : Int) + 1 := IntWalk.i64_in _ (by omega)
    have hi0 : (0 : Int) ≤ (i : Int) := by omega
    obtain ⟨⟨q0, q1, q2, q3, q4, q5, q6, q7, q8, q9, q10⟩, -⟩ := F_v.out.k11
    obtain ⟨⟨y0, y1, y2, y3, y4, y5, y6, y7, y8, y9, y10⟩, -⟩ := F_u.out.k11
    by_cases hlt : i < n
    case pos =>
      have hi2 : (i : Int) < (n : Int) := by omega
      have cS : Tryd.prog.cellsOf 78 = 2 := by kernel_rfl
      obtain ⟨s, o, hsa, hsl, e0, e1⟩ := (H1.out.keep HBW.out).at i hlt
      obtain ⟨s', o', hsa', hsl', e0', e1'⟩ := (H2.out.keep HBW.out).at i hlt
      obtain ⟨x, y, hxy⟩ : ∃ x y, bs.getD i (0, 0) = (x, y) := ⟨_, _, rfl⟩
      rw [hxy] at e0 e1 e0' e1'
      simp only at e0 e1 e0' e1'
      clear hxy hsl hsl'
      rw [hsa] at q0
      rw [hsa'] at y0
      clear hsa hsa'
      go_wp2_with fail
      go_region
      go_wp2_with fail
      go_roundw
      case rel => exact ⟨i + 1, by omega, by go_num, F_v.out.drew, F_u.out.drew, HBW.out.drew⟩
      case measure => simp [intOf] <;> omega
    case neg =>
      have hi2 : ¬ ((i : Int) < (n : Int)) := by omega
      go_wp2_with fail
      clear q0 q1 q2 q3 q4 q5 q6 q7 q8 q9 q10 y0 y1 y2 y3 y4 y5 y6 y7 y8 y9 y10 hwi hi0 hi2
      obtain ⟨wb, rfl⟩ : ∃ wb, wb = wr := ⟨_, rfl⟩
      go_loopw [6] (fun c6 wr => ∃ (j : Nat), j ≤ m ∧ c6 = .int .i64 j ∧ Hid (Cl wr w.heap.size [.slice a1 n c1, .slice b1 m d1, .bool one, .int .u64 z.r0, .int .u64 z.r1, .int .u64 z.s0, .int .u64 z.s1, .int .u64 z.c0, .int .u64 z.c1, .int .u64 z.z0, .int .u64 z.z1]) ∧ Hid (Cl wr (w.heap.size + 1) [.slice a2 n c2, .slice b2 m d2, .bool one, .int .u64 z.r0, .int .u64 z.r1, .int .u64 z.s0, .int .u64 z.s1, .int .u64 z.c0, .int .u64 z.c1, .int .u64 z.z0, .int .u64 z.z1]) ∧ Hid (Below w.heap.size w wr)) (fun c6 _ => m - (intOf c6).toNat)
      case atStart => exact ⟨0, by omega, rfl, F_v.out, F_u.out, HBW.out⟩
      case round =>
        clear F_v F_u HBW
        obtain ⟨j, hj, rfl, F_v, F_u, HBW⟩ := hrel
        have hwi : IntKind.i64.wrap ((j : Int) + 1) = (j : Int) + 1 := IntWalk.i64_in _ (by omega)
        have hi0 : (0 : Int) ≤ (j : Int) := by omega
        obtain ⟨⟨q0, q1, q2, q3, q4, q5, q6, q7, q8, q9, q10⟩, -⟩ := F_v.out.k11
        obtain ⟨⟨y0, y1, y2, y3, y4, y5, y6, y7, y8, y9, y10⟩, -⟩ := F_u.out.k11
        by_cases hlt : j < m
        case pos =>
          have hi2 : (j : Int) < (m : Int) := by omega
          have cB : Tryd.prog.cellsOf 27 = 8 := by kernel_rfl
          obtain ⟨s, o, x, hsa, hz, hbc⟩ := (H3.out.keep HBW.out).at j hlt
          obtain ⟨s', o', x', hsa', hz', hbc'⟩ := (H4.out.keep HBW.out).at j hlt
          obtain rfl : x = x' := Option.some.inj (hz.symm.trans hz')
          obtain ⟨-, t0, t1, t2, t3, t4, t5, t6, t7⟩ := hbc
          obtain ⟨-, r0, r1, r2, r3, r4, r5, r6, r7⟩ := hbc'
          rw [hsa] at q1
          rw [hsa'] at y1
          clear hsa hsa' hz hz'
          go_wp2_with fail
          go_region
          go_wp2_with fail
          go_roundw
          case rel => exact ⟨j + 1, by omega, by go_num, F_v.out.drew, F_u.out.drew, HBW.out.drew⟩
          case measure => simp [intOf] <;> omega
        case neg =>
          have hi2 : ¬ ((j : Int) < (m : Int)) := by omega
          go_wp2_with fail
          go_ret
          exact ⟨rfl, HBW.out⟩
theorem rSame_any {V U : Vt} (w : World) (hV : VtIn w V) (hU : VtIn w U) (hb : V.bs = U.bs) (hp : V.ps = U.ps) (ho : V.one = U.one) (hz : V.z = U.z) (hn : V.n ≤ 1000) (hm : V.m ≤ 1000) :
    Calls Tryd.prog 16 #[V.v, U.v] w fun e w' => e = .returned (.bool true) ∧ Below w.heap.size w w' := by
  have e1 := hV.h1.len
  have e2 := hU.h1.len
  have e3 := hV.h2.len
  have e4 := hU.h2.len
  obtain ⟨a1, n, c1, bs, b1, m, d1, ps, one, z⟩ := V
  obtain ⟨a2, n', c2, bs', b2, m', d2, ps', one', z'⟩ := U
  simp only at *
  subst hb hp ho hz
  obtain rfl : n' = n := by omega
  obtain rfl : m' = m := by omega
  exact rSame_aux w hn hm hV.h1 hU.h1 hV.h2 hU.h2
def greatV (V : Vt) : Bool := decide (20 < V.n) || decide (20 < V.m)

set_option maxRecDepth 100000 in
set_option maxHeartbeats 8000000 in
theorem greatV_any {V : Vt} (w : World) :
    Calls Tryd.prog 9 #[V.v] w fun e w' => e = .returned (.bool (greatV V)) ∧ Below w.heap.size w w' := by
  have F_v := Lib.hid (VBox.at w V 29 w.heap.size rfl)
  have HBW := Lib.hid (show Below w.heap.size w (w.alloc (.cells #[.slice V.a V.n V.c, .slice V.b V.m V.d, .bool V.one, .int .u64 V.z.r0, .int .u64 V.z.r1, .int .u64 V.z.s0, .int .u64 V.z.s1, .int .u64 V.z.c0, .int .u64 V.z.c1, .int .u64 V.z.z0, .int .u64 V.z.z1] 29)) from (Below.refl _ _).alloc (Nat.le_refl _) _)
  obtain ⟨-, v0, v1, -⟩ := id F_v.out
  unfold Vt.v
  by_cases h : 20 < V.n
  case pos =>
    have d1 : decide ((20 : Int) < (V.n : Int)) = true := by simp; omega
    go_enter Tryd.func9, Tryd.ntmps9
    go_wp2_with fail
    go_ret
    exact ⟨by simp [greatV, h], HBW.out⟩
  case neg =>
    have d1 : decide ((20 : Int) < (V.n : Int)) = false := by simp; omega
    go_enter Tryd.func9, Tryd.ntmps9
    go_wp2_with fail
    go_ret
    exact ⟨by simp [greatV, h, show ((20 : Int) < (V.m : Int)) ↔ 20 < V.m by omega], HBW.out⟩
end Go.Proofs.YtlbldpkgnonbpaaDoor
