/- booth.Matches. -/
import Derived.Test.YtlbldpkgnonbpaaGreatDoorQsR
import Derived.Deep.Cut
import Derived.Test.YtlbldpkgnonbpaaGreatDoorQsB
import Derived.Test.YtlbldpkgnonbpaaGreatDoorQsO
import Derived.Test.YtlbldpkgnonbpaaGreatDoorQsJ
import Derived.Test.YtlbldpkgnonbpaaGreatDoorQsA
import Derived.Test.YtlbldpkgnonbpaaGreatDoorTie
import Derived.Test.YtlbldpkgnonbpaaGreatDoorCards
import Derived.ProofKit
import Derived.LaidMore
import Derived.OpenShut
import Derived.Stop.Joined
import Derived.SevenTiedAt
import Derived.Laws.BytesArg
import Derived.Test.YtlbldpkgnonbpaaGreatDoorQsP
import Derived.Laws.StructEq
set_option linter.unusedSimpArgs false
set_option linter.unusedVariables false
set_option maxRecDepth 100000
namespace Go.Proofs.YtlbldpkgnonbpaaGreatDoor
open Go Go.RowKit Num Sha
def encP (P G y m x : Int) : Int × Int := (powm G x P, powm G m P * powm y x P % P)
def rangeP (Q : Int) (n : Nat) (R : Rv) : Prop := R.m = n ∧ (¬ ∃ x, x ∈ R.ns ∧ Q ≤ x) ∧ markedS (n : Int) R.ms = true
def matchP (P G y : Int) (n : Nat) (V : Vt) (R : Rv) : Prop := V.n = n ∧ ∀ i, i < n → V.bs.getD i (0, 0) = encP P G y (msgS R.ms (i : Int)) (R.ns.getD i 0)
theorem msgS_01 (l : List Int) (i : Int) : msgS l i = 0 ∨ msgS l i = 1 := by
 unfold msgS; split
 · exact .inr rfl
 · exact .inl rfl
set_option maxHeartbeats 8000000 in
theorem matches_A {P Q G y : Int} {a b ra rb : Option Addr} {n c m d rn rc rm rd : Nat} {bs : List (Int × Int)} {one : Bool} {z : Bt} {ms ns : List Int} {j k : Int} (w : World) (hT : Tabs w) (hP : 0 ≤ P) (hQ : 0 ≤ Q) (hG : 0 ≤ G) (hy : 0 ≤ y) (hk : chkB P Q G y j = k) (hk0 : k ≠ 0) :
 Calls Tryz.prog 8 #[.agg #[υ P, υ Q, υ G], υ y, .int .i64 j, .agg #[.slice a n c, .slice b m d, .bool one, υ z.r0, υ z.r1, υ z.s0, υ z.s1, υ z.c0, υ z.c1, υ z.z0, υ z.z1], .agg #[.slice ra rn rc, .slice rb rm rd]] w fun e w' => e = .returned (.tuple #[.bool false, .int .i64 k]) ∧ Below w.heap.size w w' := by
 have HK := Lh hk
 clear hk
 obtain ⟨F_g, F_v, F_r, HBW⟩ := bx3 w [υ P, υ Q, υ G] 24 [.slice a n c, .slice b m d, .bool one, υ z.r0, υ z.r1, υ z.s0, υ z.s1, υ z.c0, υ z.c1, υ z.z0, υ z.z1] 33 [.slice ra rn rc, .slice rb rm rd] 36
 have g0 := F_g.o.c 0 _ rfl
 have g1 := F_g.o.c 1 _ rfl
 have g2 := F_g.o.c 2 _ rfl
 go_enter Tryz.func8, Tryz.ntmps8
 go_wp2_with fail
 clear g0 g1 g2
 refine (bcheck_any _ hP hQ hG hy).mono ?_
 rintro e w1 ⟨rfl, hb1⟩
 replace F_g := Lh (F_g.o.keep hb1)
 replace F_v := Lh (F_v.o.keep hb1)
 replace F_r := Lh (F_r.o.keep hb1)
 replace HBW := Kt HBW hb1
 clear hb1
 rw [HK.o]
 go_wp2_with fail
 go_ret2
 exact ⟨rfl, HBW.o⟩
set_option maxHeartbeats 8000000 in
theorem matches_B {P Q G y : Int} {a b ra rb : Option Addr} {n c m d rn rc rm rd : Nat} {bs : List (Int × Int)} {one : Bool} {z : Bt} {ms ns : List Int} {j : Nat} (w : World) (hT : Tabs w) (hP : 0 ≤ P) (hQ : 0 ≤ Q) (hG : 0 ≤ G) (hy : 0 ≤ y) (hk : chkB P Q G y (j : Int) = 0) (hm : rm ≠ j) :
 Calls Tryz.prog 8 #[.agg #[υ P, υ Q, υ G], υ y, .int .i64 (j : Int), .agg #[.slice a n c, .slice b m d, .bool one, υ z.r0, υ z.r1, υ z.s0, υ z.s1, υ z.c0, υ z.c1, υ z.z0, υ z.z1], .agg #[.slice ra rn rc, .slice rb rm rd]] w fun e w' => e = .returned (.tuple #[.bool false, .int .i64 2]) ∧ Below w.heap.size w w' := by
 have HK := Lh hk
 have hne : ¬ ((rm : Int) = (j : Int)) := by omega
 clear hk hm
 obtain ⟨F_g, F_v, F_r, HBW⟩ := bx3 w [υ P, υ Q, υ G] 24 [.slice a n c, .slice b m d, .bool one, υ z.r0, υ z.r1, υ z.s0, υ z.s1, υ z.c0, υ z.c1, υ z.z0, υ z.z1] 33 [.slice ra rn rc, .slice rb rm rd] 36
 have g0 := F_g.o.c 0 _ rfl
 have g1 := F_g.o.c 1 _ rfl
 have g2 := F_g.o.c 2 _ rfl
 go_enter Tryz.func8, Tryz.ntmps8
 go_wp2_with fail
 clear g0 g1 g2
 refine (bcheck_any _ hP hQ hG hy).mono ?_
 rintro e w1 ⟨rfl, hb1⟩
 replace F_g := Lh (F_g.o.keep hb1)
 replace F_v := Lh (F_v.o.keep hb1)
 replace F_r := Lh (F_r.o.keep hb1)
 replace HBW := Kt HBW hb1
 clear hb1
 rw [HK.o]
 have r0 := F_r.o.c 0 _ rfl
 have r1 := F_r.o.c 1 _ rfl
 go_wp2_with fail
 go_ret2
 exact ⟨rfl, HBW.o⟩
def MatJ (w : World) (P Q G y : Int) (j n : Nat) (bs : List (Int × Int)) (ms ns : List Int) (e : Ending) (w' : World) : Prop :=
 ∃ W : World, ((¬ ((¬ ∃ x, x ∈ ns ∧ Q ≤ x) ∧ markedS (j : Int) ms = true) ∧ e = .returned (.tuple #[.bool false, .int .i64 2])) ∨
  (((¬ ∃ x, x ∈ ns ∧ Q ≤ x) ∧ markedS (j : Int) ms = true) ∧ ∃ v : Bool, e = .returned (.tuple #[.bool v, .int .i64 0]) ∧ (v = true ↔ n = j ∧ ∀ i, i < j → bs.getD i (0, 0) = encP P G y (msgS ms (i : Int)) (ns.getD i 0)))) ∧ Below w.heap.size w w'
set_option maxHeartbeats 8000000 in
theorem matches_C {P Q G y : Int} {a b ra rb : Option Addr} {n c m d rn rc rm rd : Nat} {bs : List (Int × Int)} {one : Bool} {z : Bt} {ms ns : List Int} {j : Nat} (w : World) (hT : Tabs w) (hP : 0 ≤ P) (hQ : 0 ≤ Q) (hG : 0 ≤ G) (hy : 0 ≤ y) (hk : chkB P Q G y (j : Int) = 0) (hn : n ≠ j) (hr1 : ShI .i64 w ra rn ms) (hr2 : ShI .u64 w rb j ns) (hrn : rn ≤ 1000) (hj : j ≤ 10) :
 Calls Tryz.prog 8 #[.agg #[υ P, υ Q, υ G], υ y, .int .i64 (j : Int), .agg #[.slice a n c, .slice b m d, .bool one, υ z.r0, υ z.r1, υ z.s0, υ z.s1, υ z.c0, υ z.c1, υ z.z0, υ z.z1], .agg #[.slice ra rn rc, .slice rb j rd]] w (MatJ w P Q G y j n bs ms ns) := by
 have hne : ¬ ((n : Int) = (j : Int)) := by omega
 have HK := Lh hk
 have HR1 := Lh hr1
 have HR2 := Lh hr2
 clear hk hr1 hr2
 obtain ⟨F_g, F_v, F_r, HBW⟩ := bx3 w [υ P, υ Q, υ G] 24 [.slice a n c, .slice b m d, .bool one, υ z.r0, υ z.r1, υ z.s0, υ z.s1, υ z.c0, υ z.c1, υ z.z0, υ z.z1] 33 [.slice ra rn rc, .slice rb j rd] 36
 have g0 := F_g.o.c 0 _ rfl
 have g1 := F_g.o.c 1 _ rfl
 have g2 := F_g.o.c 2 _ rfl
 go_enter Tryz.func8, Tryz.ntmps8
 go_wp2_with fail
 clear g0 g1 g2
 refine (bcheck_any _ hP hQ hG hy).mono ?_
 rintro e w1 ⟨rfl, hb1⟩
 replace F_g := Lh (F_g.o.keep hb1)
 replace F_v := Lh (F_v.o.keep hb1)
 replace F_r := Lh (F_r.o.keep hb1)
 replace HBW := Kt HBW hb1
 clear hb1
 rw [HK.o]
 have g1 := F_g.o.c 1 _ rfl
 have r0 := F_r.o.c 0 _ rfl
 have r1 := F_r.o.c 1 _ rfl
 have HC1 := Lh g1
 clear g1
 obtain ⟨gr, hgr⟩ := Prop.bool (∃ x, x ∈ ns ∧ Q ≤ x)
 have HGR := Lh hgr
 clear hgr
 go_wp2_with fail
 refine (containsF_any (v := gr) _ HC1.o (HR2.o.keep HBW.o) (by omega) HGR.o).mono ?_
 rintro e w2 ⟨rfl, rfl⟩
 cases gr with
 | true =>
  go_wp2_with fail
  go_ret2
  exact ⟨w2, .inl ⟨fun h => h.1 (HGR.o.1 (by simp)), rfl⟩, HBW.o⟩
 | false =>
 go_wp2_with fail
 refine (marked_any _ (HR1.o.keep HBW.o) (by omega)).mono ?_
 rintro e w3 ⟨rfl, rfl⟩
 obtain ⟨mk, hmk⟩ : ∃ mk, markedS (j : Int) ms = mk := ⟨_, rfl⟩
 have HMK := Lh hmk
 rw [hmk]
 clear hmk
 cases mk with
 | false =>
  go_wp2_with fail
  go_ret2
  exact ⟨w3, .inl ⟨(fun h => (by have h2 := HMK.o.symm.trans h.2; simp at h2)), rfl⟩, HBW.o⟩
 | true =>
 obtain ⟨⟨q0, q1, q2, q3, q4, q5, q6, q7, q8, q9, q10⟩, -⟩ := F_v.o.k11
 go_wp2_with fail
 go_ret2
 exact ⟨w3, .inr ⟨⟨(fun h => (by have h2 := HGR.o.2 h; simp at h2)), HMK.o⟩, false, rfl, ⟨(fun h => (by simp at h)), (fun h => absurd h.1 hn)⟩⟩, HBW.o⟩
open Go Go.RowKit Num Sha
set_option maxHeartbeats 8000000 in
theorem matches_D {P Q G y : Int} {a b ra rb : Option Addr} {n c m d rn rc rm rd : Nat} {bs : List (Int × Int)} {one : Bool} {z : Bt} {ms ns : List Int} {j : Nat} (w : World) (hT : Tabs w) (hP : 0 ≤ P) (hQ : 0 ≤ Q) (hG : 0 ≤ G) (hy : 0 ≤ y) (hk : chkB P Q G y (j : Int) = 0) (hs1 : ShS w a j bs) (us : ∀ q, q ∈ bs → U64 q.1 ∧ U64 q.2) (hr1 : ShI .i64 w ra rn ms) (hr2 : ShI .u64 w rb j ns) (un : ∀ x, x ∈ ns → U64 x) (hrn : rn ≤ 1000) (hj : j ≤ 10) :
 Calls Tryz.prog 8 #[.agg #[υ P, υ Q, υ G], υ y, .int .i64 (j : Int), .agg #[.slice a j c, .slice b m d, .bool one, υ z.r0, υ z.r1, υ z.s0, υ z.s1, υ z.c0, υ z.c1, υ z.z0, υ z.z1], .agg #[.slice ra rn rc, .slice rb j rd]] w (MatJ w P Q G y j j bs ms ns) := by
 obtain ⟨hH, hyP, hj1, -⟩ := chkB_ok hk
 have HH := Lh hH
 have HYP := Lh hyP
 have HT := Lh hT
 have HS1 := Lh hs1
 have US := Lh us
 have UN := Lh un
 have HQ2 := Lh (show 2 ≤ Q by obtain ⟨p5, p3, hQ, pq, g2, gP⟩ := id hH; omega)
 obtain ⟨s, o, hsa, -⟩ := hs1.at 0 (by omega)
 obtain ⟨s2, o2, hsb⟩ : ∃ s o, rb = some ⟨s, o, none⟩ := by
  rcases hr2 with ⟨h1, _⟩ | ⟨s, o, h0, _⟩
  · omega
  · exact ⟨s, o, h0⟩
 subst hsa hsb
 clear hH hyP hT hs1 us un
 have HK := Lh hk
 have HR1 := Lh hr1
 have HR2 := Lh hr2
 clear hk hr1 hr2
 obtain ⟨F_g, F_v, F_r, HBW⟩ := bx3 w [υ P, υ Q, υ G] 24 [.slice (some ⟨s, o, none⟩) j c, .slice b m d, .bool one, υ z.r0, υ z.r1, υ z.s0, υ z.s1, υ z.c0, υ z.c1, υ z.z0, υ z.z1] 33 [.slice ra rn rc, .slice (some ⟨s2, o2, none⟩) j rd] 36
 have g0 := F_g.o.c 0 _ rfl
 have g1 := F_g.o.c 1 _ rfl
 have g2 := F_g.o.c 2 _ rfl
 go_enter Tryz.func8, Tryz.ntmps8
 go_wp2_with fail
 clear g0 g1 g2
 refine (bcheck_any _ hP hQ hG hy).mono ?_
 rintro e w1 ⟨rfl, hb1⟩
 replace F_g := Lh (F_g.o.keep hb1)
 replace F_v := Lh (F_v.o.keep hb1)
 replace F_r := Lh (F_r.o.keep hb1)
 replace HBW := Kt HBW hb1
 clear hb1
 rw [HK.o]
 have g1 := F_g.o.c 1 _ rfl
 have r0 := F_r.o.c 0 _ rfl
 have r1 := F_r.o.c 1 _ rfl
 have HC1 := Lh g1
 clear g1
 obtain ⟨gr, hgr⟩ := Prop.bool (∃ x, x ∈ ns ∧ Q ≤ x)
 have HGR := Lh hgr
 clear hgr
 go_wp2_with fail
 refine (containsF_any (v := gr) _ HC1.o (HR2.o.keep HBW.o) (by omega) HGR.o).mono ?_
 rintro e w2 ⟨rfl, rfl⟩
 cases gr with
 | true =>
  go_wp2_with fail
  go_ret2
  exact ⟨w2, .inl ⟨fun h => h.1 (HGR.o.1 (by simp)), rfl⟩, HBW.o⟩
 | false =>
 go_wp2_with fail
 refine (marked_any _ (HR1.o.keep HBW.o) (by omega)).mono ?_
 rintro e w3 ⟨rfl, rfl⟩
 obtain ⟨mk, hmk⟩ : ∃ mk, markedS (j : Int) ms = mk := ⟨_, rfl⟩
 have HMK := Lh hmk
 rw [hmk]
 clear hmk
 cases mk with
 | false =>
  go_wp2_with fail
  go_ret2
  exact ⟨w3, .inl ⟨(fun h => (by have h2 := HMK.o.symm.trans h.2; simp at h2)), rfl⟩, HBW.o⟩
 | true =>
 obtain ⟨⟨q0, q1, q2, q3, q4, q5, q6, q7, q8, q9, q10⟩, -⟩ := F_v.o.k11
 have HOK := Lh (show (¬ ∃ x, x ∈ ns ∧ Q ≤ x) ∧ markedS (j : Int) ms = true from ⟨(fun h => (by have h2 := HGR.o.2 h; simp at h2)), HMK.o⟩)
 go_wp2_with fail
 clear q0 q1 q2 q3 q4 q5 q6 q7 q8 q9 q10 r0 r1 HC1 HGR HMK
 go_loopw [52] (fun c52 wr => ∃ i : Nat, i ≤ j ∧ c52 = .int .i64 i ∧ Hid (∀ t, t < i → bs.getD t (0, 0) = encP P G y (msgS ms (t : Int)) (ns.getD t 0)) ∧ Hid (Cl wr w.heap.size [υ P, υ Q, υ G]) ∧ Hid (Cl wr (w.heap.size + 1) [.slice (some ⟨s, o, none⟩) j c, .slice b m d, .bool one, υ z.r0, υ z.r1, υ z.s0, υ z.s1, υ z.c0, υ z.c1, υ z.z0, υ z.z1]) ∧ Hid (Cl wr (w.heap.size + 1 + 1) [.slice ra rn rc, .slice (some ⟨s2, o2, none⟩) j rd]) ∧ Hid (Below w.heap.size w wr)) (fun c52 _ => j - (intOf c52).toNat)
 case atStart => exact ⟨0, by omega, rfl, Lh (fun t ht => by omega), F_g.o, F_v.o, F_r.o, HBW.o⟩
 case round =>
  clear F_g F_v F_r HBW
  obtain ⟨i, hi, rfl, HPR, F_g, F_v, F_r, HBW⟩ := hrel
  by_cases hlt : i < j
  case neg =>
   obtain rfl : i = j := by omega
   have hd : decide ((i : Int) < (i : Int)) = false := decide_eq_false (by omega)
   go_wp2_with fail
   go_ret2
   exact ⟨w, .inr ⟨HOK.o, true, rfl, ⟨(fun _ => ⟨rfl, HPR.o⟩), (fun _ => rfl)⟩⟩, HBW.o⟩
  case pos =>
   have hd : decide ((i : Int) < (j : Int)) = true := decide_eq_true (by omega)
   have hi0 : (0 : Int) ≤ (i : Int) := by omega
   have hi2 : (i : Int) < (j : Int) := by omega
   have hwi : IntKind.i64.wrap ((i : Int) + 1) = (i : Int) + 1 := IntWalk.i64_in _ (by omega)
   have cS : Tryz.prog.cellsOf 75 = 2 := by kernel_rfl
   obtain ⟨s1, o1, hsa, hsl, e0, e1⟩ := (HS1.o.keep HBW.o).at i hlt
   injection hsa with hsa; injection hsa with ea eb _; subst ea eb
   obtain ⟨x, x2, hxy⟩ : ∃ x y, bs.getD i (0, 0) = (x, y) := ⟨_, _, rfl⟩
   rw [hxy] at e0 e1
   simp only at e0 e1
   have HXY := Lh hxy
   have hltr := F_r.o.lt
   have hw0 := HBW.o.size
   have HBW6 := Lh (HBW.o.alloc HBW.o.size (.cells #[υ x, υ x2] 75))
   have F_g6 := Lh (F_g.o.alloc (.cells #[υ x, υ x2] 75))
   have F_v6 := Lh (F_v.o.alloc (.cells #[υ x, υ x2] 75))
   have F_r6 := Lh (F_r.o.alloc (.cells #[υ x, υ x2] 75))
   have F_s := Lh (Cl.at wr [υ x, υ x2] 75 wr.heap.size rfl)
   obtain ⟨ri, hri⟩ : ∃ ri, ns.getD i 0 = ri := ⟨_, rfl⟩
   have hrl : i < ns.length := by rw [← HR2.o.len]; exact hlt
   have hrm : ri ∈ ns := by rw [← hri, List.getD_eq_getElem?_getD, List.getElem?_eq_getElem hrl]; exact List.getElem_mem hrl
   obtain ⟨hs2, n0⟩ : s2 < wr.heap.size ∧ ((wr.alloc (.cells #[υ x, υ x2] 75))).cell? ⟨s2, o2 + i, none⟩ = some (υ ri) := by
    rcases HR2.o.keep HBW.o with ⟨h1, _⟩ | ⟨s', o', h0, h1, h2, h3⟩
    · omega
    · injection h0 with h0; injection h0 with ea eb _; subst ea eb; rw [← hri]; exact ⟨h2, (((Below.refl _ _).alloc (Nat.le_refl _) (.cells #[υ x, υ x2] 75)).cell (p := ⟨s2, o2 + i, none⟩) h2).trans (h3 i hrl)⟩
   have ri0 : 0 ≤ ri := (UN.o ri hrm).1
   have HRQ := Lh (show ri < Q by have := HOK.o.1; exact Int.not_le.1 (fun h => this ⟨ri, hrm, h⟩))
   have HRI := Lh hri
   obtain ⟨mi, hmi⟩ : ∃ mi, msgS ms (i : Int) = mi := ⟨_, rfl⟩
   have hm01 : mi = 0 ∨ mi = 1 := by rw [← hmi]; exact msgS_01 _ _
   have hm0 : 0 ≤ mi := by omega
   have HMQ := Lh (show mi < Q by have := HQ2.o; omega)
   have hwm : IntKind.u64.wrap mi = mi := IntWalk.u64_in _ (by omega)
   have HMI := Lh hmi
   have HMS := Lh (fun (W : World) (hW : Below w.heap.size w W) => hmi ▸ message_any (i := (i : Int)) (c := rc) W (HR1.o.keep hW) (by omega))
   obtain ⟨ea, hea⟩ : ∃ ea, powm G ri P = ea := ⟨_, rfl⟩
   obtain ⟨eb, heb⟩ : ∃ eb, powm G mi P * powm y ri P % P = eb := ⟨_, rfl⟩
   have HEN := Lh (fun (W : World) => encrypt_ok W HH.o hy HYP.o hm0 HMQ.o ri0 HRQ.o hea heb)
   have HEA := Lh (show encP P G y (msgS ms (i : Int)) (ns.getD i 0) = (ea, eb) by rw [hmi, hri, encP, hea, heb])
   clear hxy hsl hri hrl hrm hm01 hmi hea heb
   go_wp2_with fail
   have g0 := F_g6.o.c 0 _ rfl
   have g1 := F_g6.o.c 1 _ rfl
   have g2 := F_g6.o.c 2 _ rfl
   have r0 := F_r6.o.c 0 _ rfl
   have r1 := F_r6.o.c 1 _ rfl
   have g0z := (F_g6.o.alloc (.cells #[υ 0, υ 0] 75)).c 0 _ rfl
   have g1z := (F_g6.o.alloc (.cells #[υ 0, υ 0] 75)).c 1 _ rfl
   have g2z := (F_g6.o.alloc (.cells #[υ 0, υ 0] 75)).c 2 _ rfl
   have r0z := (F_r6.o.alloc (.cells #[υ 0, υ 0] 75)).c 0 _ rfl
   have r1z := (F_r6.o.alloc (.cells #[υ 0, υ 0] 75)).c 1 _ rfl
   go_cut [52, 15, 16, 17] from 52 to 80 (fun c52 c15 c16 c17 wx => ∃ B1 B2 : Nat, c52 = .int .i64 i ∧ c15 = .pointer (some ⟨B1, 0, none⟩) ∧ c16 = .pointer (some ⟨B2, 0, none⟩) ∧ c17 = .int .i64 0 ∧ Hid (Cl wx B1 [υ x, υ x2]) ∧ Hid (Cl wx B2 [υ ea, υ eb]) ∧ Hid (Cl wx w.heap.size [υ P, υ Q, υ G]) ∧ Hid (Cl wx (w.heap.size + 1) [.slice (some ⟨s, o, none⟩) j c, .slice b m d, .bool one, υ z.r0, υ z.r1, υ z.s0, υ z.s1, υ z.c0, υ z.c1, υ z.z0, υ z.z1]) ∧ Hid (Cl wx (w.heap.size + 1 + 1) [.slice ra rn rc, .slice (some ⟨s2, o2, none⟩) j rd]) ∧ Hid (Below w.heap.size w wx))
   case first =>
    have hl0 : w.heap.size < wr.heap.size := by omega
    go_region_held3 (fun w' => w'.cell? ⟨w.heap.size, 0, none⟩ = some (υ P) ∧ w'.cell? ⟨w.heap.size, 1, none⟩ = some (υ Q) ∧ w'.cell? ⟨w.heap.size, 2, none⟩ = some (υ G) ∧ w'.cell? ⟨w.heap.size + 1 + 1, 0, none⟩ = some (.slice ra rn rc) ∧ w'.cell? ⟨w.heap.size + 1 + 1, 1, none⟩ = some (.slice (some ⟨s2, o2, none⟩) j rd) ∧ w'.cell? ⟨s2, o2 + i, none⟩ = some (υ ri))
     (first | (refine ⟨?_, ?_, ?_, ?_, ?_, ?_⟩ <;> assumption) | go_keep)
     (first
     | (go_at_call 28
        refine (HMS.o _ (by first | exact HBW6.o.drew | exact HBW6.o.drew.alloc HBW6.o.drew.size _ | exact (HBW6.o.alloc HBW6.o.size _).drew)).mono ?_
        rintro e w5 ⟨rfl, rfl⟩)
     | (go_at_call 29
        refine (HEN.o _).mono ?_
        rintro e w5 ⟨rfl, hb5⟩
        have HB5 := Lh (show Below (wr.heap.size + 1) (wr.alloc (.cells #[υ x, υ x2] 75)) w5 by first | exact ((Below.refl _ _).drew.alloc (by simp) _).trans (hb5.mono (by simp)) | exact ((Below.refl _ _).alloc (by simp) _).drew.trans (hb5.mono (by simp)))
        have F_z := Lh (show Cl w5 (wr.heap.size + 1) [υ 0, υ 0] by first | exact (Cl.at (wr.alloc (.cells #[υ x, υ x2] 75)).drew [υ 0, υ 0] 75 _ (by simp)).keep hb5 | exact ((Cl.at (wr.alloc (.cells #[υ x, υ x2] 75)) [υ 0, υ 0] 75 _ (by simp)).drew).keep hb5)
        have z0 := F_z.o.c 0 _ rfl
        have z1 := F_z.o.c 1 _ rfl
        have zf0 := F_z.o.f 0
        have zf1 := F_z.o.f 1
        have kg0 := (F_g6.o.keepN HB5.o (by omega)).c 0 _ rfl
        have kg1 := (F_g6.o.keepN HB5.o (by omega)).c 1 _ rfl
        have kg2 := (F_g6.o.keepN HB5.o (by omega)).c 2 _ rfl
        have kr0 := (F_r6.o.keepN HB5.o (by omega)).c 0 _ rfl
        have kr1 := (F_r6.o.keepN HB5.o (by omega)).c 1 _ rfl
        have kn := (HB5.o.cell (p := ⟨s2, o2 + i, none⟩) (by show s2 < _; omega)).trans n0
        have fg0 := (((F_g6.o.keepN HB5.o (by omega)).far ⟨wr.heap.size + 1, 0, none⟩ (υ ea) (by simp <;> omega)).far ⟨wr.heap.size + 1, 1, none⟩ (υ eb) (by simp <;> omega)).c 0 _ rfl
        have fg1 := (((F_g6.o.keepN HB5.o (by omega)).far ⟨wr.heap.size + 1, 0, none⟩ (υ ea) (by simp <;> omega)).far ⟨wr.heap.size + 1, 1, none⟩ (υ eb) (by simp <;> omega)).c 1 _ rfl
        have fg2 := (((F_g6.o.keepN HB5.o (by omega)).far ⟨wr.heap.size + 1, 0, none⟩ (υ ea) (by simp <;> omega)).far ⟨wr.heap.size + 1, 1, none⟩ (υ eb) (by simp <;> omega)).c 2 _ rfl
        have fr0 := (((F_r6.o.keepN HB5.o (by omega)).far ⟨wr.heap.size + 1, 0, none⟩ (υ ea) (by simp <;> omega)).far ⟨wr.heap.size + 1, 1, none⟩ (υ eb) (by simp <;> omega)).c 0 _ rfl
        have fr1 := (((F_r6.o.keepN HB5.o (by omega)).far ⟨wr.heap.size + 1, 0, none⟩ (υ ea) (by simp <;> omega)).far ⟨wr.heap.size + 1, 1, none⟩ (υ eb) (by simp <;> omega)).c 1 _ rfl
        have fn := (show ((w5.setCell ⟨wr.heap.size + 1, 0, none⟩ (υ ea)).setCell ⟨wr.heap.size + 1, 1, none⟩ (υ eb)).cell? ⟨s2, o2 + i, none⟩ = some (υ ri) by rw [World.cell?_setCell_other _ _ _ _ (by intro e; injection e with e1 e2; omega), World.cell?_setCell_other _ _ _ _ (by intro e; injection e with e1 e2; omega)]; exact kn)
        clear hb5)
     | (go_at_call 29
        refine (HEN.o _).mono ?_
        rintro e w5 ⟨rfl, hb5⟩
        have HB5 := Lh (show Below (wr.heap.size + 1) (wr.alloc (.cells #[υ x, υ x2] 75)) w5 from (Below.refl _ _).drew.trans (hb5.mono (by simp)))
        have kg0 := (F_g6.o.keepN HB5.o (by omega)).c 0 _ rfl
        have kg1 := (F_g6.o.keepN HB5.o (by omega)).c 1 _ rfl
        have kg2 := (F_g6.o.keepN HB5.o (by omega)).c 2 _ rfl
        have kr0 := (F_r6.o.keepN HB5.o (by omega)).c 0 _ rfl
        have kr1 := (F_r6.o.keepN HB5.o (by omega)).c 1 _ rfl
        have kn := (HB5.o.cell (p := ⟨s2, o2 + i, none⟩) (by show s2 < _; omega)).trans n0
        have ug0 := ((F_g6.o.keepN HB5.o (by omega)).alloc (.cells #[υ 0, υ 0] 75)).c 0 _ rfl
        have ug1 := ((F_g6.o.keepN HB5.o (by omega)).alloc (.cells #[υ 0, υ 0] 75)).c 1 _ rfl
        have ug2 := ((F_g6.o.keepN HB5.o (by omega)).alloc (.cells #[υ 0, υ 0] 75)).c 2 _ rfl
        have ur0 := ((F_r6.o.keepN HB5.o (by omega)).alloc (.cells #[υ 0, υ 0] 75)).c 0 _ rfl
        have ur1 := ((F_r6.o.keepN HB5.o (by omega)).alloc (.cells #[υ 0, υ 0] 75)).c 1 _ rfl
        have un := (show (w5.alloc (.cells #[υ 0, υ 0] 75)).cell? ⟨s2, o2 + i, none⟩ = some (υ ri) from (World.cell?_alloc_lt _ _ _ (by show s2 < _; have := HB5.o.size; simp at this; omega)).trans kn)
        have vg0 := ((F_g6.o.keepN HB5.o (by omega)).alloc (.cells #[υ ea, υ eb] 75)).c 0 _ rfl
        have vg1 := ((F_g6.o.keepN HB5.o (by omega)).alloc (.cells #[υ ea, υ eb] 75)).c 1 _ rfl
        have vg2 := ((F_g6.o.keepN HB5.o (by omega)).alloc (.cells #[υ ea, υ eb] 75)).c 2 _ rfl
        have vr0 := ((F_r6.o.keepN HB5.o (by omega)).alloc (.cells #[υ ea, υ eb] 75)).c 0 _ rfl
        have vr1 := ((F_r6.o.keepN HB5.o (by omega)).alloc (.cells #[υ ea, υ eb] 75)).c 1 _ rfl
        have vn := (show (w5.alloc (.cells #[υ ea, υ eb] 75)).cell? ⟨s2, o2 + i, none⟩ = some (υ ri) from (World.cell?_alloc_lt _ _ _ (by show s2 < _; have := HB5.o.size; simp at this; omega)).trans kn)
        clear hb5))
    all_goals (go_wp2_with fail; go_meet)
    all_goals first
     | exact ⟨wr.heap.size, w5.heap.size, rfl, rfl, rfl, rfl, (F_s.o.keepN HB5.o (by omega)).alloc _, Cl.at w5 [υ ea, υ eb] _ _ rfl, (F_g6.o.keepN HB5.o (by omega)).alloc _, (F_v6.o.keepN HB5.o (by omega)).alloc _, (F_r6.o.keepN HB5.o (by omega)).alloc _, (HBW6.o.trans (HB5.o.mono (by omega))).alloc (HBW6.o.trans (HB5.o.mono (by omega))).size _⟩
     | exact ⟨wr.heap.size, wr.heap.size + 1, rfl, rfl, rfl, rfl, ((F_s.o.keepN HB5.o (by omega)).far _ _ (by simp)).far _ _ (by simp), (F_z.o.set (m := [υ ea, υ 0]) 0 _ (by simp) rfl).set (m := [υ ea, υ eb]) 1 _ (by simp) rfl, ((F_g6.o.keepN HB5.o (by omega)).far _ _ (by simp <;> omega)).far _ _ (by simp <;> omega), ((F_v6.o.keepN HB5.o (by omega)).far _ _ (by simp <;> omega)).far _ _ (by simp <;> omega), ((F_r6.o.keepN HB5.o (by omega)).far _ _ (by simp <;> omega)).far _ _ (by simp <;> omega), ((HBW6.o.trans (HB5.o.mono (by omega))).setCell (by simp <;> omega) _).setCell (by simp <;> omega) _⟩
   case rest =>
    clear F_g F_v F_r HBW F_g6 F_v6 F_r6 F_s HBW6 g0 g1 g2 r0 r1 e0 e1 n0 hltr hw0 hs2 g0z g1z g2z r0z r1z
    obtain ⟨B1, B2, rfl, rfl, rfl, rfl, F_s, F_e, F_g, F_v, F_r, HBW⟩ := hcut
    have s0 := F_s.o.c 0 _ rfl
    have s1 := F_s.o.c 1 _ rfl
    have c0 := F_e.o.c 0 _ rfl
    have c1 := F_e.o.c 1 _ rfl
    by_cases he : x = ea ∧ x2 = eb
    case pos =>
     have HEQ := Lh (show bs.getD i (0, 0) = encP P G y (msgS ms (i : Int)) (ns.getD i 0) by rw [HEA.o, HXY.o, he.1, he.2])
     obtain ⟨rfl, rfl⟩ := he
     go_wp2_with fail
     go_roundw
     case rel => exact ⟨i + 1, by omega, by go_num, Lh (fun t ht => by
      by_cases ht' : t < i
      · exact HPR.o t ht'
      · obtain rfl : t = i := by omega
        exact HEQ.o), F_g.o, F_v.o, F_r.o, HBW.o⟩
     case measure => simp [intOf] <;> omega
    case neg =>
     have HNE := Lh (show ¬ (∀ t, t < j → bs.getD t (0, 0) = encP P G y (msgS ms (t : Int)) (ns.getD t 0)) from fun h => he (by
      have h1 := h i hlt
      rw [HEA.o, HXY.o] at h1
      exact ⟨congrArg Prod.fst h1, congrArg Prod.snd h1⟩))
     have hne : ¬ (ea = x ∧ eb = x2) := fun h => he ⟨h.1.symm, h.2.symm⟩
     clear he
     by_cases h1 : ea = x
     case pos =>
      have h2 : ¬ eb = x2 := fun h => hne ⟨h1, h⟩
      subst h1
      clear hne
      go_wp2_with fail
      go_ret2
      exact ⟨w, .inr ⟨HOK.o, false, rfl, ⟨(fun h => (by simp at h)), (fun h => absurd h.2 HNE.o)⟩⟩, HBW.o⟩
     case neg =>
      clear hne
      go_wp2_with fail
      go_ret2
      exact ⟨w, .inr ⟨HOK.o, false, rfl, ⟨(fun h => (by simp at h)), (fun h => absurd h.2 HNE.o)⟩⟩, HBW.o⟩
open Go Go.RowKit Num Sha
def MatR (w : World) (P Q G y n : Int) (V : Vt) (R : Rv) (e : Ending) (w' : World) : Prop :=
 Below w.heap.size w w' ∧ ((chkB P Q G y n ≠ 0 ∧ e = .returned (.tuple #[.bool false, .int .i64 (chkB P Q G y n)])) ∨
  (chkB P Q G y n = 0 ∧ ((¬ rangeP Q n.toNat R ∧ e = .returned (.tuple #[.bool false, .int .i64 2])) ∨ (rangeP Q n.toNat R ∧ ∃ v : Bool, e = .returned (.tuple #[.bool v, .int .i64 0]) ∧ (v = true ↔ matchP P G y n.toNat V R)))))
set_option maxHeartbeats 8000000 in
theorem matches_any {P Q G y n : Int} {V : Vt} {R : Rv} (w : World) (hT : Tabs w) (hP : 0 ≤ P) (hQ : 0 ≤ Q) (hG : 0 ≤ G) (hy : 0 ≤ y) (hV : VtIn w V) (hR : RvIn w R) (hrn : R.n ≤ 1000) :
 Calls Tryz.prog 8 #[.agg #[υ P, υ Q, υ G], υ y, .int .i64 n, V.v, R.v] w (MatR w P Q G y n V R) := by
 by_cases hk : chkB P Q G y n = 0
 case neg =>
  refine (matches_A (bs := []) (ms := []) (ns := []) w hT hP hQ hG hy rfl hk).mono ?_
  rintro e w' ⟨rfl, hb⟩
  exact ⟨hb, .inl ⟨hk, rfl⟩⟩
 case pos =>
 obtain ⟨hH, hyP, hn1, hn2⟩ := chkB_ok hk
 obtain ⟨j, rfl⟩ : ∃ j : Nat, n = (j : Int) := ⟨n.toNat, by omega⟩
 by_cases hm : R.m = j
 case neg =>
  refine (matches_B (bs := []) (ms := []) (ns := []) w hT hP hQ hG hy hk hm).mono ?_
  rintro e w' ⟨rfl, hb⟩
  exact ⟨hb, .inr ⟨hk, .inl ⟨fun h => hm (by simpa using h.1), rfl⟩⟩⟩
 case pos =>
 have fin : ∀ (nn : Nat) e w', nn = V.n → MatJ w P Q G y j nn V.bs R.ms R.ns e w' → MatR w P Q G y (j : Int) V R e w' := by
  rintro nn e w' rfl ⟨-, h, hb⟩
  refine ⟨hb, .inr ⟨hk, ?_⟩⟩
  simp only [Int.toNat_natCast]
  rcases h with ⟨h1, rfl⟩ | ⟨h1, v, rfl, hv⟩
  · exact .inl ⟨fun h => h1 ⟨h.2.1, h.2.2⟩, rfl⟩
  · exact .inr ⟨⟨hm, h1.1, h1.2⟩, v, rfl, hv⟩
 obtain ⟨r1, r2, r3, r4, r5, r6⟩ := hR
 obtain ⟨g1, g2, g3, g4, g5, g6, g7⟩ := hV
 obtain ⟨ra, rn, rc, ms, rb, rm, rd, ns⟩ := R
 obtain ⟨a, k, c, bs, b, m, d, ps, one, z⟩ := V
 simp only at *
 subst hm
 by_cases hn : k = rm
 case neg => exact (matches_C (rm := 0) w hT hP hQ hG hy hk hn r1 r4 hrn (by omega)).mono fun e w' h => fin _ e w' rfl h
 case pos =>
  subst hn
  exact (matches_D (n := 0) (rm := 0) w hT hP hQ hG hy hk g1 g2 r1 r4 r5 hrn (by omega)).mono fun e w' h => fin _ e w' rfl h
open Num
open Go.RowKit Num Sha
theorem cancel {P w x y : Int} (e : x * y % P = 1) (w0 : 0 ≤ w) (wP : w < P) : w * x % P * y % P = w := by
 have h : Cg P (w * x % P * y) w := by
  refine (Cg.mul_right y (cg_emod P _)).trans ?_
  rw [Int.mul_assoc]
  refine (Cg.mul_left w ((cg_emod P (x * y)).symm.trans (Cg.of_eq e))).trans (Cg.of_eq (Int.mul_one w))
 rw [h.emod_eq, Int.emod_eq_of_lt w0 wP]
theorem BitZ.other {P Q G y m r k c z r0 r1 s0 s1 c0 c1 z0 z1 : Int} {T : List Int} (h : BitZ P Q G y m r k c z T r0 r1 s0 s1 c0 c1 z0 z1) : (m = 0 → c1 = c ∧ z1 = z) ∧ (m ≠ 0 → c0 = c ∧ z0 = z) := by
 obtain ⟨_, _, _, _, _, _, _, _, _, _, _, _, _, _, _, _, _, _, _, _, _, _, _, _, _, _, _, _, _, _, _, _, _, _, e⟩ := h
 constructor
 · intro hm; rw [if_pos hm] at e; exact ⟨e.2.2.2.2.2.1, e.2.2.2.2.2.2.2⟩
 · intro hm; rw [if_neg hm] at e; exact ⟨e.2.2.2.2.1, e.2.2.2.2.2.2.1⟩
open Go Go.RowKit Num Sha
def BitZb (P Q G y m r k c z : Int) (T : List Int) (b : Bt) : Prop := BitZ P Q G y m r k c z T b.r0 b.r1 b.s0 b.s1 b.c0 b.c1 b.z0 b.z1
def sumE (Q : Int) (d : List Int) : Nat → Int
 | 0 => 0
 | k + 1 => (sumE Q d k + d.getD (4 * k) 0) % Q
structure SealV (P Q G y : Int) (n : Nat) (ms : List Int) (one : Bool) (d : List Int) (V : Vt) (R : Rv) : Prop where
 en : V.n = n
 em : V.m = n
 eo : V.one = one
 bl : V.bs.length = n
 eb : ∀ i, i < n → V.bs.getD i (0, 0) = encP P G y (msgS ms (i : Int)) (d.getD (4 * i) 0)
 ep : ∀ i, i < n → BitZb P Q G y (msgS ms (i : Int)) (d.getD (4 * i) 0) (d.getD (4 * i + 1) 0) (d.getD (4 * i + 2) 0) (d.getD (4 * i + 3) 0) [(i : Int)] (V.ps.getD i Bt.zero)
 ez : (one = true ∧ BitZb P Q G y (ms.length : Int) (sumE Q d n) (d.getD (4 * n) 0) (d.getD (4 * n + 1) 0) (d.getD (4 * n + 2) 0) [255] V.z) ∨ (one = false ∧ V.z = Bt.zero)
 ern : R.n = ms.length
 erms : R.ms = ms
 erm : R.m = n
 erns : R.ns = (List.range n).map fun i => d.getD (4 * i) 0
def msum (ms : List Int) : Nat → Int
 | 0 => 0
 | k + 1 => msum ms k + msgS ms (k : Int)
def dsum (d : List Int) : Nat → Int
 | 0 => 0
 | k + 1 => dsum d k + d.getD (4 * k) 0
open Go Go.RowKit Num Sha
set_option maxHeartbeats 8000000 in
theorem sealedClone_any {a : Option Addr} {n c : Nat} {ps : List (Int × Int)} (w : World) (h : ShS w a n ps) (hc : a = none → c = 0) (hn : n ≤ 10000) :
 Calls Tryz.prog 88 #[.slice a n c] w fun e w' => ∃ v, e = .returned v ∧ w'.ownsRow w.heap.size 75 2 v n (flatS ps) ∧ Below w.heap.size w w' := by
 obtain ⟨i0, hi, hz0, hz1, hz2⟩ := info_parts (P := Tryz.prog) (e := 75) (z := .agg #[υ 0, υ 0]) (size := 2) (bytes := 16) (by kernel_rfl)
 have HS := Lh h
 have HLN := Lh h.len
 have qT : ∀ (w : World) (a : Option Addr) (n c n' c' : Nat), (binOp .eql 27 (.slice a n c) (.slice none n' c')).run Tryz.prog w = .ok (.bool a.isNone) w := fun w a n c n' c' => Lib.run_eql_slice_nil w _ _ a n c n' c' Tryz.underlying27
 cases a with
 | none =>
  have hz : n = 0 ∧ ps = [] := by
   rcases h with ⟨h1, h2⟩ | ⟨s, o, h0, -⟩
   · exact ⟨h1, h2⟩
   · cases h0
  obtain ⟨rfl, rfl⟩ := hz
  obtain rfl : c = 0 := hc rfl
  go_enter Tryz.func88, Tryz.ntmps88
  go_wp2_with fail
  go_ret
  exact ⟨_, rfl, World.ownsRow_nil _ _ _ _, Below.refl _ _⟩
 | some ad =>
  have HL := Lh (show (flatS ps).length = n * 2 by rw [flatS_length, ← h.len])
  clear h
  go_enter Tryz.func88, Tryz.ntmps88
  go_wp2_with (at_builtin; refine wpList_append_own _ rfl _ _ 27 rfl w.heap.size 75 i0 _ 2 16 Tryz.underlying27 hi hz0 hz1 hz2 rfl (by decide) _ 0 [] rfl (World.ownsRow_lit w #[] 0 (Nat.le_refl _) (by decide) rfl) ad n c (flatS ps) rfl HL.o (HS.o.keep ((Below.refl _ _).alloc (Nat.le_refl _) _)).cells (flatS_one ps) (by unfold maxLen; omega) (by omega) (by simp) ?_; intro v' w1 hown hgr hnil; have HOWN := Lh hown; have HGR := Lh hgr; clear hown hgr hnil)
  go_ret
  have hb := Below.rowT (n := w.heap.size) HGR.o (fun j hj => by have e : some w.heap.size = some j := hj; injection e with e; omega) (by simp)
  refine ⟨_, rfl, ?_, ((Below.refl _ _).alloc (Nat.le_refl _) _).trans hb⟩
  have h9 := HOWN.o
  rw [Nat.zero_add, List.nil_append] at h9
  exact h9
set_option maxHeartbeats 8000000 in
theorem intClone_any {a : Option Addr} {n c : Nat} {ps : List Int} (w : World) (h : ShI .i64 w a n ps) (hc : a = none → c = 0) (hn : n ≤ 10000) :
 Calls Tryz.prog 27 #[.slice a n c] w fun e w' => ∃ v, e = .returned v ∧ w'.ownsRow w.heap.size 3 1 v n (ps.map (Value.int .i64)) ∧ Below w.heap.size w w' := by
 obtain ⟨i0, hi, hz0, hz1, hz2⟩ := info_parts (P := Tryz.prog) (e := 3) (z := .int .i64 0) (size := 1) (bytes := 8) (by kernel_rfl)
 have HS := Lh h
 have HLN := Lh h.len
 have qT : ∀ (w : World) (a : Option Addr) (n c n' c' : Nat), (binOp .eql 25 (.slice a n c) (.slice none n' c')).run Tryz.prog w = .ok (.bool a.isNone) w := fun w a n c n' c' => Lib.run_eql_slice_nil w _ _ a n c n' c' Tryz.underlying25
 cases a with
 | none =>
  have hz : n = 0 ∧ ps = [] := by
   rcases h with ⟨h1, h2⟩ | ⟨s, o, h0, -⟩
   · exact ⟨h1, h2⟩
   · cases h0
  obtain ⟨rfl, rfl⟩ := hz
  obtain rfl : c = 0 := hc rfl
  go_enter Tryz.func27, Tryz.ntmps27
  go_wp2_with fail
  go_ret
  exact ⟨_, rfl, World.ownsRow_nil _ _ _ _, Below.refl _ _⟩
 | some ad =>
  have HL := Lh (show (ps.map (Value.int .i64)).length = n * 1 by rw [List.length_map, ← h.len, Nat.mul_one])
  clear h
  go_enter Tryz.func27, Tryz.ntmps27
  go_wp2_with (at_builtin; refine wpList_append_own _ rfl _ _ 25 rfl w.heap.size 3 i0 _ 1 8 Tryz.underlying25 hi hz0 hz1 hz2 rfl (by decide) _ 0 [] rfl (World.ownsRow_lit w #[] 0 (Nat.le_refl _) (by decide) rfl) ad n c (ps.map (Value.int .i64)) rfl HL.o (HS.o.keep ((Below.refl _ _).alloc (Nat.le_refl _) _)).cells (fun u hu => by obtain ⟨x, -, rfl⟩ := List.mem_map.1 hu; rfl) (by unfold maxLen; omega) (by omega) (by simp) ?_; intro v' w1 hown hgr hnil; have HOWN := Lh hown; have HGR := Lh hgr; clear hown hgr hnil)
  go_ret
  have hb := Below.rowT (n := w.heap.size) HGR.o (fun j hj => by have e : some w.heap.size = some j := hj; injection e with e; omega) (by simp)
  refine ⟨_, rfl, ?_, ((Below.refl _ _).alloc (Nat.le_refl _) _).trans hb⟩
  have h9 := HOWN.o
  rw [Nat.zero_add, List.nil_append] at h9
  exact h9
set_option maxHeartbeats 8000000 in
theorem u64Clone_any {a : Option Addr} {n c : Nat} {ps : List Int} (w : World) (h : ShI .u64 w a n ps) (hc : a = none → c = 0) (hn : n ≤ 10000) :
 Calls Tryz.prog 91 #[.slice a n c] w fun e w' => ∃ v, e = .returned v ∧ w'.ownsRow w.heap.size 22 1 v n (ps.map (Value.int .u64)) ∧ Below w.heap.size w w' := by
 obtain ⟨i0, hi, hz0, hz1, hz2⟩ := info_parts (P := Tryz.prog) (e := 22) (z := υ 0) (size := 1) (bytes := 8) (by kernel_rfl)
 have HS := Lh h
 have HLN := Lh h.len
 have qT : ∀ (w : World) (a : Option Addr) (n c n' c' : Nat), (binOp .eql 34 (.slice a n c) (.slice none n' c')).run Tryz.prog w = .ok (.bool a.isNone) w := fun w a n c n' c' => Lib.run_eql_slice_nil w _ _ a n c n' c' Tryz.underlying34
 cases a with
 | none =>
  have hz : n = 0 ∧ ps = [] := by
   rcases h with ⟨h1, h2⟩ | ⟨s, o, h0, -⟩
   · exact ⟨h1, h2⟩
   · cases h0
  obtain ⟨rfl, rfl⟩ := hz
  obtain rfl : c = 0 := hc rfl
  go_enter Tryz.func91, Tryz.ntmps91
  go_wp2_with fail
  go_ret
  exact ⟨_, rfl, World.ownsRow_nil _ _ _ _, Below.refl _ _⟩
 | some ad =>
  have HL := Lh (show (ps.map (Value.int .u64)).length = n * 1 by rw [List.length_map, ← h.len, Nat.mul_one])
  clear h
  go_enter Tryz.func91, Tryz.ntmps91
  go_wp2_with (at_builtin; refine wpList_append_own _ rfl _ _ 34 rfl w.heap.size 22 i0 _ 1 8 Tryz.underlying34 hi hz0 hz1 hz2 rfl (by decide) _ 0 [] rfl (World.ownsRow_lit w #[] 0 (Nat.le_refl _) (by decide) rfl) ad n c (ps.map (Value.int .u64)) rfl HL.o (HS.o.keep ((Below.refl _ _).alloc (Nat.le_refl _) _)).cells (fun u hu => by obtain ⟨x, -, rfl⟩ := List.mem_map.1 hu; rfl) (by unfold maxLen; omega) (by omega) (by simp) ?_; intro v' w1 hown hgr hnil; have HOWN := Lh hown; have HGR := Lh hgr; clear hown hgr hnil)
  go_ret
  have hb := Below.rowT (n := w.heap.size) HGR.o (fun j hj => by have e : some w.heap.size = some j := hj; injection e with e; omega) (by simp)
  refine ⟨_, rfl, ?_, ((Below.refl _ _).alloc (Nat.le_refl _) _).trans hb⟩
  have h9 := HOWN.o
  rw [Nat.zero_add, List.nil_append] at h9
  exact h9
theorem res_vote1 {w : World} {fn : Func} {c : Tmp} {b : Nat} {a0 a1 : Option Addr} {n0 n1 c0 c1 : Nat} {o2 : Bool} {i3 i4 i5 i6 i7 i8 i9 i10 : Int} (h : fn.results = #[.cell c 33]) (hp : Cl w b [.slice a0 n0 c0, .slice a1 n1 c1, .bool o2, υ i3, υ i4, υ i5, υ i6, υ i7, υ i8, υ i9, υ i10]) (tmps : Array Value)
 (hc : tmps[c]?.getD undef = .pointer (some ⟨b, 0, none⟩)) : (results fn tmps).run Tryz.prog w = .ok (.agg #[.slice a0 n0 c0, .slice a1 n1 c1, .bool o2, υ i3, υ i4, υ i5, υ i6, υ i7, υ i8, υ i9, υ i10]) w := by
 obtain ⟨⟨q0, q1, q2, q3, q4, q5, q6, q7, q8, q9, q10⟩, -⟩ := hp.k11
 simp [results, h, hc, go_sem, q0, q1, q2, q3, q4, q5, q6, q7, q8, q9, q10]
def SameV (U V : Vt) : Prop := U.n = V.n ∧ U.bs = V.bs ∧ U.m = V.m ∧ U.ps = V.ps ∧ U.one = V.one ∧ U.z = V.z
def SameR (R T : Rv) : Prop := R.n = T.n ∧ R.ms = T.ms ∧ R.m = T.m ∧ R.ns = T.ns
open Go Go.RowKit Num Sha
theorem ShI.of_owned2 {q : IntKind} {w : World} {base : Nat} {e : TypeId} {v : Value} {n : Nat} {xs : List Int} (h : w.ownsRow base e 1 v n (xs.map (Value.int q))) : ∃ a c, v = .slice a n c ∧ ShI q w a n xs ∧ (a = none → c = 0) := by
 obtain ⟨a, c, rfl, h1⟩ := ShI.of_owned h
 refine ⟨a, c, rfl, h1, fun e => ?_⟩
 subst e
 rcases h.2 with ⟨h2, _⟩ | ⟨g, cap, cur, h2, _⟩
 · injection h2
 · injection h2 with h3; cases h3
theorem res_rev1 {w : World} {fn : Func} {c : Tmp} {b : Nat} {a0 a1 : Option Addr} {n0 n1 c0 c1 : Nat} (h : fn.results = #[.cell c 36]) (hp : Cl w b [.slice a0 n0 c0, .slice a1 n1 c1]) (tmps : Array Value)
 (hc : tmps[c]?.getD undef = .pointer (some ⟨b, 0, none⟩)) : (results fn tmps).run Tryz.prog w = .ok (.agg #[.slice a0 n0 c0, .slice a1 n1 c1]) w := by
 have q0 := hp.c 0 _ rfl
 have q1 := hp.c 1 _ rfl
 simp [results, h, hc, go_sem, q0, q1]
open Go Go.ChangeShapes Go.WideShapes Go.ChangeAt Go.RowKit Num Sha
abbrev laidL : List (String × DataW Unit) := [("suffrage/digest.k", Rows.laid_suffrage_digest_k), ("suffrage/digest.first", Rows.laid_suffrage_digest_first)]
theorem door_met (os : Os) (args : Array Value) : laidMetH Tryz.prog laidL ((World.doorLaid Tryz.prog 19 os).forCall (fun _ _ => 0) ⟨#[], args, []⟩).memory :=
 laidMetH_of_parts3 (fuel := 8) (laidMet_of_run' 8 (by kernel_rfl) (by kernel_rfl)) (by kernel_rfl) (by kernel_rfl)
theorem cells_of_array {P : Program} {W : World} {t e : TypeId} {n : Nat} {k : IntKind} {H : Type} {enc : TypeId × Value → H} {base fuel : Nat} {spare : Nat → Bool} {held : Bool} {cs : Array Value} {x : DataW H × List MemPlace} {zs : List Int}
 (ht : P.underlying t = some (.array n e)) (he : P.underlying e = some (.int k)) (hc : P.cellsOf e = 1) (hd : DataW.trod enc P W base spare held fuel t cs.toList = some x) (hx : x.1 = .agg (zs.map fun z => .lit (.int k z))) :
 ∀ i, i < zs.length → cs[i]? = some (.int k (zs.getD i 0)) := by
 obtain ⟨xs, m, rfl, rfl, hl, hn, hf⟩ := DataW.trod_array ht hd
 intro i hi
 simp only [DataW.agg.injEq] at hx
 have hlen : xs.length = zs.length := by have := congrArg List.length hx; simpa using this
 have h1 := hf i (by omega)
 rw [hc, Nat.mul_one, List.getElem?_eq_getElem (by omega : i < xs.length)] at h1
 obtain ⟨z, e1, e2, -⟩ := DataW.trod_int he h1
 have h2 : (xs.map (·.1))[i]? = (zs.map fun z => (DataW.lit (.int k z) : DataW H))[i]? := by rw [hx]
 rw [List.getElem?_map, List.getElem?_map, List.getElem?_eq_getElem (by omega : i < xs.length), List.getElem?_eq_getElem hi, Option.map_some, Option.map_some, e2] at h2
 simp only [Option.some.injEq, DataW.lit.injEq, Lit.int.injEq, true_and] at h2
 have h3 : cs.toList[i]? = some (.int k z) := by
  have h4 : ((cs.toList.drop i).take 1)[0]? = some (.int k z) := by rw [e1]; rfl
  rw [List.getElem?_take_of_lt (by decide), List.getElem?_drop, Nat.add_zero] at h4
  exact h4
 rw [← Array.getElem?_toList, h3, h2, List.getD_eq_getElem?_getD, List.getElem?_eq_getElem hi]
 rfl
theorem gK : Tryz.prog.globalNamed "suffrage/digest.k" = some 1 := by kernel_rfl
theorem gF : Tryz.prog.globalNamed "suffrage/digest.first" = some 0 := by kernel_rfl
theorem tK : (Tryz.prog.globals[1]?).map (·.type) = some 209 := by kernel_rfl
theorem tF : (Tryz.prog.globals[0]?).map (·.type) = some 191 := by kernel_rfl
theorem tabs_of_laid {W : World} (h : laidMetH Tryz.prog laidL W) : Tabs W := by
 rw [MakeChecks.laidMetH_plain _ _ _ (by kernel_rfl)] at h
 obtain ⟨ps, ⟨g0, t0, cs0, f0, p0, q0, hg0, ht0, hv0, hd0, ⟨g1, t1, cs1, f1, p1, q1, hg1, ht1, hv1, hd1, _, _⟩, _⟩, _, _⟩ := h
 obtain rfl := Option.some.inj (gK.symm.trans hg0)
 obtain rfl := Option.some.inj (gF.symm.trans hg1)
 obtain rfl := Option.some.inj (tK.symm.trans ht0)
 obtain rfl := Option.some.inj (tF.symm.trans ht1)
 have hk := cells_of_array (zs := kTab) Tryz.underlying209 Tryz.underlying108 (by kernel_rfl) hd0 rfl
 have hf := cells_of_array (zs := firstS.l) Tryz.underlying191 Tryz.underlying108 (by kernel_rfl) hd1 rfl
 have ck : ∀ t, t < 64 → W.cell? ⟨1, t, none⟩ = some (.int .u32 (kAt t)) := fun t ht => (World.var?_cell hg0 hv0 t).trans (hk t ht)
 have cf : ∀ i, i < 8 → W.cell? ⟨0, i, none⟩ = some (.int .u32 (firstS.l.getD i 0)) := fun i hi => (World.var?_cell hg1 hv1 i).trans (hf i hi)
 exact ⟨ck, cf, World.block_lt_of_cell? W _ (ck 0 (by decide)), World.block_lt_of_cell? W _ (cf 0 (by decide))⟩
section
variable {H : Type} {enc : TypeId × Value → H} {w : World} {base : Nat} {held : Bool} {r : Reach} {b0 : Nat} {v : Value} {d : DataW H} {p : List MemPlace}
end
open Go Go.ChangeShapes Go.WideShapes Go.ChangeAt Go.RowKit Num Sha
theorem open_vote {H : Type} {enc : TypeId × Value → H} {w : World} {base : Nat} {held : Bool} {r : Reach} {b0 : Nat} {v : Value} {d : DataW H} {p : List MemPlace} (hv : Value.okWide Tryz.prog w r b0 33 v) (h : DataW.Trod enc Tryz.prog w base (fun _ => true) held 33 v d p) :
 ∃ V : Vt, v = V.v ∧ VtIn w V := by
 obtain ⟨cs, rfl, hsz⟩ := okWide_struct Tryz.underlying33 hv
 obtain ⟨fuel, hf⟩ := h
 simp only [Value.cells] at hf
 have h2 : cs.toList.length = 11 := by rw [Array.length_toList, hsz]; kernel_rfl
 obtain ⟨V, hl, hV⟩ := vote_cells h2 hf
 refine ⟨V, ?_, hV⟩
 unfold Vt.v
 congr 1
 exact Array.toList_inj.1 hl
open Go Go.RowKit Num Sha
theorem wpL_loadArrG {P : Program} {w : World} {o : Oper} {ops : Array Oper} {rest : List Oper} {a : Act} {Q : Exit → Act → World → Prop} (hw : Region.wanted o (yielded ops a.tmps) = true) (t : TypeId) (k : IntKind) (p : Operand) (b : Nat) (xs : List Int) (n : Nat) (e : TypeId) (ho : o.op = .load t p) (hp : a.eval p = .pointer (some ⟨b, 0, none⟩)) (hu : P.underlying t = some (.array n e))
 (hi : (P.info? t).map (·.size) = some xs.length) (hA : Arr k w b xs) (h : wpList P ops Q rest (a.put o.dst (.agg (valV k xs))) w) : wpList P ops Q (o :: rest) a w :=
 wpList_step fun K hK => by rw [if_pos hw]; exact wp_loadArr t k p b xs n e ho hp hu hi hA (hK _ _ h)
open Go Go.RowKit Num Sha
set_option maxHeartbeats 8000000 in
theorem grow_nil (w : World) :
 Calls Tryz.prog 123 #[.slice none 0 0, .int .i64 0] w fun e w' => e = .returned (.slice none 0 0) ∧ w' = w := by
 go_enter Tryz.func123, Tryz.ntmps123
 go_wp2_with fail
 go_ret
 exact ⟨rfl, rfl⟩
open Go Go.RowKit Num Sha
def admE (P Q G y n : Int) (one : Bool) (V : Vt) (e : Int) : Prop := (chkB P Q G y n ≠ 0 ∧ e = chkB P Q G y n) ∨
 (chkB P Q G y n = 0 ∧ (((V.one = one ∧ validP P Q G y n.toNat V) ∧ e = 0) ∨ (¬ (V.one = one ∧ validP P Q G y n.toNat V) ∧ e = 360)))
theorem codeF_len {V : Vt} {er : Int} {cs : List Int} (h : codeF V = (er, cs)) : cs.length = 32 := by
 unfold codeF at h
 split at h
 · obtain ⟨-, rfl⟩ := Prod.mk.inj h; rfl
 · obtain ⟨-, rfl⟩ := Prod.mk.inj h; exact shaS_len _
theorem Laid.arr0 {k : IntKind} {w w' : World} {b : Nat} {xs ys : List Int} (h : Laid k w w' b 0 xs) (ha : Arr k w b ys) : Arr k w' b xs :=
 ⟨fun i hi => by have := h.row i hi; rwa [Nat.zero_add] at this, fun i => (h.frozen _).trans (ha.f i), by rw [h.size]; exact ha.lt⟩
end Go.Proofs.YtlbldpkgnonbpaaGreatDoor
