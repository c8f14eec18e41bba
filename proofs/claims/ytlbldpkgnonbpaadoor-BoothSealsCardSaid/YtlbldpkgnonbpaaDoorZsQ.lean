/- booth.Matches: the loop. -/
import Derived.Test.YtlbldpkgnonbpaaDoorZsP
import Derived.Test.YtlbldpkgnonbpaaDoorZsB
import Derived.Test.YtlbldpkgnonbpaaDoorZsO
namespace Go.Proofs.YtlbldpkgnonbpaaDoor
open Go Go.RowKit Num Sha
set_option linter.unusedSimpArgs false
set_option linter.unusedVariables false

set_option maxRecDepth 100000 in
set_option maxHeartbeats 8000000 in
theorem matches_D {P Q G y : Int} {a b ra rb : Option Addr} {n c m d rn rc rm rd : Nat} {bs : List (Int × Int)} {one : Bool} {z : Bt} {ms ns : List Int} {j : Nat} (w : World) (hT : Tabs w) (hP : 0 ≤ P) (hQ : 0 ≤ Q) (hG : 0 ≤ G) (hy : 0 ≤ y) (hk : chkB P Q G y (j : Int) = 0) (hs1 : ShS w a j bs) (us : ∀ q, q ∈ bs → U64 q.1 ∧ U64 q.2) (hr1 : ShI .i64 w ra rn ms) (hr2 : ShI .u64 w rb j ns) (un : ∀ x, x ∈ ns → U64 x) (hrn : rn ≤ 1000) (hj : j ≤ 10) :
    Calls Tryd.prog 26 #[.agg #[.int .u64 P, .int .u64 Q, .int .u64 G], .int .u64 y, .int .i64 (j : Int), .agg #[.slice a j c, .slice b m d, .bool one, .int .u64 z.r0, .int .u64 z.r1, .int .u64 z.s0, .int .u64 z.s1, .int .u64 z.c0, .int .u64 z.c1, .int .u64 z.z0, .int .u64 z.z1], .agg #[.slice ra rn rc, .slice rb j rd]] w (MatJ w P Q G y j j bs ms ns) := by
  obtain ⟨hH, hyP, hj1, -⟩ := chkB_ok hk
  have HH := Lib.hid hH
  have HYP := Lib.hid hyP
  have HT := Lib.hid hT
  have HS1 := Lib.hid hs1
  have US := Lib.hid us
  have UN := Lib.hid un
  have HQ2 := Lib.hid (show 2 ≤ Q by obtain ⟨p5, p3, hQ, pq, g2, gP⟩ := id hH; omega)
  obtain ⟨s, o, hsa, -⟩ := hs1.at 0 (by omega)
  obtain ⟨s2, o2, hsb⟩ : ∃ s o, rb = some ⟨s, o, none⟩ := by
    rcases hr2 with ⟨h1, _⟩ | ⟨s, o, h0, _⟩
    · omega
    · exact ⟨s, o, h0⟩
  subst hsa hsb
  clear hH hyP hT hs1 us un
  have HK := Lib.hid hk
  have HR1 := Lib.hid hr1
  have HR2 := Lib.hid hr2
  clear hk hr1 hr2
  have F_g := Lib.hid (show Cl (((w.alloc (.cells #[.int .u64 P, .int .u64 Q, .int .u64 G] 49)).alloc (.cells #[.slice (some ⟨s, o, none⟩) j c, .slice b m d, .bool one, .int .u64 z.r0, .int .u64 z.r1, .int .u64 z.s0, .int .u64 z.s1, .int .u64 z.c0, .int .u64 z.c1, .int .u64 z.z0, .int .u64 z.z1] 29)).alloc (.cells #[.slice ra rn rc, .slice (some ⟨s2, o2, none⟩) j rd] 57)) w.heap.size [.int .u64 P, .int .u64 Q, .int .u64 G] from ((Cl.at w [.int .u64 P, .int .u64 Q, .int .u64 G] _ w.heap.size rfl).alloc _).alloc _)
  have F_v := Lib.hid (show Cl (((w.alloc (.cells #[.int .u64 P, .int .u64 Q, .int .u64 G] 49)).alloc (.cells #[.slice (some ⟨s, o, none⟩) j c, .slice b m d, .bool one, .int .u64 z.r0, .int .u64 z.r1, .int .u64 z.s0, .int .u64 z.s1, .int .u64 z.c0, .int .u64 z.c1, .int .u64 z.z0, .int .u64 z.z1] 29)).alloc (.cells #[.slice ra rn rc, .slice (some ⟨s2, o2, none⟩) j rd] 57)) (w.heap.size + 1) [.slice (some ⟨s, o, none⟩) j c, .slice b m d, .bool one, .int .u64 z.r0, .int .u64 z.r1, .int .u64 z.s0, .int .u64 z.s1, .int .u64 z.c0, .int .u64 z.c1, .int .u64 z.z0, .int .u64 z.z1] from (Cl.at (w.alloc (.cells #[.int .u64 P, .int .u64 Q, .int .u64 G] 49)) [.slice (some ⟨s, o, none⟩) j c, .slice b m d, .bool one, .int .u64 z.r0, .int .u64 z.r1, .int .u64 z.s0, .int .u64 z.s1, .int .u64 z.c0, .int .u64 z.c1, .int .u64 z.z0, .int .u64 z.z1] _ (w.heap.size + 1) (by simp)).alloc _)
  have F_r := Lib.hid (show Cl (((w.alloc (.cells #[.int .u64 P, .int .u64 Q, .int .u64 G] 49)).alloc (.cells #[.slice (some ⟨s, o, none⟩) j c, .slice b m d, .bool one, .int .u64 z.r0, .int .u64 z.r1, .int .u64 z.s0, .int .u64 z.s1, .int .u64 z.c0, .int .u64 z.c1, .int .u64 z.z0, .int .u64 z.z1] 29)).alloc (.cells #[.slice ra rn rc, .slice (some ⟨s2, o2, none⟩) j rd] 57)) (w.heap.size + 1 + 1) [.slice ra rn rc, .slice (some ⟨s2, o2, none⟩) j rd] from Cl.at ((w.alloc (.cells #[.int .u64 P, .int .u64 Q, .int .u64 G] 49)).alloc (.cells #[.slice (some ⟨s, o, none⟩) j c, .slice b m d, .bool one, .int .u64 z.r0, .int .u64 z.r1, .int .u64 z.s0, .int .u64 z.s1, .int .u64 z.c0, .int .u64 z.c1, .int .u64 z.z0, .int .u64 z.z1] 29)) [.slice ra rn rc, .slice (some ⟨s2, o2, none⟩) j rd] _ (w.heap.size + 1 + 1) (by simp))
  have HBW := Lib.hid (show Below w.heap.size w (((w.alloc (.cells #[.int .u64 P, .int .u64 Q, .int .u64 G] 49)).alloc (.cells #[.slice (some ⟨s, o, none⟩) j c, .slice b m d, .bool one, .int .u64 z.r0, .int .u64 z.r1, .int .u64 z.s0, .int .u64 z.s1, .int .u64 z.c0, .int .u64 z.c1, .int .u64 z.z0, .int .u64 z.z1] 29)).alloc (.cells #[.slice ra rn rc, .slice (some ⟨s2, o2, none⟩) j rd] 57)) from (((Below.refl _ _).alloc (Nat.le_refl _) _).alloc (by simp) _).alloc (by simp <;> omega) _)
  have g0 := F_g.out.c 0 _ rfl
  have g1 := F_g.out.c 1 _ rfl
  have g2 := F_g.out.c 2 _ rfl
  go_enter Tryd.func26, Tryd.ntmps26
  go_wp2_with fail
  clear g0 g1 g2
  refine (bcheck_any _ hP hQ hG hy).mono ?_
  rintro e w1 ⟨rfl, hb1⟩
  replace F_g := Lib.hid (F_g.out.keep hb1)
  replace F_v := Lib.hid (F_v.out.keep hb1)
  replace F_r := Lib.hid (F_r.out.keep hb1)
  replace HBW := Lib.hid (HBW.out.trans (hb1.mono HBW.out.size))
  clear hb1
  rw [HK.out]
  have g1 := F_g.out.c 1 _ rfl
  have r0 := F_r.out.c 0 _ rfl
  have r1 := F_r.out.c 1 _ rfl
  have HC1 := Lib.hid g1
  clear g1
  obtain ⟨gr, hgr⟩ := Prop.bool (∃ x, x ∈ ns ∧ Q ≤ x)
  have HGR := Lib.hid hgr
  clear hgr
  go_wp2_with fail
  refine (containsF_any (v := gr) _ HC1.out (HR2.out.keep HBW.out) (by omega) HGR.out).mono ?_
  rintro e w2 ⟨rfl, rfl⟩
  cases gr with
  | true =>
    go_wp2_with fail
    go_ret2
    exact ⟨w2, .inl ⟨fun h => h.1 (HGR.out.1 (by simp)), rfl⟩, HBW.out⟩
  | false =>
  go_wp2_with fail
  refine (marked_any _ (HR1.out.keep HBW.out) (by omega)).mono ?_
  rintro e w3 ⟨rfl, rfl⟩
  obtain ⟨mk, hmk⟩ : ∃ mk, markedS (j : Int) ms = mk := ⟨_, rfl⟩
  have HMK := Lib.hid hmk
  rw [hmk]
  clear hmk
  cases mk with
  | false =>
    go_wp2_with fail
    go_ret2
    exact ⟨w3, .inl ⟨(fun h => (by have h2 := HMK.out.symm.trans h.2; simp at h2)), rfl⟩, HBW.out⟩
  | true =>
  obtain ⟨⟨q0, q1, q2, q3, q4, q5, q6, q7, q8, q9, q10⟩, -⟩ := F_v.out.k11
  have HOK := Lib.hid (show (¬ ∃ x, x ∈ ns ∧ Q ≤ x) ∧ markedS (j : Int) ms = true from ⟨(fun h => (by have h2 := HGR.out.2 h; simp at h2)), HMK.out⟩)
  go_wp2_with fail
  clear q0 q1 q2 q3 q4 q5 q6 q7 q8 q9 q10 r0 r1 HC1 HGR HMK
  go_loopw [52] (fun c52 wr => ∃ i : Nat, i ≤ j ∧ c52 = .int .i64 i ∧ Hid (∀ t, t < i → bs.getD t (0, 0) = encP P G y (msgS ms (t : Int)) (ns.getD t 0)) ∧ Hid (Cl wr w.heap.size [.int .u64 P, .int .u64 Q, .int .u64 G]) ∧ Hid (Cl wr (w.heap.size + 1) [.slice (some ⟨s, o, none⟩) j c, .slice b m d, .bool one, .int .u64 z.r0, .int .u64 z.r1, .int .u64 z.s0, .int .u64 z.s1, .int .u64 z.c0, .int .u64 z.c1, .int .u64 z.z0, .int .u64 z.z1]) ∧ Hid (Cl wr (w.heap.size + 1 + 1) [.slice ra rn rc, .slice (some ⟨s2, o2, none⟩) j rd]) ∧ Hid (Below w.heap.size w wr)) (fun c52 _ => j - (intOf c52).toNat)
  case atStart => exact ⟨0, by omega, rfl, Lib.hid (fun t ht => by omega), F_g.out, F_v.out, F_r.out, HBW.out⟩
  case round =>
    clear F_g F_v F_r HBW
    obtain ⟨i, hi, rfl, HPR, F_g, F_v, F_r, HBW⟩ := hrel
    by_cases hlt : i < j
    case neg =>
      obtain rfl : i = j := by omega
      have hd : decide ((i : Int) < (i : Int)) = false := decide_eq_false (by omega)
      go_wp2_with fail
      go_ret2
      exact ⟨w, .inr ⟨HOK.out, true, rfl, ⟨(fun _ => ⟨rfl, HPR.out⟩), (fun _ => rfl)⟩⟩, HBW.out⟩
    case pos =>
      have hd : decide ((i : Int) < (j : Int)) = true := decide_eq_true (by omega)
      have hi0 : (0 : Int) ≤ (i : Int) := by omega
      have hi2 : (i : Int) < (j : Int) := by omega
      have hwi : IntKind.i64.wrap ((i : Int) + 1) = (i : Int) + 1 := IntWalk.i64_in _ (by omega)
      have cS : Tryd.prog.cellsOf 78 = 2 := by kernel_rfl
      obtain ⟨s1, o1, hsa, hsl, e0, e1⟩ := (HS1.out.keep HBW.out).at i hlt
      injection hsa with hsa; injection hsa with ea eb _; subst ea eb
      obtain ⟨x, x2, hxy⟩ : ∃ x y, bs.getD i (0, 0) = (x, y) := ⟨_, _, rfl⟩
      rw [hxy] at e0 e1
      simp only at e0 e1
      have HXY := Lib.hid hxy
      have hltr := F_r.out.lt
      have hw0 := HBW.out.size
      have HBW6 := Lib.hid (HBW.out.alloc HBW.out.size (.cells #[.int .u64 x, .int .u64 x2] 78))
      have F_g6 := Lib.hid (F_g.out.alloc (.cells #[.int .u64 x, .int .u64 x2] 78))
      have F_v6 := Lib.hid (F_v.out.alloc (.cells #[.int .u64 x, .int .u64 x2] 78))
      have F_r6 := Lib.hid (F_r.out.alloc (.cells #[.int .u64 x, .int .u64 x2] 78))
      have F_s := Lib.hid (Cl.at wr [.int .u64 x, .int .u64 x2] 78 wr.heap.size rfl)
      obtain ⟨ri, hri⟩ : ∃ ri, ns.getD i 0 = ri := ⟨_, rfl⟩
      have hrl : i < ns.length := by rw [← HR2.out.len]; exact hlt
      have hrm : ri ∈ ns := by rw [← hri, List.getD_eq_getElem?_getD, List.getElem?_eq_getElem hrl]; exact List.getElem_mem hrl
      obtain ⟨hs2, n0⟩ : s2 < wr.heap.size ∧ ((wr.alloc (.cells #[.int .u64 x, .int .u64 x2] 78))).cell? ⟨s2, o2 + i, none⟩ = some (.int .u64 ri) := by
        rcases HR2.out.keep HBW.out with ⟨h1, _⟩ | ⟨s', o', h0, h1, h2, h3⟩
        · omega
        · injection h0 with h0; injection h0 with ea eb _; subst ea eb; rw [← hri]; exact ⟨h2, (((Below.refl _ _).alloc (Nat.le_refl _) (.cells #[.int .u64 x, .int .u64 x2] 78)).cell (p := ⟨s2, o2 + i, none⟩) h2).trans (h3 i hrl)⟩
      have ri0 : 0 ≤ ri := (UN.out ri hrm).1
      have HRQ := Lib.hid (show ri < Q by have := HOK.out.1; exact Int.not_le.1 (fun h => this ⟨ri, hrm, h⟩))
      have HRI := Lib.hid hri
      obtain ⟨mi, hmi⟩ : ∃ mi, msgS ms (i : Int) = mi := ⟨_, rfl⟩
      have hm01 : mi = 0 ∨ mi = 1 := by rw [← hmi]; exact msgS_01 _ _
      have hm0 : 0 ≤ mi := by omega
      have HMQ := Lib.hid (show mi < Q by have := HQ2.out; omega)
      have hwm : IntKind.u64.wrap mi = mi := IntWalk.u64_in _ (by omega)
      have HMI := Lib.hid hmi
      have HMS := Lib.hid (fun (W : World) (hW : Below w.heap.size w W) => hmi ▸ message_any (i := (i : Int)) (c := rc) W (HR1.out.keep hW) (by omega))
      obtain ⟨ea, hea⟩ : ∃ ea, powm G ri P = ea := ⟨_, rfl⟩
      obtain ⟨eb, heb⟩ : ∃ eb, powm G mi P * powm y ri P % P = eb := ⟨_, rfl⟩
      have HEN := Lib.hid (fun (W : World) => encrypt_ok W HH.out hy HYP.out hm0 HMQ.out ri0 HRQ.out hea heb)
      have HEA := Lib.hid (show encP P G y (msgS ms (i : Int)) (ns.getD i 0) = (ea, eb) by rw [hmi, hri, encP, hea, heb])
      clear hxy hsl hri hrl hrm hm01 hmi hea heb
      go_wp2_with fail
      have g0 := F_g6.out.c 0 _ rfl
      have g1 := F_g6.out.c 1 _ rfl
      have g2 := F_g6.out.c 2 _ rfl
      have r0 := F_r6.out.c 0 _ rfl
      have r1 := F_r6.out.c 1 _ rfl
      have g0z := (F_g6.out.alloc (.cells #[.int .u64 0, .int .u64 0] 78)).c 0 _ rfl
      have g1z := (F_g6.out.alloc (.cells #[.int .u64 0, .int .u64 0] 78)).c 1 _ rfl
      have g2z := (F_g6.out.alloc (.cells #[.int .u64 0, .int .u64 0] 78)).c 2 _ rfl
      have r0z := (F_r6.out.alloc (.cells #[.int .u64 0, .int .u64 0] 78)).c 0 _ rfl
      have r1z := (F_r6.out.alloc (.cells #[.int .u64 0, .int .u64 0] 78)).c 1 _ rfl
      go_cut [52, 15, 16, 17] from 52 to 80 (fun c52 c15 c16 c17 wx => ∃ B1 B2 : Nat, c52 = .int .i64 i ∧ c15 = .pointer (some ⟨B1, 0, none⟩) ∧ c16 = .pointer (some ⟨B2, 0, none⟩) ∧ c17 = .int .i64 0 ∧ Hid (Cl wx B1 [.int .u64 x, .int .u64 x2]) ∧ Hid (Cl wx B2 [.int .u64 ea, .int .u64 eb]) ∧ Hid (Cl wx w.heap.size [.int .u64 P, .int .u64 Q, .int .u64 G]) ∧ Hid (Cl wx (w.heap.size + 1) [.slice (some ⟨s, o, none⟩) j c, .slice b m d, .bool one, .int .u64 z.r0, .int .u64 z.r1, .int .u64 z.s0, .int .u64 z.s1, .int .u64 z.c0, .int .u64 z.c1, .int .u64 z.z0, .int .u64 z.z1]) ∧ Hid (Cl wx (w.heap.size + 1 + 1) [.slice ra rn rc, .slice (some ⟨s2, o2, none⟩) j rd]) ∧ Hid (Below w.heap.size w wx))
      case first =>
        have hl0 : w.heap.size < wr.heap.size := by omega
        go_region_held3 (fun w' => w'.cell? ⟨w.heap.size, 0, none⟩ = some (.int .u64 P) ∧ w'.cell? ⟨w.heap.size, 1, none⟩ = some (.int .u64 Q) ∧ w'.cell? ⟨w.heap.size, 2, none⟩ = some (.int .u64 G) ∧ w'.cell? ⟨w.heap.size + 1 + 1, 0, none⟩ = some (.slice ra rn rc) ∧ w'.cell? ⟨w.heap.size + 1 + 1, 1, none⟩ = some (.slice (some ⟨s2, o2, none⟩) j rd) ∧ w'.cell? ⟨s2, o2 + i, none⟩ = some (.int .u64 ri))
          (first | (refine ⟨?_, ?_, ?_, ?_, ?_, ?_⟩ <;> assumption) | go_keep)
          (first
          | (go_at_call 49
             refine (HMS.out _ (by first | exact HBW6.out.drew | exact HBW6.out.drew.alloc HBW6.out.drew.size _ | exact (HBW6.out.alloc HBW6.out.size _).drew)).mono ?_
             rintro e w5 ⟨rfl, rfl⟩)
          | (go_at_call 50
             refine (HEN.out _).mono ?_
             rintro e w5 ⟨rfl, hb5⟩
             have HB5 := Lib.hid (show Below (wr.heap.size + 1) (wr.alloc (.cells #[.int .u64 x, .int .u64 x2] 78)) w5 by first | exact ((Below.refl _ _).drew.alloc (by simp) _).trans (hb5.mono (by simp)) | exact ((Below.refl _ _).alloc (by simp) _).drew.trans (hb5.mono (by simp)))
             have F_z := Lib.hid (show Cl w5 (wr.heap.size + 1) [.int .u64 0, .int .u64 0] by first | exact (Cl.at (wr.alloc (.cells #[.int .u64 x, .int .u64 x2] 78)).drew [.int .u64 0, .int .u64 0] 78 _ (by simp)).keep hb5 | exact ((Cl.at (wr.alloc (.cells #[.int .u64 x, .int .u64 x2] 78)) [.int .u64 0, .int .u64 0] 78 _ (by simp)).drew).keep hb5)
             have z0 := F_z.out.c 0 _ rfl
             have z1 := F_z.out.c 1 _ rfl
             have zf0 := F_z.out.f 0
             have zf1 := F_z.out.f 1
             have kg0 := (F_g6.out.keepN HB5.out (by omega)).c 0 _ rfl
             have kg1 := (F_g6.out.keepN HB5.out (by omega)).c 1 _ rfl
             have kg2 := (F_g6.out.keepN HB5.out (by omega)).c 2 _ rfl
             have kr0 := (F_r6.out.keepN HB5.out (by omega)).c 0 _ rfl
             have kr1 := (F_r6.out.keepN HB5.out (by omega)).c 1 _ rfl
             have kn := (HB5.out.cell (p := ⟨s2, o2 + i, none⟩) (by show s2 < _; omega)).trans n0
             have fg0 := (((F_g6.out.keepN HB5.out (by omega)).far ⟨wr.heap.size + 1, 0, none⟩ (.int .u64 ea) (by simp <;> omega)).far ⟨wr.heap.size + 1, 1, none⟩ (.int .u64 eb) (by simp <;> omega)).c 0 _ rfl
             have fg1 := (((F_g6.out.keepN HB5.out (by omega)).far ⟨wr.heap.size + 1, 0, none⟩ (.int .u64 ea) (by simp <;> omega)).far ⟨wr.heap.size + 1, 1, none⟩ (.int .u64 eb) (by simp <;> omega)).c 1 _ rfl
             have fg2 := (((F_g6.out.keepN HB5.out (by omega)).far ⟨wr.heap.size + 1, 0, none⟩ (.int .u64 ea) (by simp <;> omega)).far ⟨wr.heap.size + 1, 1, none⟩ (.int .u64 eb) (by simp <;> omega)).c 2 _ rfl
             have fr0 := (((F_r6.out.keepN HB5.out (by omega)).far ⟨wr.heap.size + 1, 0, none⟩ (.int .u64 ea) (by simp <;> omega)).far ⟨wr.heap.size + 1, 1, none⟩ (.int .u64 eb) (by simp <;> omega)).c 0 _ rfl
             have fr1 := (((F_r6.out.keepN HB5.out (by omega)).far ⟨wr.heap.size + 1, 0, none⟩ (.int .u64 ea) (by simp <;> omega)).far ⟨wr.heap.size + 1, 1, none⟩ (.int .u64 eb) (by simp <;> omega)).c 1 _ rfl
             have fn := (show ((w5.setCell ⟨wr.heap.size + 1, 0, none⟩ (.int .u64 ea)).setCell ⟨wr.heap.size + 1, 1, none⟩ (.int .u64 eb)).cell? ⟨s2, o2 + i, none⟩ = some (.int .u64 ri) by rw [World.cell?_setCell_other _ _ _ _ (by intro e; injection e with e1 e2; omega), World.cell?_setCell_other _ _ _ _ (by intro e; injection e with e1 e2; omega)]; exact kn)
             clear hb5)
          | (go_at_call 50
             refine (HEN.out _).mono ?_
             rintro e w5 ⟨rfl, hb5⟩
             have HB5 := Lib.hid (show Below (wr.heap.size + 1) (wr.alloc (.cells #[.int .u64 x, .int .u64 x2] 78)) w5 from (Below.refl _ _).drew.trans (hb5.mono (by simp)))
             have kg0 := (F_g6.out.keepN HB5.out (by omega)).c 0 _ rfl
             have kg1 := (F_g6.out.keepN HB5.out (by omega)).c 1 _ rfl
             have kg2 := (F_g6.out.keepN HB5.out (by omega)).c 2 _ rfl
             have kr0 := (F_r6.out.keepN HB5.out (by omega)).c 0 _ rfl
             have kr1 := (F_r6.out.keepN HB5.out (by omega)).c 1 _ rfl
             have kn := (HB5.out.cell (p := ⟨s2, o2 + i, none⟩) (by show s2 < _; omega)).trans n0
             have ug0 := ((F_g6.out.keepN HB5.out (by omega)).alloc (.cells #[.int .u64 0, .int .u64 0] 78)).c 0 _ rfl
             have ug1 := ((F_g6.out.keepN HB5.out (by omega)).alloc (.cells #[.int .u64 0, .int .u64 0] 78)).c 1 _ rfl
             have ug2 := ((F_g6.out.keepN HB5.out (by omega)).alloc (.cells #[.int .u64 0, .int .u64 0] 78)).c 2 _ rfl
             have ur0 := ((F_r6.out.keepN HB5.out (by omega)).alloc (.cells #[.int .u64 0, .int .u64 0] 78)).c 0 _ rfl
             have ur1 := ((F_r6.out.keepN HB5.out (by omega)).alloc (.cells #[.int .u64 0, .int .u64 0] 78)).c 1 _ rfl
             have un := (show (w5.alloc (.cells #[.int .u64 0, .int .u64 0] 78)).cell? ⟨s2, o2 + i, none⟩ = some (.int .u64 ri) from (World.cell?_alloc_lt _ _ _ (by show s2 < _; have := HB5.out.size; simp at this; omega)).trans kn)
             have vg0 := ((F_g6.out.keepN HB5.out (by omega)).alloc (.cells #[.int .u64 ea, .int .u64 eb] 78)).c 0 _ rfl
             have vg1 := ((F_g6.out.keepN HB5.out (by omega)).alloc (.cells #[.int .u64 ea, .int .u64 eb] 78)).c 1 _ rfl
             have vg2 := ((F_g6.out.keepN HB5.out (by omega)).alloc (.cells #[.int .u64 ea, .int .u64 eb] 78)).c 2 _ rfl
             have vr0 := ((F_r6.out.keepN HB5.out (by omega)).alloc (.cells #[.int .u64 ea, .int .u64 eb] 78)).c 0 _ rfl
             have vr1 := ((F_r6.out.keepN HB5.out (by omega)).alloc (.cells #[.int .u64 ea, .int .u64 eb] 78)).c 1 _ rfl
             have vn := (show (w5.alloc (.cells #[.int .u64 ea, .int .u64 eb] 78)).cell? ⟨s2, o2 + i, none⟩ = some (.int .u64 ri) from (World.cell?_alloc_lt _ _ _ (by show s2 < _; have := HB5.out.size; simp at this; omega)).trans kn)
             clear hb5))
        all_goals (go_wp2_with fail; go_meet)
        all_goals first
          | exact ⟨wr.heap.size, w5.heap.size, rfl, rfl, rfl, rfl, (F_s.out.keepN HB5.out (by omega)).alloc _, Cl.at w5 [.int .u64 ea, .int .u64 eb] _ _ rfl, (F_g6.out.keepN HB5.out (by omega)).alloc _, (F_v6.out.keepN HB5.out (by omega)).alloc _, (F_r6.out.keepN HB5.out (by omega)).alloc _, (HBW6.out.trans (HB5.out.mono (by omega))).alloc (HBW6.out.trans (HB5.out.mono (by omega))).size _⟩
          | exact ⟨wr.heap.size, wr.heap.size + 1, rfl, rfl, rfl, rfl, ((F_s.out.keepN HB5.out (by omega)).far _ _ (by simp)).far _ _ (by simp), (F_z.out.set (m := [.int .u64 ea, .int .u64 0]) 0 _ (by simp) rfl).set (m := [.int .u64 ea, .int .u64 eb]) 1 _ (by simp) rfl, ((F_g6.out.keepN HB5.out (by omega)).far _ _ (by simp <;> omega)).far _ _ (by simp <;> omega), ((F_v6.out.keepN HB5.out (by omega)).far _ _ (by simp <;> omega)).far _ _ (by simp <;> omega), ((F_r6.out.keepN HB5.out (by omega)).far _ _ (by simp <;> omega)).far _ _ (by simp <;> omega), ((HBW6.out.trans (HB5.out.mono (by omega))).setCell (by simp <;> omega) _).setCell (by simp <;> omega) _⟩
      case rest =>
        clear F_g F_v F_r HBW F_g6 F_v6 F_r6 F_s HBW6 g0 g1 g2 r0 r1 e0 e1 n0 hltr hw0 hs2 g0z g1z g2z r0z r1z
        obtain ⟨B1, B2, rfl, rfl, rfl, rfl, F_s, F_e, F_g, F_v, F_r, HBW⟩ := hcut
        have s0 := F_s.out.c 0 _ rfl
        have s1 := F_s.out.c 1 _ rfl
        have c0 := F_e.out.c 0 _ rfl
        have c1 := F_e.out.c 1 _ rfl
        by_cases he : x = ea ∧ x2 = eb
        case pos =>
          have HEQ := Lib.hid (show bs.getD i (0, 0) = encP P G y (msgS ms (i : Int)) (ns.getD i 0) by rw [HEA.out, HXY.out, he.1, he.2])
          obtain ⟨rfl, rfl⟩ := he
          go_wp2_with fail
          go_roundw
          case rel => exact ⟨i + 1, by omega, by go_num, Lib.hid (fun t ht => by
            by_cases ht' : t < i
            · exact HPR.out t ht'
            · obtain rfl : t = i := by omega
              exact HEQ.out), F_g.out, F_v.out, F_r.out, HBW.out⟩
          case measure => simp [intOf] <;> omega
        case neg =>
          have HNE := Lib.hid (show ¬ (∀ t, t < j → bs.getD t (0, 0) = encP P G y (msgS ms (t : Int)) (ns.getD t 0)) from fun h => he (by
            have h1 := h i hlt
            rw [HEA.out, HXY.out] at h1
            exact ⟨congrArg Prod.fst h1, congrArg Prod.snd h1⟩))
          have hne : ¬ (ea = x ∧ eb = x2) := fun h => he ⟨h.1.symm, h.2.symm⟩
          clear he
          by_cases h1 : ea = x
          case pos =>
            have h2 : ¬ eb = x2 := fun h => hne ⟨h1, h⟩
            subst h1
            clear hne
            go_wp2_with fail
            go_ret2
            exact ⟨w, .inr ⟨HOK.out, false, rfl, ⟨(fun h => (by simp at h)), (fun h => absurd h.2 HNE.out)⟩⟩, HBW.out⟩
          case neg =>
            clear hne
            go_wp2_with fail
            go_ret2
            exact ⟨w, .inr ⟨HOK.out, false, rfl, ⟨(fun h => (by simp at h)), (fun h => absurd h.2 HNE.out)⟩⟩, HBW.out⟩
end Go.Proofs.YtlbldpkgnonbpaaDoor
namespace Go.Proofs.YtlbldpkgnonbpaaDoor
open Go Go.RowKit Num Sha
set_option linter.unusedSimpArgs false
set_option linter.unusedVariables false

def MatR (w : World) (P Q G y n : Int) (V : Vt) (R : Rv) (e : Ending) (w' : World) : Prop :=
  Below w.heap.size w w' ∧ ((chkB P Q G y n ≠ 0 ∧ e = .returned (.tuple #[.bool false, .int .i64 (chkB P Q G y n)])) ∨
    (chkB P Q G y n = 0 ∧ ((¬ rangeP Q n.toNat R ∧ e = .returned (.tuple #[.bool false, .int .i64 2])) ∨ (rangeP Q n.toNat R ∧ ∃ v : Bool, e = .returned (.tuple #[.bool v, .int .i64 0]) ∧ (v = true ↔ matchP P G y n.toNat V R)))))

set_option maxRecDepth 100000 in
set_option maxHeartbeats 8000000 in
theorem matches_any {P Q G y n : Int} {V : Vt} {R : Rv} (w : World) (hT : Tabs w) (hP : 0 ≤ P) (hQ : 0 ≤ Q) (hG : 0 ≤ G) (hy : 0 ≤ y) (hV : VtIn w V) (hR : RvIn w R) (hrn : R.n ≤ 1000) :
    Calls Tryd.prog 26 #[.agg #[.int .u64 P, .int .u64 Q, .int .u64 G], .int .u64 y, .int .i64 n, V.v, R.v] w (MatR w P Q G y n V R) := by
  by_cases hk : chkB P Q G y n = 0
  case neg =>
    refine (matches_A (bs := []) (ms := []) (ns := []) w hT hP hQ hG hy rfl hk).mono ?_
    rintro e w' ⟨rfl, hb⟩
    exact ⟨hb, .inl ⟨hk, rfl⟩⟩
  case pos =>
  obtain ⟨hH, hyP, hn1, hn2⟩ := chkB_ok hk
  obtain ⟨j, rfl⟩ : ∃ j : Nat, n = (j : Int) := ⟨n.toNat, by omega⟩
  by_cases hm : R.m = j
  case neg =>
    refine (matches_B (bs := []) (ms := []) (ns := []) w hT hP hQ hG hy hk hm).mono ?_
    rintro e w' ⟨rfl, hb⟩
    exact ⟨hb, .inr ⟨hk, .inl ⟨fun h => hm (by simpa using h.1), rfl⟩⟩⟩
  case pos =>
  have fin : ∀ (nn : Nat) e w', nn = V.n → MatJ w P Q G y j nn V.bs R.ms R.ns e w' → MatR w P Q G y (j : Int) V R e w' := by
    rintro nn e w' rfl ⟨-, h, hb⟩
    refine ⟨hb, .inr ⟨hk, ?_⟩⟩
    simp only [Int.toNat_natCast]
    rcases h with ⟨h1, rfl⟩ | ⟨h1, v, rfl, hv⟩
    · exact .inl ⟨fun h => h1 ⟨h.2.1, h.2.2⟩, rfl⟩
    · exact .inr ⟨⟨hm, h1.1, h1.2⟩, v, rfl, hv⟩
  obtain ⟨r1, r2, r3, r4, r5, r6⟩ := hR
  obtain ⟨g1, g2, g3, g4, g5, g6, g7⟩ := hV
  obtain ⟨ra, rn, rc, ms, rb, rm, rd, ns⟩ := R
  obtain ⟨a, k, c, bs, b, m, d, ps, one, z⟩ := V
  simp only at *
  subst hm
  by_cases hn : k = rm
  case neg => exact (matches_C (rm := 0) w hT hP hQ hG hy hk hn r1 r4 hrn (by omega)).mono fun e w' h => fin _ e w' rfl h
  case pos =>
    subst hn
    exact (matches_D (n := 0) (rm := 0) w hT hP hQ hG hy hk g1 g2 r1 r4 r5 hrn (by omega)).mono fun e w' h => fin _ e w' rfl h
end Go.Proofs.YtlbldpkgnonbpaaDoor
namespace Go.Proofs.YtlbldpkgnonbpaaDoor
open Num
set_option linter.unusedSimpArgs false
set_option linter.unusedVariables false

end Go.Proofs.YtlbldpkgnonbpaaDoor
namespace Go.Proofs.YtlbldpkgnonbpaaDoor
open Go.RowKit Num Sha
set_option linter.unusedSimpArgs false
set_option linter.unusedVariables false

theorem resp_of' {P Q G a x k c s : Int} (g : Grp P Q G) (ha : Mem P Q a) (x0 : 0 ≤ x) (k0 : 0 ≤ k) (c0 : 0 ≤ c) (hs : (k + c * x % Q) % Q = s) : powm a s P = powm a k P * powm (powm a x P) c P % P := by
  have q2 := g.pQ.1
  rw [← powm_mul a P x0 c0, ← powm_add a P k0 (Int.mul_nonneg x0 c0)]
  have s0 : 0 ≤ s := by rw [← hs]; exact Int.emod_nonneg _ (by omega)
  refine g.period_cg ha s0 (Int.add_nonneg k0 (Int.mul_nonneg x0 c0)) ?_
  rw [← hs]
  refine (cg_emod Q _).trans ((Cg.refl Q k).add ?_)
  rw [Int.mul_comm x c]
  exact cg_emod Q _
theorem cancel {P w x y : Int} (e : x * y % P = 1) (w0 : 0 ≤ w) (wP : w < P) : w * x % P * y % P = w := by
  have h : Cg P (w * x % P * y) w := by
    refine (Cg.mul_right y (cg_emod P _)).trans ?_
    rw [Int.mul_assoc]
    refine (Cg.mul_left w ((cg_emod P (x * y)).symm.trans (Cg.of_eq e))).trans (Cg.of_eq (Int.mul_one w))
  rw [h.emod_eq, Int.emod_eq_of_lt w0 wP]
theorem neg_one {P Q G u c m : Int} (g : Grp P Q G) (hu : Mem P Q u) (c0 : 0 ≤ c) (hm : (0 - c) % Q = m) : powm u m P * powm u c P % P = 1 := by
  have q2 := g.pQ.1
  have p5 := g.five
  have m0 : 0 ≤ m := by rw [← hm]; exact Int.emod_nonneg _ (by omega)
  rw [← powm_add u P m0 c0, g.period_cg (y := 0) hu (by omega) (by omega) ?_, powm_zero, g.one]
  have h : Cg Q (m + c) ((0 - c) + c) := (Cg.trans (Cg.of_eq hm.symm) (cg_emod Q _)).add (Cg.refl Q c)
  exact h.trans (Cg.of_eq (by omega))
theorem bit_complete {P Q G y m r k c z a b r0 r1 s0 s1 c0 c1 z0 z1 : Int} {T : List Int} (g : Grp P Q G) (hy : Mem P Q y) (hm : m = 0 ∨ m = 1) (hr : 0 ≤ r) (hk : 0 ≤ k) (hc : 0 ≤ c) (hz : 0 ≤ z) (ha : powm G r P = a) (hb : powm G m P * powm y r P % P = b) (hZ : BitZ P Q G y m r k c z T r0 r1 s0 s1 c0 c1 z0 z1) :
    bvP P Q G y a b r0 r1 s0 s1 c0 c1 z0 z1 T := by
  obtain ⟨a', b', nn, pp, t1, mi, g1, g2, Rj, h1, h2, Sj, Rm, Sm, tot, Cm, Zm, e1, e2, e3, e4, e5, e6, e7, e8, e9, e10, e11, e12, e13, e14, e15, e16, e17, e18⟩ := hZ
  obtain rfl : a' = a := e1.symm.trans ha
  obtain rfl : b' = b := e2.symm.trans hb
  have q2 := g.pQ.1
  have p5 := g.five
  have ma : Mem P Q a' := by rw [← ha]; exact g.mem_pow g.mem_g r
  have mb : Mem P Q b' := by rw [← hb]; exact g.mem_mul (g.mem_pow g.mem_g m) (g.mem_pow hy r)
  have mt : Mem P Q t1 := by rw [← e5, ← e4]; exact g.mem_mul mb (g.mem_pow g.mem_g nn)
  have mRm : Mem P Q Rm := by rw [← e13]; exact g.mem_pow g.mem_g k
  have mSm : Mem P Q Sm := by rw [← e14]; exact g.mem_pow hy k
  have mRj : Mem P Q Rj := by rw [← e9, ← e7, ← e8]; exact g.mem_mul (g.mem_pow g.mem_g z) (g.mem_pow ma mi)
  have mg1 : 0 ≤ g1 ∧ g1 < P := by rw [← e7]; exact ⟨powm_nonneg (by omega), powm_lt (by omega)⟩
  have mh1 : 0 ≤ h1 ∧ h1 < P := by rw [← e10]; exact ⟨powm_nonneg (by omega), powm_lt (by omega)⟩
  have Cm0 : 0 ≤ Cm := by rw [← e16]; exact Int.emod_nonneg _ (by omega)
  have htot : 0 ≤ tot ∧ tot < Q := by rw [← e15]; exact chV_range (by omega) _ _
  have hsum : (Cm + c) % Q = tot := by
    rw [← e16, Int.emod_add_emod, show tot - c + c = tot by omega, Int.emod_eq_of_lt htot.1 htot.2]
  have hm1 : powm G Zm P = Rm * powm a' Cm P % P := by rw [← e13, ← e1]; exact resp_of' g g.mem_g hr hk Cm0 e17
  have hm2 : powm y Zm P = Sm * powm (powm y r P) Cm P % P := by rw [← e14]; exact resp_of' g hy hr hk Cm0 e17
  have hj1 : powm G z P = Rj * powm a' c P % P := by rw [← e9, ← e8, e7]; exact (cancel (neg_one g ma hc e6) mg1.1 mg1.2).symm
  have yr0 : 0 ≤ powm y r P := powm_nonneg (by omega)
  have yrP : powm y r P < P := powm_lt (by omega)
  have hG1 : powm G 1 P = G := powm_one (by have := g.g2; omega) g.gP
  have ht1 : t1 = b' * powm G ((0 - 1) % Q) P % P := by rw [e3, e4, e5]
  rcases hm with rfl | rfl
  · rw [if_pos rfl] at e11 e15 e18
    obtain ⟨rfl, rfl, rfl, rfl, rfl, rfl, rfl, rfl⟩ := e18
    have hbe : b' = powm y r P := by rw [← hb, powm_zero, g.one, Int.one_mul, Int.emod_eq_of_lt yr0 yrP]
    have mSj : Mem P Q s1 := by rw [← e12, ← e10, ← e11]; exact g.mem_mul (g.mem_pow hy _) (g.mem_pow mt mi)
    have hj2 : powm y z1 P = s1 * powm t1 c1 P % P := by rw [← e12, ← e11, e10]; exact (cancel (neg_one g mt hc e6) mh1.1 mh1.2).symm
    refine ⟨?_, ?_⟩
    · intro x hx
      simp at hx
      rcases hx with rfl | rfl | rfl | rfl | rfl | rfl | rfl <;> assumption
    · rw [e15]
      exact ⟨⟨hm1, by rw [hbe]; exact hm2⟩, ⟨hj1, by rw [← ht1]; exact hj2⟩, hsum⟩
  · rw [if_neg (by decide)] at e11 e15 e18
    obtain ⟨rfl, rfl, rfl, rfl, rfl, rfl, rfl, rfl⟩ := e18
    have hte : t1 = powm y r P := by
      rw [← e5, ← hb, Int.mul_comm (powm G 1 P)]
      refine cancel ?_ yr0 yrP
      rw [Int.mul_comm, ← e4]
      exact neg_one g g.mem_g (by omega) e3
    have mSj : Mem P Q s0 := by rw [← e12, ← e10, ← e11]; exact g.mem_mul (g.mem_pow hy _) (g.mem_pow mb mi)
    have hj2 : powm y z0 P = s0 * powm b' c0 P % P := by rw [← e12, ← e11, e10]; exact (cancel (neg_one g mb hc e6) mh1.1 mh1.2).symm
    refine ⟨?_, ?_⟩
    · intro x hx
      simp at hx
      rcases hx with rfl | rfl | rfl | rfl | rfl | rfl | rfl <;> assumption
    · rw [e15]
      exact ⟨⟨hj1, hj2⟩, ⟨hm1, by rw [← ht1, hte]; exact hm2⟩, by rw [Int.add_comm]; exact hsum⟩
theorem BitZ.other {P Q G y m r k c z r0 r1 s0 s1 c0 c1 z0 z1 : Int} {T : List Int} (h : BitZ P Q G y m r k c z T r0 r1 s0 s1 c0 c1 z0 z1) : (m = 0 → c1 = c ∧ z1 = z) ∧ (m ≠ 0 → c0 = c ∧ z0 = z) := by
  obtain ⟨_, _, _, _, _, _, _, _, _, _, _, _, _, _, _, _, _, _, _, _, _, _, _, _, _, _, _, _, _, _, _, _, _, _, e⟩ := h
  constructor
  · intro hm; rw [if_pos hm] at e; exact ⟨e.2.2.2.2.2.1, e.2.2.2.2.2.2.2⟩
  · intro hm; rw [if_neg hm] at e; exact ⟨e.2.2.2.2.1, e.2.2.2.2.2.2.1⟩
end Go.Proofs.YtlbldpkgnonbpaaDoor
namespace Go.Proofs.YtlbldpkgnonbpaaDoor
open Go Go.RowKit Num Sha
set_option linter.unusedSimpArgs false
set_option linter.unusedVariables false

def BitZb (P Q G y m r k c z : Int) (T : List Int) (b : Bt) : Prop := BitZ P Q G y m r k c z T b.r0 b.r1 b.s0 b.s1 b.c0 b.c1 b.z0 b.z1
def sumE (Q : Int) (d : List Int) : Nat → Int
  | 0 => 0
  | k + 1 => (sumE Q d k + d.getD (4 * k) 0) % Q
structure SealV (P Q G y : Int) (n : Nat) (ms : List Int) (one : Bool) (d : List Int) (V : Vt) (R : Rv) : Prop where
  en : V.n = n
  em : V.m = n
  eo : V.one = one
  bl : V.bs.length = n
  eb : ∀ i, i < n → V.bs.getD i (0, 0) = encP P G y (msgS ms (i : Int)) (d.getD (4 * i) 0)
  ep : ∀ i, i < n → BitZb P Q G y (msgS ms (i : Int)) (d.getD (4 * i) 0) (d.getD (4 * i + 1) 0) (d.getD (4 * i + 2) 0) (d.getD (4 * i + 3) 0) [(i : Int)] (V.ps.getD i Bt.zero)
  ez : (one = true ∧ BitZb P Q G y (ms.length : Int) (sumE Q d n) (d.getD (4 * n) 0) (d.getD (4 * n + 1) 0) (d.getD (4 * n + 2) 0) [255] V.z) ∨ (one = false ∧ V.z = Bt.zero)
  ern : R.n = ms.length
  erms : R.ms = ms
  erm : R.m = n
  erns : R.ns = (List.range n).map fun i => d.getD (4 * i) 0

theorem encP_plus {P G y M R m r : Int} (M0 : 0 ≤ M) (R0 : 0 ≤ R) (m0 : 0 ≤ m) (r0 : 0 ≤ r) : plusP P (encP P G y M R) (encP P G y m r) = encP P G y (M + m) (R + r) := by
  unfold plusP encP
  rw [powm_add G P R0 r0, powm_add G P M0 m0, powm_add y P R0 r0]
  refine Prod.ext rfl ?_
  show powm G M P * powm y R P % P * (powm G m P * powm y r P % P) % P = powm G M P * powm G m P % P * (powm y R P * powm y r P % P) % P
  rw [← Int.mul_emod, ← Int.mul_emod]
  congr 1
  rw [Int.mul_assoc, Int.mul_assoc, Int.mul_left_comm (powm y R P)]
theorem encP_zero {P Q G y : Int} (g : Grp P Q G) : encP P G y 0 0 = (1, 1) := by
  simp [encP, powm_zero, g.one]
theorem encP_mem {P Q G y m x : Int} (g : Grp P Q G) (hy : Mem P Q y) : Mem P Q (encP P G y m x).1 ∧ Mem P Q (encP P G y m x).2 :=
  ⟨g.mem_pow g.mem_g x, g.mem_mul (g.mem_pow g.mem_g m) (g.mem_pow hy x)⟩
theorem encP_mod {P Q G y m x x' : Int} (g : Grp P Q G) (hy : Mem P Q y) (x0 : 0 ≤ x) (x0' : 0 ≤ x') (h : Cg Q x x') : encP P G y m x = encP P G y m x' := by
  unfold encP
  rw [g.period_cg g.mem_g x0 x0' h, g.period_cg hy x0 x0' h]
theorem allP_push' {P : Int} (ps : List (Int × Int)) (q : Int × Int) : allP P (ps ++ [q]) = plusP P (allP P ps) q := by simp [allP]
def msum (ms : List Int) : Nat → Int
  | 0 => 0
  | k + 1 => msum ms k + msgS ms (k : Int)
def dsum (d : List Int) : Nat → Int
  | 0 => 0
  | k + 1 => dsum d k + d.getD (4 * k) 0
theorem msgS_nn (ms : List Int) (i : Int) : 0 ≤ msgS ms i := by unfold msgS; split <;> omega
theorem msum_nn (ms : List Int) : ∀ k, 0 ≤ msum ms k
  | 0 => Int.le_refl _
  | k + 1 => by have := msum_nn ms k; have := msgS_nn ms (k : Int); simp only [msum]; omega
theorem dsum_nn {d : List Int} (hd : ∀ k, 0 ≤ d.getD k 0) : ∀ k, 0 ≤ dsum d k
  | 0 => Int.le_refl _
  | k + 1 => by have := dsum_nn hd k; have := hd (4 * k); simp only [dsum]; omega
theorem sumE_dsum {Q : Int} (hQ : 0 < Q) {d : List Int} : ∀ k, sumE Q d k = dsum d k % Q
  | 0 => by simp [sumE, dsum]
  | k + 1 => by rw [sumE, dsum, sumE_dsum hQ k, Int.emod_add_emod]
theorem sumE_range {Q : Int} (hQ : 0 < Q) {d : List Int} (k : Nat) : 0 ≤ sumE Q d k ∧ sumE Q d k < Q := by
  rw [sumE_dsum hQ]; exact ⟨Int.emod_nonneg _ (by omega), Int.emod_lt_of_pos _ hQ⟩
theorem msum_nil : ∀ k, msum [] k = 0
  | 0 => rfl
  | k + 1 => by rw [msum, msum_nil k]; simp [msgS]
theorem msum_one {j : Int} : ∀ k : Nat, 0 ≤ j → msum [j] k = if j < (k : Int) then 1 else 0
  | 0, h => by rw [if_neg (by omega)]; rfl
  | k + 1, h => by
    rw [msum, msum_one k h, msgS]
    by_cases h1 : (k : Int) = j
    · subst h1
      rw [if_neg (by omega), if_pos (by simp), if_pos (by omega)]; rfl
    · by_cases h2 : j < (k : Int)
      · rw [if_pos h2, if_neg (by simpa using h1), if_pos (by omega)]; rfl
      · rw [if_neg h2, if_neg (by simpa using h1), if_neg (by omega)]; rfl
theorem msum_few {n : Nat} {ms : List Int} (hm : markedS (n : Int) ms = true) (h1 : ms.length ≤ 1) : msum ms n = (ms.length : Int) := by
  match ms, h1 with
  | [], _ => rw [msum_nil]; rfl
  | [j], _ =>
    have hj : ¬ (j ≤ -1 ∨ (n : Int) ≤ j) := by
      intro hh
      unfold markedS markedFrom at hm
      rw [if_pos hh] at hm
      cases hm
    rw [msum_one n (by omega), if_pos (by omega)]; rfl
theorem getD_take {α : Type} (l : List α) (k : Nat) (x : α) (h : k < l.length) : l.take (k + 1) = l.take k ++ [l.getD k x] := by
  rw [List.take_succ_eq_append_getElem h, List.getD_eq_getElem?_getD, List.getElem?_eq_getElem h]; rfl
theorem allP_sealed {P Q G y : Int} {n : Nat} {ms : List Int} {d : List Int} {bs : List (Int × Int)} (g : Grp P Q G) (hl : bs.length = n) (hd : ∀ k, 0 ≤ d.getD k 0)
    (hb : ∀ i, i < n → bs.getD i (0, 0) = encP P G y (msgS ms (i : Int)) (d.getD (4 * i) 0)) : ∀ k, k ≤ n → allP P (bs.take k) = encP P G y (msum ms k) (dsum d k)
  | 0, _ => by rw [List.take_zero]; exact (encP_zero g).symm
  | k + 1, hk => by
    rw [getD_take bs k (0, 0) (by omega), allP_push', allP_sealed g hl hd hb k (by omega), hb k (by omega), encP_plus (msum_nn ms k) (dsum_nn hd k) (msgS_nn ms _) (hd _)]
    rfl
theorem bt_ask {P Q G y m r k c z a b : Int} {T : List Int} {x : Bt} (hH : Has P Q G) (hZ : BitZb P Q G y m r k c z T x) (yP : y < P) (aP : a < P) (bP : b < P) (c0 : 0 ≤ c) (cQ : c < Q) (z0 : 0 ≤ z) (zQ : z < Q) :
    askS P Q G [x.c0, x.c1, x.z0, x.z1] [y, a, b, x.r0, x.r1, x.s0, x.s1] = 0 := by
  obtain ⟨p5, p3, hQ', pq, g2, gP⟩ := id hH
  obtain ⟨⟨p00, p01⟩, ⟨p10, p11⟩, ⟨p20, p21⟩, ⟨p30, p31⟩, ⟨p40, p41⟩, ⟨p50, p51⟩, ⟨p60, p61⟩, ⟨p70, p71⟩⟩ := BitZ.rng hZ (by omega) (by omega) c0 cQ z0 zQ
  exact askS_ok hH (by simp; omega) (by simp; omega)
theorem bt_prov {P Q G y m r k c z a b : Int} {x : Int} {p : Bt} (g : Grp P Q G) (hH : Has P Q G) (hy : Mem P Q y) (hm : m = 0 ∨ m = 1) (ha : powm G r P = a) (hb : powm G m P * powm y r P % P = b)
    (hZ : BitZb P Q G y m r k c z [x] p) (r0 : 0 ≤ r) (k0 : 0 ≤ k) (c0 : 0 ≤ c) (cQ : c < Q) (z0 : 0 ≤ z) (zQ : z < Q) : provB P Q G y a b p x := by
  have hP : 0 < P := by have := g.five; omega
  exact ⟨bt_ask hH hZ hy.2.1 (by rw [← ha]; exact powm_lt hP) (by rw [← hb]; exact Int.emod_lt_of_pos _ hP) c0 cQ z0 zQ, bit_complete g hy hm r0 k0 c0 z0 ha hb hZ⟩
theorem seal_good {P Q G y : Int} {n : Nat} {ms : List Int} {one : Bool} {d : List Int} {V : Vt} {R : Rv} (g : Grp P Q G) (hH : Has P Q G) (hy : Mem P Q y) (hm : markedS (n : Int) ms = true) (h1 : one = true → ms.length ≤ 1)
    (hd : ∀ k, 0 ≤ d.getD k 0 ∧ d.getD k 0 < Q) (h : SealV P Q G y n ms one d V R) : validP P Q G y n V ∧ rangeP Q n R ∧ matchP P G y n V R := by
  have hQ0 : 0 < Q := by have := hd 0; omega
  have hP0 : 0 < P := by have := g.five; omega
  refine ⟨⟨h.en, h.em, ?_, ?_⟩, ⟨h.erm, ?_, by rw [h.erms]; exact hm⟩, h.en, ?_⟩
  · intro i hi
    rw [h.eb i hi]
    exact bt_prov g hH hy (msgS_01 _ _) rfl rfl (h.ep i hi) (hd _).1 (hd _).1 (hd _).1 (hd _).2 (hd _).1 (hd _).2
  · rcases h.ez with ⟨ho, hz⟩ | ⟨ho, hz⟩
    · have hs := sumE_range hQ0 (d := d) n
      have he : allP P V.bs = encP P G y (ms.length : Int) (sumE Q d n) := by
        have := allP_sealed g h.bl (fun k => (hd k).1) h.eb n (Nat.le_refl _)
        rw [List.take_of_length_le (by rw [h.bl]; exact Nat.le_refl _), msum_few hm (h1 ho)] at this
        rw [this]
        refine encP_mod g hy (dsum_nn (fun k => (hd k).1) n) hs.1 ?_
        rw [sumE_dsum hQ0]
        exact (cg_emod _ _).symm
      refine .inl ⟨by rw [h.eo]; exact ho, ?_, ?_⟩
      · unfold okS
        rw [List.all_eq_true]
        intro q hq
        obtain ⟨i, hi, rfl⟩ := List.getElem_of_mem hq
        have hb := h.eb i (by rw [← h.bl]; exact hi)
        rw [List.getD_eq_getElem?_getD, List.getElem?_eq_getElem hi] at hb
        have hb' : V.bs[i] = encP P G y (msgS ms (i : Int)) (d.getD (4 * i) 0) := hb
        have hq := encP_mem (m := msgS ms (i : Int)) (x := d.getD (4 * i) 0) g hy
        rw [hb', decide_eq_true hq.1.2.1, decide_eq_true hq.2.2.1]; rfl
      · rw [he]
        have hl := h1 ho
        exact bt_prov g hH hy (by omega) rfl rfl hz hs.1 (hd _).1 (hd _).1 (hd _).2 (hd _).1 (hd _).2
    · exact .inr ⟨by rw [h.eo]; exact ho, hz⟩
  · rintro ⟨x, hx, hxQ⟩
    rw [h.erns, List.mem_map] at hx
    obtain ⟨i, _, rfl⟩ := hx
    have := (hd (4 * i)).2
    omega
  · intro i hi
    rw [h.eb i hi, h.erms, h.erns]
    congr 1
    simp [List.getD_eq_getElem?_getD, hi]
end Go.Proofs.YtlbldpkgnonbpaaDoor
namespace Go.Proofs.YtlbldpkgnonbpaaDoor
open Go Go.RowKit Num Sha
set_option linter.unusedSimpArgs false
set_option linter.unusedVariables false

set_option maxRecDepth 100000 in
set_option maxHeartbeats 8000000 in
theorem sealedClone_any {a : Option Addr} {n c : Nat} {ps : List (Int × Int)} (w : World) (h : ShS w a n ps) (hc : a = none → c = 0) (hn : n ≤ 10000) :
    Calls Tryd.prog 65 #[.slice a n c] w fun e w' => ∃ v, e = .returned v ∧ w'.ownsRow w.heap.size 78 2 v n (flatS ps) ∧ Below w.heap.size w w' := by
  obtain ⟨i0, hi, hz0, hz1, hz2⟩ := info_parts (P := Tryd.prog) (e := 78) (z := .agg #[.int .u64 0, .int .u64 0]) (size := 2) (bytes := 16) (by kernel_rfl)
  have HS := Lib.hid h
  have HLN := Lib.hid h.len
  have qT : ∀ (w : World) (a : Option Addr) (n c n' c' : Nat), (binOp .eql 22 (.slice a n c) (.slice none n' c')).run Tryd.prog w = .ok (.bool a.isNone) w := fun w a n c n' c' => Lib.run_eql_slice_nil w _ _ a n c n' c' Tryd.underlying22
  cases a with
  | none =>
    have hz : n = 0 ∧ ps = [] := by
      rcases h with ⟨h1, h2⟩ | ⟨s, o, h0, -⟩
      · exact ⟨h1, h2⟩
      · cases h0
    obtain ⟨rfl, rfl⟩ := hz
    obtain rfl : c = 0 := hc rfl
    go_enter Tryd.func65, Tryd.ntmps65
    go_wp2_with fail
    go_ret
    exact ⟨_, rfl, World.ownsRow_nil _ _ _ _, Below.refl _ _⟩
  | some ad =>
    have HL := Lib.hid (show (flatS ps).length = n * 2 by rw [flatS_length, ← h.len])
    clear h
    go_enter Tryd.func65, Tryd.ntmps65
    go_wp2_with (at_builtin; refine wpList_append_own _ rfl _ _ 22 rfl w.heap.size 78 i0 _ 2 16 Tryd.underlying22 hi hz0 hz1 hz2 rfl (by decide) _ 0 [] rfl (World.ownsRow_lit w #[] 0 (Nat.le_refl _) (by decide) rfl) ad n c (flatS ps) rfl HL.out (HS.out.keep ((Below.refl _ _).alloc (Nat.le_refl _) _)).cells (flatS_one ps) (by unfold maxLen; omega) (by omega) (by simp) ?_; intro v' w1 hown hgr hnil; have HOWN := Lib.hid hown; have HGR := Lib.hid hgr; clear hown hgr hnil)
    go_ret
    have hb := Below.rowT (n := w.heap.size) HGR.out (fun j hj => by have e : some w.heap.size = some j := hj; injection e with e; omega) (by simp)
    refine ⟨_, rfl, ?_, ((Below.refl _ _).alloc (Nat.le_refl _) _).trans hb⟩
    have h9 := HOWN.out
    rw [Nat.zero_add, List.nil_append] at h9
    exact h9

set_option maxRecDepth 100000 in
set_option maxHeartbeats 8000000 in
theorem intClone_any {a : Option Addr} {n c : Nat} {ps : List Int} (w : World) (h : ShI .i64 w a n ps) (hc : a = none → c = 0) (hn : n ≤ 10000) :
    Calls Tryd.prog 48 #[.slice a n c] w fun e w' => ∃ v, e = .returned v ∧ w'.ownsRow w.heap.size 3 1 v n (ps.map (Value.int .i64)) ∧ Below w.heap.size w w' := by
  obtain ⟨i0, hi, hz0, hz1, hz2⟩ := info_parts (P := Tryd.prog) (e := 3) (z := .int .i64 0) (size := 1) (bytes := 8) (by kernel_rfl)
  have HS := Lib.hid h
  have HLN := Lib.hid h.len
  have qT : ∀ (w : World) (a : Option Addr) (n c n' c' : Nat), (binOp .eql 54 (.slice a n c) (.slice none n' c')).run Tryd.prog w = .ok (.bool a.isNone) w := fun w a n c n' c' => Lib.run_eql_slice_nil w _ _ a n c n' c' Tryd.underlying54
  cases a with
  | none =>
    have hz : n = 0 ∧ ps = [] := by
      rcases h with ⟨h1, h2⟩ | ⟨s, o, h0, -⟩
      · exact ⟨h1, h2⟩
      · cases h0
    obtain ⟨rfl, rfl⟩ := hz
    obtain rfl : c = 0 := hc rfl
    go_enter Tryd.func48, Tryd.ntmps48
    go_wp2_with fail
    go_ret
    exact ⟨_, rfl, World.ownsRow_nil _ _ _ _, Below.refl _ _⟩
  | some ad =>
    have HL := Lib.hid (show (ps.map (Value.int .i64)).length = n * 1 by rw [List.length_map, ← h.len, Nat.mul_one])
    clear h
    go_enter Tryd.func48, Tryd.ntmps48
    go_wp2_with (at_builtin; refine wpList_append_own _ rfl _ _ 54 rfl w.heap.size 3 i0 _ 1 8 Tryd.underlying54 hi hz0 hz1 hz2 rfl (by decide) _ 0 [] rfl (World.ownsRow_lit w #[] 0 (Nat.le_refl _) (by decide) rfl) ad n c (ps.map (Value.int .i64)) rfl HL.out (HS.out.keep ((Below.refl _ _).alloc (Nat.le_refl _) _)).cells (fun u hu => by obtain ⟨x, -, rfl⟩ := List.mem_map.1 hu; rfl) (by unfold maxLen; omega) (by omega) (by simp) ?_; intro v' w1 hown hgr hnil; have HOWN := Lib.hid hown; have HGR := Lib.hid hgr; clear hown hgr hnil)
    go_ret
    have hb := Below.rowT (n := w.heap.size) HGR.out (fun j hj => by have e : some w.heap.size = some j := hj; injection e with e; omega) (by simp)
    refine ⟨_, rfl, ?_, ((Below.refl _ _).alloc (Nat.le_refl _) _).trans hb⟩
    have h9 := HOWN.out
    rw [Nat.zero_add, List.nil_append] at h9
    exact h9

set_option maxRecDepth 100000 in
set_option maxHeartbeats 8000000 in
theorem u64Clone_any {a : Option Addr} {n c : Nat} {ps : List Int} (w : World) (h : ShI .u64 w a n ps) (hc : a = none → c = 0) (hn : n ≤ 10000) :
    Calls Tryd.prog 66 #[.slice a n c] w fun e w' => ∃ v, e = .returned v ∧ w'.ownsRow w.heap.size 24 1 v n (ps.map (Value.int .u64)) ∧ Below w.heap.size w w' := by
  obtain ⟨i0, hi, hz0, hz1, hz2⟩ := info_parts (P := Tryd.prog) (e := 24) (z := .int .u64 0) (size := 1) (bytes := 8) (by kernel_rfl)
  have HS := Lib.hid h
  have HLN := Lib.hid h.len
  have qT : ∀ (w : World) (a : Option Addr) (n c n' c' : Nat), (binOp .eql 55 (.slice a n c) (.slice none n' c')).run Tryd.prog w = .ok (.bool a.isNone) w := fun w a n c n' c' => Lib.run_eql_slice_nil w _ _ a n c n' c' Tryd.underlying55
  cases a with
  | none =>
    have hz : n = 0 ∧ ps = [] := by
      rcases h with ⟨h1, h2⟩ | ⟨s, o, h0, -⟩
      · exact ⟨h1, h2⟩
      · cases h0
    obtain ⟨rfl, rfl⟩ := hz
    obtain rfl : c = 0 := hc rfl
    go_enter Tryd.func66, Tryd.ntmps66
    go_wp2_with fail
    go_ret
    exact ⟨_, rfl, World.ownsRow_nil _ _ _ _, Below.refl _ _⟩
  | some ad =>
    have HL := Lib.hid (show (ps.map (Value.int .u64)).length = n * 1 by rw [List.length_map, ← h.len, Nat.mul_one])
    clear h
    go_enter Tryd.func66, Tryd.ntmps66
    go_wp2_with (at_builtin; refine wpList_append_own _ rfl _ _ 55 rfl w.heap.size 24 i0 _ 1 8 Tryd.underlying55 hi hz0 hz1 hz2 rfl (by decide) _ 0 [] rfl (World.ownsRow_lit w #[] 0 (Nat.le_refl _) (by decide) rfl) ad n c (ps.map (Value.int .u64)) rfl HL.out (HS.out.keep ((Below.refl _ _).alloc (Nat.le_refl _) _)).cells (fun u hu => by obtain ⟨x, -, rfl⟩ := List.mem_map.1 hu; rfl) (by unfold maxLen; omega) (by omega) (by simp) ?_; intro v' w1 hown hgr hnil; have HOWN := Lib.hid hown; have HGR := Lib.hid hgr; clear hown hgr hnil)
    go_ret
    have hb := Below.rowT (n := w.heap.size) HGR.out (fun j hj => by have e : some w.heap.size = some j := hj; injection e with e; omega) (by simp)
    refine ⟨_, rfl, ?_, ((Below.refl _ _).alloc (Nat.le_refl _) _).trans hb⟩
    have h9 := HOWN.out
    rw [Nat.zero_add, List.nil_append] at h9
    exact h9

theorem res_vote1 {w : World} {fn : Func} {c : Tmp} {b : Nat} {a0 a1 : Option Addr} {n0 n1 c0 c1 : Nat} {o2 : Bool} {i3 i4 i5 i6 i7 i8 i9 i10 : Int} (h : fn.results = #[.cell c 29]) (hp : Cl w b [.slice a0 n0 c0, .slice a1 n1 c1, .bool o2, .int .u64 i3, .int .u64 i4, .int .u64 i5, .int .u64 i6, .int .u64 i7, .int .u64 i8, .int .u64 i9, .int .u64 i10]) (tmps : Array Value)
    (hc : tmps[c]?.getD undef = .pointer (some ⟨b, 0, none⟩)) : (results fn tmps).run Tryd.prog w = .ok (.agg #[.slice a0 n0 c0, .slice a1 n1 c1, .bool o2, .int .u64 i3, .int .u64 i4, .int .u64 i5, .int .u64 i6, .int .u64 i7, .int .u64 i8, .int .u64 i9, .int .u64 i10]) w := by
  obtain ⟨⟨q0, q1, q2, q3, q4, q5, q6, q7, q8, q9, q10⟩, -⟩ := hp.k11
  simp [results, h, hc, go_sem, q0, q1, q2, q3, q4, q5, q6, q7, q8, q9, q10]
def SameV (U V : Vt) : Prop := U.n = V.n ∧ U.bs = V.bs ∧ U.m = V.m ∧ U.ps = V.ps ∧ U.one = V.one ∧ U.z = V.z
def SameR (R T : Rv) : Prop := R.n = T.n ∧ R.ms = T.ms ∧ R.m = T.m ∧ R.ns = T.ns

set_option maxRecDepth 100000 in
set_option maxHeartbeats 8000000 in
theorem twinVote_any {V : Vt} (w : World) (hV : VtIn w V) (hn : V.n ≤ 10000) (hm : V.m ≤ 10000) :
    Calls Tryd.prog 41 #[V.v] w fun e w' => ∃ U : Vt, e = .returned U.v ∧ VtIn w' U ∧ SameV U V ∧ Below w.heap.size w w' := by
  have HV := Lib.hid hV
  have F_v := Lib.hid (show Cl ((w.alloc (.cells #[.slice V.a V.n V.c, .slice V.b V.m V.d, .bool V.one, .int .u64 V.z.r0, .int .u64 V.z.r1, .int .u64 V.z.s0, .int .u64 V.z.s1, .int .u64 V.z.c0, .int .u64 V.z.c1, .int .u64 V.z.z0, .int .u64 V.z.z1] 29)).alloc (.cells #[.slice none 0 0, .slice none 0 0, .bool false, .int .u64 0, .int .u64 0, .int .u64 0, .int .u64 0, .int .u64 0, .int .u64 0, .int .u64 0, .int .u64 0] 29)) w.heap.size [.slice V.a V.n V.c, .slice V.b V.m V.d, .bool V.one, .int .u64 V.z.r0, .int .u64 V.z.r1, .int .u64 V.z.s0, .int .u64 V.z.s1, .int .u64 V.z.c0, .int .u64 V.z.c1, .int .u64 V.z.z0, .int .u64 V.z.z1] from (Cl.at w [.slice V.a V.n V.c, .slice V.b V.m V.d, .bool V.one, .int .u64 V.z.r0, .int .u64 V.z.r1, .int .u64 V.z.s0, .int .u64 V.z.s1, .int .u64 V.z.c0, .int .u64 V.z.c1, .int .u64 V.z.z0, .int .u64 V.z.z1] _ w.heap.size rfl).alloc _)
  have F_o := Lib.hid (show Cl ((w.alloc (.cells #[.slice V.a V.n V.c, .slice V.b V.m V.d, .bool V.one, .int .u64 V.z.r0, .int .u64 V.z.r1, .int .u64 V.z.s0, .int .u64 V.z.s1, .int .u64 V.z.c0, .int .u64 V.z.c1, .int .u64 V.z.z0, .int .u64 V.z.z1] 29)).alloc (.cells #[.slice none 0 0, .slice none 0 0, .bool false, .int .u64 0, .int .u64 0, .int .u64 0, .int .u64 0, .int .u64 0, .int .u64 0, .int .u64 0, .int .u64 0] 29)) (w.heap.size + 1) [.slice none 0 0, .slice none 0 0, .bool false, .int .u64 0, .int .u64 0, .int .u64 0, .int .u64 0, .int .u64 0, .int .u64 0, .int .u64 0, .int .u64 0] from Cl.at (w.alloc (.cells #[.slice V.a V.n V.c, .slice V.b V.m V.d, .bool V.one, .int .u64 V.z.r0, .int .u64 V.z.r1, .int .u64 V.z.s0, .int .u64 V.z.s1, .int .u64 V.z.c0, .int .u64 V.z.c1, .int .u64 V.z.z0, .int .u64 V.z.z1] 29)) [.slice none 0 0, .slice none 0 0, .bool false, .int .u64 0, .int .u64 0, .int .u64 0, .int .u64 0, .int .u64 0, .int .u64 0, .int .u64 0, .int .u64 0] _ (w.heap.size + 1) (by simp))
  have HBW := Lib.hid (show Below w.heap.size w ((w.alloc (.cells #[.slice V.a V.n V.c, .slice V.b V.m V.d, .bool V.one, .int .u64 V.z.r0, .int .u64 V.z.r1, .int .u64 V.z.s0, .int .u64 V.z.s1, .int .u64 V.z.c0, .int .u64 V.z.c1, .int .u64 V.z.z0, .int .u64 V.z.z1] 29)).alloc (.cells #[.slice none 0 0, .slice none 0 0, .bool false, .int .u64 0, .int .u64 0, .int .u64 0, .int .u64 0, .int .u64 0, .int .u64 0, .int .u64 0, .int .u64 0] 29)) from ((Below.refl _ _).alloc (Nat.le_refl _) _).alloc (by simp) _)
  have v0 := F_v.out.c 0 _ rfl
  have v1 := F_v.out.c 1 _ rfl
  clear hV
  unfold Vt.v
  go_enter Tryd.func41, Tryd.ntmps41
  go_wp2_with fail
  go_region_law (first
    | (go_simp
       go_at_call 65
       refine (sealedClone_any _ (HV.out.h1.keep HBW.out.drew) HV.out.k1 hn).mono ?_
       rintro e w5 ⟨v5, rfl, ho5, hb5⟩
       obtain ⟨a5, c5, rfl, -, hk5⟩ := ShS.of_owned2 ho5
       have HO5 := Lib.hid (owns_mono ho5 (n₀ := w.heap.size + 2) (by simp))
       have HK5 := Lib.hid hk5
       have F_v5 := Lib.hid (F_v.out.drew.keep hb5)
       have F_o5 := Lib.hid (F_o.out.drew.keep hb5)
       have HBW5 := Lib.hid (HBW.out.drew.trans (hb5.mono HBW.out.drew.size))
       have hz5 : w.heap.size + 2 ≤ w5.heap.size := by have := hb5.size; simp only [World.size_drew, World.size_alloc] at this; omega
       have y0 := F_v5.out.c 0 _ rfl
       have y1 := F_v5.out.c 1 _ rfl
       clear ho5 hb5 hk5)
    | (go_simp
       go_at_call 29
       refine (bitClone_any _ (HV.out.h2.keep HBW5.out) HV.out.k2 hm).mono ?_
       rintro e w6 ⟨v6, rfl, ho6, hb6⟩
       obtain ⟨a6, c6, rfl, -, hk6⟩ := ShB.of_owned2 ho6
       have HO6 := Lib.hid (owns_below2 HO5.out hb6)
       have HP6 := Lib.hid (owns_mono ho6 (n₀ := w.heap.size + 2) hz5)
       have HK6 := Lib.hid hk6
       have F_v6 := Lib.hid (F_v5.out.keep hb6)
       have F_o6 := Lib.hid (F_o5.out.keep hb6)
       have HBW6 := Lib.hid (HBW5.out.trans (hb6.mono HBW5.out.size))
       have x0 := F_v6.out.c 0 _ rfl
       have x1 := F_v6.out.c 1 _ rfl
       have xf0 := F_v6.out.f 0
       have xf1 := F_v6.out.f 1
       clear ho6 hb6 hk6))
  all_goals
    have F_x := Lib.hid ((F_v6.out.set (m := [.slice a5 V.n c5, .slice V.b V.m V.d, .bool V.one, .int .u64 V.z.r0, .int .u64 V.z.r1, .int .u64 V.z.s0, .int .u64 V.z.s1, .int .u64 V.z.c0, .int .u64 V.z.c1, .int .u64 V.z.z0, .int .u64 V.z.z1]) 0 (.slice a5 V.n c5) (by simp) rfl).set (m := [.slice a5 V.n c5, .slice a6 V.m c6, .bool V.one, .int .u64 V.z.r0, .int .u64 V.z.r1, .int .u64 V.z.s0, .int .u64 V.z.s1, .int .u64 V.z.c0, .int .u64 V.z.c1, .int .u64 V.z.z0, .int .u64 V.z.z1]) 1 (.slice a6 V.m c6) (by simp) rfl)
    have F_p := Lib.hid ((F_o6.out.far ⟨w.heap.size, 0, none⟩ (.slice a5 V.n c5) (by simp)).far ⟨w.heap.size, 1, none⟩ (.slice a6 V.m c6) (by simp))
    clear v0 v1 y0 y1 x0 x1 xf0 xf1
    go_wp2_with (first
      | (refine wpL_loadCl rfl 29 (.tmp 1) w.heap.size _ rfl rfl _ Tryd.underlying29 rfl (by kernel_rfl) F_x.out ?_)
      | (refine wpL_storeCl rfl 29 (.tmp 2) (.tmp 11) (w.heap.size + 1) 0 _ [.slice a5 V.n c5, .slice a6 V.m c6, .bool V.one, .int .u64 V.z.r0, .int .u64 V.z.r1, .int .u64 V.z.s0, .int .u64 V.z.s1, .int .u64 V.z.c0, .int .u64 V.z.c1, .int .u64 V.z.z0, .int .u64 V.z.z1] [.slice a5 V.n c5, .slice a6 V.m c6, .bool V.one, .int .u64 V.z.r0, .int .u64 V.z.r1, .int .u64 V.z.s0, .int .u64 V.z.s1, .int .u64 V.z.c0, .int .u64 V.z.c1, .int .u64 V.z.z0, .int .u64 V.z.z1] rfl rfl rfl rfl (by kernel_rfl) (by intro u hu; simp at hu; rcases hu with rfl | rfl | rfl | rfl | rfl | rfl | rfl | rfl | rfl | rfl | rfl <;> rfl) F_p.out (by simp) rfl ?_
         intro w8 hc8 hg8 hz8
         have F_q := Lib.hid hc8
         have HG8 := Lib.hid hg8
         clear hc8 hg8 hz8))
    obtain ⟨x1, y1, ex1, hS1, -⟩ := ShS.of_owned2 (own_gro (own_far (own_far HO6.out ⟨w.heap.size, 0, none⟩ (.slice a5 V.n c5) (by simp)) ⟨w.heap.size, 1, none⟩ (.slice a6 V.m c6) (by simp)) HG8.out (by omega))
    obtain ⟨x2, y2, ex2, hS2, -⟩ := ShB.of_owned2 (own_gro (own_far (own_far HP6.out ⟨w.heap.size, 0, none⟩ (.slice a5 V.n c5) (by simp)) ⟨w.heap.size, 1, none⟩ (.slice a6 V.m c6) (by simp)) HG8.out (by omega))
    injection ex1 with f1 f2 f3
    injection ex2 with f4 f5 f6
    subst f1 f4
    refine bodyPost_ret (res_vote1 rfl F_q.out _ rfl) rfl ?_
    refine ⟨⟨a5, V.n, c5, V.bs, a6, V.m, c6, V.ps, V.one, V.z⟩, rfl, ⟨hS1, HV.out.u1, HK5.out, hS2, HV.out.u2, HK6.out, HV.out.uz⟩, ⟨rfl, rfl, rfl, rfl, rfl, rfl⟩, ?_⟩
    exact ((HBW6.out.setCell (by simp) _).setCell (by simp) _).trans (HG8.out.blw (n := w.heap.size) (by omega) (by have := HBW6.out.size; simpa using this))
end Go.Proofs.YtlbldpkgnonbpaaDoor
namespace Go.Proofs.YtlbldpkgnonbpaaDoor
open Go Go.RowKit Num Sha
set_option linter.unusedSimpArgs false
set_option linter.unusedVariables false

theorem ShI.of_owned2 {q : IntKind} {w : World} {base : Nat} {e : TypeId} {v : Value} {n : Nat} {xs : List Int} (h : w.ownsRow base e 1 v n (xs.map (Value.int q))) : ∃ a c, v = .slice a n c ∧ ShI q w a n xs ∧ (a = none → c = 0) := by
  obtain ⟨a, c, rfl, h1⟩ := ShI.of_owned h
  refine ⟨a, c, rfl, h1, fun e => ?_⟩
  subst e
  rcases h.2 with ⟨h2, _⟩ | ⟨g, cap, cur, h2, _⟩
  · injection h2
  · injection h2 with h3; cases h3
theorem res_rev1 {w : World} {fn : Func} {c : Tmp} {b : Nat} {a0 a1 : Option Addr} {n0 n1 c0 c1 : Nat} (h : fn.results = #[.cell c 57]) (hp : Cl w b [.slice a0 n0 c0, .slice a1 n1 c1]) (tmps : Array Value)
    (hc : tmps[c]?.getD undef = .pointer (some ⟨b, 0, none⟩)) : (results fn tmps).run Tryd.prog w = .ok (.agg #[.slice a0 n0 c0, .slice a1 n1 c1]) w := by
  have q0 := hp.c 0 _ rfl
  have q1 := hp.c 1 _ rfl
  simp [results, h, hc, go_sem, q0, q1]

set_option maxRecDepth 100000 in
set_option maxHeartbeats 8000000 in
theorem twinReveal_any {R : Rv} (w : World) (hR : RvIn w R) (hn : R.n ≤ 10000) (hm : R.m ≤ 10000) :
    Calls Tryd.prog 42 #[R.v] w fun e w' => ∃ U : Rv, e = .returned U.v ∧ RvIn w' U ∧ SameR U R ∧ Below w.heap.size w w' := by
  have HR := Lib.hid hR
  have F_v := Lib.hid (show Cl ((w.alloc (.cells #[.slice R.a R.n R.c, .slice R.b R.m R.d] 57)).alloc (.cells #[.slice none 0 0, .slice none 0 0] 57)) w.heap.size [.slice R.a R.n R.c, .slice R.b R.m R.d] from (Cl.at w [.slice R.a R.n R.c, .slice R.b R.m R.d] _ w.heap.size rfl).alloc _)
  have F_o := Lib.hid (show Cl ((w.alloc (.cells #[.slice R.a R.n R.c, .slice R.b R.m R.d] 57)).alloc (.cells #[.slice none 0 0, .slice none 0 0] 57)) (w.heap.size + 1) [.slice none 0 0, .slice none 0 0] from Cl.at (w.alloc (.cells #[.slice R.a R.n R.c, .slice R.b R.m R.d] 57)) [.slice none 0 0, .slice none 0 0] _ (w.heap.size + 1) (by simp))
  have HBW := Lib.hid (show Below w.heap.size w ((w.alloc (.cells #[.slice R.a R.n R.c, .slice R.b R.m R.d] 57)).alloc (.cells #[.slice none 0 0, .slice none 0 0] 57)) from ((Below.refl _ _).alloc (Nat.le_refl _) _).alloc (by simp) _)
  have v0 := F_v.out.c 0 _ rfl
  have v1 := F_v.out.c 1 _ rfl
  clear hR
  unfold Rv.v
  go_enter Tryd.func42, Tryd.ntmps42
  go_wp2_with fail
  go_region_law (first
    | (go_simp
       go_at_call 48
       refine (intClone_any _ (HR.out.h1.keep HBW.out.drew) HR.out.k1 hn).mono ?_
       rintro e w5 ⟨v5, rfl, ho5, hb5⟩
       obtain ⟨a5, c5, rfl, -, hk5⟩ := ShI.of_owned2 ho5
       have HO5 := Lib.hid (owns_mono ho5 (n₀ := w.heap.size + 2) (by simp))
       have HK5 := Lib.hid hk5
       have F_v5 := Lib.hid (F_v.out.drew.keep hb5)
       have F_o5 := Lib.hid (F_o.out.drew.keep hb5)
       have HBW5 := Lib.hid (HBW.out.drew.trans (hb5.mono HBW.out.drew.size))
       have hz5 : w.heap.size + 2 ≤ w5.heap.size := by have := hb5.size; simp only [World.size_drew, World.size_alloc] at this; omega
       have y0 := F_v5.out.c 0 _ rfl
       have y1 := F_v5.out.c 1 _ rfl
       clear ho5 hb5 hk5)
    | (go_simp
       go_at_call 66
       refine (u64Clone_any _ (HR.out.h2.keep HBW5.out) HR.out.k2 hm).mono ?_
       rintro e w6 ⟨v6, rfl, ho6, hb6⟩
       obtain ⟨a6, c6, rfl, -, hk6⟩ := ShI.of_owned2 ho6
       have HO6 := Lib.hid (owns_below2 HO5.out hb6)
       have HP6 := Lib.hid (owns_mono ho6 (n₀ := w.heap.size + 2) hz5)
       have HK6 := Lib.hid hk6
       have F_o6 := Lib.hid (F_o5.out.keep hb6)
       have HBW6 := Lib.hid (HBW5.out.trans (hb6.mono HBW5.out.size))
       have x0 := F_o6.out.c 0 _ rfl
       have x1 := F_o6.out.c 1 _ rfl
       have xf0 := F_o6.out.f 0
       have xf1 := F_o6.out.f 1
       clear ho6 hb6 hk6))
  all_goals
    have F_q := Lib.hid ((F_o6.out.set (m := [.slice a5 R.n c5, .slice none 0 0]) 0 (.slice a5 R.n c5) (by simp) rfl).set (m := [.slice a5 R.n c5, .slice a6 R.m c6]) 1 (.slice a6 R.m c6) (by simp) rfl)
    clear v0 v1 y0 y1 x0 x1 xf0 xf1
    go_wp2_with fail
    obtain ⟨x1, y1, ex1, hS1, -⟩ := ShI.of_owned2 (own_far (own_far HO6.out ⟨w.heap.size + 1, 0, none⟩ (.slice a5 R.n c5) (by simp)) ⟨w.heap.size + 1, 1, none⟩ (.slice a6 R.m c6) (by simp))
    obtain ⟨x2, y2, ex2, hS2, -⟩ := ShI.of_owned2 (own_far (own_far HP6.out ⟨w.heap.size + 1, 0, none⟩ (.slice a5 R.n c5) (by simp)) ⟨w.heap.size + 1, 1, none⟩ (.slice a6 R.m c6) (by simp))
    injection ex1 with f1 f2 f3
    injection ex2 with f4 f5 f6
    subst f1 f4
    refine bodyPost_ret (res_rev1 rfl F_q.out _ rfl) rfl ?_
    refine ⟨⟨a5, R.n, c5, R.ms, a6, R.m, c6, R.ns⟩, rfl, ⟨hS1, HR.out.u1, HK5.out, hS2, HR.out.u2, HK6.out⟩, ⟨rfl, rfl, rfl, rfl⟩, ?_⟩
    exact (HBW6.out.setCell (by simp) _).setCell (by simp) _
end Go.Proofs.YtlbldpkgnonbpaaDoor
