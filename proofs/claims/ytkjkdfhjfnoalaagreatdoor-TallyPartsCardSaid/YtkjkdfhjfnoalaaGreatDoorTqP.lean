/- tally.Open. -/
import Derived.Test.YtkjkdfhjfnoalaaGreatDoorTqO
import Derived.Test.YtkjkdfhjfnoalaaGreatDoorTqI
import Derived.Test.YtkjkdfhjfnoalaaGreatDoorTqB
import Derived.Test.YtkjkdfhjfnoalaaGreatDoorTie
import Derived.Test.YtkjkdfhjfnoalaaGreatDoorCards
import Derived.ProofKit
import Derived.LaidMore
import Derived.OpenShut
import Derived.Stop.Joined
import Derived.SevenTiedAt
import Derived.Laws.BytesArg
set_option linter.unusedSimpArgs false
set_option linter.unusedVariables false
set_option maxRecDepth 100000
namespace Go.Proofs.YtkjkdfhjfnoalaaGreatDoor
open Go Go.RowKit Num Sha
set_option maxHeartbeats 8000000 in
theorem tOpen_any {P Q G t s : Int} {a1 a2 : Option Addr} {n m c1 c2 : Nat} {ps : List (Int × Int)} {ns : List Int} (w : World) (hT : Tabs w) (hP : 0 ≤ P) (hQ : 0 ≤ Q) (hG : 0 ≤ G) (t0 : -9223372036854775808 ≤ t) (t1 : t ≤ 9223372036854775807) (us : U64 s) (h1 : ShS w a1 n ps) (hs : ∀ q, q ∈ ps → U64 q.1 ∧ U64 q.2) (h2 : ShI .u64 w a2 m ns) (hk : ∀ x, x ∈ ns → U64 x) :
    Calls Tryz.prog 6 #[(.agg #[.int .u64 P, .int .u64 Q, .int .u64 G]), .int .i64 t, .int .u64 s, .slice a1 n c1, .slice a2 m c2] w fun e w' => OpenR w' P Q G t s ps ns e ∧ Below w.heap.size w w' := by
  have HT := Lh hT
  have H1 := Lh h1
  have HS := Lh hs
  have H2 := Lh h2
  have HKS := Lh hk
  have HUS := Lh us
  have HL1 := Lh h1.len
  have HL2 := Lh h2.len
  clear hT h1 hs h2 hk us
  have F_g := Lh (show Cl ((w.alloc (.cells #[.int .u64 P, .int .u64 Q, .int .u64 G] 24)).alloc (.cells #[.int .i64 0, .slice none 0 0, .slice none 0 0] 29)) (w.heap.size) [.int .u64 P, .int .u64 Q, .int .u64 G] from (Cl.at w [.int .u64 P, .int .u64 Q, .int .u64 G] 24 (w.heap.size) (by simp)).alloc _)
  have F_o := Lh (show Cl ((w.alloc (.cells #[.int .u64 P, .int .u64 Q, .int .u64 G] 24)).alloc (.cells #[.int .i64 0, .slice none 0 0, .slice none 0 0] 29)) (w.heap.size + 1) [.int .i64 0, .slice none 0 0, .slice none 0 0] from Cl.at (w.alloc (.cells #[.int .u64 P, .int .u64 Q, .int .u64 G] 24)) [.int .i64 0, .slice none 0 0, .slice none 0 0] 29 (w.heap.size + 1) (by simp))
  have HBW := Lh (show Below w.heap.size w ((w.alloc (.cells #[.int .u64 P, .int .u64 Q, .int .u64 G] 24)).alloc (.cells #[.int .i64 0, .slice none 0 0, .slice none 0 0] 29)) from ((Below.refl _ _).alloc (by simp <;> omega) _).alloc (by simp <;> omega) _)
  go_enter Tryz.func6, Tryz.ntmps6
  have q_g_0 := F_g.o.c 0 _ rfl
  have q_g_1 := F_g.o.c 1 _ rfl
  have q_g_2 := F_g.o.c 2 _ rfl
  go_wp2_with fail
  clear q_g_0 q_g_1 q_g_2
  refine (form_any P Q G _ hP hQ hG).mono ?_
  rintro e w1 ⟨rfl, hb1⟩
  replace F_g := Lh (F_g.o.keep hb1)
  replace F_o := Lh (F_o.o.keep hb1)
  replace HBW := Lh (HBW.o.trans (hb1.mono HBW.o.size))
  clear hb1
  by_cases hH : Has P Q G
  case neg =>
   have HF := Lh (show formS P Q G = 300 from if_neg hH)
   rw [HF.o]
   clear HF
   have HC := Lh (show opChk P Q G t s ps ns = 300 by unfold opChk; rw [if_neg hH])
   have o_c_0 := F_o.o.c 0 _ rfl
   have o_f_0 := F_o.o.f 0
   have o_c_1 := F_o.o.c 1 _ rfl
   have o_f_1 := F_o.o.f 1
   have o_c_2 := F_o.o.c 2 _ rfl
   have o_f_2 := F_o.o.f 2
   go_wp2_with fail
   have F_q := Lh (((F_o.o.set 0 (.int .i64 0) (by simp) rfl).set 1 (.slice none 0 0) (by simp) rfl).set 2 (.slice none 0 0) (by simp) rfl)
   refine bodyPost_ret (res_part rfl F_q.o _ rfl rfl) rfl ?_
   exact ⟨OpenR.bad HC.o (by decide), ((HBW.o.setCell (p := ⟨w.heap.size + 1, 0, none⟩) (by simp) _).setCell (p := ⟨w.heap.size + 1, 1, none⟩) (by simp) _).setCell (p := ⟨w.heap.size + 1, 2, none⟩) (by simp) _⟩
  case pos =>
  have HF := Lh (show formS P Q G = 0 from if_pos hH)
  have HH := Lh hH
  rw [HF.o]
  clear HF hH
  obtain ⟨b1, hb1⟩ : ∃ b, numT Q t = b := ⟨_, rfl⟩
  obtain ⟨b3, hb3⟩ : ∃ b, sumdS P ps = b := ⟨_, rfl⟩
  obtain ⟨b5, hb5⟩ : ∃ b, okAll Q ns = b := ⟨_, rfl⟩
  have HB1 := Lh hb1
  have HB3 := Lh hb3
  have HB5 := Lh hb5
  clear hb1 hb3 hb5
  have q_g_0 := F_g.o.c 0 _ rfl
  have q_g_1 := F_g.o.c 1 _ rfl
  have q_g_2 := F_g.o.c 2 _ rfl
  go_wp2_with fail
  clear q_g_0 q_g_1 q_g_2
  refine (tnumbered_any _ t0 t1 HB1.o).mono ?_
  rintro e w2 ⟨rfl, hb2⟩
  replace F_g := Lh (F_g.o.keep hb2)
  replace F_o := Lh (F_o.o.keep hb2)
  replace HBW := Lh (HBW.o.trans (hb2.mono HBW.o.size))
  clear hb2
  cases b1 with
  | false =>
   have HC := Lh (show opChk P Q G t s ps ns = 2 by unfold opChk; rw [if_pos HH.o, HB1.o]; simp)
   have o_c_0 := F_o.o.c 0 _ rfl
   have o_f_0 := F_o.o.f 0
   have o_c_1 := F_o.o.c 1 _ rfl
   have o_f_1 := F_o.o.f 1
   have o_c_2 := F_o.o.c 2 _ rfl
   have o_f_2 := F_o.o.f 2
   go_wp2_with fail
   have F_q := Lh (((F_o.o.set 0 (.int .i64 0) (by simp) rfl).set 1 (.slice none 0 0) (by simp) rfl).set 2 (.slice none 0 0) (by simp) rfl)
   refine bodyPost_ret (res_part rfl F_q.o _ rfl rfl) rfl ?_
   exact ⟨OpenR.bad HC.o (by decide), ((HBW.o.setCell (p := ⟨w.heap.size + 1, 0, none⟩) (by simp) _).setCell (p := ⟨w.heap.size + 1, 1, none⟩) (by simp) _).setCell (p := ⟨w.heap.size + 1, 2, none⟩) (by simp) _⟩
  | true =>
   by_cases hsq : s < Q
   case neg =>
    have HNQ := Lh hsq
    have f2 : Q ≤ s := by omega
    have f2d : decide (Q ≤ s) = true := decide_eq_true f2
    have q_g_0 := F_g.o.c 0 _ rfl
    have q_g_1 := F_g.o.c 1 _ rfl
    have q_g_2 := F_g.o.c 2 _ rfl
    have HC := Lh (show opChk P Q G t s ps ns = 2 by unfold opChk; rw [if_pos HH.o, decide_eq_false HNQ.o]; simp)
    have o_c_0 := F_o.o.c 0 _ rfl
    have o_f_0 := F_o.o.f 0
    have o_c_1 := F_o.o.c 1 _ rfl
    have o_f_1 := F_o.o.f 1
    have o_c_2 := F_o.o.c 2 _ rfl
    have o_f_2 := F_o.o.f 2
    go_wp2_with fail
    have F_q := Lh (((F_o.o.set 0 (.int .i64 0) (by simp) rfl).set 1 (.slice none 0 0) (by simp) rfl).set 2 (.slice none 0 0) (by simp) rfl)
    refine bodyPost_ret (res_part rfl F_q.o _ rfl rfl) rfl ?_
    exact ⟨OpenR.bad HC.o (by decide), ((HBW.o.setCell (p := ⟨w.heap.size + 1, 0, none⟩) (by simp) _).setCell (p := ⟨w.heap.size + 1, 1, none⟩) (by simp) _).setCell (p := ⟨w.heap.size + 1, 2, none⟩) (by simp) _⟩
   case pos =>
   have HSQ := Lh hsq
   have f2 : ¬ (Q ≤ s) := by omega
   have f2d : decide (Q ≤ s) = false := decide_eq_false f2
   have q_g_0 := F_g.o.c 0 _ rfl
   have q_g_1 := F_g.o.c 1 _ rfl
   have q_g_2 := F_g.o.c 2 _ rfl
   go_wp2_with fail
   clear q_g_0 q_g_1 q_g_2
   refine (tsummed_any _ (H1.o.keep HBW.o) HB3.o).mono ?_
   rintro e w3 ⟨rfl, hb3⟩
   replace F_g := Lh (F_g.o.keep hb3)
   replace F_o := Lh (F_o.o.keep hb3)
   replace HBW := Lh (HBW.o.trans (hb3.mono HBW.o.size))
   clear hb3
   clear f2 f2d hsq
   cases b3 with
   | false =>
    have HC := Lh (show opChk P Q G t s ps ns = 2 by unfold opChk; rw [if_pos HH.o, HB3.o]; simp)
    have o_c_0 := F_o.o.c 0 _ rfl
    have o_f_0 := F_o.o.f 0
    have o_c_1 := F_o.o.c 1 _ rfl
    have o_f_1 := F_o.o.f 1
    have o_c_2 := F_o.o.c 2 _ rfl
    have o_f_2 := F_o.o.f 2
    go_wp2_with fail
    have F_q := Lh (((F_o.o.set 0 (.int .i64 0) (by simp) rfl).set 1 (.slice none 0 0) (by simp) rfl).set 2 (.slice none 0 0) (by simp) rfl)
    refine bodyPost_ret (res_part rfl F_q.o _ rfl rfl) rfl ?_
    exact ⟨OpenR.bad HC.o (by decide), ((HBW.o.setCell (p := ⟨w.heap.size + 1, 0, none⟩) (by simp) _).setCell (p := ⟨w.heap.size + 1, 1, none⟩) (by simp) _).setCell (p := ⟨w.heap.size + 1, 2, none⟩) (by simp) _⟩
   | true =>
    by_cases hmn : m = n
    case neg =>
     have HMN := Lh hmn
     have f3 : ¬ ((m : Int) = (n : Int)) := by omega
     have f3d : decide ((m : Int) = (n : Int)) = false := decide_eq_false f3
     have HC := Lh (show opChk P Q G t s ps ns = 2 by unfold opChk; rw [if_pos HH.o, decide_eq_false (show ¬ (ns.length = ps.length) by have := HMN.o; have := HL1.o; have := HL2.o; omega)]; simp)
     have o_c_0 := F_o.o.c 0 _ rfl
     have o_f_0 := F_o.o.f 0
     have o_c_1 := F_o.o.c 1 _ rfl
     have o_f_1 := F_o.o.f 1
     have o_c_2 := F_o.o.c 2 _ rfl
     have o_f_2 := F_o.o.f 2
     go_wp2_with fail
     have F_q := Lh (((F_o.o.set 0 (.int .i64 0) (by simp) rfl).set 1 (.slice none 0 0) (by simp) rfl).set 2 (.slice none 0 0) (by simp) rfl)
     refine bodyPost_ret (res_part rfl F_q.o _ rfl rfl) rfl ?_
     exact ⟨OpenR.bad HC.o (by decide), ((HBW.o.setCell (p := ⟨w.heap.size + 1, 0, none⟩) (by simp) _).setCell (p := ⟨w.heap.size + 1, 1, none⟩) (by simp) _).setCell (p := ⟨w.heap.size + 1, 2, none⟩) (by simp) _⟩
    case pos =>
    subst hmn
    have hn10 : m ≤ 10 := by have := (sumdS_true HB3.o).2.1; have := HL1.o; omega
    have q_g_0 := F_g.o.c 0 _ rfl
    have q_g_1 := F_g.o.c 1 _ rfl
    have q_g_2 := F_g.o.c 2 _ rfl
    go_wp2_with fail
    clear q_g_0 q_g_1 q_g_2
    refine (tbelow_any _ (H2.o.keep HBW.o) (by omega)).mono ?_
    rintro e w4 ⟨rfl, hb4⟩
    replace F_g := Lh (F_g.o.keep hb4)
    replace F_o := Lh (F_o.o.keep hb4)
    replace HBW := Lh (HBW.o.trans (hb4.mono HBW.o.size))
    clear hb4
    rw [HB5.o]
    cases b5 with
    | false =>
     have HC := Lh (show opChk P Q G t s ps ns = 2 by unfold opChk; rw [if_pos HH.o, HB5.o]; simp)
     have o_c_0 := F_o.o.c 0 _ rfl
     have o_f_0 := F_o.o.f 0
     have o_c_1 := F_o.o.c 1 _ rfl
     have o_f_1 := F_o.o.f 1
     have o_c_2 := F_o.o.c 2 _ rfl
     have o_f_2 := F_o.o.f 2
     go_wp2_with fail
     have F_q := Lh (((F_o.o.set 0 (.int .i64 0) (by simp) rfl).set 1 (.slice none 0 0) (by simp) rfl).set 2 (.slice none 0 0) (by simp) rfl)
     refine bodyPost_ret (res_part rfl F_q.o _ rfl rfl) rfl ?_
     exact ⟨OpenR.bad HC.o (by decide), ((HBW.o.setCell (p := ⟨w.heap.size + 1, 0, none⟩) (by simp) _).setCell (p := ⟨w.heap.size + 1, 1, none⟩) (by simp) _).setCell (p := ⟨w.heap.size + 1, 2, none⟩) (by simp) _⟩
    | true =>
     have HC := Lh (show opChk P Q G t s ps ns = 0 by unfold opChk; rw [if_pos HH.o, HB1.o, decide_eq_true HSQ.o, HB3.o, decide_eq_true (show ns.length = ps.length by have := HL1.o; have := HL2.o; omega), HB5.o]; rfl)
     obtain ⟨tl, tu, tq⟩ := numT_true HB1.o
     replace HS := Lh (sumdS_bd HB3.o HS.o)
     replace HKS := Lh (okAll_bd HB5.o HKS.o)
     have HLO4 := Lh F_o.o.lt
     go_wp2_with fail
     have F_p := Lh (Cl.at w4 [.int .i64 t, .slice none 0 0, .slice none 0 0] 29 w4.heap.size rfl)
     replace F_g := Lh (F_g.o.keep ((Below.refl _ _).alloc (Nat.le_refl _) (.cells #[.int .i64 t, .slice none 0 0, .slice none 0 0] 29)))
     replace F_o := Lh (F_o.o.keep ((Below.refl _ _).alloc (Nat.le_refl _) (.cells #[.int .i64 t, .slice none 0 0, .slice none 0 0] 29)))
     have HLO := Lh HLO4.o
     replace HBW := Lh (HBW.o.alloc HBW.o.size (.cells #[.int .i64 t, .slice none 0 0, .slice none 0 0] 29))
     obtain ⟨PB, hPB⟩ : ∃ b, b = w4.heap.size := ⟨_, rfl⟩
     obtain ⟨wp, hwp⟩ : ∃ ww : World, ww = w4.alloc (.cells #[.int .i64 t, .slice none 0 0, .slice none 0 0] 29) := ⟨_, rfl⟩
     rw [← hwp] at F_p F_g F_o HBW ⊢
     rw [← hPB] at F_p HLO ⊢
     clear hwp hPB
     go_loopw [61] (fun c61 wr => ∃ (i : Nat) (av bv : Value), i ≤ m ∧ c61 = .int .i64 i ∧ Hid (Cl wr w.heap.size [.int .u64 P, .int .u64 Q, .int .u64 G]) ∧ Hid (Cl wr (w.heap.size + 1) [.int .i64 0, .slice none 0 0, .slice none 0 0]) ∧ Hid (Cl wr PB [.int .i64 t, av, bv]) ∧ Hid (wr.ownsRow (PB + 1) 22 1 av i ((pwI P s ps i).map (Value.int .u64))) ∧ Hid (wr.ownsRow (PB + 1) 53 3 bv i ((esI P Q G s t ps ns i).flatMap Eq3.vs)) ∧ Hid (Below w.heap.size w wr)) (fun c61 _ => m - (intOf c61).toNat)
     case atStart => exact ⟨0, _, _, by omega, rfl, F_g.o, F_o.o, F_p.o, World.ownsRow_nil _ _ _ _, World.ownsRow_nil _ _ _ _, HBW.o⟩
     case round =>
      clear F_g F_o F_p HBW
      obtain ⟨i, av, bv, hi, rfl, F_g, F_o, F_p, HU, HE, HBW⟩ := hrel
      have hwi : IntKind.i64.wrap ((i : Int) + 1) = (i : Int) + 1 := IntWalk.i64_in _ (by omega)
      have hi0 : (0 : Int) ≤ (i : Int) := by omega
      by_cases hlt : i < m
      case neg =>
       obtain rfl : i = m := by omega
       have hi2 : ¬ ((i : Int) < (i : Int)) := by omega
       have HC2 := Lh HU.o
       have HC3 := Lh HE.o
       obtain ⟨a5, c5, rfl⟩ := own_slice HU.o
       obtain ⟨a6, c6, rfl⟩ := own_slice HE.o
       have q_p_0 := F_p.o.c 0 _ rfl
       have q_p_1 := F_p.o.c 1 _ rfl
       have q_p_2 := F_p.o.c 2 _ rfl
       have o_c_0 := F_o.o.c 0 _ rfl
       have o_f_0 := F_o.o.f 0
       have o_c_1 := F_o.o.c 1 _ rfl
       have o_f_1 := F_o.o.f 1
       have o_c_2 := F_o.o.c 2 _ rfl
       have o_f_2 := F_o.o.f 2
       go_wp2_with fail
       have F_q := Lh (((F_o.o.set 0 (.int .i64 t) (by simp) rfl).set 1 (.slice a5 i c5) (by simp) rfl).set 2 (.slice a6 i c6) (by simp) rfl)
       refine bodyPost_ret (res_part rfl F_q.o _ rfl rfl) rfl ?_
       exact ⟨OpenR.good HC.o (by rw [← HL1.o]; exact PtRes.of_owned (own_far (own_far (own_far HC2.o ⟨w.heap.size + 1, 0, none⟩ _ (by have := HLO.o; simp; omega)) ⟨w.heap.size + 1, 1, none⟩ _ (by have := HLO.o; simp; omega)) ⟨w.heap.size + 1, 2, none⟩ _ (by have := HLO.o; simp; omega)) (own_far (own_far (own_far HC3.o ⟨w.heap.size + 1, 0, none⟩ _ (by have := HLO.o; simp; omega)) ⟨w.heap.size + 1, 1, none⟩ _ (by have := HLO.o; simp; omega)) ⟨w.heap.size + 1, 2, none⟩ _ (by have := HLO.o; simp; omega))), ((HBW.o.setCell (p := ⟨w.heap.size + 1, 0, none⟩) (by simp) _).setCell (p := ⟨w.heap.size + 1, 1, none⟩) (by simp) _).setCell (p := ⟨w.heap.size + 1, 2, none⟩) (by simp) _⟩
      case pos =>
       have hi2 : (i : Int) < (m : Int) := by omega
       have cS : Tryz.prog.cellsOf 49 = 2 := by kernel_rfl
       obtain ⟨s2, o2, hsa, hsl, k0, k1⟩ := H1.o.at i hlt
       obtain ⟨x, y, hxy⟩ : ∃ x y, ps.getD i (0, 0) = (x, y) := ⟨_, _, rfl⟩
       rw [hxy] at k0 k1
       obtain ⟨s3, o3, hsb, hsl3, hkk, -⟩ := H2.o.at i hlt
       obtain ⟨k, hke⟩ : ∃ k, ns.getD i 0 = k := ⟨_, rfl⟩
       rw [hke] at hkk
       have HX := Lh (show 0 ≤ x ∧ x < P by
        have hm : (x, y) ∈ ps := by rw [← hxy, List.getD_eq_getElem?_getD, List.getElem?_eq_getElem (by have := HL1.o; omega)]; exact List.getElem_mem _
        exact HS.o _ hm)
       have HKK := Lh (show 0 ≤ k ∧ k < Q by
        have hm : k ∈ ns := by rw [← hke, List.getD_eq_getElem?_getD, List.getElem?_eq_getElem (by have := HL2.o; omega)]; exact List.getElem_mem _
        exact HKS.o _ hm)
       have HE1 := Lh (And.intro hxy hke)
       obtain ⟨pw, hpw⟩ : ∃ pw, powm x s P = pw := ⟨_, rfl⟩
       obtain ⟨z, hz⟩ : ∃ z : Eq3, z = ⟨powm G k P, powm x k P, eqZ P Q G x s k [t, (i : Int)]⟩ := ⟨_, rfl⟩
       have HPW := Lh hpw
       have HZ := Lh hz
       have HXX := Lh (show eq1 P Q G s t ps ns i = z by rw [hz]; unfold eq1; rw [hxy, hke])
       have HXP := Lh (show powm (ps.getD i (0, 0)).1 s P = pw by rw [hxy]; exact hpw)
       clear hxy hke hpw hz
       subst hsa hsb
       have F_s := Lh (show (w.cell? ⟨s2, o2 + i * 2, none⟩ = some (.int .u64 x) ∧ w.cell? ⟨s2, o2 + i * 2 + 1, none⟩ = some (.int .u64 y)) ∧ s2 < w.heap.size from ⟨⟨k0, k1⟩, hsl⟩)
       have F_k := Lh (show w.cell? ⟨s3, o3 + i, none⟩ = some (.int .u64 k) ∧ s3 < w.heap.size from ⟨hkk, hsl3⟩)
       have HZW := Lh (show PB < wr.heap.size from F_p.o.lt)
       clear hkk
       obtain ⟨a5, c5, rfl⟩ := own_slice HU.o
       obtain ⟨a6, c6, rfl⟩ := own_slice HE.o
       clear k0 k1
       have k0 := (HBW.o.cell (p := ⟨s2, o2 + i * 2, none⟩) F_s.o.2).trans F_s.o.1.1
       have k1 := (HBW.o.cell (p := ⟨s2, o2 + i * 2 + 1, none⟩) F_s.o.2).trans F_s.o.1.2
       have F_c := Lh (Cl.at wr [.int .u64 x, .int .u64 y] 49 wr.heap.size rfl)
       have HAL := Lh (show Below wr.heap.size wr (wr.alloc (.cells #[.int .u64 x, .int .u64 y] 49)) from (Below.refl _ _).alloc (Nat.le_refl _) _)
       replace F_g := Lh (F_g.o.keep HAL.o)
       replace F_o := Lh (F_o.o.keep HAL.o)
       replace F_p := Lh (F_p.o.keep HAL.o)
       replace HU := Lh (owns_below2 HU.o HAL.o)
       replace HE := Lh (owns_below2 HE.o HAL.o)
       replace HBW := Lh (HBW.o.trans (HAL.o.mono HBW.o.size))
       have q_g_0 := F_g.o.c 0 _ rfl
       have q_g_1 := F_g.o.c 1 _ rfl
       have q_g_2 := F_g.o.c 2 _ rfl
       have q_c_0 := F_c.o.c 0 _ rfl
       have q_c_1 := F_c.o.c 1 _ rfl
       go_wp2_with fail
       clear k0 k1 q_g_0 q_g_1 q_g_2 q_c_0 q_c_1
       obtain ⟨cb, hcb⟩ : ∃ b, b = wr.heap.size := ⟨_, rfl⟩
       obtain ⟨wx, hwx⟩ : ∃ ww : World, ww = wr.alloc (.cells #[.int .u64 x, .int .u64 y] 49) := ⟨_, rfl⟩
       rw [← hwx] at F_c F_g F_o F_p HU HE HBW ⊢
       rw [← hcb] at F_c ⊢
       clear hwx hcb HAL
       refine (pow_ok P Q G x s pw _ HH.o HX.o.1 HX.o.2 HUS.o HPW.o).mono ?_
       rintro e w5 ⟨rfl, hb5⟩
       replace F_g := Lh (F_g.o.keep hb5)
       replace F_o := Lh (F_o.o.keep hb5)
       replace F_p := Lh (F_p.o.keep hb5)
       replace HU := Lh (owns_below2 HU.o hb5)
       replace HE := Lh (owns_below2 HE.o hb5)
       replace HBW := Lh (HBW.o.trans (hb5.mono HBW.o.size))
       replace F_c := Lh (F_c.o.keep hb5)
       clear hb5
       have HEP := Lh (show RetE (lgS (askS P Q G [s, k] [x]) 2) (powm G k P) (powm x k P) (eqZ P Q G x s k [t, (i : Int)]) z.r z.s z.z 0 from .inl ⟨lgS_ok (askS_ok HH.o (by have := HSQ.o; have := HKK.o; simp; omega) (by have := HX.o; simp; omega)) (by omega), by rw [HZ.o], by rw [HZ.o], by rw [HZ.o], rfl⟩)
       go_wp2_with fail
       have hS0 : Below w5.heap.size w5 w5.drew := (Below.refl _ _).drew
       refine wp_region_stage 16 (fun w' => Below w5.heap.size w5 w') (by kernel_rfl) ?_
       refine tkL (i := 0) (some 75) (.load 24 (.tmp 5)) 24 [11, 12, 13, 16] (v := ?_) hS0 (fun w' hSw => ?_) ?_
       rotate_left
       · have g0 := (F_g.o.keep hSw).c 0 _ rfl; have g1 := (F_g.o.keep hSw).c 1 _ rfl; have g2 := (F_g.o.keep hSw).c 2 _ rfl; have x0 := (F_c.o.keep hSw).c 0 _ rfl; have kk0 := ((HBW.o.trans (hSw.mono HBW.o.size)).cell (p := ⟨s3, o3 + i, none⟩) F_k.o.2).trans F_k.o.1
         unfold bareOp; go_simp; try with_reducible rfl
       simp only [Act.put, sZ]
       refine tkP (i := 1) (some 76) (.fieldAddr 49 (.tmp 15) 0) 0 (fun _ => hS0) ?_
       simp only [Act.put, sZ]
       refine tkL (i := 2) (some 77) (.load 22 (.tmp 76)) 22 [11, 12, 13, 16] (v := ?_) hS0 (fun w' hSw => ?_) ?_
       rotate_left
       · have g0 := (F_g.o.keep hSw).c 0 _ rfl; have g1 := (F_g.o.keep hSw).c 1 _ rfl; have g2 := (F_g.o.keep hSw).c 2 _ rfl; have x0 := (F_c.o.keep hSw).c 0 _ rfl; have kk0 := ((HBW.o.trans (hSw.mono HBW.o.size)).cell (p := ⟨s3, o3 + i, none⟩) F_k.o.2).trans F_k.o.1
         unfold bareOp; go_simp; try with_reducible rfl
       simp only [Act.put, sZ]
       refine tkP (i := 3) (some 78) (.move (.tmp 2)) 22 (fun _ => hS0) ?_
       simp only [Act.put, sZ]
       refine tkP (i := 4) (some 79) (.move (.tmp 4)) 26 (fun _ => hS0) ?_
       simp only [Act.put, sZ]
       refine tkP (i := 5) (some 80) (.move (.tmp 14)) 3 (fun _ => hS0) ?_
       simp only [Act.put, sZ]
       refine tkP (i := 6) (some 81) (.indexAddr 26 (.tmp 79) (.tmp 80)) 0 (fun _ => hS0) ?_
       simp only [Act.put, sZ]
       refine tkL (i := 7) (some 82) (.load 22 (.tmp 81)) 22 [11, 12, 13, 16] (v := ?_) hS0 (fun w' hSw => ?_) ?_
       rotate_left
       · have g0 := (F_g.o.keep hSw).c 0 _ rfl; have g1 := (F_g.o.keep hSw).c 1 _ rfl; have g2 := (F_g.o.keep hSw).c 2 _ rfl; have x0 := (F_c.o.keep hSw).c 0 _ rfl; have kk0 := ((HBW.o.trans (hSw.mono HBW.o.size)).cell (p := ⟨s3, o3 + i, none⟩) F_k.o.2).trans F_k.o.1
         unfold bareOp; go_simp; try with_reducible rfl
       simp only [Act.put, sZ]
       refine tkP (i := 8) (some 83) (.move (.tmp 1)) 3 (fun _ => hS0) ?_
       simp only [Act.put, sZ]
       refine tkP (i := 9) (some 84) (.move (.tmp 14)) 3 (fun _ => hS0) ?_
       simp only [Act.put, sZ]
       refine wpAnyB_cloud0 (fuel := 2) [(10, 85), (11, 86), (12, 74), (13, 87), (14, 88), (15, 18)] [12, 13, 14] (fun y w' => Below w5.heap.size w5 w' ∧ (∀ v, y 10 = some v → ∃ B, v = .slice (some ⟨B, 0, none⟩) 2 2 ∧ ShI .u8 w' (some ⟨B, 0, none⟩) 2 [t, (i : Int)]) ∧ (∀ v, y 11 = some v → v = .tuple #[.agg #[.int .u64 z.r, .int .u64 z.s, .int .u64 z.z], .int .i64 0]) ∧ (∀ v, y 12 = some v → v = .tuple #[.agg #[.int .u64 z.r, .int .u64 z.s, .int .u64 z.z], .int .i64 0]) ∧ (∀ v, y 13 = some v → v = .agg #[.int .u64 z.r, .int .u64 z.s, .int .u64 z.z]) ∧ (∀ v, y 14 = some v → v = .int .i64 0) ∧ (∀ v, y 15 = some v → ∃ B, v = .pointer (some ⟨B, 0, none⟩) ∧ w5.heap.size ≤ B ∧ Cl w' B [.int .u64 0, .int .u64 0, .int .u64 0])) rfl (by decide) (by decide) (by kernel_rfl) (by kernel_rfl) (by kernel_rfl) (fun _ _ _ _ _ h => h) (fun y w' hI => hI.1) ⟨hS0, fun v h => (by cases h), fun v h => (by cases h), fun v h => (by cases h), fun v h => (by cases h), fun v h => (by cases h), fun v h => (by cases h)⟩ ?_ ?_
       · intro p hp y w8 hyn hy hrd hI
         obtain ⟨hB5, hq10, hq11, hq12, hq13, hq14, hq15⟩ := hI
         simp only [List.mem_cons, List.not_mem_nil, or_false] at hp
         rcases hp with rfl | rfl | rfl | rfl | rfl | rfl
         · refine takeN (by kernel_rfl) (wpOp_bare (some 85) (Op.call { callee := Callee.value (Operand.func 18), args := #[Operand.tmp 83, Operand.tmp 84], argTypes := #[3, 3] }) 56 ⟨_, rfl, rfl, rfl, rfl, rfl⟩ (fun K hK => ?_))
           refine wp_of_enter (run_call _ _ _ _ 18 Tryz.func18 (vs := #[.int .i64 t, .int .i64 (i : Int)]) ?hv rfl (by kernel_rfl) (by kernel_rfl)) (tctx_any w8 (by omega) (by omega) (by omega) (by omega)) ?_
           case hv =>
            simp only [List.map_toArray, List.map_cons, List.map_nil]
            rw [eval_putC_not _ _ 83 (by decide), eval_putC_not _ _ 84 (by decide)]
            rfl
           rintro e w9 ⟨sx, rfl, hsx, hb9⟩
           refine ⟨_, rfl, hK.o _ _ ⟨_, rfl, ?_⟩⟩
           refine ⟨hB5.trans (hb9.mono hB5.size), ?_, ?_, ?_, ?_, ?_, ?_⟩
           · intro v hv; rw [updC_same] at hv; cases hv; exact ⟨sx, rfl, hsx⟩
           · exact fun v hv => hq11 v (uN hv)
           · exact fun v hv => hq12 v (uN hv)
           · exact fun v hv => hq13 v (uN hv)
           · exact fun v hv => hq14 v (uN hv)
           · intro v hv; have h := hq15 v (uN hv); obtain ⟨B, h1, h2, h3⟩ := h; exact ⟨B, h1, h2, h3.keep hb9⟩
         · refine takeN (by kernel_rfl) (wpOp_bare (some 86) (Op.call { callee := Callee.value (Operand.func 17), args := #[Operand.tmp 75, Operand.tmp 77, Operand.tmp 78, Operand.tmp 82, Operand.tmp 85], argTypes := #[24, 22, 22, 22, 56] }) 54 ⟨_, rfl, rfl, rfl, rfl, rfl⟩ (fun K hK => ?_))
           obtain ⟨v10, hv10⟩ := depC hy (j := 10) (d := 85) (by simp) hrd rfl (by kernel_rfl)
           obtain ⟨Bt8, rfl, hT8⟩ := hq10 v10 hv10
           refine wp_of_enter (run_call _ _ _ _ 17 Tryz.func17 (vs := #[(.agg #[.int .u64 P, .int .u64 Q, .int .u64 G]), .int .u64 x, .int .u64 s, .int .u64 k, .slice (some ⟨Bt8, 0, none⟩) 2 2]) ?hv rfl (by kernel_rfl) (by kernel_rfl)) (peqProve_any _ ⟨HT.o.below (HBW.o.trans (hB5.mono HBW.o.size)), hT8, (by intro u hu; simp at hu; omega)⟩ hP hQ hG HX.o.1 HUS.o.1 HKK.o.1 (by omega) HEP.o) ?_
           case hv =>
            simp only [List.map_toArray, List.map_cons, List.map_nil]
            rw [eval_putC_not _ _ 75 (by decide), eval_putC_not _ _ 77 (by decide), eval_putC_not _ _ 78 (by decide), eval_putC_not _ _ 82 (by decide), eval_putC _ _ (j := 10) (d := 85) (by simp) (by decide) hv10 (of_decide_eq_true (by kernel_rfl))]
            rfl
           rintro e w9 ⟨rfl, hb9⟩
           refine ⟨_, rfl, hK.o _ _ ⟨_, rfl, ?_⟩⟩
           refine ⟨hB5.trans (hb9.mono hB5.size), ?_, ?_, ?_, ?_, ?_, ?_⟩
           · intro v hv; have h := hq10 v (uN hv); obtain ⟨B, h1, h2⟩ := h; exact ⟨B, h1, h2.keep hb9⟩
           · exact fun v hv => (uS hv).symm
           · exact fun v hv => hq12 v (uN hv)
           · exact fun v hv => hq13 v (uN hv)
           · exact fun v hv => hq14 v (uN hv)
           · intro v hv; have h := hq15 v (uN hv); obtain ⟨B, h1, h2, h3⟩ := h; exact ⟨B, h1, h2, h3.keep hb9⟩
         · refine takeF (by kernel_rfl) ?_
           obtain ⟨v11, hv11⟩ := depC hy (j := 11) (d := 86) (by simp) hrd rfl (by kernel_rfl)
           obtain rfl := hq11 v11 hv11
           refine yields_bare _ _ ⟨_, rfl, rfl, rfl, rfl, rfl⟩ (fun w => run_move _ w _ _ _ (eval_putC _ _ (j := 11) (d := 86) (by simp) (by decide) hv11 (of_decide_eq_true (by kernel_rfl)))) ?_
           refine ⟨hB5, ?_, ?_, ?_, ?_, ?_, ?_⟩
           · exact fun v hv => hq10 v (uN hv)
           · exact fun v hv => hq11 v (uN hv)
           · exact fun v hv => (uS hv).symm
           · exact fun v hv => hq13 v (uN hv)
           · exact fun v hv => hq14 v (uN hv)
           · exact fun v hv => hq15 v (uN hv)
         · refine takeF (by kernel_rfl) ?_
           obtain ⟨v12, hv12⟩ := depC hy (j := 12) (d := 74) (by simp) hrd rfl (by kernel_rfl)
           obtain rfl := hq12 v12 hv12
           refine yields_bare _ _ ⟨_, rfl, rfl, rfl, rfl, rfl⟩ (fun w => run_extract _ w _ _ _ 0 (eval_putC _ _ (j := 12) (d := 74) (by simp) (by decide) hv12 (of_decide_eq_true (by kernel_rfl))) rfl) ?_
           refine ⟨hB5, ?_, ?_, ?_, ?_, ?_, ?_⟩
           · exact fun v hv => hq10 v (uN hv)
           · exact fun v hv => hq11 v (uN hv)
           · exact fun v hv => hq12 v (uN hv)
           · exact fun v hv => (uS hv).symm
           · exact fun v hv => hq14 v (uN hv)
           · exact fun v hv => hq15 v (uN hv)
         · refine takeF (by kernel_rfl) ?_
           obtain ⟨v12, hv12⟩ := depC hy (j := 12) (d := 74) (by simp) hrd rfl (by kernel_rfl)
           obtain rfl := hq12 v12 hv12
           refine yields_bare _ _ ⟨_, rfl, rfl, rfl, rfl, rfl⟩ (fun w => run_extract _ w _ _ _ 1 (eval_putC _ _ (j := 12) (d := 74) (by simp) (by decide) hv12 (of_decide_eq_true (by kernel_rfl))) rfl) ?_
           refine ⟨hB5, ?_, ?_, ?_, ?_, ?_, ?_⟩
           · exact fun v hv => hq10 v (uN hv)
           · exact fun v hv => hq11 v (uN hv)
           · exact fun v hv => hq12 v (uN hv)
           · exact fun v hv => hq13 v (uN hv)
           · exact fun v hv => (uS hv).symm
           · exact fun v hv => hq15 v (uN hv)
         · refine takeN (by kernel_rfl) (wpOp_bare (some 18) (Op.alloc 53) 0 ⟨_, rfl, rfl, rfl, rfl, rfl⟩ (fun K hK => ?_))
           refine wp_of_run (run_al_eq _ _ _ _) (hK.o _ _ ⟨_, rfl, ?_⟩)
           refine ⟨hB5.alloc hB5.size _, ?_, ?_, ?_, ?_, ?_, ?_⟩
           · intro v hv; have h := hq10 v (uN hv); obtain ⟨B, h1, h2⟩ := h; exact ⟨B, h1, h2.keep ((Below.refl _ _).alloc (Nat.le_refl _) _)⟩
           · exact fun v hv => hq11 v (uN hv)
           · exact fun v hv => hq12 v (uN hv)
           · exact fun v hv => hq13 v (uN hv)
           · exact fun v hv => hq14 v (uN hv)
           · intro v hv; rw [updC_same] at hv; cases hv; exact ⟨w8.heap.size, rfl, hB5.size, Cl.at w8 [.int .u64 0, .int .u64 0, .int .u64 0] _ _ rfl⟩
       intro y w9 hall hI
       obtain ⟨hB5, hq10, hq11, hq12, hq13, hq14, hq15⟩ := hI
       obtain ⟨v10, hv10⟩ := Option.isSome_iff_exists.1 (hall (10, 85) (by simp))
       obtain ⟨v11, hv11⟩ := Option.isSome_iff_exists.1 (hall (11, 86) (by simp))
       obtain ⟨v12, hv12⟩ := Option.isSome_iff_exists.1 (hall (12, 74) (by simp))
       obtain ⟨v13, hv13⟩ := Option.isSome_iff_exists.1 (hall (13, 87) (by simp))
       obtain ⟨v14, hv14⟩ := Option.isSome_iff_exists.1 (hall (14, 88) (by simp))
       obtain ⟨v15, hv15⟩ := Option.isSome_iff_exists.1 (hall (15, 18) (by simp))
       clear hall
       obtain rfl := hq11 v11 hv11
       obtain rfl := hq12 v12 hv12
       obtain rfl := hq13 v13 hv13
       obtain rfl := hq14 v14 hv14
       obtain ⟨Bt9, rfl, -⟩ := hq10 v10 hv10
       obtain ⟨Bq, rfl, hBq, hQ9⟩ := hq15 v15 hv15
       have F_q := Lh hQ9
       have HK5 := Lh hB5
       have hS0 := hB5
       clear hB5 hq10 hq11 hq12 hq13 hq14 hq15 hQ9
       simp only [putC, setAll, Act.put, sZ, Option.getD_some, hv10, hv11, hv12, hv13, hv14, hv15]
       clear hv10 hv11 hv12 hv13 hv14 hv15
       refine onl (i := 16) none (.store 53 (.tmp 18) (.tmp 87)) 0 (fun K hK => ?_)
       unfold bareOp
       refine wp_storeCl 53 (.tmp 18) (.tmp 87) Bq 0 [.int .u64 0, .int .u64 0, .int .u64 0] z.vs z.vs rfl rfl rfl (by kernel_rfl) (fun u hu => z.vs_one u hu) F_q.o (by simp [Eq3.vs]) rfl ?_
       intro wa hca hga hza
       replace F_q := Lh hca
       have HKA := Lh (HK5.o.trans (hga.blw (n := w5.heap.size) hBq HK5.o.size))
       clear hca hga hza hS0 HK5
       have hS0 := HKA.o
       refine hK.o _ _ lt8 ?_
       clear hK K
       try simp only [Act.put, sZ]
       refine tkP (i := 17) (some 19) (.assign (.tmp 88)) 32 lt8 ?_
       simp only [Act.put, sZ]
       refine wpAnyB_done (by kernel_rfl) ?_ _
       clear hS0
       go_wp2_with fail
       have HAU := Lh (show ∀ k, (Value.slice a5 i c5).ownBlock = some k → k < Bq from fun k hk => Nat.lt_of_lt_of_le (World.ownsRow.lt HU.o k hk).2 hBq)
       have HAE := Lh (show ∀ k, (Value.slice a6 i c6).ownBlock = some k → k < Bq from fun k hk => Nat.lt_of_lt_of_le (World.ownsRow.lt HE.o k hk).2 hBq)
       replace F_g := Lh (F_g.o.keep HKA.o)
       replace F_o := Lh (F_o.o.keep HKA.o)
       replace F_p := Lh (F_p.o.keep HKA.o)
       replace HU := Lh (owns_below2 HU.o HKA.o)
       replace HE := Lh (owns_below2 HE.o HKA.o)
       replace HBW := Lh (HBW.o.trans (HKA.o.mono HBW.o.size))
       clear HKA
       replace F_g := Lh (F_g.o.keep (Below.refl wa.heap.size wa).drew)
       replace F_o := Lh (F_o.o.keep (Below.refl wa.heap.size wa).drew)
       replace F_p := Lh (F_p.o.keep (Below.refl wa.heap.size wa).drew)
       replace HU := Lh (owns_below2 HU.o (Below.refl wa.heap.size wa).drew)
       replace HE := Lh (owns_below2 HE.o (Below.refl wa.heap.size wa).drew)
       replace HBW := Lh (HBW.o.trans ((Below.refl wa.heap.size wa).drew.mono HBW.o.size))
       replace F_q := Lh F_q.o.drew
       obtain ⟨wz, hwz⟩ : ∃ ww : World, ww = wa.drew := ⟨_, rfl⟩
       rw [← hwz] at F_q F_g F_o F_p HU HE HBW
       have HZZ := Lh (show PB + 1 ≤ wz.heap.size from F_p.o.lt)
       have hS0 := And.intro (Below.refl (PB + 1) wz) F_q.o
       refine wp_region_stage 11 (fun w' => Below (PB + 1) wz w' ∧ Cl w' Bq z.vs) (by kernel_rfl) ?_
       rw [← hwz]
       clear hwz
       refine tkP (i := 0) (some 89) (.fieldAddr 29 (.tmp 13) 1) 0 (fun _ => hS0) ?_
       simp only [Act.put, sZ]
       refine tkL (i := 1) (some 90) (.load 26 (.tmp 89)) 26 [4, 9, 10, 11] (v := ?_) hS0 (fun w' hSw => ?_) ?_
       rotate_left
       · obtain ⟨t1, t2⟩ := hSw; have q0 := (F_p.o.keepN t1 (by omega)).c 1 _ rfl
         unfold bareOp; go_simp; try with_reducible rfl
       simp only [Act.put, sZ]
       refine tkP (i := 2) (some 91) (.move (.tmp 16)) 22 (fun _ => hS0) ?_
       simp only [Act.put, sZ]
       refine tkP (i := 5) (some 94) (.fieldAddr 29 (.tmp 13) 2) 0 (fun _ => hS0) ?_
       simp only [Act.put, sZ]
       refine tkL (i := 6) (some 95) (.load 27 (.tmp 94)) 27 [9, 10, 11] (v := ?_) hS0 (fun w' hSw => ?_) ?_
       rotate_left
       · obtain ⟨t1, t2⟩ := hSw; have q0 := (F_p.o.keepN t1 (by omega)).c 2 _ rfl
         unfold bareOp; go_simp; try with_reducible rfl
       simp only [Act.put, sZ]
       refine tkL (i := 7) (some 96) (.load 53 (.tmp 18)) 53 [8, 9, 11] (v := ?_) hS0 (fun w' hSw => ?_) ?_
       rotate_left
       · obtain ⟨t1, t2⟩ := hSw; have e0 := t2.c 0 _ rfl; have e1 := t2.c 1 _ rfl; have e2 := t2.c 2 _ rfl
         unfold bareOp; go_simp; try with_reducible rfl
       simp only [Act.put, sZ]
       refine wpAnyB_cloud0 (fuel := 3) [(3, 92), (4, 93), (8, 97), (9, 98), (10, 99)] [10] (fun y w' => Below (PB + 1) wz w' ∧ Cl w' Bq z.vs ∧ Chn (PB + 1) 22 1 w' (.slice a5 i c5) i ((pwI P s ps i).map (Value.int .u64)) [.int .u64 pw] (y 3) (y 4) ∧ Chn (PB + 1) 53 3 w' (.slice a6 i c6) i ((esI P Q G s t ps ns i).flatMap Eq3.vs) z.vs (y 8) (y 9) ∧ (∀ v, y 3 = some v → True) ∧ (∀ v, y 4 = some v → True) ∧ (∀ v, y 8 = some v → True) ∧ (∀ v, y 9 = some v → True) ∧ (∀ v, y 10 = some v → v = .pointer (some ⟨PB, 1, none⟩))) rfl (by decide) (by decide) (by kernel_rfl) (by kernel_rfl) (by kernel_rfl) (fun _ _ _ _ _ h => h) (fun y w' hI => And.intro hI.1 hI.2.1) ⟨Below.refl _ _, F_q.o, Chn.start HU.o, Chn.start HE.o, fun v h => (by cases h), fun v h => (by cases h), fun v h => (by cases h), fun v h => (by cases h), fun v h => (by cases h)⟩ ?_ ?_
       · intro p hp y w8 hyn hy hrd hI
         obtain ⟨hW, hCq, hC1, hC2, hq3, hq4, hq8, hq9, hq10⟩ := hI
         simp only [List.mem_cons, List.not_mem_nil, or_false] at hp
         rcases hp with rfl | rfl | rfl | rfl | rfl
         · refine takeN (by kernel_rfl) (wpOp_bare (some 92) (Op.buildSlice 26 1 #[(0, Operand.tmp 91)]) 26 ⟨_, rfl, rfl, rfl, rfl, rfl⟩ (fun K hK => ?_))
           refine wp_of_run (run_lit_u64 _ _ _ _ (.tmp 91) pw ((eval_putC_not _ _ 91 (by decide)).trans rfl)) (hK.o _ _ ⟨_, rfl, ?_⟩)
           refine ⟨hW.alloc (Nat.le_trans HZZ.o hW.size) _, hCq.alloc _, hC1.lit (Nat.le_trans HZZ.o hW.size) rfl, hC2.keep ((Below.refl _ _).alloc (Nat.le_refl _) _), ?_, ?_, ?_, ?_, ?_⟩
           · intro v hv; rw [updC_same] at hv; exact trivial
           · exact fun v hv => hq4 v (uN hv)
           · exact fun v hv => hq8 v (uN hv)
           · exact fun v hv => hq9 v (uN hv)
           · exact fun v hv => hq10 v (uN hv)
         · refine takeN (by kernel_rfl) (wpOp_bare (some 93) (Op.call { callee := Callee.builtin Builtin.append, args := #[Operand.tmp 90, Operand.tmp 92], argTypes := #[26, 26] }) 26 ⟨_, rfl, rfl, rfl, rfl, rfl⟩ (fun K hK => ?_))
           obtain ⟨v3, hv3⟩ := depC hy (j := 3) (d := 92) (by simp) hrd rfl (by kernel_rfl)
           obtain ⟨B8, rfl, hL8⟩ := hC1.2.1 v3 hv3
           have hrow := hC1.1 hyn
           have hlit := hL8 hyn
           rw [hyn] at hC1
           refine ⟨wp_push_u64 (.tmp 90) (.tmp 92) rfl (PB + 1) i B8 (.slice a5 i c5) ((pwI P s ps i).map (Value.int .u64)) pw ((eval_putC_not _ _ 90 (by decide)).trans rfl) (eval_putC _ _ (j := 3) (d := 92) (by simp) (by decide) hv3 (of_decide_eq_true (by kernel_rfl))) hrow (own_cells0 hlit) (by omega) (Nat.le_trans HZZ.o hW.size) (fun v' w9 hown hg => hK.o _ _ ⟨v', rfl, ?_⟩)⟩
           refine ⟨hW.trans (Below.rowT hg (fun k hk => (World.ownsRow.lt hrow k hk).1) (Nat.le_trans HZZ.o hW.size)), hCq.grown hg HAU.o, hC1.app hown, hC2.kept hrow (by decide) hg, ?_, ?_, ?_, ?_, ?_⟩
           · exact fun v hv => hq3 v (uN hv)
           · intro v hv; rw [updC_same] at hv; exact trivial
           · exact fun v hv => hq8 v (uN hv)
           · exact fun v hv => hq9 v (uN hv)
           · exact fun v hv => hq10 v (uN hv)
         · refine takeN (by kernel_rfl) (wpOp_bare (some 97) (Op.buildSlice 27 1 #[(0, Operand.tmp 96)]) 27 ⟨_, rfl, rfl, rfl, rfl, rfl⟩ (fun K hK => ?_))
           refine wp_of_run (run_lit_eq _ _ _ _ (.tmp 96) z ((eval_putC_not _ _ 96 (by decide)).trans rfl)) (hK.o _ _ ⟨_, rfl, ?_⟩)
           refine ⟨hW.alloc (Nat.le_trans HZZ.o hW.size) _, hCq.alloc _, hC1.keep ((Below.refl _ _).alloc (Nat.le_refl _) _), hC2.lit (Nat.le_trans HZZ.o hW.size) rfl, ?_, ?_, ?_, ?_, ?_⟩
           · exact fun v hv => hq3 v (uN hv)
           · exact fun v hv => hq4 v (uN hv)
           · intro v hv; rw [updC_same] at hv; exact trivial
           · exact fun v hv => hq9 v (uN hv)
           · exact fun v hv => hq10 v (uN hv)
         · refine takeN (by kernel_rfl) (wpOp_bare (some 98) (Op.call { callee := Callee.builtin Builtin.append, args := #[Operand.tmp 95, Operand.tmp 97], argTypes := #[27, 27] }) 27 ⟨_, rfl, rfl, rfl, rfl, rfl⟩ (fun K hK => ?_))
           obtain ⟨v8, hv8⟩ := depC hy (j := 8) (d := 97) (by simp) hrd rfl (by kernel_rfl)
           obtain ⟨B8, rfl, hL8⟩ := hC2.2.1 v8 hv8
           have hrow := hC2.1 hyn
           have hlit := hL8 hyn
           rw [hyn] at hC2
           refine ⟨wp_push_eq (.tmp 95) (.tmp 97) rfl (PB + 1) i B8 (.slice a6 i c6) ((esI P Q G s t ps ns i).flatMap Eq3.vs) z ((eval_putC_not _ _ 95 (by decide)).trans rfl) (eval_putC _ _ (j := 8) (d := 97) (by simp) (by decide) hv8 (of_decide_eq_true (by kernel_rfl))) hrow (own_cells0 hlit) (by omega) (Nat.le_trans HZZ.o hW.size) (fun v' w9 hown hg => hK.o _ _ ⟨v', rfl, ?_⟩)⟩
           refine ⟨hW.trans (Below.rowT hg (fun k hk => (World.ownsRow.lt hrow k hk).1) (Nat.le_trans HZZ.o hW.size)), hCq.grown hg HAE.o, hC1.kept hrow (by decide) hg, hC2.app hown, ?_, ?_, ?_, ?_, ?_⟩
           · exact fun v hv => hq3 v (uN hv)
           · exact fun v hv => hq4 v (uN hv)
           · exact fun v hv => hq8 v (uN hv)
           · intro v hv; rw [updC_same] at hv; exact trivial
           · exact fun v hv => hq10 v (uN hv)
         · refine takeF (by kernel_rfl) ?_
           refine yields_bare _ _ ⟨_, rfl, rfl, rfl, rfl, rfl⟩ (fun w => run_faP _ w _ _ _ ((eval_putC_not _ _ 13 (by decide)).trans rfl)) ?_
           refine ⟨hW, hCq, hC1, hC2, ?_, ?_, ?_, ?_, ?_⟩
           · exact fun v hv => hq3 v (uN hv)
           · exact fun v hv => hq4 v (uN hv)
           · exact fun v hv => hq8 v (uN hv)
           · exact fun v hv => hq9 v (uN hv)
           · exact fun v hv => (uS hv).symm
       intro y w9 hall hI
       obtain ⟨hW, hCq, hC1, hC2, hq3, hq4, hq8, hq9, hq10⟩ := hI
       obtain ⟨v3, hv3⟩ := Option.isSome_iff_exists.1 (hall (3, 92) (by simp))
       obtain ⟨v4, hv4⟩ := Option.isSome_iff_exists.1 (hall (4, 93) (by simp))
       obtain ⟨v8, hv8⟩ := Option.isSome_iff_exists.1 (hall (8, 97) (by simp))
       obtain ⟨v9, hv9⟩ := Option.isSome_iff_exists.1 (hall (9, 98) (by simp))
       obtain ⟨v10, hv10⟩ := Option.isSome_iff_exists.1 (hall (10, 99) (by simp))
       clear hall
       have hr4 := hC1.2.2 v4 hv4
       have hr9 := hC2.2.2 v9 hv9
       obtain ⟨a4, c4, rfl⟩ := own_slice hr4
       obtain ⟨a9, c9, rfl⟩ := own_slice hr9
       obtain rfl := hq10 v10 hv10
       have HN := Lh hr4
       have HM := Lh hr9
       replace F_g := Lh (F_g.o.keepN hW (by have := HLO.o; omega))
       replace F_o := Lh (F_o.o.keepN hW (by have := HLO.o; omega))
       replace F_p := Lh (F_p.o.keepN hW (by omega))
       replace HBW := Lh (HBW.o.trans (hW.mono (by have := HLO.o; omega)))
       have hS0 := And.intro hW hCq
       clear hW hCq hC1 hC2 hr4 hr9 hq3 hq4 hq8 hq9 hq10 F_q HAU HAE
       simp only [putC, setAll, Act.put, sZ, Option.getD_some, hv3, hv4, hv8, hv9, hv10]
       clear hv3 hv4 hv8 hv9 hv10
       refine onl (i := 11) none (.store 26 (.tmp 99) (.tmp 93)) 0 (fun K hK => ?_)
       unfold bareOp
       have q0 := F_p.o.c 1 _ rfl
       have f0 := F_p.o.f 1
       go_wp2_with fail
       replace F_g := Lh (F_g.o.far ⟨PB, 1, none⟩ (.slice a4 (i + 1) c4) (by have := HLO.o; simp <;> omega))
       replace F_o := Lh (F_o.o.far ⟨PB, 1, none⟩ (.slice a4 (i + 1) c4) (by have := HLO.o; simp <;> omega))
       replace F_p := Lh (F_p.o.set 1 (.slice a4 (i + 1) c4) (by simp) rfl)
       replace HN := Lh (own_far HN.o ⟨PB, 1, none⟩ (.slice a4 (i + 1) c4) (by simp <;> omega))
       replace HM := Lh (own_far HM.o ⟨PB, 1, none⟩ (.slice a4 (i + 1) c4) (by simp <;> omega))
       replace HBW := Lh (HBW.o.setCell (p := ⟨PB, 1, none⟩) (by have := HLO.o; simp <;> omega) (.slice a4 (i + 1) c4))
       clear q0 f0 hS0
       refine hK.o _ _ lt8 ?_
       clear hK K
       try simp only [Act.put, sZ]
       refine tkP (i := 12) (some 100) (.fieldAddr 29 (.tmp 13) 2) 0 lt8 ?_
       simp only [Act.put, sZ]
       refine onl (i := 13) none (.store 27 (.tmp 100) (.tmp 98)) 0 (fun K hK => ?_)
       unfold bareOp
       have q0 := F_p.o.c 2 _ rfl
       have f0 := F_p.o.f 2
       go_wp2_with fail
       replace F_g := Lh (F_g.o.far ⟨PB, 2, none⟩ (.slice a9 (i + 1) c9) (by have := HLO.o; simp <;> omega))
       replace F_o := Lh (F_o.o.far ⟨PB, 2, none⟩ (.slice a9 (i + 1) c9) (by have := HLO.o; simp <;> omega))
       replace F_p := Lh (F_p.o.set 2 (.slice a9 (i + 1) c9) (by simp) rfl)
       replace HN := Lh (own_far HN.o ⟨PB, 2, none⟩ (.slice a9 (i + 1) c9) (by simp <;> omega))
       replace HM := Lh (own_far HM.o ⟨PB, 2, none⟩ (.slice a9 (i + 1) c9) (by simp <;> omega))
       replace HBW := Lh (HBW.o.setCell (p := ⟨PB, 2, none⟩) (by have := HLO.o; simp <;> omega) (.slice a9 (i + 1) c9))
       clear q0 f0
       refine hK.o _ _ lt8 ?_
       clear hK K
       try simp only [Act.put, sZ]
       refine wpAnyB_done (by kernel_rfl) ?_ _
       go_wp2_with fail
       go_roundw
       case rel => exact ⟨i + 1, _, _, by omega, by go_num, F_g.o, F_o.o, F_p.o, (by rw [pwI_succ, HXP.o, List.map_append]; exact HN.o), (by rw [esI_succ, HXX.o, List.flatMap_append, List.flatMap_singleton]; exact HM.o), HBW.o⟩
       case measure => simp [intOf] <;> omega
open Go Go.ChangeShapes Go.WideShapes Go.ChangeAt Go.RowKit Num Sha
abbrev laidL : List (String × DataW Unit) := [("suffrage/digest.k", Rows.laid_suffrage_digest_k), ("suffrage/digest.first", Rows.laid_suffrage_digest_first)]
theorem door_met (os : Os) (args : Array Value) : laidMetH Tryz.prog laidL ((World.doorLaid Tryz.prog 19 os).forCall (fun _ _ => 0) ⟨#[], args, []⟩).memory :=
  laidMetH_of_parts3 (fuel := 8) (laidMet_of_run' 8 (by kernel_rfl) (by kernel_rfl)) (by kernel_rfl) (by kernel_rfl)
theorem cells_of_array {P : Program} {W : World} {t e : TypeId} {n : Nat} {k : IntKind} {H : Type} {enc : TypeId × Value → H} {base fuel : Nat} {spare : Nat → Bool} {held : Bool} {cs : Array Value} {x : DataW H × List MemPlace} {zs : List Int}
    (ht : P.underlying t = some (.array n e)) (he : P.underlying e = some (.int k)) (hc : P.cellsOf e = 1) (hd : DataW.trod enc P W base spare held fuel t cs.toList = some x) (hx : x.1 = .agg (zs.map fun z => .lit (.int k z))) :
    ∀ i, i < zs.length → cs[i]? = some (.int k (zs.getD i 0)) := by
  obtain ⟨xs, m, rfl, rfl, hl, hn, hf⟩ := DataW.trod_array ht hd
  intro i hi
  simp only [DataW.agg.injEq] at hx
  have hlen : xs.length = zs.length := by have := congrArg List.length hx; simpa using this
  have h1 := hf i (by omega)
  rw [hc, Nat.mul_one, List.getElem?_eq_getElem (by omega : i < xs.length)] at h1
  obtain ⟨z, e1, e2, -⟩ := DataW.trod_int he h1
  have h2 : (xs.map (·.1))[i]? = (zs.map fun z => (DataW.lit (.int k z) : DataW H))[i]? := by rw [hx]
  rw [List.getElem?_map, List.getElem?_map, List.getElem?_eq_getElem (by omega : i < xs.length), List.getElem?_eq_getElem hi, Option.map_some, Option.map_some, e2] at h2
  simp only [Option.some.injEq, DataW.lit.injEq, Lit.int.injEq, true_and] at h2
  have h3 : cs.toList[i]? = some (.int k z) := by
   have h4 : ((cs.toList.drop i).take 1)[0]? = some (.int k z) := by rw [e1]; rfl
   rw [List.getElem?_take_of_lt (by decide), List.getElem?_drop, Nat.add_zero] at h4
   exact h4
  rw [← Array.getElem?_toList, h3, h2, List.getD_eq_getElem?_getD, List.getElem?_eq_getElem hi]
  rfl
theorem gK : Tryz.prog.globalNamed "suffrage/digest.k" = some 1 := by kernel_rfl
theorem gF : Tryz.prog.globalNamed "suffrage/digest.first" = some 0 := by kernel_rfl
theorem tK : (Tryz.prog.globals[1]?).map (·.type) = some 117 := by kernel_rfl
theorem tF : (Tryz.prog.globals[0]?).map (·.type) = some 108 := by kernel_rfl
theorem tabs_of_laid {W : World} (h : laidMetH Tryz.prog laidL W) : Tabs W := by
 rw [MakeChecks.laidMetH_plain _ _ _ (by kernel_rfl)] at h
 obtain ⟨ps, ⟨g0, t0, cs0, f0, p0, q0, hg0, ht0, hv0, hd0, ⟨g1, t1, cs1, f1, p1, q1, hg1, ht1, hv1, hd1, _, _⟩, _⟩, _, _⟩ := h
 obtain rfl := Option.some.inj (gK.symm.trans hg0)
 obtain rfl := Option.some.inj (gF.symm.trans hg1)
 obtain rfl := Option.some.inj (tK.symm.trans ht0)
 obtain rfl := Option.some.inj (tF.symm.trans ht1)
 have hk := cells_of_array (zs := kTab) Tryz.underlying117 Tryz.underlying107 (by kernel_rfl) hd0 rfl
 have hf := cells_of_array (zs := firstS.l) Tryz.underlying108 Tryz.underlying107 (by kernel_rfl) hd1 rfl
 have ck : ∀ t, t < 64 → W.cell? ⟨1, t, none⟩ = some (.int .u32 (kAt t)) := fun t ht => (World.var?_cell hg0 hv0 t).trans (hk t ht)
 have cf : ∀ i, i < 8 → W.cell? ⟨0, i, none⟩ = some (.int .u32 (firstS.l.getD i 0)) := fun i hi => (World.var?_cell hg1 hv1 i).trans (hf i hi)
 exact ⟨ck, cf, World.block_lt_of_cell? W _ (ck 0 (by decide)), World.block_lt_of_cell? W _ (cf 0 (by decide))⟩
section
variable {H : Type} {enc : TypeId × Value → H} {w : World} {base : Nat} {held : Bool} {r : Reach} {b0 : Nat} {v : Value} {d : DataW H} {p : List MemPlace}
end
end Go.Proofs.YtkjkdfhjfnoalaaGreatDoor
