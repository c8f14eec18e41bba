/- ShamirWeights: the statement: for every input the law returns true, and the arguments read as before. -/
import Derived.Test.YtjfaaicbojnpaaaShLaw
import Derived.Test.YtjfaaicbojnpaaaIntw
import Derived.Test.YtjfaaicbojnpaaaShG
import Derived.Test.YtjfaaicbojnpaaaRows
namespace Go.Proofs.Ytjfaaicbojnpaaa.lawWeights
open Go.ChangeShapes Go.WideShapes Go.ChangeAt Go.RowKit Num
set_option linter.unusedSimpArgs false
set_option linter.unusedVariables false

set_option maxRecDepth 100000 in
theorem open_i64s {H : Type} {enc : TypeId × Value → H} {w : World} {base : Nat} {held : Bool} {r : Reach} {b0 : Nat} {v : Value} {d : DataW H} {p : List MemPlace} (hv : Value.okWide Try.prog w r b0 51 v) (h : DataW.Trod enc Try.prog w base (fun _ => true) held 51 v d p) :
    ∃ a n c xs, v = .slice a n c ∧ ShI .i64 w a n xs ∧ (∀ x, x ∈ xs → I64 x) := by
  obtain ⟨a, n, c, xs, h1, h2, h3, -, -⟩ := open_nums Try.underlying51 Try.underlying3 (by kernel_rfl) hv h
  exact ⟨a, n, c, xs, h1, h2, fun x hx => I64.wf (h3 x hx)⟩
theorem weightsS_len {P Q G er : Int} {ids ws : List Int} (h : weightsS P Q G ids = (er, ws)) : ws.length ≤ 8 := by
  unfold weightsS at h
  split at h
  · split at h
    · rename_i hl
      have h8 := (listS_true hl).2.1
      split at h
      · rename_i hw; cases h; rw [wAll_len hw]; exact h8
      · cases h; simp
    · cases h; simp
  · cases h; simp
theorem interpS_len {P Q G er : Int} {ids vs rs : List Int} (h : interpS P Q G ids vs = (er, rs)) : rs.length ≤ 8 := by
  unfold interpS at h
  split at h
  · rename_i hH
    split at h
    · rename_i hb
      simp only [Bool.and_eq_true, decide_eq_true_eq] at hb
      have hl := listS_true hb.1
      unfold tailS at h
      split at h
      · rename_i r hr
        cases h
        obtain ⟨p5, p3, hQ', pq, g2, gP⟩ := id hH
        rw [(through_at (by omega) (incS_nodup hl.2.2) hb.2.1 hr).1]
        exact hl.2.1
      · cases h; simp
    · cases h; simp
  · cases h; simp

set_option maxRecDepth 100000 in
set_option maxHeartbeats 12800000 in
theorem walk (P Q G : Int) (a : Option Addr) (n c : Nat) (xs : List Int) (b : Option Addr) (m d : Nat) (ys : List Int) (w : World) (uP : U64 P) (uQ : U64 Q) (uG : U64 G) (hS1 : ShI .i64 w a n xs) (hx1 : ∀ x, x ∈ xs → I64 x) (hS2 : ShI .u64 w b m ys) (hx2 : ∀ x, x ∈ ys → U64 x) (hc2 : b = none → d = 0) (hd2 : m ≤ d) :
    Calls Try.prog 5 #[.agg #[.int .u64 P, .int .u64 Q, .int .u64 G], .slice a n c, .slice b m d] w fun e w' => e = .returned (.bool true) ∧ Below w.heap.size w w' := by
  have hP := uP.1
  have hQ := uQ.1
  have hG := uG.1
  have HS1 := Lib.hid hS1
  have HS2 := Lib.hid hS2
  have HX1 := Lib.hid hx1
  have HX2 := Lib.hid hx2
  obtain ⟨we, ws, hw⟩ : ∃ we ws, weightsS P Q G xs = (we, ws) := ⟨_, _, rfl⟩
  obtain ⟨jv, je, hj⟩ : ∃ jv je, joinS P Q G xs ys = (jv, je) := ⟨_, _, rfl⟩
  obtain ⟨kv, ke, hk⟩ : ∃ kv ke, raiseS P Q G xs ys = (kv, ke) := ⟨_, _, rfl⟩
  obtain ⟨ie, is, hi⟩ : ∃ ie is, interpS P Q G xs ys = (ie, is) := ⟨_, _, rfl⟩
  have hl1 := weightsS_len hw
  have hl2 := interpS_len hi
  have HW := Lib.hid hw
  have HJ := Lib.hid hj
  have HR := Lib.hid hk
  have HN := Lib.hid hi
  clear hS1 hS2 hx1 hx2 hw hj hk hi
  by_cases g1 : 100 < n
  case pos =>
    have HG1 := Lib.hid (show decide (100 < n) = true by simpa using g1)
    clear g1
    have F_g := Lib.hid (show Boxed (w.alloc (.cells #[.int .u64 P, .int .u64 Q, .int .u64 G] 24)) (w.heap.size) P Q G from Boxed.at _ P Q G _ (w.heap.size) (by simp))
    have HBW := Lib.hid (show Below w.heap.size w (w.alloc (.cells #[.int .u64 P, .int .u64 Q, .int .u64 G] 24)) from (Below.refl _ _).alloc (by simp <;> omega) _)
    go_enter Try.func5, Try.ntmps5
    obtain ⟨x0a, x0b, x0c, -⟩ := id F_g.out
    go_wp2_with fail
    clear x0a x0b x0c
    refine (rgreatids_any _ HG1.out).mono ?_
    rintro e w1 ⟨rfl, rfl⟩
    obtain ⟨x0a, x0b, x0c, -⟩ := id F_g.out
    go_wp2_with fail
    go_ret
    exact ⟨rfl, HBW.out⟩
  case neg =>
    have HG1 := Lib.hid (show decide (100 < n) = false by simpa using g1)
    by_cases g2 : 100 < m
    case pos =>
      have HG2 := Lib.hid (show decide (100 < m) = true by simpa using g2)
      clear g2
      have F_g := Lib.hid (show Boxed (w.alloc (.cells #[.int .u64 P, .int .u64 Q, .int .u64 G] 24)) (w.heap.size) P Q G from Boxed.at _ P Q G _ (w.heap.size) (by simp))
      have HBW := Lib.hid (show Below w.heap.size w (w.alloc (.cells #[.int .u64 P, .int .u64 Q, .int .u64 G] 24)) from (Below.refl _ _).alloc (by simp <;> omega) _)
      go_enter Try.func5, Try.ntmps5
      obtain ⟨x0a, x0b, x0c, -⟩ := id F_g.out
      go_wp2_with fail
      clear x0a x0b x0c
      refine (rgreatids_any _ HG1.out).mono ?_
      rintro e w1 ⟨rfl, rfl⟩
      obtain ⟨x0a, x0b, x0c, -⟩ := id F_g.out
      go_wp2_with fail
      clear x0a x0b x0c
      refine (rgreat34_any _ HG2.out).mono ?_
      rintro e w2 ⟨rfl, rfl⟩
      obtain ⟨x0a, x0b, x0c, -⟩ := id F_g.out
      go_wp2_with fail
      go_ret
      exact ⟨rfl, HBW.out⟩
    case neg =>
      have HG2 := Lib.hid (show decide (100 < m) = false by simpa using g2)
      have F_g := Lib.hid (show Boxed (w.alloc (.cells #[.int .u64 P, .int .u64 Q, .int .u64 G] 24)) (w.heap.size) P Q G from Boxed.at _ P Q G _ (w.heap.size) (by simp))
      have HBW := Lib.hid (show Below w.heap.size w (w.alloc (.cells #[.int .u64 P, .int .u64 Q, .int .u64 G] 24)) from (Below.refl _ _).alloc (by simp <;> omega) _)
      go_enter Try.func5, Try.ntmps5
      obtain ⟨x0a, x0b, x0c, -⟩ := id F_g.out
      go_wp2_with fail
      clear x0a x0b x0c
      refine (rgreatids_any _ HG1.out).mono ?_
      rintro e w1 ⟨rfl, rfl⟩
      obtain ⟨x0a, x0b, x0c, -⟩ := id F_g.out
      go_wp2_with fail
      clear x0a x0b x0c
      refine (rgreat34_any _ HG2.out).mono ?_
      rintro e w2 ⟨rfl, rfl⟩
      obtain ⟨x0a, x0b, x0c, -⟩ := id F_g.out
      go_wp2_with fail
      clear x0a x0b x0c
      refine (rtwin64_any _ (HS2.out.keep HBW.out) hc2 (by omega)).mono ?_
      rintro e w3 ⟨o1a, o1c, rfl, hO, hb3⟩
      replace F_g := Lib.hid (F_g.out.keep hb3)
      replace HBW := Lib.hid (HBW.out.trans (hb3.mono HBW.out.size))
      clear hb3
      have F_o := Lib.hid hO
      clear hO
      obtain ⟨x0a, x0b, x0c, -⟩ := id F_g.out
      go_wp2_with fail
      clear x0a x0b x0c
      refine (sweights_any _ hP hQ hG (HS1.out.keep HBW.out) (by omega) HX1.out HW.out).mono ?_
      rintro e w4 ⟨rav, rfl, ho1, hb4⟩
      replace F_g := Lib.hid (F_g.out.keep hb4)
      replace F_o := Lib.hid (F_o.out.keep hb4)
      replace HBW := Lib.hid (HBW.out.trans (hb4.mono HBW.out.size))
      clear hb4
      obtain ⟨rab, rae, rfl, hs1⟩ := ho1.shI
      have F_a := Lib.hid hs1
      clear ho1 hs1
      obtain ⟨x0a, x0b, x0c, -⟩ := id F_g.out
      go_wp2_with fail
      clear x0a x0b x0c
      refine (rWeights_any _ hP hQ hG (HS1.out.keep HBW.out) (by omega) HX1.out HW.out).mono ?_
      rintro e w5 ⟨rbv, rfl, ho1, hb5⟩
      replace F_g := Lib.hid (F_g.out.keep hb5)
      replace F_o := Lib.hid (F_o.out.keep hb5)
      replace F_a := Lib.hid (F_a.out.keep hb5)
      replace HBW := Lib.hid (HBW.out.trans (hb5.mono HBW.out.size))
      clear hb5
      obtain ⟨rbb, rbe, rfl, hs1⟩ := ho1.shI
      have F_b := Lib.hid hs1
      clear ho1 hs1
      obtain ⟨x0a, x0b, x0c, -⟩ := id F_g.out
      go_wp2_with fail
      clear x0a x0b x0c
      refine (sJoin_any _ hP hQ hG (HS1.out.keep HBW.out) (by omega) HX1.out F_o.out (by omega) HX2.out HJ.out).mono ?_
      rintro e w6 ⟨rfl, hb6⟩
      replace F_g := Lib.hid (F_g.out.keep hb6)
      replace F_o := Lib.hid (F_o.out.keep hb6)
      replace F_a := Lib.hid (F_a.out.keep hb6)
      replace F_b := Lib.hid (F_b.out.keep hb6)
      replace HBW := Lib.hid (HBW.out.trans (hb6.mono HBW.out.size))
      clear hb6
      obtain ⟨x0a, x0b, x0c, -⟩ := id F_g.out
      go_wp2_with fail
      clear x0a x0b x0c
      refine (rJoin_any _ hP hQ hG (HS1.out.keep HBW.out) (by omega) HX1.out (HS2.out.keep HBW.out) (by omega) HX2.out HJ.out).mono ?_
      rintro e w7 ⟨rfl, hb7⟩
      replace F_g := Lib.hid (F_g.out.keep hb7)
      replace F_o := Lib.hid (F_o.out.keep hb7)
      replace F_a := Lib.hid (F_a.out.keep hb7)
      replace F_b := Lib.hid (F_b.out.keep hb7)
      replace HBW := Lib.hid (HBW.out.trans (hb7.mono HBW.out.size))
      clear hb7
      obtain ⟨x0a, x0b, x0c, -⟩ := id F_g.out
      go_wp2_with fail
      clear x0a x0b x0c
      refine (sRaise_any _ hP hQ hG (HS1.out.keep HBW.out) (by omega) HX1.out F_o.out (by omega) HX2.out HR.out).mono ?_
      rintro e w8 ⟨rfl, hb8⟩
      replace F_g := Lib.hid (F_g.out.keep hb8)
      replace F_o := Lib.hid (F_o.out.keep hb8)
      replace F_a := Lib.hid (F_a.out.keep hb8)
      replace F_b := Lib.hid (F_b.out.keep hb8)
      replace HBW := Lib.hid (HBW.out.trans (hb8.mono HBW.out.size))
      clear hb8
      obtain ⟨x0a, x0b, x0c, -⟩ := id F_g.out
      go_wp2_with fail
      clear x0a x0b x0c
      refine (rRaise_any _ hP hQ hG (HS1.out.keep HBW.out) (by omega) HX1.out (HS2.out.keep HBW.out) (by omega) HX2.out HR.out).mono ?_
      rintro e w9 ⟨rfl, hb9⟩
      replace F_g := Lib.hid (F_g.out.keep hb9)
      replace F_o := Lib.hid (F_o.out.keep hb9)
      replace F_a := Lib.hid (F_a.out.keep hb9)
      replace F_b := Lib.hid (F_b.out.keep hb9)
      replace HBW := Lib.hid (HBW.out.trans (hb9.mono HBW.out.size))
      clear hb9
      obtain ⟨x0a, x0b, x0c, -⟩ := id F_g.out
      go_wp2_with fail
      clear x0a x0b x0c
      refine (sinterp_any _ hP hQ hG (HS1.out.keep HBW.out) (by omega) HX1.out F_o.out (by omega) HX2.out HN.out).mono ?_
      rintro e w10 ⟨rcv, rfl, ho1, hb10⟩
      replace F_g := Lib.hid (F_g.out.keep hb10)
      replace F_o := Lib.hid (F_o.out.keep hb10)
      replace F_a := Lib.hid (F_a.out.keep hb10)
      replace F_b := Lib.hid (F_b.out.keep hb10)
      replace HBW := Lib.hid (HBW.out.trans (hb10.mono HBW.out.size))
      clear hb10
      obtain ⟨rcb, rce, rfl, hs1⟩ := ho1.shI
      have F_c := Lib.hid hs1
      clear ho1 hs1
      obtain ⟨x0a, x0b, x0c, -⟩ := id F_g.out
      go_wp2_with fail
      clear x0a x0b x0c
      refine (rinterp_any _ hP hQ hG (HS1.out.keep HBW.out) (by omega) HX1.out (HS2.out.keep HBW.out) (by omega) HX2.out HN.out).mono ?_
      rintro e w11 ⟨rdv, rfl, ho1, hb11⟩
      replace F_g := Lib.hid (F_g.out.keep hb11)
      replace F_o := Lib.hid (F_o.out.keep hb11)
      replace F_a := Lib.hid (F_a.out.keep hb11)
      replace F_b := Lib.hid (F_b.out.keep hb11)
      replace F_c := Lib.hid (F_c.out.keep hb11)
      replace HBW := Lib.hid (HBW.out.trans (hb11.mono HBW.out.size))
      clear hb11
      obtain ⟨rdb, rde, rfl, hs1⟩ := ho1.shI
      have F_d := Lib.hid hs1
      clear ho1 hs1
      obtain ⟨x0a, x0b, x0c, -⟩ := id F_g.out
      go_wp2_with fail
      clear x0a x0b x0c
      refine (rsame64_any _ F_a.out F_b.out (by omega)).mono ?_
      rintro e w12 ⟨rfl, hb12⟩
      replace F_g := Lib.hid (F_g.out.keep hb12)
      replace F_o := Lib.hid (F_o.out.keep hb12)
      replace F_a := Lib.hid (F_a.out.keep hb12)
      replace F_b := Lib.hid (F_b.out.keep hb12)
      replace F_c := Lib.hid (F_c.out.keep hb12)
      replace F_d := Lib.hid (F_d.out.keep hb12)
      replace HBW := Lib.hid (HBW.out.trans (hb12.mono HBW.out.size))
      clear hb12
      obtain ⟨x0a, x0b, x0c, -⟩ := id F_g.out
      go_wp2_with fail
      clear x0a x0b x0c
      refine (rsame64_any _ F_c.out F_d.out (by omega)).mono ?_
      rintro e w13 ⟨rfl, hb13⟩
      replace F_g := Lib.hid (F_g.out.keep hb13)
      replace F_o := Lib.hid (F_o.out.keep hb13)
      replace F_a := Lib.hid (F_a.out.keep hb13)
      replace F_b := Lib.hid (F_b.out.keep hb13)
      replace F_c := Lib.hid (F_c.out.keep hb13)
      replace F_d := Lib.hid (F_d.out.keep hb13)
      replace HBW := Lib.hid (HBW.out.trans (hb13.mono HBW.out.size))
      clear hb13
      obtain ⟨x0a, x0b, x0c, -⟩ := id F_g.out
      go_wp2_with fail
      clear x0a x0b x0c
      refine (rsame64_any _ F_o.out (HS2.out.keep HBW.out) (by omega)).mono ?_
      rintro e w14 ⟨rfl, hb14⟩
      replace F_g := Lib.hid (F_g.out.keep hb14)
      replace F_o := Lib.hid (F_o.out.keep hb14)
      replace F_a := Lib.hid (F_a.out.keep hb14)
      replace F_b := Lib.hid (F_b.out.keep hb14)
      replace F_c := Lib.hid (F_c.out.keep hb14)
      replace F_d := Lib.hid (F_d.out.keep hb14)
      replace HBW := Lib.hid (HBW.out.trans (hb14.mono HBW.out.size))
      clear hb14
      obtain ⟨x0a, x0b, x0c, -⟩ := id F_g.out
      go_wp2_with fail
      go_ret
      exact ⟨rfl, HBW.out⟩


set_option maxRecDepth 100000 in
theorem lifted (os : Os) (started : os.Started) (H : Type) (enc : TypeId × Value → H) :
    ReturnsInHanded {} Try.checked os 5 .any (Rows.shamirWeightsSpec.pre6 enc Try.prog Try.f5 Rows.shamirWeightsRow.domain false) (Rows.shamirWeightsSpec.post enc Try.prog Try.f5 false true false false) := by
  refine returnsInHanded_of_change (C := Try.checked) own started (by kernel_rfl) Try.func5
    (ChangeSpec.witness6 (enc := enc) (C := Try.checked) false ⟨#[], #[.agg #[.int .u64 0, .int .u64 0, .int .u64 0], .slice none 0 0, .slice none 0 0], []⟩ 8 (by kernel_rfl) (by kernel_rfl) (by kernel_rfl) (by kernel_rfl)) ?_
  intro W base args ds gs before hval0 hW _ _
  have hval : ∀ (j : Nat) t v, Try.f5.params[j]? = some t → args[j]? = some v → Value.okWide Try.prog W .any base t v := hval0
  have hW' := hW
  obtain ⟨p, q, hA0, hV, rfl, hfz, hnd⟩ := hW
  have hA : DataW.TrodAll enc Try.prog W 0 (fun _ => true) true Try.f5.params.toList args.toList ds p := hA0
  rw [Try.params5] at hA hval
  have hK := hA
  obtain ⟨v0, vs0, d0, ds0, p0, q0, hargs, rfl, rfl, h0, r0⟩ := trodAll_cons hA
  obtain ⟨v1, vs1, d1, ds1, p1, q1, rfl, rfl, rfl, h1, r1⟩ := trodAll_cons r0
  obtain ⟨v2, vs2, d2, ds2, p2, q2, rfl, rfl, rfl, h2, r2⟩ := trodAll_cons r1
  obtain ⟨rfl, rfl, rfl⟩ := trodAll_nil r2
  obtain rfl : args = #[v0, v1, v2] := by cases args; simp_all
  obtain ⟨rfl, rfl⟩ := trodVars_none hV
  obtain ⟨P, Q, G, rfl, uP, uQ, uG⟩ := open_group (hval 0 24 v0 rfl rfl) h0
  obtain ⟨a, n, c, xs, rfl, hS1, hx1⟩ := open_i64s (hval 1 51 v1 rfl rfl) h1
  obtain ⟨b, m, d, ys, rfl, hS2, hx2, hc2, hd2⟩ := open_u64s (hval 2 25 v2 rfl rfl) h2
  clear hA0 hval0
  refine (walk P Q G a n c xs b m d ys W uP uQ uG hS1 hx1 hS2 hx2 hc2 hd2).mono fun e W' ⟨he, bel⟩ => ?_
  subst he
  exact ⟨_, rfl, _, _, _, [], _, [], hW', trodAll_mk1 (shut_bool Try.underlying4 _), trodAll_stays laidOut (by kernel_rfl) hK bel, rfl, bel.frame _, fun h => by cases h⟩

theorem over : Rows.shamirWeightsRow.holds Try.pinned (OpenSpec.ofChange Rows.shamirWeightsSpec) :=
  OpenClaim.holds_of_wide 5 Try.f5 rfl rfl rfl rfl rfl rfl rfl ⟨rfl, rfl, rfl, rfl, rfl⟩ rfl rfl rfl rfl rfl (by kernel_rfl) Try.func5 (by kernel_rfl)
    (of_decide_eq_true (by kernel_rfl)) (by unfold Func.isWrapper; first | (rw [if_pos (by decide +kernel)]; kernel_rfl) | (rw [if_neg (by decide +kernel)]; exact ⟨rfl, rfl⟩))
    (fun os started H enc _ => lifted os started H enc)

theorem proved : Rows.ShamirWeightsSaid := over
#print axioms proved
end Go.Proofs.Ytjfaaicbojnpaaa.lawWeights
