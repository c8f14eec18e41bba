/- The deals of the laws; the key of a deal's pledges. -/
import Derived.Test.YtjfaaicbojnpaaaAux34
namespace Go.Proofs.Ytjfaaicbojnpaaa
open Go.RowKit Num
set_option linter.unusedSimpArgs false
set_option linter.unusedVariables false

/-- A deal of the call's own and whether there is one. -/
def RetDealB (w : World) (b : Bool) (ps ss : List Int) (e : Ending) (w' : World) : Prop :=
  ∃ v1 v2, e = .returned (.tuple #[.agg #[v1, v2], .bool b]) ∧ OwnU w' w.heap.size v1 ps ∧ OwnU w' w.heap.size v2 ss ∧ Below w.heap.size w w'
def dealS (c P Q G n : Int) (xs : List Int) : Bool × List Int × List Int :=
  if c = 0 ∧ xs.length ≤ 100 then (decide ((splitS P Q G n xs).1 = 0), (splitS P Q G n xs).2) else (false, [], [])
theorem ret_dealb {x y : Value} {b b' : Bool} (h : b = b') : Ending.returned (.tuple #[.agg #[x, y], .bool b]) = .returned (.tuple #[.agg #[x, y], .bool b']) := by rw [h]
set_option maxRecDepth 100000 in
set_option maxHeartbeats 8000000 in
theorem deal_any {P Q G i co : Int} {b : Bool} {ps ss : List Int} {a : Option Addr} {n c : Nat} {xs : List Int} (w : World) (hP : 0 ≤ P) (hQ : 0 ≤ Q) (hG : 0 ≤ G) (il : -9223372036854775808 ≤ i) (iu : i ≤ 9223372036854775807) (h : ShI .u64 w a n xs) (hx : ∀ x, x ∈ xs → U64 x) (hv : ValidS P Q G co) (hr : dealS co P Q G i xs = (b, ps, ss)) :
    Calls Try.prog 38 #[.agg #[.int .u64 P, .int .u64 Q, .int .u64 G], .slice a n c, .int .i64 i] w (RetDealB w b ps ss) := by
  have HS := Lib.hid h
  have HLN := Lib.hid h.len
  have HX := Lib.hid hx
  have HV := Lib.hid hv
  clear h hx
  by_cases hc : co = 0
  case neg =>
    obtain ⟨rfl, hps0⟩ := Prod.mk.inj (show (false, [], []) = (b, ps, ss) by rw [← hr]; simp [dealS, hc])
    obtain ⟨rfl, rfl⟩ := Prod.mk.inj hps0
    have hcb : (co != 0) = true := by simpa using hc
    clear hr hv hps0 hc
    have F_g := Lib.hid (show Boxed ((w.alloc (.cells #[.int .u64 P, .int .u64 Q, .int .u64 G] 24)).alloc (.cells #[.slice none 0 0, .slice none 0 0] 27)) w.heap.size P Q G from (Boxed.at _ P Q G _ w.heap.size (by simp)).alloc _)
    have F_r := Lib.hid (show DealBox ((w.alloc (.cells #[.int .u64 P, .int .u64 Q, .int .u64 G] 24)).alloc (.cells #[.slice none 0 0, .slice none 0 0] 27)) (w.heap.size + 1) (.slice none 0 0) (.slice none 0 0) from DealBox.at _ _ _ _ (w.heap.size + 1) (by simp))
    have HBW := Lib.hid (show Below w.heap.size w ((w.alloc (.cells #[.int .u64 P, .int .u64 Q, .int .u64 G] 24)).alloc (.cells #[.slice none 0 0, .slice none 0 0] 27)) from ((Below.refl _ _).alloc (by simp <;> omega) _).alloc (by simp <;> omega) _)
    go_enter Try.func38, Try.ntmps38
    obtain ⟨x0a, x0b, x0c, -⟩ := id F_g.out
    obtain ⟨y0a, y0b, y0c, y0d, -⟩ := id F_r.out
    go_wp2_with fail
    clear x0a x0b x0c y0a y0b y0c y0d
    refine (gcheck_any P Q G co _ hP hQ hG HV.out).mono ?_
    rintro e w1 ⟨rfl, hb1⟩
    replace F_g := Lib.hid (F_g.out.keep hb1)
    replace F_r := Lib.hid (F_r.out.keep hb1)
    replace HBW := Lib.hid (HBW.out.trans (hb1.mono HBW.out.size))
    clear hb1
    obtain ⟨x0a, x0b, x0c, -⟩ := id F_g.out
    obtain ⟨y0a, y0b, y0c, y0d, -⟩ := id F_r.out
    go_wp2_with fail
    exact bodyPost_ret (res_deal rfl (F_r.out.stored (.slice none 0 0) (.slice none 0 0)) _ rfl rfl rfl rfl) rfl ⟨_, _, rfl, OwnU.nil _ _, OwnU.nil _ _, (HBW.out.setCell (by simp <;> omega) _).setCell (by simp <;> omega) _⟩
  case pos =>
    subst hc
    by_cases hg : 100 < n
    case pos =>
      obtain ⟨rfl, hps0⟩ := Prod.mk.inj (show (false, [], []) = (b, ps, ss) by rw [← hr]; simp [dealS]; intro h; rw [← HLN.out] at h; omega)
      obtain ⟨rfl, rfl⟩ := Prod.mk.inj hps0
      have HG1 := Lib.hid (show decide (100 < n) = true by simpa using hg)
      clear hr hv hps0 hg
      have F_g := Lib.hid (show Boxed ((w.alloc (.cells #[.int .u64 P, .int .u64 Q, .int .u64 G] 24)).alloc (.cells #[.slice none 0 0, .slice none 0 0] 27)) w.heap.size P Q G from (Boxed.at _ P Q G _ w.heap.size (by simp)).alloc _)
      have F_r := Lib.hid (show DealBox ((w.alloc (.cells #[.int .u64 P, .int .u64 Q, .int .u64 G] 24)).alloc (.cells #[.slice none 0 0, .slice none 0 0] 27)) (w.heap.size + 1) (.slice none 0 0) (.slice none 0 0) from DealBox.at _ _ _ _ (w.heap.size + 1) (by simp))
      have HBW := Lib.hid (show Below w.heap.size w ((w.alloc (.cells #[.int .u64 P, .int .u64 Q, .int .u64 G] 24)).alloc (.cells #[.slice none 0 0, .slice none 0 0] 27)) from ((Below.refl _ _).alloc (by simp <;> omega) _).alloc (by simp <;> omega) _)
      go_enter Try.func38, Try.ntmps38
      obtain ⟨x0a, x0b, x0c, -⟩ := id F_g.out
      obtain ⟨y0a, y0b, y0c, y0d, -⟩ := id F_r.out
      go_wp2_with fail
      clear x0a x0b x0c y0a y0b y0c y0d
      refine (gcheck_any P Q G 0 _ hP hQ hG HV.out).mono ?_
      rintro e w1 ⟨rfl, hb1⟩
      replace F_g := Lib.hid (F_g.out.keep hb1)
      replace F_r := Lib.hid (F_r.out.keep hb1)
      replace HBW := Lib.hid (HBW.out.trans (hb1.mono HBW.out.size))
      clear hb1
      obtain ⟨x0a, x0b, x0c, -⟩ := id F_g.out
      obtain ⟨y0a, y0b, y0c, y0d, -⟩ := id F_r.out
      go_wp2_with fail
      clear x0a x0b x0c y0a y0b y0c y0d
      refine (rgreat34_any _ HG1.out).mono ?_
      rintro e w2 ⟨rfl, rfl⟩
      obtain ⟨x0a, x0b, x0c, -⟩ := id F_g.out
      obtain ⟨y0a, y0b, y0c, y0d, -⟩ := id F_r.out
      go_wp2_with fail
      exact bodyPost_ret (res_deal rfl (F_r.out.stored (.slice none 0 0) (.slice none 0 0)) _ rfl rfl rfl rfl) rfl ⟨_, _, rfl, OwnU.nil _ _, OwnU.nil _ _, (HBW.out.setCell (by simp <;> omega) _).setCell (by simp <;> omega) _⟩
    case neg =>
      obtain ⟨er, ps', ss', hd⟩ : ∃ er ps' ss', splitS P Q G i xs = (er, ps', ss') := ⟨_, _, _, rfl⟩
      rw [dealS, if_pos ⟨rfl, by rw [← HLN.out]; omega⟩, hd] at hr
      obtain ⟨hb, hps0⟩ := Prod.mk.inj hr
      obtain ⟨rfl, rfl⟩ := Prod.mk.inj hps0
      have hn : n ≤ 1000000 := by omega
      have HG1 := Lib.hid (show decide (100 < n) = false by simpa using hg)
      have HB := Lib.hid (show (er == 0) = b by rw [← hb]; show (er == 0) = decide (er = 0); cases h : (er == 0) <;> simp_all)
      have HD := Lib.hid hd
      clear hr hv hps0 hg hb hd
      have F_g := Lib.hid (show Boxed ((w.alloc (.cells #[.int .u64 P, .int .u64 Q, .int .u64 G] 24)).alloc (.cells #[.slice none 0 0, .slice none 0 0] 27)) w.heap.size P Q G from (Boxed.at _ P Q G _ w.heap.size (by simp)).alloc _)
      have F_r := Lib.hid (show DealBox ((w.alloc (.cells #[.int .u64 P, .int .u64 Q, .int .u64 G] 24)).alloc (.cells #[.slice none 0 0, .slice none 0 0] 27)) (w.heap.size + 1) (.slice none 0 0) (.slice none 0 0) from DealBox.at _ _ _ _ (w.heap.size + 1) (by simp))
      have HBW := Lib.hid (show Below w.heap.size w ((w.alloc (.cells #[.int .u64 P, .int .u64 Q, .int .u64 G] 24)).alloc (.cells #[.slice none 0 0, .slice none 0 0] 27)) from ((Below.refl _ _).alloc (by simp <;> omega) _).alloc (by simp <;> omega) _)
      go_enter Try.func38, Try.ntmps38
      obtain ⟨x0a, x0b, x0c, -⟩ := id F_g.out
      obtain ⟨y0a, y0b, y0c, y0d, -⟩ := id F_r.out
      go_wp2_with fail
      clear x0a x0b x0c y0a y0b y0c y0d
      refine (gcheck_any P Q G 0 _ hP hQ hG HV.out).mono ?_
      rintro e w1 ⟨rfl, hb1⟩
      replace F_g := Lib.hid (F_g.out.keep hb1)
      replace F_r := Lib.hid (F_r.out.keep hb1)
      replace HBW := Lib.hid (HBW.out.trans (hb1.mono HBW.out.size))
      clear hb1
      obtain ⟨x0a, x0b, x0c, -⟩ := id F_g.out
      obtain ⟨y0a, y0b, y0c, y0d, -⟩ := id F_r.out
      go_wp2_with fail
      clear x0a x0b x0c y0a y0b y0c y0d
      refine (rgreat34_any _ HG1.out).mono ?_
      rintro e w2 ⟨rfl, rfl⟩
      have hrl0 := F_r.out.lt
      have hzl0 := HBW.out.size
      obtain ⟨x0a, x0b, x0c, -⟩ := id F_g.out
      obtain ⟨y0a, y0b, y0c, y0d, -⟩ := id F_r.out
      go_wp2_with fail
      clear x0a x0b x0c y0a y0b y0c y0d
      refine (sSplit_any _ hP hQ hG il iu (HS.out.keep HBW.out) hn HX.out HD.out).mono ?_
      rintro e w5 ⟨v1, v2, rfl, ho1, ho2, hb5⟩
      replace F_g := Lib.hid (F_g.out.keep hb5)
      replace F_r := Lib.hid (F_r.out.keep hb5)
      replace HBW := Lib.hid (HBW.out.trans (hb5.mono HBW.out.size))
      have HO1 := Lib.hid ho1
      have HO2 := Lib.hid ho2
      clear hb5 ho1 ho2
      obtain ⟨o1, e1, rfl⟩ := HO1.out.sl
      obtain ⟨o2, e2, rfl⟩ := HO2.out.sl
      have hrl := F_r.out.lt
      obtain ⟨x0a, x0b, x0c, -⟩ := id F_g.out
      obtain ⟨y0a, y0b, y0c, y0d, -⟩ := id F_r.out
      go_wp2_with fail
      have HZ9 := Lib.hid HBW.out.size
      exact bodyPost_ret (res_deal rfl ((F_r.out.stored _ _).alloc _) _ rfl rfl rfl rfl) rfl ⟨_, _, ret_dealb HB.out, (((HO1.out.far (by omega) _).far (by omega) _).keep ((Below.refl _ _).alloc (Nat.le_refl _) _)).mono (by omega), (((HO2.out.far (by omega) _).far (by omega) _).keep ((Below.refl _ _).alloc (Nat.le_refl _) _)).mono (by omega), ((HBW.out.setCell (p := ⟨w.heap.size + 1, 0, none⟩) (by show w.heap.size ≤ w.heap.size + 1; omega) _).setCell (p := ⟨w.heap.size + 1, 1, none⟩) (by show w.heap.size ≤ w.heap.size + 1; omega) _).alloc (by have := HBW.out.size; simp; omega) _⟩

/-- What a deal of the laws says. -/
theorem dealS_yes {c P Q G n : Int} {xs ps ss : List Int} (hv : ValidS P Q G c) (h : dealS c P Q G n xs = (true, ps, ss)) : Valid P Q G ∧ belowS Q xs = true ∧ (xs.length : Int) ≤ n ∧ numS Q n = true ∧ ps = pledgesS P G xs ∧ ss = sharesS Q xs n.toNat := by
  unfold dealS at h
  split at h
  · rename_i hc
    obtain ⟨h1, h2⟩ := Prod.mk.inj h
    have h1 := of_decide_eq_true h1
    rcases hv with ⟨hv, -⟩ | ⟨-, h3⟩
    · refine ⟨hv, ?_⟩
      unfold splitS at h1 h2
      rw [if_pos hv.1] at h1 h2
      split at h2
      · rename_i hb
        simp only [Bool.and_eq_true, decide_eq_true_eq] at hb
        obtain ⟨h4, h5⟩ := Prod.mk.inj h2
        exact ⟨hb.1, hb.2.1, hb.2.2, h4.symm, h5.symm⟩
      · rename_i hb
        rw [if_neg hb] at h1
        cases h1
    · rw [hc.1] at h3; cases h3
  · cases h
/-- The key of a number under the pledges of a polynomial. -/
theorem key_at {P Q G i : Int} (g : Grp P Q G) (i0 : 0 ≤ i) (xs : List Int) (hx : ∀ x, x ∈ xs → 0 ≤ x ∧ x < Q) : ∀ k, k ≤ xs.length → keyOfS P Q i (pledgesS P G xs) k = powm G (atS Q i xs k) P
  | 0, _ => by
    show (1 : Int) = powm G 0 P
    rw [powm_zero, g.one]
  | k + 1, hk => by
    have q2 := g.pQ.1
    have ih := key_at g i0 xs hx k (by omega)
    have hlt : k < xs.length := by omega
    have e2 : (pledgesS P G xs).getD k 0 = powm G (xs.getD k 0) P := by
      rw [pledgesS, List.getD_eq_getElem?_getD, List.getElem?_map, List.getElem?_eq_getElem hlt, List.getD_eq_getElem?_getD, List.getElem?_eq_getElem hlt]; rfl
    have hx0 : 0 ≤ xs.getD k 0 := by rw [getD_at hlt]; exact (hx _ (List.getElem_mem hlt)).1
    obtain ⟨x, hxx⟩ : ∃ x, xs.getD k 0 = x := ⟨_, rfl⟩
    obtain ⟨q, hq⟩ : ∃ q, powm i k Q = q := ⟨_, rfl⟩
    have q0 : 0 ≤ q := by rw [← hq]; exact powm_nonneg (by omega)
    have a0 := (atS_range (i := i) (show 0 < Q by omega) xs k).1
    show keyOfS P Q i (pledgesS P G xs) k * powm ((pledgesS P G xs).getD k 0) (powm i k Q) P % P = powm G ((atS Q i xs k + xs.getD k 0 * powm i k Q % Q) % Q) P
    rw [ih, e2, hq]
    rw [hxx] at hx0 ⊢
    rw [← powm_mul G P hx0 q0, ← powm_add G P a0 (Int.mul_nonneg hx0 q0)]
    refine g.period_cg g.mem_g (Int.add_nonneg a0 (Int.mul_nonneg hx0 q0)) (Int.emod_nonneg _ (by omega)) ?_
    exact ((cg_emod _ _).trans ((Cg.refl _ _).add (cg_emod _ _))).symm
theorem key_val {P Q G i : Int} (g : Grp P Q G) (i0 : 0 ≤ i) (xs : List Int) (hx : ∀ x, x ∈ xs → 0 ≤ x ∧ x < Q) : keyOfS P Q i (pledgesS P G xs) (pledgesS P G xs).length = powm G (valS Q i xs) P := by
  rw [pledges_len, key_at g i0 xs hx _ (Nat.le_refl _), at_val (by have := g.pQ.1; omega)]
theorem below_pledges {P Q G : Int} (hP : 0 < P) {xs : List Int} (h : belowS Q xs = true) : belowS P (pledgesS P G xs) = true := by
  have hb := belowS_true h
  simp only [belowS, pledges_len, Bool.and_eq_true, decide_eq_true_eq, okAll, List.all_eq_true]
  refine ⟨⟨hb.1, hb.2.1⟩, fun x hx => ?_⟩
  rw [pledgesS, List.mem_map] at hx
  obtain ⟨y, -, rfl⟩ := hx
  exact powm_lt hP
theorem verify_at {P Q G i s : Int} (hv : Valid P Q G) {xs : List Int} (hb : belowS Q xs = true) (hx : ∀ x, x ∈ xs → U64 x) (hi : numS Q i = true) (s0 : 0 ≤ s) (sQ : s < Q) : verifyS P Q G i s (pledgesS P G xs) = (decide (s = valS Q i xs), 0) := by
  have g := hv.grp
  have q2 := g.pQ.1
  have hx' := belowS_bd hb hx
  have hk : keyS P Q G i (pledgesS P G xs) = (powm G (valS Q i xs) P, 0) := by
    simp only [keyS, hv.1, below_pledges (G := G) (show 0 < P by have := g.five; omega) hb, hi, if_true, Bool.and_self]
    rw [key_val g (numS_true hi).1 xs hx']
  rw [verifyS, hk]
  simp only [if_true, sQ]
  congr 1
  apply decide_eq_decide.2
  have hr := valS_range i (show 0 < Q by omega) xs
  exact ⟨fun h => g.inj g.mem_g g.g_ne s0 sQ hr.1 hr.2 h, fun h => by rw [h]⟩
theorem share_at {Q : Int} {xs : List Int} {n k : Nat} (h : k < n) : (sharesS Q xs n).getD k 0 = valS Q ((k : Int) + 1) xs := by
  rw [sharesS, List.getD_eq_getElem?_getD, List.getElem?_map, List.getElem?_eq_getElem (by simpa using h)]; simp
theorem val_zero {Q : Int} {x : Int} {l : List Int} (h0 : 0 ≤ x) (h1 : x < Q) : valS Q 0 (x :: l) = x := by
  show (x + 0 * pv 0 l) % Q = x
  rw [Int.zero_mul, Int.add_zero]; exact Int.emod_eq_of_lt h0 h1
end Go.Proofs.Ytjfaaicbojnpaaa
