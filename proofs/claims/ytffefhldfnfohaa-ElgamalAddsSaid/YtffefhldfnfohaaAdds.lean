/- ElgamalAdds: the statement: for every input the law returns true, and the arguments read as before. -/
import Derived.Test.YtffefhldfnfohaaAux32
import Derived.Test.YtffefhldfnfohaaSumRE
import Derived.Test.YtffefhldfnfohaaLawAdds
import Derived.Test.YtffefhldfnfohaaListI
import Derived.Test.YtffefhldfnfohaaRows
namespace Go.Proofs.Ytffefhldfnfohaa.lawAdds
open Go.ChangeShapes Go.WideShapes Go.ChangeAt Go.RowKit Num
set_option linter.unusedSimpArgs false
set_option linter.unusedVariables false


theorem cell_pair_new (w : World) (a b : Value) (t : TypeId) : ∀ j u, [a, b][j]? = some u → (w.alloc (.cells #[a, b] t)).cell? ((⟨w.heap.size, 0, none⟩ : Addr).add j) = some u := by
  intro j u hj
  rw [add_pl, World.cell?_alloc_new]
  match j, hj with
  | 0, hj => simpa using hj
  | 1, hj => simpa using hj
theorem boxed_under {w w' : World} {b B : Nat} {P Q G : Int} (h : Boxed w b P Q G) (hb : Below B w w') (hlt : b < B) (hs : B ≤ w.heap.size) : Boxed w' b P Q G :=
  ⟨(hb.cell (p := ⟨b, 0, none⟩) hlt).trans h.c0, (hb.cell (p := ⟨b, 1, none⟩) hlt).trans h.c1, (hb.cell (p := ⟨b, 2, none⟩) hlt).trans h.c2, Nat.lt_of_lt_of_le h.lt hb.size⟩
theorem cell_pair_at (w : World) (a b : Value) (t : TypeId) (s : Nat) (hs : s = w.heap.size) : ∀ j u, [a, b][j]? = some u → (w.alloc (.cells #[a, b] t)).cell? ((⟨s, 0, none⟩ : Addr).add j) = some u := by
  subst hs; exact cell_pair_new w a b t
theorem owns_below {w w' : World} {base : Nat} {e : TypeId} {size : Nat} {v : Value} {n : Nat} {xs : List Value} (h : w.ownsRow base e size v n xs) (hb : Below w.heap.size w w') : w'.ownsRow base e size v n xs := by
  refine ⟨h.1, ?_⟩
  rcases h.2 with h0 | ⟨g, cap, cur, h1, h2, h3, h4⟩
  · exact .inl h0
  · have hlt := (h.lt g (by rw [h1]; rfl)).2
    exact .inr ⟨g, cap, cur, h1, h2, by rw [hb.block g hlt]; exact h3, h4⟩
/-- What holds behind k rounds: the encryptions made so far. -/
structure AddsIn (w w1 wr : World) (P G y : Int) (k : Nat) (M : Int) (v : Value) : Prop where
  row : ∃ (ps : List (Int × Int)) (R : Int), wr.ownsRow (w.heap.size + 1) 26 2 v k (flatS ps) ∧ allP P ps = encS P G y M R ∧ okS P ps = true ∧ (∀ p, p ∈ ps → 0 ≤ p.1 ∧ 0 ≤ p.2) ∧ 0 ≤ R
  bel : Below (w.heap.size + 1) w1 wr
  m0 : 0 ≤ M
  m1 : M ≤ 15 * k
set_option maxRecDepth 100000 in
set_option maxHeartbeats 4000000 in
theorem walk (P Q G x : Int) (la : Option Addr) (mn lc : Nat) (ms : List Int) (lb : Option Addr) (nn ld : Nat) (ns : List Int) (w : World) (uP : U64 P) (uQ : U64 Q) (uG : U64 G) (ux : U64 x) (hS : ShI .u8 w la mn ms) (hN : ∀ q, q ∈ ms → 0 ≤ q ∧ q < 256) (hc : la = none → lc = 0) (hlc : mn ≤ lc) (hT : ShI .u64 w lb nn ns) (hL : ∀ q, q ∈ ns → U64 q) (hd : lb = none → ld = 0) (hld : nn ≤ ld) :
    Calls Try.prog 8 #[.agg #[.int .u64 P, .int .u64 Q, .int .u64 G], .int .u64 x, .slice la mn lc, .slice lb nn ld] w fun e w' => e = .returned (.bool true) ∧ Below w.heap.size w w' := by
  have hP := uP.1
  have hQ := uQ.1
  have hG := uG.1
  have hx := ux.1
  have HMS := Lib.hid hS
  have HNO := Lib.hid hT
  have HU8 := Lib.hid hN
  have HU64 := Lib.hid hL
  clear hS hT hN hL
  by_cases hv : Valid P Q G
  case neg =>
    have HV := Lib.hid (show ValidS P Q G 300 from .inr ⟨hv, rfl⟩)
    clear hv
    have F_g := Lib.hid (show Boxed (w.alloc (.cells #[.int .u64 P, .int .u64 Q, .int .u64 G] 24)) (w.heap.size) P Q G from Boxed.at _ P Q G _ (w.heap.size) (by simp))
    have HBW := Lib.hid (show Below w.heap.size w (w.alloc (.cells #[.int .u64 P, .int .u64 Q, .int .u64 G] 24)) from (Below.refl _ _).alloc (by simp <;> omega) _)
    go_enter Try.func8, Try.ntmps8
    obtain ⟨x0a, x0b, x0c, -⟩ := id F_g.out
    go_wp2_with fail
    clear x0a x0b x0c
    refine (alive_yes _).mono ?_
    rintro e w1 ⟨rfl, hb1⟩
    replace F_g := Lib.hid (F_g.out.keep hb1)
    replace HBW := Lib.hid (HBW.out.trans (hb1.mono HBW.out.size))
    clear hb1
    obtain ⟨x0a, x0b, x0c, -⟩ := id F_g.out
    go_wp2_with fail
    clear x0a x0b x0c
    refine (gcheck_any P Q G 300 _ hP hQ hG HV.out).mono ?_
    rintro e w2 ⟨rfl, hb2⟩
    replace F_g := Lib.hid (F_g.out.keep hb2)
    replace HBW := Lib.hid (HBW.out.trans (hb2.mono HBW.out.size))
    clear hb2
    obtain ⟨x0a, x0b, x0c, -⟩ := id F_g.out
    go_wp2_with fail
    go_ret
    exact ⟨rfl, HBW.out⟩
  case pos =>
    have HV := Lib.hid (show ValidS P Q G 0 from .inl ⟨hv, rfl⟩)
    have HG := Lib.hid hv.grp
    have HH := Lib.hid hv.has
    obtain ⟨p5, p3, _, pq, g2, gP⟩ := id hv.1
    have q3 : Q < 1073741824 := by omega
    clear hv pq p3
    by_cases hxQ : x < Q
    case neg =>
      have hxQ_ : Q ≤ x := by omega
      clear hxQ
      have F_g := Lib.hid (show Boxed (w.alloc (.cells #[.int .u64 P, .int .u64 Q, .int .u64 G] 24)) (w.heap.size) P Q G from Boxed.at _ P Q G _ (w.heap.size) (by simp))
      have HBW := Lib.hid (show Below w.heap.size w (w.alloc (.cells #[.int .u64 P, .int .u64 Q, .int .u64 G] 24)) from (Below.refl _ _).alloc (by simp <;> omega) _)
      go_enter Try.func8, Try.ntmps8
      obtain ⟨x0a, x0b, x0c, -⟩ := id F_g.out
      go_wp2_with fail
      clear x0a x0b x0c
      refine (alive_yes _).mono ?_
      rintro e w1 ⟨rfl, hb1⟩
      replace F_g := Lib.hid (F_g.out.keep hb1)
      replace HBW := Lib.hid (HBW.out.trans (hb1.mono HBW.out.size))
      clear hb1
      obtain ⟨x0a, x0b, x0c, -⟩ := id F_g.out
      go_wp2_with fail
      clear x0a x0b x0c
      refine (gcheck_any P Q G 0 _ hP hQ hG HV.out).mono ?_
      rintro e w2 ⟨rfl, hb2⟩
      replace F_g := Lib.hid (F_g.out.keep hb2)
      replace HBW := Lib.hid (HBW.out.trans (hb2.mono HBW.out.size))
      clear hb2
      obtain ⟨x0a, x0b, x0c, -⟩ := id F_g.out
      go_wp2_with fail
      go_ret
      exact ⟨rfl, HBW.out⟩
    case pos =>
      have xQ := hxQ
      clear hxQ
      by_cases h40 : mn ≤ 40
      case neg =>
        have h40_ : (40 : Int) < (mn : Int) := by omega
        clear h40
        have F_g := Lib.hid (show Boxed (w.alloc (.cells #[.int .u64 P, .int .u64 Q, .int .u64 G] 24)) (w.heap.size) P Q G from Boxed.at _ P Q G _ (w.heap.size) (by simp))
        have HBW := Lib.hid (show Below w.heap.size w (w.alloc (.cells #[.int .u64 P, .int .u64 Q, .int .u64 G] 24)) from (Below.refl _ _).alloc (by simp <;> omega) _)
        go_enter Try.func8, Try.ntmps8
        obtain ⟨x0a, x0b, x0c, -⟩ := id F_g.out
        go_wp2_with fail
        clear x0a x0b x0c
        refine (alive_yes _).mono ?_
        rintro e w1 ⟨rfl, hb1⟩
        replace F_g := Lib.hid (F_g.out.keep hb1)
        replace HBW := Lib.hid (HBW.out.trans (hb1.mono HBW.out.size))
        clear hb1
        obtain ⟨x0a, x0b, x0c, -⟩ := id F_g.out
        go_wp2_with fail
        clear x0a x0b x0c
        refine (gcheck_any P Q G 0 _ hP hQ hG HV.out).mono ?_
        rintro e w2 ⟨rfl, hb2⟩
        replace F_g := Lib.hid (F_g.out.keep hb2)
        replace HBW := Lib.hid (HBW.out.trans (hb2.mono HBW.out.size))
        clear hb2
        obtain ⟨x0a, x0b, x0c, -⟩ := id F_g.out
        go_wp2_with fail
        go_ret
        exact ⟨rfl, HBW.out⟩
      case pos =>
        have h40_ : decide ((40 : Int) < (mn : Int)) = false := by simp; omega
        by_cases hmn : mn ≤ nn
        case neg =>
          have hmn_ : (nn : Int) < (mn : Int) := by omega
          clear hmn
          have F_g := Lib.hid (show Boxed (w.alloc (.cells #[.int .u64 P, .int .u64 Q, .int .u64 G] 24)) (w.heap.size) P Q G from Boxed.at _ P Q G _ (w.heap.size) (by simp))
          have HBW := Lib.hid (show Below w.heap.size w (w.alloc (.cells #[.int .u64 P, .int .u64 Q, .int .u64 G] 24)) from (Below.refl _ _).alloc (by simp <;> omega) _)
          go_enter Try.func8, Try.ntmps8
          obtain ⟨x0a, x0b, x0c, -⟩ := id F_g.out
          go_wp2_with fail
          clear x0a x0b x0c
          refine (alive_yes _).mono ?_
          rintro e w1 ⟨rfl, hb1⟩
          replace F_g := Lib.hid (F_g.out.keep hb1)
          replace HBW := Lib.hid (HBW.out.trans (hb1.mono HBW.out.size))
          clear hb1
          obtain ⟨x0a, x0b, x0c, -⟩ := id F_g.out
          go_wp2_with fail
          clear x0a x0b x0c
          refine (gcheck_any P Q G 0 _ hP hQ hG HV.out).mono ?_
          rintro e w2 ⟨rfl, hb2⟩
          replace F_g := Lib.hid (F_g.out.keep hb2)
          replace HBW := Lib.hid (HBW.out.trans (hb2.mono HBW.out.size))
          clear hb2
          obtain ⟨x0a, x0b, x0c, -⟩ := id F_g.out
          go_wp2_with fail
          go_ret
          exact ⟨rfl, HBW.out⟩
        case pos =>
          have hmn_ : decide ((nn : Int) < (mn : Int)) = false := by simp; omega
          obtain ⟨i0, hi, hz0, hz1', hz2⟩ := info_parts (P := Try.prog) (e := 26) (z := .agg #[.int .u64 0, .int .u64 0]) (size := 2) (bytes := 16) (by kernel_rfl)
          have UX := Lib.hid (show U64 x from ux)
          obtain ⟨y, hy⟩ : ∃ y, powm G x P = y := ⟨_, rfl⟩
          have my : Mem P Q y := by rw [← hy]; exact HG.out.mem_pow HG.out.mem_g x
          have y0 : 0 ≤ y := Int.le_of_lt my.1
          have yP := my.2.1
          have HMY := Lib.hid my
          have HY := Lib.hid hy
          clear hy my
          have F_g := Lib.hid (show Boxed (w.alloc (.cells #[.int .u64 P, .int .u64 Q, .int .u64 G] 24)) (w.heap.size) P Q G from Boxed.at _ P Q G _ (w.heap.size) (by simp))
          have HBW := Lib.hid (show Below w.heap.size w (w.alloc (.cells #[.int .u64 P, .int .u64 Q, .int .u64 G] 24)) from (Below.refl _ _).alloc (by simp <;> omega) _)
          go_enter Try.func8, Try.ntmps8
          obtain ⟨x0a, x0b, x0c, -⟩ := id F_g.out
          go_wp2_with fail
          clear x0a x0b x0c
          refine (alive_yes _).mono ?_
          rintro e w1 ⟨rfl, hb1⟩
          replace F_g := Lib.hid (F_g.out.keep hb1)
          replace HBW := Lib.hid (HBW.out.trans (hb1.mono HBW.out.size))
          clear hb1
          obtain ⟨x0a, x0b, x0c, -⟩ := id F_g.out
          go_wp2_with fail
          clear x0a x0b x0c
          refine (gcheck_any P Q G 0 _ hP hQ hG HV.out).mono ?_
          rintro e w2 ⟨rfl, hb2⟩
          replace F_g := Lib.hid (F_g.out.keep hb2)
          replace HBW := Lib.hid (HBW.out.trans (hb2.mono HBW.out.size))
          clear hb2
          obtain ⟨x0a, x0b, x0c, -⟩ := id F_g.out
          go_wp2_with fail
          clear x0a x0b x0c
          refine (pow_ok P Q G G x y _ HH.out hG gP UX.out HY.out).mono ?_
          rintro e w3 ⟨rfl, hb3⟩
          replace F_g := Lib.hid (F_g.out.keep hb3)
          replace HBW := Lib.hid (HBW.out.trans (hb3.mono HBW.out.size))
          clear hb3
          obtain ⟨x0a, x0b, x0c, -⟩ := id F_g.out
          go_wp2_with fail
          clear x0a x0b x0c
          have hz1 := F_g.out.lt
          have HBW0 := Lib.hid HBW.out
          go_loopw [12, 13, 14, 15, 16, 17] (fun c12 c13 c14 c15 c16 c17 wr => ∃ k : Nat, k ≤ mn ∧ c14 = .int .i64 k ∧ ∃ M : Int, c13 = .int .u64 M ∧ Hid (AddsIn w w3 wr P G y k M c12)) (fun _ _ c14 _ _ _ _ => mn - (intOf c14).toNat)
          case atStart => exact ⟨0, Nat.zero_le _, rfl, 0, rfl, ⟨⟨[], 0, World.ownsRow_nil _ _ _ _, (encS_zero HG.out).symm, rfl, (fun p hp => by cases hp), Int.le_refl _⟩, Below.refl _ _, Int.le_refl _, by simp⟩⟩
          case round =>
            obtain ⟨k, hk, rfl, M, rfl, HK⟩ := hrel
            have HBW := Lib.hid (HBW0.out.trans (HK.out.bel.mono (Nat.le_succ _)))
            have F_g := Lib.hid (boxed_under F_g.out HK.out.bel (Nat.lt_succ_self _) hz1)
            have M0 := HK.out.m0
            have M1 := HK.out.m1
            obtain ⟨ps, R, hown, hps, hok, hnn, R0⟩ := HK.out.row
            have hzr := HBW.out.size
            by_cases hlt : k < mn
            case neg =>
              have hkn : k = mn := by omega
              have HNN := Lib.hid hnn
              obtain ⟨p, q, hpq⟩ : ∃ p q, encS P G y M R = (p, q) := ⟨_, _, rfl⟩
              have hpr := allP_range (P := P) (by omega) ps
              rw [hps, hpq] at hpr
              obtain ⟨p0, pP, q0, qP⟩ := hpr
              obtain ⟨ba, bc, hv8, hbk⟩ := ShS.of_owned hown
              have hlp := hbk.len
              have HSUM := Lib.hid (show SumS P Q G ps p q 0 from .inr (.inr (.inr ⟨HH.out, by omega, hok, by rw [hps, hpq], rfl⟩)))
              have F_bk := Lib.hid hbk
              subst hv8
              have HPQ := Lib.hid hpq
              have M600 : M ≤ 600 := by omega
              have hwI : IntKind.i64.wrap M = M := by rw [IntKind.wrap_i64]; omega
              clear hpq hps hok hnn hown hbk HK hlp
              subst hkn
              by_cases hMQ : M < Q
              case neg =>
                have hMQ_ : Q ≤ M := by omega
                clear hMQ
                obtain ⟨x0a, x0b, x0c, -⟩ := id F_g.out
                go_wp2_with fail
                clear x0a x0b x0c
                refine (esum_any _ hP hQ hG F_bk.out HNN.out HSUM.out).mono ?_
                rintro e w21 ⟨rfl, hb21⟩
                replace F_g := Lib.hid (F_g.out.keep hb21)
                replace F_bk := Lib.hid (F_bk.out.keep hb21)
                replace HBW := Lib.hid (HBW.out.trans (hb21.mono HBW.out.size))
                clear hb21
                replace F_g := Lib.hid (F_g.out.alloc (.cells #[.int .u64 p, .int .u64 q] 26))
                replace F_bk := Lib.hid (F_bk.out.alloc (.cells #[.int .u64 p, .int .u64 q] 26))
                have F_s := Lib.hid (Pair.new w21 p q 26)
                replace HBW := Lib.hid (HBW.out.alloc HBW.out.size (.cells #[.int .u64 p, .int .u64 q] 26))
                clear F_bk
                obtain ⟨x0a, x0b, x0c, -⟩ := id F_g.out
                obtain ⟨x1a, x1b, x1c, x1d, -⟩ := id F_s.out
                go_wp2_with fail
                go_ret
                exact ⟨rfl, HBW.out⟩
              case pos =>
                have HDC := Lib.hid (show DecS P Q G x p q 4096 M 0 from decS_encS HG.out HH.out hx xQ M0 hMQ (by omega) R0 (by rw [HY.out]; exact HPQ.out))
                obtain ⟨x0a, x0b, x0c, -⟩ := id F_g.out
                go_wp2_with fail
                clear x0a x0b x0c
                refine (esum_any _ hP hQ hG F_bk.out HNN.out HSUM.out).mono ?_
                rintro e w21 ⟨rfl, hb21⟩
                replace F_g := Lib.hid (F_g.out.keep hb21)
                replace F_bk := Lib.hid (F_bk.out.keep hb21)
                replace HBW := Lib.hid (HBW.out.trans (hb21.mono HBW.out.size))
                clear hb21
                replace F_g := Lib.hid (F_g.out.alloc (.cells #[.int .u64 p, .int .u64 q] 26))
                replace F_bk := Lib.hid (F_bk.out.alloc (.cells #[.int .u64 p, .int .u64 q] 26))
                have F_s := Lib.hid (Pair.new w21 p q 26)
                replace HBW := Lib.hid (HBW.out.alloc HBW.out.size (.cells #[.int .u64 p, .int .u64 q] 26))
                clear F_bk
                obtain ⟨x0a, x0b, x0c, -⟩ := id F_g.out
                obtain ⟨x1a, x1b, x1c, x1d, -⟩ := id F_s.out
                go_wp2_with fail
                clear x0a x0b x0c x1a x1b x1c x1d
                refine (edecrypt_gen _ hP hQ hG hx p0 q0 HDC.out).mono ?_
                rintro e w22 ⟨rfl, hb22⟩
                replace F_g := Lib.hid (F_g.out.keep hb22)
                replace F_s := Lib.hid (F_s.out.keep hb22)
                replace HBW := Lib.hid (HBW.out.trans (hb22.mono HBW.out.size))
                clear hb22
                obtain ⟨x0a, x0b, x0c, -⟩ := id F_g.out
                obtain ⟨x1a, x1b, x1c, x1d, -⟩ := id F_s.out
                go_wp2_with fail
                clear x0a x0b x0c x1a x1b x1c x1d
                refine (opens_yes M _).mono ?_
                rintro e w23 ⟨rfl, rfl⟩
                obtain ⟨x0a, x0b, x0c, -⟩ := id F_g.out
                obtain ⟨x1a, x1b, x1c, x1d, -⟩ := id F_s.out
                go_wp2_with fail
                go_ret
                exact ⟨rfl, HBW.out⟩
            case pos =>
              have hk0 : (0 : Int) ≤ (k : Int) := by omega
              have hk1 : (k : Int) < (mn : Int) := by omega
              have hk2 : (k : Int) < (nn : Int) := by omega
              obtain ⟨s1, o1, hsa1, -, d1, hm1⟩ := (HMS.out.keep HBW.out).at k hlt
              obtain ⟨s2, o2, hsa2, hs2, d2, hm2⟩ := (HNO.out.keep HBW.out).at k (by omega)
              obtain ⟨u, hu⟩ : ∃ u, ms.getD k 0 = u := ⟨_, rfl⟩
              obtain ⟨r, hr⟩ : ∃ r, ns.getD k 0 = r := ⟨_, rfl⟩
              rw [hu] at d1 hm1
              rw [hr] at d2 hm2
              have ub := HU8.out u hm1
              have ur := HU64.out r hm2
              have u0 := ub.1
              have u1 := ub.2
              have r0 := ur.1
              obtain ⟨m, hm⟩ : ∃ m, u % 16 = m := ⟨_, rfl⟩
              have m0 : 0 ≤ m := by rw [← hm]; exact Int.emod_nonneg _ (by omega)
              have m16 : m < 16 := by rw [← hm]; exact Int.emod_lt_of_pos _ (by omega)
              have ht : u.tmod 16 = m := (Int.tmod_eq_emod_of_nonneg u0).trans hm
              have hw8 : IntKind.u8.wrap m = m := by rw [IntKind.wrap_u8]; omega
              have hw64 : IntKind.u64.wrap m = m := wrap_u m0 (by omega)
              have hwM : IntKind.u64.wrap (M + m) = M + m := wrap_u (by omega) (by omega)
              have HRC := Lib.hid d2
              have HO := Lib.hid hown
              have HPS := Lib.hid hps
              have HOK := Lib.hid hok
              have HNN := Lib.hid hnn
              have HBL := Lib.hid HK.out.bel
              have hzb := HBL.out.size
              have hmn40 : k + 1 ≤ 40 := by omega
              clear hm hu hr hm1 hm2 hown hps hok hnn HK ub ur
              subst hsa1 hsa2
              obtain ⟨x0, x1, x2, -⟩ := id F_g.out
              by_cases hrQ : r < Q
              case neg =>
                have hrQ_ : decide (Q ≤ r) = true := by simp; omega
                clear hrQ
                go_wp2_with fail
                go_region
                go_wp2_with fail
                go_ret
                exact ⟨rfl, by repeat (first | exact HBW.out | apply Below.drew)⟩
              case pos =>
                have hrQ_ : decide (Q ≤ r) = false := by simp; omega
                by_cases hmQ : m < Q
                case neg =>
                  have hmQ_ : decide (Q ≤ m) = true := by simp; omega
                  clear hmQ
                  go_wp2_with fail
                  go_region
                  go_wp2_with fail
                  go_ret
                  exact ⟨rfl, by repeat (first | exact HBW.out | apply Below.drew)⟩
                case pos =>
                  have hmQ_ : decide (Q ≤ m) = false := by simp; omega
                  obtain ⟨a, b, hab⟩ : ∃ a b, encS P G y m r = (a, b) := ⟨_, _, rfl⟩
                  have ea : powm G r P = a := congrArg Prod.fst hab
                  have eb : powm G m P * powm y r P % P = b := congrArg Prod.snd hab
                  have ma : Mem P Q a := by rw [← ea]; exact HG.out.mem_pow HG.out.mem_g r
                  have mb : Mem P Q b := by rw [← eb]; exact HG.out.mem_mul (HG.out.mem_pow HG.out.mem_g m) (HG.out.mem_pow HMY.out r)
                  have a0 : 0 ≤ a := Int.le_of_lt ma.1
                  have aP := ma.2.1
                  have b0 : 0 ≤ b := Int.le_of_lt mb.1
                  have bP := mb.2.1
                  have HEN := Lib.hid hab
                  have HE := Lib.hid (show EncS P Q G y m r a b 0 from .inl ⟨askS_ok HH.out (by simpa using ⟨hmQ, hrQ⟩) (by simpa using yP), ea, eb, rfl⟩)
                  clear hab ea eb ma mb
                  go_wp2_with fail
                  go_region
                  go_wp2_with fail
                  clear x0 x1 x2
                  replace F_g := Lib.hid F_g.out.drew
                  have HBW := Lib.hid (Below.refl wr.heap.size wr).drew
                  replace F_g := Lib.hid F_g.out.drew
                  replace HBW := Lib.hid HBW.out.drew
                  have hS := And.intro F_g.out.s ((HBW.out.cell (p := ⟨s2, o2 + k, none⟩) hs2).trans HRC.out)
                  refine wp_region_stage 7 (fun w' => SBox w' w.heap.size P Q G ∧ w'.cell? ⟨s2, o2 + k, none⟩ = some (.int .u64 r)) (by kernel_rfl) ?_
                  refine wpAnyB_take (i := 0) (some 86) (Op.load 24 (Operand.tmp 4)) 24 (v := ?_) ⟨_, rfl, rfl, rfl, rfl, rfl⟩ (by kernel_rfl) (by kernel_rfl) (by kernel_rfl) [7] (by kernel_rfl) (fun _ _ _ h => h) hS (fun w' hSw => ?_) ?_
                  rotate_left
                  · obtain ⟨⟨s0, s1, s2_⟩, s3⟩ := hSw
                    unfold bareOp
                    go_simp
                    try with_reducible rfl
                  simp only [Act.put, List.setIfInBounds_toArray, List.set_cons_zero, List.set_cons_succ]
                  refine wpAnyB_takeP (i := 1) (some 87) (Op.move (Operand.tmp 10)) 22 (v := ?_) ⟨_, rfl, rfl, rfl, rfl, rfl⟩ (by kernel_rfl) (by kernel_rfl) (by kernel_rfl) (by kernel_rfl) (fun _ _ _ h => h) (fun _ => hS) (fun w' => ?_) ?_
                  rotate_left
                  · unfold bareOp
                    go_simp
                    try with_reducible rfl
                  simp only [Act.put, List.setIfInBounds_toArray, List.set_cons_zero, List.set_cons_succ]
                  refine wpAnyB_takeP (i := 2) (some 88) (Op.move (Operand.tmp 15)) 22 (v := ?_) ⟨_, rfl, rfl, rfl, rfl, rfl⟩ (by kernel_rfl) (by kernel_rfl) (by kernel_rfl) (by kernel_rfl) (fun _ _ _ h => h) (fun _ => hS) (fun w' => ?_) ?_
                  rotate_left
                  · unfold bareOp
                    go_simp
                    try with_reducible rfl
                  simp only [Act.put, List.setIfInBounds_toArray, List.set_cons_zero, List.set_cons_succ]
                  refine wpAnyB_takeP (i := 3) (some 89) (Op.move (Operand.tmp 3)) 66 (v := ?_) ⟨_, rfl, rfl, rfl, rfl, rfl⟩ (by kernel_rfl) (by kernel_rfl) (by kernel_rfl) (by kernel_rfl) (fun _ _ _ h => h) (fun _ => hS) (fun w' => ?_) ?_
                  rotate_left
                  · unfold bareOp
                    go_simp
                    try with_reducible rfl
                  simp only [Act.put, List.setIfInBounds_toArray, List.set_cons_zero, List.set_cons_succ]
                  refine wpAnyB_takeP (i := 4) (some 90) (Op.move (Operand.tmp 14)) 3 (v := ?_) ⟨_, rfl, rfl, rfl, rfl, rfl⟩ (by kernel_rfl) (by kernel_rfl) (by kernel_rfl) (by kernel_rfl) (fun _ _ _ h => h) (fun _ => hS) (fun w' => ?_) ?_
                  rotate_left
                  · unfold bareOp
                    go_simp
                    try with_reducible rfl
                  simp only [Act.put, List.setIfInBounds_toArray, List.set_cons_zero, List.set_cons_succ]
                  refine wpAnyB_takeP (i := 5) (some 91) (Op.indexAddr 66 (Operand.tmp 89) (Operand.tmp 90)) 0 (v := ?_) ⟨_, rfl, rfl, rfl, rfl, rfl⟩ (by kernel_rfl) (by kernel_rfl) (by kernel_rfl) (by kernel_rfl) (fun _ _ _ h => h) (fun _ => hS) (fun w' => ?_) ?_
                  rotate_left
                  · unfold bareOp
                    go_simp
                    try with_reducible rfl
                  simp only [Act.put, List.setIfInBounds_toArray, List.set_cons_zero, List.set_cons_succ]
                  refine wpAnyB_take (i := 6) (some 92) (Op.load 22 (Operand.tmp 91)) 22 (v := ?_) ⟨_, rfl, rfl, rfl, rfl, rfl⟩ (by kernel_rfl) (by kernel_rfl) (by kernel_rfl) [7] (by kernel_rfl) (fun _ _ _ h => h) hS (fun w' hSw => ?_) ?_
                  rotate_left
                  · obtain ⟨⟨s0, s1, s2_⟩, s3⟩ := hSw
                    unfold bareOp
                    go_simp
                    try with_reducible rfl
                  simp only [Act.put, List.setIfInBounds_toArray, List.set_cons_zero, List.set_cons_succ]
                  refine wpAnyB_two (i := 7) (j := 11) (some 93) (Op.call { callee := Callee.value (Operand.func 19), args := #[Operand.tmp 86, Operand.tmp 87, Operand.tmp 88, Operand.tmp 92], argTypes := #[24, 22, 22, 22] }) 31 (some 16) (Op.alloc 26) 0 ⟨_, rfl, rfl, rfl, rfl, rfl⟩ ⟨_, rfl, rfl, rfl, rfl, rfl⟩ (by kernel_rfl) (fun K hK => ?_) (fun K hK => ?_)
                  · skip
                    unfold bareOp
                    go_wp2_with (go_at_call 19; refine (encrypt_gen _ hP hQ hG y0 m0 r0 HE.out).mono ?_; rintro e w21 ⟨rfl, hb21⟩)
                    replace F_g := Lib.hid (F_g.out.keep hb21)
                    replace HBW := Lib.hid (HBW.out.trans (hb21.mono HBW.out.size))
                    replace hS := And.intro F_g.out.s ((HBW.out.cell (p := ⟨s2, o2 + k, none⟩) hs2).trans HRC.out)
                    clear hb21
                    refine hK.out _ _ (fun h => absurd (h.symm.trans (by kernel_rfl : _ = true)) (by decide)) ?_
                    clear hK K
                    try simp only [Act.put, List.setIfInBounds_toArray, List.set_cons_zero, List.set_cons_succ]
                    refine wpAnyB_takeP (i := 8) (some 85) (Op.move (Operand.tmp 93)) 31 (v := ?_) ⟨_, rfl, rfl, rfl, rfl, rfl⟩ (by kernel_rfl) (by kernel_rfl) (by kernel_rfl) (by kernel_rfl) (fun _ _ _ h => h) (fun h => absurd (h.symm.trans (by kernel_rfl : _ = true)) (by decide)) (fun w' => ?_) ?_
                    rotate_left
                    · unfold bareOp
                      go_simp
                      try with_reducible rfl
                    simp only [Act.put, List.setIfInBounds_toArray, List.set_cons_zero, List.set_cons_succ]
                    refine wpAnyB_takeP (i := 9) (some 94) (Op.extract (Operand.tmp 85) 0) 26 (v := ?_) ⟨_, rfl, rfl, rfl, rfl, rfl⟩ (by kernel_rfl) (by kernel_rfl) (by kernel_rfl) (by kernel_rfl) (fun _ _ _ h => h) (fun h => absurd (h.symm.trans (by kernel_rfl : _ = true)) (by decide)) (fun w' => ?_) ?_
                    rotate_left
                    · unfold bareOp
                      go_simp
                      try with_reducible rfl
                    simp only [Act.put, List.setIfInBounds_toArray, List.set_cons_zero, List.set_cons_succ]
                    refine wpAnyB_takeP (i := 10) (some 95) (Op.extract (Operand.tmp 85) 1) 30 (v := ?_) ⟨_, rfl, rfl, rfl, rfl, rfl⟩ (by kernel_rfl) (by kernel_rfl) (by kernel_rfl) (by kernel_rfl) (fun _ _ _ h => h) (fun h => absurd (h.symm.trans (by kernel_rfl : _ = true)) (by decide)) (fun w' => ?_) ?_
                    rotate_left
                    · unfold bareOp
                      go_simp
                      try with_reducible rfl
                    simp only [Act.put, List.setIfInBounds_toArray, List.set_cons_zero, List.set_cons_succ]
                    refine wpAnyB_only (i := 11) (some 16) (Op.alloc 26) 0 ⟨_, rfl, rfl, rfl, rfl, rfl⟩ (by kernel_rfl) (fun K hK => ?_)
                    unfold bareOp
                    go_wp2_with fail
                    refine hK.out _ _ (fun h => absurd (h.symm.trans (by kernel_rfl : _ = true)) (by decide)) ?_
                    clear hK K
                    try simp only [Act.put, List.setIfInBounds_toArray, List.set_cons_zero, List.set_cons_succ]
                    refine wpAnyB_only (i := 12) none (Op.store 26 (Operand.tmp 16) (Operand.tmp 94)) 0 ⟨_, rfl, rfl, rfl, rfl, rfl⟩ (by kernel_rfl) (fun K hK => ?_)
                    unfold bareOp
                    go_wp2_with fail
                    refine hK.out _ _ (fun h => absurd (h.symm.trans (by kernel_rfl : _ = true)) (by decide)) ?_
                    clear hK K
                    try simp only [Act.put, List.setIfInBounds_toArray, List.set_cons_zero, List.set_cons_succ]
                    refine wpAnyB_takeP (i := 13) (some 17) (Op.assign (Operand.tmp 95)) 30 (v := ?_) ⟨_, rfl, rfl, rfl, rfl, rfl⟩ (by kernel_rfl) (by kernel_rfl) (by kernel_rfl) (by kernel_rfl) (fun _ _ _ h => h) (fun h => absurd (h.symm.trans (by kernel_rfl : _ = true)) (by decide)) (fun w' => ?_) ?_
                    rotate_left
                    · unfold bareOp
                      go_simp
                      try with_reducible rfl
                    simp only [Act.put, List.setIfInBounds_toArray, List.set_cons_zero, List.set_cons_succ]
                    refine wpAnyB_done (by kernel_rfl) ?_ _
                    replace F_g := Lib.hid (F_g.out.alloc (.cells #[.int .u64 a, .int .u64 b] 26))
                    have F_c := Lib.hid (Pair.new w21 a b 26)
                    replace HBW := Lib.hid (HBW.out.alloc HBW.out.size (.cells #[.int .u64 a, .int .u64 b] 26))
                    have HO5 := Lib.hid (owns_below HO.out HBW.out)
                    have hzc := HBW.out.size
                    have HBL5 := Lib.hid (HBL.out.trans (HBW.out.mono (by omega)))
                    have hzd := HBL5.out.size
                    obtain ⟨x0, x1, x2, -⟩ := id F_g.out
                    obtain ⟨x3, x4, x5, x6, -⟩ := id F_c.out
                    go_wp2_with (at_builtin; refine wpList_append_own _ rfl _ _ 27 rfl (w.heap.size + 1) 26 i0 (.agg #[.int .u64 0, .int .u64 0]) 2 16 Try.underlying27 hi hz0 hz1' hz2 rfl (by decide) _ _ _ rfl (HO5.out.alloc _) _ 1 1 [.int .u64 a, .int .u64 b] rfl rfl (cell_pair_at _ _ _ _ _ (by first | rfl | simp)) (fun z hz => by simp at hz; rcases hz with rfl | rfl <;> rfl) (by unfold maxLen; omega) (by omega) (by first | omega | (simp at hzd ⊢; omega) | (simp; omega)) ?_; intro v' w9 hown hgr hnil
                                 have HO9 := Lib.hid hown
                                 have HB9 := Lib.hid (Below.grown (HBL5.out.alloc (by omega) _) hgr (by first | omega | (simp at hzd ⊢; omega) | (simp; omega)) (fun k hk => (HO5.out.lt k hk).1))
                                 clear hown hgr hnil)
                    go_roundw
                    case rel =>
                      refine ⟨k + 1, by omega, by go_num, M + m, by go_num, ⟨⟨ps ++ [(a, b)], R + r, ?_, ?_, ?_, ?_, ?_⟩, HB9.out, ?_, ?_⟩⟩
                      · rw [flatS_append]; exact HO9.out
                      · rw [allP_push, HPS.out, ← HEN.out, encS_plus (by omega) M0 R0 m0 r0]
                      · exact okS_push HOK.out aP bP
                      · intro p hp
                        rcases List.mem_append.1 hp with hp | hp
                        · exact HNN.out p hp
                        · simp at hp; subst hp; exact ⟨a0, b0⟩
                      · omega
                      · omega
                      · omega
                    case measure => first | (simp [intOf]; omega) | simp [intOf]
                  · skip
                    unfold bareOp
                    go_wp2_with fail
                    have ltB : wr.heap.size ≤ wr.heap.size := by have h := HBW.out.size; (try simp only [World.size_alloc, World.size_drew] at h); omega
                    have ne_g : wr.heap.size ≠ w.heap.size := by have h := F_g.out.lt; (try simp only [World.size_alloc, World.size_drew] at h); omega
                    replace F_g := Lib.hid (F_g.out.alloc (.cells #[.int .u64 0, .int .u64 0] 26))
                    have F_c := Lib.hid (Pair.at wr.drew.drew 0 0 26 (wr.heap.size) (by simp))
                    replace HBW := Lib.hid (HBW.out.alloc HBW.out.size (.cells #[.int .u64 0, .int .u64 0] 26))
                    replace hS := And.intro F_g.out.s ((HBW.out.cell (p := ⟨s2, o2 + k, none⟩) hs2).trans HRC.out)
                    refine hK.out _ _ (fun _ => hS) ?_
                    clear hK K
                    try simp only [Act.put, List.setIfInBounds_toArray, List.set_cons_zero, List.set_cons_succ]
                    refine wpAnyB_only (i := 7) (some 93) (Op.call { callee := Callee.value (Operand.func 19), args := #[Operand.tmp 86, Operand.tmp 87, Operand.tmp 88, Operand.tmp 92], argTypes := #[24, 22, 22, 22] }) 31 ⟨_, rfl, rfl, rfl, rfl, rfl⟩ (by kernel_rfl) (fun K hK => ?_)
                    unfold bareOp
                    go_wp2_with (go_at_call 19; refine (encrypt_gen _ hP hQ hG y0 m0 r0 HE.out).mono ?_; rintro e w21 ⟨rfl, hb21⟩)
                    replace F_g := Lib.hid (F_g.out.keep hb21)
                    replace F_c := Lib.hid (F_c.out.keep hb21)
                    replace HBW := Lib.hid (HBW.out.trans (hb21.mono HBW.out.size))
                    replace hS := And.intro F_g.out.s ((HBW.out.cell (p := ⟨s2, o2 + k, none⟩) hs2).trans HRC.out)
                    clear hb21
                    refine hK.out _ _ (fun h => absurd (h.symm.trans (by kernel_rfl : _ = true)) (by decide)) ?_
                    clear hK K
                    try simp only [Act.put, List.setIfInBounds_toArray, List.set_cons_zero, List.set_cons_succ]
                    refine wpAnyB_takeP (i := 8) (some 85) (Op.move (Operand.tmp 93)) 31 (v := ?_) ⟨_, rfl, rfl, rfl, rfl, rfl⟩ (by kernel_rfl) (by kernel_rfl) (by kernel_rfl) (by kernel_rfl) (fun _ _ _ h => h) (fun h => absurd (h.symm.trans (by kernel_rfl : _ = true)) (by decide)) (fun w' => ?_) ?_
                    rotate_left
                    · unfold bareOp
                      go_simp
                      try with_reducible rfl
                    simp only [Act.put, List.setIfInBounds_toArray, List.set_cons_zero, List.set_cons_succ]
                    refine wpAnyB_takeP (i := 9) (some 94) (Op.extract (Operand.tmp 85) 0) 26 (v := ?_) ⟨_, rfl, rfl, rfl, rfl, rfl⟩ (by kernel_rfl) (by kernel_rfl) (by kernel_rfl) (by kernel_rfl) (fun _ _ _ h => h) (fun h => absurd (h.symm.trans (by kernel_rfl : _ = true)) (by decide)) (fun w' => ?_) ?_
                    rotate_left
                    · unfold bareOp
                      go_simp
                      try with_reducible rfl
                    simp only [Act.put, List.setIfInBounds_toArray, List.set_cons_zero, List.set_cons_succ]
                    refine wpAnyB_takeP (i := 10) (some 95) (Op.extract (Operand.tmp 85) 1) 30 (v := ?_) ⟨_, rfl, rfl, rfl, rfl, rfl⟩ (by kernel_rfl) (by kernel_rfl) (by kernel_rfl) (by kernel_rfl) (fun _ _ _ h => h) (fun h => absurd (h.symm.trans (by kernel_rfl : _ = true)) (by decide)) (fun w' => ?_) ?_
                    rotate_left
                    · unfold bareOp
                      go_simp
                      try with_reducible rfl
                    simp only [Act.put, List.setIfInBounds_toArray, List.set_cons_zero, List.set_cons_succ]
                    refine wpAnyB_only (i := 12) none (Op.store 26 (Operand.tmp 16) (Operand.tmp 94)) 0 ⟨_, rfl, rfl, rfl, rfl, rfl⟩ (by kernel_rfl) (fun K hK => ?_)
                    unfold bareOp
                    obtain ⟨za, zb, zc, zd, -⟩ := id F_c.out
                    go_wp2_with fail
                    clear za zb zc zd
                    refine hK.out _ _ (fun h => absurd (h.symm.trans (by kernel_rfl : _ = true)) (by decide)) ?_
                    clear hK K
                    try simp only [Act.put, List.setIfInBounds_toArray, List.set_cons_zero, List.set_cons_succ]
                    refine wpAnyB_takeP (i := 13) (some 17) (Op.assign (Operand.tmp 95)) 30 (v := ?_) ⟨_, rfl, rfl, rfl, rfl, rfl⟩ (by kernel_rfl) (by kernel_rfl) (by kernel_rfl) (by kernel_rfl) (fun _ _ _ h => h) (fun h => absurd (h.symm.trans (by kernel_rfl : _ = true)) (by decide)) (fun w' => ?_) ?_
                    rotate_left
                    · unfold bareOp
                      go_simp
                      try with_reducible rfl
                    simp only [Act.put, List.setIfInBounds_toArray, List.set_cons_zero, List.set_cons_succ]
                    refine wpAnyB_done (by kernel_rfl) ?_ _
                    replace F_c := Lib.hid (F_c.out.stored a b)
                    replace F_g := Lib.hid ((F_g.out.far (o := 0) ne_g (.int .u64 a)).far (o := 1) ne_g (.int .u64 b))
                    clear ne_g
                    replace HBW := Lib.hid ((HBW.out.setCell (p := ⟨wr.heap.size, 0, none⟩) ltB (.int .u64 a)).setCell (p := ⟨wr.heap.size, 1, none⟩) ltB (.int .u64 b))
                    clear ltB
                    have HO5 := Lib.hid (owns_below HO.out HBW.out)
                    have hzc := HBW.out.size
                    have HBL5 := Lib.hid (HBL.out.trans (HBW.out.mono (by omega)))
                    have hzd := HBL5.out.size
                    obtain ⟨x0, x1, x2, -⟩ := id F_g.out
                    obtain ⟨x3, x4, x5, x6, -⟩ := id F_c.out
                    go_wp2_with (at_builtin; refine wpList_append_own _ rfl _ _ 27 rfl (w.heap.size + 1) 26 i0 (.agg #[.int .u64 0, .int .u64 0]) 2 16 Try.underlying27 hi hz0 hz1' hz2 rfl (by decide) _ _ _ rfl (HO5.out.alloc _) _ 1 1 [.int .u64 a, .int .u64 b] rfl rfl (cell_pair_at _ _ _ _ _ (by first | rfl | simp)) (fun z hz => by simp at hz; rcases hz with rfl | rfl <;> rfl) (by unfold maxLen; omega) (by omega) (by first | omega | (simp at hzd ⊢; omega) | (simp; omega)) ?_; intro v' w9 hown hgr hnil
                                 have HO9 := Lib.hid hown
                                 have HB9 := Lib.hid (Below.grown (HBL5.out.alloc (by omega) _) hgr (by first | omega | (simp at hzd ⊢; omega) | (simp; omega)) (fun k hk => (HO5.out.lt k hk).1))
                                 clear hown hgr hnil)
                    go_roundw
                    case rel =>
                      refine ⟨k + 1, by omega, by go_num, M + m, by go_num, ⟨⟨ps ++ [(a, b)], R + r, ?_, ?_, ?_, ?_, ?_⟩, HB9.out, ?_, ?_⟩⟩
                      · rw [flatS_append]; exact HO9.out
                      · rw [allP_push, HPS.out, ← HEN.out, encS_plus (by omega) M0 R0 m0 r0]
                      · exact okS_push HOK.out aP bP
                      · intro p hp
                        rcases List.mem_append.1 hp with hp | hp
                        · exact HNN.out p hp
                        · simp at hp; subst hp; exact ⟨a0, b0⟩
                      · omega
                      · omega
                      · omega
                    case measure => first | (simp [intOf]; omega) | simp [intOf]


set_option maxRecDepth 100000 in
theorem lifted (os : Os) (started : os.Started) (H : Type) (enc : TypeId × Value → H) :
    ReturnsInHanded {} Try.checked os 8 .any (Rows.elgamalAddsSpec.pre6 enc Try.prog Try.f8 Rows.elgamalAddsRow.domain false) (Rows.elgamalAddsSpec.post enc Try.prog Try.f8 false true false false) := by
  refine returnsInHanded_of_change (C := Try.checked) own started (by kernel_rfl) Try.func8
    (ChangeSpec.witness6 (enc := enc) (C := Try.checked) false ⟨#[], #[.agg #[.int .u64 0, .int .u64 0, .int .u64 0], .int .u64 0, .slice none 0 0, .slice none 0 0], []⟩ 8 (by kernel_rfl) (by kernel_rfl) (by kernel_rfl) (by kernel_rfl)) ?_
  intro W base args ds gs before hval0 hW _ _
  have hval : ∀ (j : Nat) t v, Try.f8.params[j]? = some t → args[j]? = some v → Value.okWide Try.prog W .any base t v := hval0
  have hW' := hW
  obtain ⟨p, q, hA0, hV, rfl, hfz, hnd⟩ := hW
  have hA : DataW.TrodAll enc Try.prog W 0 (fun _ => true) true Try.f8.params.toList args.toList ds p := hA0
  rw [Try.params8] at hA hval
  have hK := hA
  obtain ⟨v0, vs0, d0, ds0, p0, q0, hargs, rfl, rfl, h0, r0⟩ := trodAll_cons hA
  obtain ⟨v1, vs1, d1, ds1, p1, q1, rfl, rfl, rfl, h1, r1⟩ := trodAll_cons r0
  obtain ⟨v2, vs2, d2, ds2, p2, q2, rfl, rfl, rfl, h2, r2⟩ := trodAll_cons r1
  obtain ⟨v3, vs3, d3, ds3, p3, q3, rfl, rfl, rfl, h3, r3⟩ := trodAll_cons r2
  obtain ⟨rfl, rfl, rfl⟩ := trodAll_nil r3
  obtain rfl : args = #[v0, v1, v2, v3] := by cases args; simp_all
  obtain ⟨rfl, rfl⟩ := trodVars_none hV
  obtain ⟨P, Q, G, rfl, uP, uQ, uG⟩ := open_group (hval 0 24 v0 rfl rfl) h0
  obtain ⟨x, rfl, ux⟩ := open_u64 (hval 1 22 v1 rfl rfl) h1
  obtain ⟨la, mn, lc, ms, rfl, hS, hN, hc, hlc⟩ := open_u8s (hval 2 65 v2 rfl rfl) h2
  obtain ⟨lb, nn, ld, ns, rfl, hT, hL, hd, hld⟩ := open_u64s (hval 3 66 v3 rfl rfl) h3
  clear hA0 hval0
  refine (walk P Q G x la mn lc ms lb nn ld ns W uP uQ uG ux hS hN hc hlc hT hL hd hld).mono fun e W' ⟨he, bel⟩ => ?_
  subst he
  exact ⟨_, rfl, _, _, _, [], _, [], hW', trodAll_mk1 (shut_bool Try.underlying4 _), trodAll_stays laidOut (by kernel_rfl) hK bel, rfl, bel.frame _, fun h => by cases h⟩

theorem over : Rows.elgamalAddsRow.holds Try.pinned (OpenSpec.ofChange Rows.elgamalAddsSpec) :=
  OpenClaim.holds_of_wide 8 Try.f8 rfl rfl rfl rfl rfl rfl rfl ⟨rfl, rfl, rfl, rfl, rfl⟩ rfl rfl rfl rfl rfl (by kernel_rfl) Try.func8 (by kernel_rfl)
    (of_decide_eq_true (by kernel_rfl)) (by unfold Func.isWrapper; first | (rw [if_pos (by decide +kernel)]; kernel_rfl) | (rw [if_neg (by decide +kernel)]; exact ⟨rfl, rfl⟩))
    (fun os started H enc _ => lifted os started H enc)

theorem proved : Rows.ElgamalAddsSaid := over
#print axioms proved
end Go.Proofs.Ytffefhldfnfohaa.lawAdds
