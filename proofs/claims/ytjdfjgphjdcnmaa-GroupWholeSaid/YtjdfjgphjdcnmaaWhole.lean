/- GroupWhole: the statement: for every input the law returns true, and the arguments read as before. -/
import Derived.Test.YtjdfjgphjdcnmaaAux30
import Derived.Test.YtjdfjgphjdcnmaaOpen
import Derived.Test.YtjdfjgphjdcnmaaRows
namespace Go.Proofs.Ytjdfjgphjdcnmaa.lawWhole
open Go.ChangeShapes Go.WideShapes Go.ChangeAt Go.RowKit Num
set_option linter.unusedSimpArgs false
set_option linter.unusedVariables false

theorem zero501 : Try.zeroCells54 = Array.replicate 501 (.bool false) := by kernel_rfl

/-- The cells of the array 'met', as a function says. -/
structure MetW (w : World) (M : Nat) (f : Nat → Bool) : Prop where
  cell : ∀ j, j < 501 → w.cell? ⟨M, j, none⟩ = some (.bool (f j))
  fr : ∀ j, j < 501 → w.frozen? ⟨M, j, none⟩ = false
  lt : M < w.heap.size
theorem MetW.new (w : World) : MetW (w.alloc (.cells Try.zeroCells54 54)) w.heap.size (fun _ => false) := by
  refine ⟨fun j hj => ?_, fun j _ => World.frozen?_alloc_new _ _ _ _, by simp⟩
  rw [World.cell?_alloc_new, zero501]
  simp [hj]
theorem MetW.keep {w w' : World} {M : Nat} {f : Nat → Bool} (h : MetW w M f) (hb : Below w.heap.size w w') : MetW w' M f :=
  ⟨fun j hj => (hb.cell (p := ⟨M, j, none⟩) h.lt).trans (h.cell j hj), fun j hj => (hb.frozen (p := ⟨M, j, none⟩) h.lt).trans (h.fr j hj), Nat.lt_of_lt_of_le h.lt hb.size⟩
theorem MetW.set {w : World} {M : Nat} {f : Nat → Bool} (h : MetW w M f) (k : Nat) (hk : k < 501) : MetW (w.setCell ⟨M, k, none⟩ (.bool true)) M (fun j => f j || j == k) := by
  refine ⟨fun j hj => ?_, fun j hj => by rw [World.frozen?_setCell]; exact h.fr j hj, by simp [World.setCell, h.lt]⟩
  by_cases e : j = k
  · subst e
    rw [World.cell?_setCell_same _ _ _ (h.cell j hj)]; simp
  · rw [World.cell?_setCell_other _ _ _ _ (by intro he; exact e (by injection he with _ h2; exact h2.symm)), h.cell j hj]
    simp [e]
theorem MetW.congr {w : World} {M : Nat} {f g : Nat → Bool} (h : MetW w M f) (e : ∀ j, j < 501 → f j = g j) : MetW w M g :=
  ⟨fun j hj => by rw [← e j hj]; exact h.cell j hj, h.fr, h.lt⟩

/-- Which numbers the first powers of G are. -/
def metB (G P : Int) (x : Nat) (j : Nat) : Bool := (List.range x).any fun y => powm G (y : Int) P == (j : Int)
theorem metB_succ (G P : Int) (x j : Nat) (h : 0 ≤ powm G (x : Int) P) : metB G P (x + 1) j = (metB G P x j || j == (powm G (x : Int) P).toNat) := by
  rw [metB, List.range_succ, List.any_append]
  simp only [List.any_cons, List.any_nil, Bool.or_false, metB]
  congr 1
  rw [Bool.eq_iff_iff]; simp; omega
theorem metB_fresh {P Q G : Int} (g : Grp P Q G) {x : Nat} (hx : (x : Int) < Q) : metB G P x (powm G (x : Int) P).toNat = false := by
  rw [metB, List.any_eq_false]
  intro y hy
  simp only [List.mem_range] at hy
  have h5 := g.five
  rw [Int.toNat_of_nonneg (powm_nonneg (by omega))]
  simp only [beq_iff_eq]
  intro e
  have := g.inj g.mem_g (by have := g.g2; omega) (x := (y : Int)) (y := (x : Int)) (by omega) (by omega) (by omega) hx e
  omega
theorem metB_all {P Q G : Int} (g : Grp P Q G) (j : Nat) : metB G P Q.toNat j = true ↔ Mem P Q (j : Int) := by
  have hq := g.pQ.1
  rw [metB, List.any_eq_true]
  constructor
  · rintro ⟨y, hy, e⟩
    simp only [beq_iff_eq] at e
    rw [← e]; exact g.mem_pow g.mem_g _
  · intro h
    obtain ⟨x, x0, x1, e⟩ := g.whole h
    refine ⟨x.toNat, by simp; omega, ?_⟩
    rw [Int.toNat_of_nonneg x0]; simpa using e

set_option maxRecDepth 100000 in
set_option maxHeartbeats 3200000 in
theorem walk (P Q G : Int) (w : World) (uP : U64 P) (uQ : U64 Q) (uG : U64 G) :
    Calls Try.prog 8 #[.agg #[.int .u64 P, .int .u64 Q, .int .u64 G]] w fun e w' => e = .returned (.bool true) ∧ Below w.heap.size w w' := by
  have hP := uP.1
  have hQ := uQ.1
  have hG := uG.1
  have hx0 := Boxed.new w P Q G 24
  by_cases h5 : P ≤ 500
  case neg =>
    have h5' : 500 < P := by omega
    clear h5
    go_enter Try.func8, Try.ntmps8
    go_wp2_with fail
    refine (alive30 _).mono ?_
    rintro e w1 ⟨rfl, hb1⟩
    have hx1 : Boxed w1 (w.heap.size) P Q G := Boxed.keep (by repeat (first | exact hx0 | apply Boxed.drew | apply Boxed.alloc)) hb1
    have gc0 := hx1.c0
    have gc1 := hx1.c1
    have gc2 := hx1.c2
    have gcl := hx1.lt
    have hz := hb1.size
    try simp only [World.size_alloc, World.size_drew] at hz
    go_wp2_with fail
    go_ret
    exact ⟨rfl, (by repeat (first | exact Below.refl _ _ | apply Below.drew | (refine Below.alloc ?_ (by first | omega | (simp <;> omega)) _) | (refine Below.trans ?_ (hb1.mono (by first | omega | (simp <;> omega))))))⟩
  case pos =>
    by_cases hv : Valid P Q G
    case neg =>
      have HV1 := Lib.hid (show ValidS P Q G 300 from .inr ⟨hv, rfl⟩)
      clear hv
      go_enter Try.func8, Try.ntmps8
      go_wp2_with fail
      refine (alive30 _).mono ?_
      rintro e w1 ⟨rfl, hb1⟩
      have hx1 : Boxed w1 (w.heap.size) P Q G := Boxed.keep (by repeat (first | exact hx0 | apply Boxed.drew | apply Boxed.alloc)) hb1
      have gc0 := hx1.c0
      have gc1 := hx1.c1
      have gc2 := hx1.c2
      have gcl := hx1.lt
      have hz := hb1.size
      try simp only [World.size_alloc, World.size_drew] at hz
      go_wp2_with fail
      refine (gcheck_any P Q G 300 _ hP hQ hG HV1.out).mono ?_
      rintro e w2 ⟨rfl, hb2⟩
      have hx2 : Boxed w2 (w.heap.size) P Q G := Boxed.keep (by repeat (first | exact hx1 | apply Boxed.drew | apply Boxed.alloc)) hb2
      have gc0 := hx2.c0
      have gc1 := hx2.c1
      have gc2 := hx2.c2
      have gcl := hx2.lt
      have hz := hb2.size
      try simp only [World.size_alloc, World.size_drew] at hz
      go_wp2_with fail
      go_ret
      exact ⟨rfl, (by repeat (first | exact Below.refl _ _ | apply Below.drew | (refine Below.alloc ?_ (by first | omega | (simp <;> omega)) _) | (refine Below.trans ?_ (hb2.mono (by first | omega | (simp <;> omega)))) | (refine Below.trans ?_ (hb1.mono (by first | omega | (simp <;> omega))))))⟩
    case pos =>
      have HV0 := Lib.hid (show ValidS P Q G 0 from .inl ⟨hv, rfl⟩)
      have HH := Lib.hid hv.1
      have HG := Lib.hid hv.grp
      obtain ⟨p5, p3, _, pq, g2, gP⟩ := id hv.1
      have q2 : 2 ≤ Q := by omega
      have q3 : Q < 1073741824 := by omega
      have qP : Q < P := by omega
      clear hv pq
      go_enter Try.func8, Try.ntmps8
      go_wp2_with fail
      refine (alive30 _).mono ?_
      rintro e w1 ⟨rfl, hb1⟩
      have hx1 : Boxed w1 (w.heap.size) P Q G := Boxed.keep (by repeat (first | exact hx0 | apply Boxed.drew | apply Boxed.alloc)) hb1
      have gc0 := hx1.c0
      have gc1 := hx1.c1
      have gc2 := hx1.c2
      have gcl := hx1.lt
      have hz := hb1.size
      try simp only [World.size_alloc, World.size_drew] at hz
      go_wp2_with fail
      refine (gcheck_any P Q G 0 _ hP hQ hG HV0.out).mono ?_
      rintro e w2 ⟨rfl, hb2⟩
      have hx2 : Boxed w2 (w.heap.size) P Q G := Boxed.keep (by repeat (first | exact hx1 | apply Boxed.drew | apply Boxed.alloc)) hb2
      have gc0 := hx2.c0
      have gc1 := hx2.c1
      have gc2 := hx2.c2
      have gcl := hx2.lt
      have hz := hb2.size
      try simp only [World.size_alloc, World.size_drew] at hz
      go_wp2_with fail
      have HB2 := Lib.hid (show Below w.heap.size w w2 from (by repeat (first | exact Below.refl _ _ | apply Below.drew | (refine Below.alloc ?_ (by first | omega | (simp <;> omega)) _) | (refine Below.trans ?_ (hb2.mono (by first | omega | (simp <;> omega)))) | (refine Below.trans ?_ (hb1.mono (by first | omega | (simp <;> omega)))))))
      have hw2 : w.heap.size < w2.heap.size := hx2.lt
      have HX2 := Lib.hid hx2
      clear hx1 gc0 gc1 gc2 gcl hb1 hb2
      go_loopw [6, 7, 5] (fun c6 c7 c5 wr => ∃ x : Nat, (x : Int) ≤ Q ∧ c5 = .int .u64 x ∧ Hid (Boxed wr w.heap.size P Q G ∧ MetW wr w2.heap.size (metB G P x) ∧ Below w.heap.size w wr)) (fun _ _ c5 _ => (Q - intOf c5).toNat)
      case atStart => exact ⟨0, by omega, rfl, ⟨HX2.out.alloc _, (MetW.new w2).congr fun j _ => by simp [metB], HB2.out.alloc (by omega) _⟩⟩
      case round =>
        obtain ⟨x, hxQ, rfl, HI⟩ := hrel
        obtain ⟨wo, rfl⟩ : ∃ wo : World, wo = wr := ⟨_, rfl⟩
        obtain ⟨gc0, gc1, gc2, gcl⟩ := HI.out.1
        by_cases hlt : (x : Int) < Q
        case neg =>
          have hxe : x = Q.toNat := by omega
          rw [hxe] at HI
          clear hxe
          go_wp2_with fail
          go_loopw [8] (fun c8 wr => ∃ x : Nat, (x : Int) ≤ P ∧ c8 = .int .u64 x ∧ Hid (Boxed wr w.heap.size P Q G ∧ MetW wr w2.heap.size (metB G P Q.toNat) ∧ Below w.heap.size w wr)) (fun c8 _ => (P - intOf c8).toNat)
          case atStart => exact ⟨0, by omega, rfl, HI⟩
          case round =>
            obtain ⟨z, hzP, rfl, HJ⟩ := hrel
            obtain ⟨k0, k1, k2, kl⟩ := HJ.out.1
            by_cases hlt2 : (z : Int) < P
            case neg =>
              go_wp2_with fail
              go_ret
              exact ⟨rfl, HJ.out.2.2⟩
            case pos =>
              obtain ⟨mb, hmb⟩ : ∃ mb, metB G P Q.toNat z = mb := ⟨_, rfl⟩
              have HMB := Lib.hid (show mb = true ↔ Has P Q G ∧ Mem P Q (z : Int) by rw [← hmb, metB_all HG.out]; simp [HH.out])
              have hmet : wr.cell? ⟨w2.heap.size, z, none⟩ = some (.bool mb) := by rw [HJ.out.2.1.cell z (by omega), hmb]
              have hzi0 : (0 : Int) ≤ (z : Int) := by omega
              have hzi1 : (z : Int) < 501 := by omega
              have HMW := Lib.hid HJ.out.2.1
              have hmm : metB G P Q.toNat z = mb := hmb
              have HMM := Lib.hid hmm
              clear hmb hmm
              go_wp2_with fail
              go_region_held3 (fun w' => w'.cell? ⟨w.heap.size, 0, none⟩ = some (.int .u64 P) ∧ w'.cell? ⟨w.heap.size, 1, none⟩ = some (.int .u64 Q) ∧ w'.cell? ⟨w.heap.size, 2, none⟩ = some (.int .u64 G) ∧ w'.cell? ⟨w2.heap.size, z, none⟩ = some (.bool mb))
                (first | go_keep | (refine ⟨?_, ?_, ?_, ?_⟩ <;> first | assumption | go_simp))
                (first
                  | (go_at_call 43; refine (member_is (r := mb) _ hP hQ hG (by omega) HMB.out).mono ?_; rintro e w5 ⟨rfl, hb5⟩; have hx5 := Boxed.keep (by first | exact HJ.out.1.drew | exact HJ.out.1) hb5; have gf0 := hx5.c0; have gf1 := hx5.c1; have gf2 := hx5.c2; have hm5 := MetW.keep (by first | exact HJ.out.2.1.keep (Below.refl _ _).drew | exact HJ.out.2.1) hb5; have hmet5 : w5.cell? ⟨w2.heap.size, z, none⟩ = some (.bool mb) := by rw [hm5.cell z (by omega), HMM.out]; done)
                )
              have HX5 := Lib.hid hx5
              have HM5 := Lib.hid hm5
              clear hx5 hm5
              go_wp2_with fail
              go_roundw
              case rel => exact ⟨z + 1, by omega, by go_num, ⟨HX5.out, HM5.out, HJ.out.2.2.drew.trans (hb5.mono (by have := HJ.out.2.2.size; simp <;> omega))⟩⟩
              case measure => simp [intOf]; omega
        case pos =>
          obtain ⟨a, hA⟩ : ∃ a, powm G (x : Int) P = a := ⟨_, rfl⟩
          have a0 : 0 ≤ a := by rw [← hA]; exact powm_nonneg (by omega)
          have aP : a < P := by rw [← hA]; exact powm_lt (by omega)
          have HA := Lib.hid hA
          have HMM := Lib.hid (show Mem P Q a by rw [← hA]; exact HG.out.mem_pow HG.out.mem_g _)
          have HFR := Lib.hid (show metB G P x a.toNat = false by rw [← hA]; exact metB_fresh HG.out hlt)
          have HSUC := Lib.hid (fun j : Nat => metB_succ G P x j (by rw [hA]; exact a0))
          rw [hA] at HSUC
          have UX := Lib.hid (U64.of_lt (x := (x : Int)) (by omega) (by omega))
          clear hA
          have a501 : a < 501 := by omega
          go_wp2_with fail
          refine (pow_ok P Q G G (x : Int) a _ HH.out hG gP UX.out HA.out).mono ?_
          rintro e w3 ⟨rfl, hb3⟩
          have hx3 := HI.out.1.keep hb3
          have hm3 := HI.out.2.1.keep hb3
          have gd0 := hx3.c0
          have gd1 := hx3.c1
          have gd2 := hx3.c2
          have hz3 := hb3.size
          have hmet3 : w3.cell? ⟨w2.heap.size, a.toNat, none⟩ = some (.bool false) := by rw [hm3.cell a.toNat (by omega), HFR.out]
          have HX3 := Lib.hid hx3
          have HM3 := Lib.hid hm3
          clear hx3 hm3
          go_wp2_with fail
          refine (member_is (r := true) _ hP hQ hG a0 (by simp [HH.out, HMM.out])).mono ?_
          rintro e w4 ⟨rfl, hb4⟩
          have hx4 := HX3.out.keep hb4
          have hm4 := HM3.out.keep hb4
          have ge0 := hx4.c0
          have ge1 := hx4.c1
          have ge2 := hx4.c2
          have hz4 := hb4.size
          have hmet4 : w4.cell? ⟨w2.heap.size, a.toNat, none⟩ = some (.bool false) := by rw [hm4.cell a.toNat (by omega), HFR.out]
          have hfr4 : w4.frozen? ⟨w2.heap.size, a.toNat, none⟩ = false := hm4.fr a.toNat (by omega)
          have hbx : ∀ o, (w4.setCell ⟨w2.heap.size, a.toNat, none⟩ (.bool true)).cell? ⟨w.heap.size, o, none⟩ = w4.cell? ⟨w.heap.size, o, none⟩ := fun o => World.cell?_setCell_other _ _ _ _ (by intro he; injection he with h1 _; omega)
          have HX4 := Lib.hid (show Boxed (w4.setCell ⟨w2.heap.size, a.toNat, none⟩ (.bool true)) w.heap.size P Q G from ⟨by rw [hbx]; exact ge0, by rw [hbx]; exact ge1, by rw [hbx]; exact ge2, by have := hx4.lt; simp [World.setCell]; exact this⟩)
          have HM4 := Lib.hid ((hm4.set a.toNat (by omega)).congr fun j _ => (HSUC.out j).symm)
          have HB4 := Lib.hid (show Below w.heap.size w (w4.setCell ⟨w2.heap.size, a.toNat, none⟩ (.bool true)) from ((HI.out.2.2.trans (hb3.mono (by have := HI.out.2.2.size; omega))).trans (hb4.mono (by have := HI.out.2.2.size; omega))).setCell (by show w.heap.size ≤ w2.heap.size; omega) _)
          clear hx4 hm4 hbx
          go_wp2_with fail
          go_roundw
          case rel => exact ⟨x + 1, by omega, by go_num, ⟨HX4.out, HM4.out, HB4.out⟩⟩
          case measure => simp [intOf]; omega


set_option maxRecDepth 100000 in
theorem lifted (os : Os) (started : os.Started) (H : Type) (enc : TypeId × Value → H) :
    ReturnsInHanded {} Try.checked os 8 .any (Rows.groupWholeSpec.pre6 enc Try.prog Try.f8 Rows.groupWholeRow.domain false) (Rows.groupWholeSpec.post enc Try.prog Try.f8 false true false false) := by
  refine returnsInHanded_of_change (C := Try.checked) own started (by kernel_rfl) Try.func8
    (ChangeSpec.witness6 (enc := enc) (C := Try.checked) false ⟨#[], #[.agg #[.int .u64 0, .int .u64 0, .int .u64 0]], []⟩ 8 (by kernel_rfl) (by kernel_rfl) (by kernel_rfl) (by kernel_rfl)) ?_
  intro W base args ds gs before hval0 hW _ _
  have hval : ∀ (j : Nat) t v, Try.f8.params[j]? = some t → args[j]? = some v → Value.okWide Try.prog W .any base t v := hval0
  have hW' := hW
  obtain ⟨p, q, hA0, hV, rfl, hfz, hnd⟩ := hW
  have hA : DataW.TrodAll enc Try.prog W 0 (fun _ => true) true Try.f8.params.toList args.toList ds p := hA0
  rw [Try.params8] at hA hval
  have hK := hA
  obtain ⟨v0, vs0, d0, ds0, p0, q0, hargs, rfl, rfl, h0, r0⟩ := trodAll_cons hA
  obtain ⟨rfl, rfl, rfl⟩ := trodAll_nil r0
  obtain rfl : args = #[v0] := by cases args; simp_all
  obtain ⟨rfl, rfl⟩ := trodVars_none hV
  obtain ⟨P, Q, G, rfl, uP, uQ, uG⟩ := open_group (hval 0 24 v0 rfl rfl) h0
  clear hA0 hval0
  refine (walk P Q G W uP uQ uG).mono fun e W' ⟨he, bel⟩ => ?_
  subst he
  exact ⟨_, rfl, _, _, _, [], _, [], hW', trodAll_mk1 (shut_bool Try.underlying4 _), trodAll_stays laidOut (by kernel_rfl) hK bel, rfl, bel.frame _, fun h => by cases h⟩

theorem over : Rows.groupWholeRow.holds Try.pinned (OpenSpec.ofChange Rows.groupWholeSpec) :=
  OpenClaim.holds_of_wide 8 Try.f8 rfl rfl rfl rfl rfl rfl rfl ⟨rfl, rfl, rfl, rfl, rfl⟩ rfl rfl rfl rfl rfl (by kernel_rfl) Try.func8 (by kernel_rfl)
    (of_decide_eq_true (by kernel_rfl)) (by unfold Func.isWrapper; first | (rw [if_pos (by decide +kernel)]; kernel_rfl) | (rw [if_neg (by decide +kernel)]; exact ⟨rfl, rfl⟩))
    (fun os started H enc _ => lifted os started H enc)

theorem proved : Rows.GroupWholeSaid := over
#print axioms proved
end Go.Proofs.Ytjdfjgphjdcnmaa.lawWhole
