/- The reference's Good. -/
import Derived.Test.YtlbldpkgnonbpaaGreatDoorQs3
set_option linter.unusedSimpArgs false
set_option linter.unusedVariables false
set_option maxRecDepth 100000
namespace Go.Proofs.YtlbldpkgnonbpaaGreatDoor
open Go Go.RowKit Num Sha
theorem ShV.ins {w : World} {a : Option Addr} {n : Nat} {l : List Vt} (h : ShV w a n l) : ∀ V, V ∈ l → VtIn w V := by
 intro V hV
 obtain ⟨i, hi⟩ := List.mem_iff_getElem?.1 hV
 have hl := (List.getElem?_eq_some_iff.1 hi).1
 obtain ⟨s, o, U, -, hU, -, hin⟩ := h.at i (by rw [h.len]; exact hl)
 rw [hi] at hU
 cases hU
 exact hin
set_option maxHeartbeats 32000000 in
theorem rGood_any {P Q G y : Int} {n : Nat} {one : Bool} {B : Bo} {v : Bool} (w : World) (hT : Tabs w) (hH : Has P Q G) (hy : 0 ≤ y) (hyP : y < P) (hn : n ≤ 10) (hn1 : 1 ≤ n) (hB : BoIn w B) (hs : BoSm B) (hv : v = true ↔ boothP P Q G y n one B) :
 Calls Tryz.prog 57 #[.agg #[υ P, υ Q, υ G], υ y, .int .i64 (n : Int), .bool one, B.v] w fun e w' => e = .returned (.bool v) ∧ Below w.heap.size w w' := by
 have HT := Lh hT
 have HH := Lh hH
 have HB := Lh hB
 have HS := Lh hs
 have HR := Lh hv
 clear hT hB hs hv hH
 unfold Bo.v
 obtain ⟨F_g, F_b, HBW⟩ := bx2 w [υ P, υ Q, υ G] 24 [.slice B.a B.n B.c, .slice B.b B.m B.d, .slice B.e B.k B.f] 55
 go_enter Tryz.func57, Tryz.ntmps57
 by_cases hkm : B.k = B.m
 case neg =>
  have hd : ((B.k : Int) == (B.m : Int)) = false := beq_eq_false_iff_ne.2 (by omega)
  have hd' : ((B.k : Int) != (B.m : Int)) = true := by rw [bne, hd]; rfl
  have HZ := Lh (show v = false from boolP HR.o (fun h => hkm h.lr))
  obtain ⟨qb0, qb1, qb2⟩ := F_b.o.k3
  go_wp2_with fail
  clear qb0 qb1 qb2
  go_ret
  exact ⟨by rw [HZ.o]; rfl, HBW.o⟩
 have HKM := Lh hkm
 have hd0 : ((B.k : Int) == (B.m : Int)) = true := beq_iff_eq.2 (by omega)
 have hd0' : ((B.k : Int) != (B.m : Int)) = false := by rw [bne, hd0]; rfl
 clear hkm
 have hw0 : IntKind.i64.wrap ((B.n : Int) + (B.m : Int)) = (B.n : Int) + (B.m : Int) := IntWalk.i64_in _ (by have := HS.o.s1; omega)
 by_cases hfw : B.n + B.m ≤ 256
 case neg =>
  have hd : decide ((256 : Int) < (B.n : Int) + (B.m : Int)) = true := decide_eq_true (by omega)
  have HZ := Lh (show v = false from boolP HR.o (fun h => hfw h.few))
  obtain ⟨qb0, qb1, qb2⟩ := F_b.o.k3
  go_wp2_with fail
  clear qb0 qb1 qb2
  go_ret
  exact ⟨by rw [HZ.o]; rfl, HBW.o⟩
 have HFW := Lh hfw
 have hd1 : decide ((256 : Int) < (B.n : Int) + (B.m : Int)) = false := decide_eq_false (by omega)
 clear hfw
 obtain ⟨qb0, qb1, qb2⟩ := F_b.o.k3
 go_wp2_with fail
 clear qb0 qb1 qb2
 clear hd0 hd0' hd1 hw0
 refine (rAll_any _ (HB.o.keep HBW.o) (by have := HFW.o; omega)).mono ?_
 rintro e w1 ⟨⟨v1, rfl, ho⟩, hb1⟩
 have HB1 := Lh (HB.o.keep (HBW.o.trans (hb1.mono HBW.o.size)))
 obtain ⟨a, c, rfl, hL, -, hnc⟩ := ShV.of_owned ho (fun V hV => by
  rcases List.mem_append.1 hV with h | h
  · exact HB1.o.h1.ins V h
  · exact HB1.o.h2.ins V h)
 obtain ⟨L, hL0⟩ : ∃ L, B.l ++ B.l' = L := ⟨_, rfl⟩
 obtain ⟨N, hN0⟩ : ∃ N, B.n + B.m = N := ⟨_, rfl⟩
 rw [hL0, hN0] at hL
 rw [hN0] at hnc ⊢
 have HL := Lh hL
 have HLN := Lh hL.len
 have HNC := Lh hnc
 have HL0 := Lh hL0
 have HN0 := Lh hN0
 clear ho hL hnc hL0 hN0 HB1
 replace F_g := Lh (F_g.o.keep hb1)
 replace F_b := Lh (F_b.o.keep hb1)
 replace HBW := Kt HBW hb1
 clear hb1
 go_wp2_with fail
 go_loopw [12] (fun c12 wr => ∃ i : Nat, i ≤ N ∧ c12 = .int .i64 i ∧ Hid (∀ U, U ∈ L.take i → goodV P Q G y n one U) ∧ Hid ((cds (L.take i)).Nodup) ∧ Hid (Cl wr w.heap.size [υ P, υ Q, υ G]) ∧ Hid (Cl wr (w.heap.size + 1) [.slice B.a B.n B.c, .slice B.b B.m B.d, .slice B.e B.k B.f]) ∧ Hid (ShV wr a N L) ∧ Hid (Below w.heap.size w wr)) (fun c12 _ => N - (intOf c12).toNat)
 case atStart => exact ⟨0, by omega, rfl, (by rw [List.take_zero]; intro U hU; cases hU), (by rw [List.take_zero]; exact List.nodup_nil), F_g.o, F_b.o, HL.o, HBW.o⟩
 case round =>
  clear F_g F_b HL HBW
  obtain ⟨i, hi, rfl, HGD, HND, F_g, F_b, HL, HBW⟩ := hrel
  by_cases hlt : i < N
  case pos =>
   have hd : decide ((i : Int) < (N : Int)) = true := decide_eq_true (by omega)
   have hi0 : (0 : Int) ≤ (i : Int) := by omega
   have hi2 : (i : Int) < (N : Int) := by omega
   have hic : (i : Int) ≤ (c : Int) := by have := HNC.o; omega
   have hwi : IntKind.i64.wrap ((i : Int) + 1) = (i : Int) + 1 := IntWalk.i64_in _ (by have := HN0.o; have := HFW.o; omega)
   have cV : Tryz.prog.cellsOf 33 = 11 := by kernel_rfl
   obtain ⟨s1, o1, U, hsa, hUL, huc, hUin⟩ := HL.o.at i hlt
   have HUC := Lh huc
   have HU := Lh hUin
   have HUL := Lh hUL
   subst hsa
   clear huc hUin hUL
   obtain ⟨v1, hv1⟩ := Prop.bool (validP P Q G y n U)
   have HV1 := Lh hv1
   obtain ⟨v2, hv2⟩ := Prop.bool (U.cd ∈ cds (L.take i))
   have HV2 := Lh hv2
   clear hv1 hv2
   have HBAD := Lh (show ¬ goodV P Q G y n one U → v = false from fun hno => boolP HR.o (fun h => hno (h.good U (by rw [HL0.o]; exact List.mem_of_getElem? HUL.o))))
   go_wp2_with fail
   replace F_g := Lh F_g.o.drew
   replace F_b := Lh F_b.o.drew
   replace HUC := Lh (HUC.o.keep (Below.refl _ _).drew)
   replace HU := Lh (HU.o.keep (Below.refl _ _).drew)
   replace HL := Lh (HL.o.keep (Below.refl _ _).drew)
   replace HBW := Lh HBW.o.drew
   have hS0 := And.intro F_g.o HUC.o
   by_cases hon : U.one = one
   case neg =>
    have hb0 : (U.one == one) = false := beq_eq_false_iff_ne.2 hon
    have hb1 : (U.one != one) = true := by rw [bne, hb0]; rfl
    have HZ := Lh (HBAD.o (fun h => hon h.1))
    refine wp_region_stage 27 (fun w' => Cl w' w.heap.size [υ P, υ Q, υ G] ∧ VCells w' s1 (o1 + i * 11) U) (by kernel_rfl) ?_
    refine tkP (i := 0) (some 39) (.move (.tmp 11)) 52 (fun _ => hS0) ?_
    simp only [sY]
    refine tkP (i := 1) (some 40) (.move (.tmp 12)) 3 (fun _ => hS0) ?_
    simp only [sY]
    refine tkP (i := 2) (some 41) (.indexAddr 52 (.tmp 39) (.tmp 40)) 0 (fun _ => hS0) ?_
    simp only [sY]
    refine tkP (i := 3) (some 42) (.fieldAddr 33 (.tmp 41) 2) 0 (fun _ => hS0) ?_
    simp only [sY]
    refine tkL (i := 4) (some 43) (.load 4 (.tmp 42)) 4 [6, 7, 8, 9, 10, 11, 12, 13, 14, 15, 16, 17, 18, 19, 20, 21, 22, 23, 24, 25, 26, 27] (v := ?_) hS0 (fun w' hSw => ?_) ?_
    rotate_left
    · obtain ⟨t1, t2⟩ := hSw; have g0 := t1.c 0 _ rfl; have g1 := t1.c 1 _ rfl; have g2 := t1.c 2 _ rfl; obtain ⟨-, e0, e1, e2, e3, e4, e5, e6, e7, e8, e9, e10⟩ := t2
      unfold bareOp; go_simp; try with_reducible rfl
    simp only [sY]
    refine tkP (i := 5) (some 44) (.move (.tmp 3)) 4 (fun _ => hS0) ?_
    simp only [sY]
    refine tkP (i := 6) (some 45) (.binOp .neq 4 (.tmp 43) (.tmp 44) 4) 4 (fun _ => hS0) ?_
    simp only [sY]
    refine tkP (i := 7) (some 46) (.move (.tmp 45)) 4 (fun _ => hS0) ?_
    simp only [sY]
    refine skG (i := 8) (some 47) (.load 24 (.tmp 5)) 24 (some (7, false)) (fun _ => hS0) ?_
    simp only [sY]
    refine skG (i := 9) (some 48) (.move (.tmp 1)) 22 (some (7, false)) (fun _ => hS0) ?_
    simp only [sY]
    refine skG (i := 10) (some 49) (.move (.tmp 2)) 3 (some (7, false)) (fun _ => hS0) ?_
    simp only [sY]
    refine skG (i := 11) (some 50) (.move (.tmp 11)) 52 (some (7, false)) (fun _ => hS0) ?_
    simp only [sY]
    refine skG (i := 12) (some 51) (.move (.tmp 12)) 3 (some (7, false)) (fun _ => hS0) ?_
    simp only [sY]
    refine skG (i := 13) (some 52) (.indexAddr 52 (.tmp 50) (.tmp 51)) 0 (some (7, false)) (fun _ => hS0) ?_
    simp only [sY]
    refine skG (i := 14) (some 53) (.load 33 (.tmp 52)) 33 (some (7, false)) (fun _ => hS0) ?_
    simp only [sY]
    refine skG (i := 15) (some 54) (.call { callee := .value (.func 42), args := #[.tmp 47, .tmp 48, .tmp 49, .tmp 53], argTypes := #[24, 22, 3, 33] }) 4 (some (7, false)) (fun _ => hS0) ?_
    simp only [sY]
    refine skG (i := 16) (some 55) (.unOp .not 4 (.tmp 54)) 4 (some (7, false)) (fun _ => hS0) ?_
    simp only [sY]
    refine tkP (i := 17) (some 56) (.pick (.tmp 46) (.const (.bool true)) (.tmp 55)) 4 (fun _ => hS0) ?_
    simp only [sY]
    refine tkP (i := 18) (some 57) (.move (.tmp 56)) 4 (fun _ => hS0) ?_
    simp only [sY]
    refine skG (i := 19) (some 58) (.move (.tmp 11)) 52 (some (18, false)) (fun _ => hS0) ?_
    simp only [sY]
    refine skG (i := 20) (some 59) (.move (.tmp 12)) 3 (some (18, false)) (fun _ => hS0) ?_
    simp only [sY]
    refine skG (i := 21) (some 60) (.slice 52 (.tmp 58) none (some (.tmp 59)) none) 52 (some (18, false)) (fun _ => hS0) ?_
    simp only [sY]
    refine skG (i := 22) (some 61) (.move (.tmp 11)) 52 (some (18, false)) (fun _ => hS0) ?_
    simp only [sY]
    refine skG (i := 23) (some 62) (.move (.tmp 12)) 3 (some (18, false)) (fun _ => hS0) ?_
    simp only [sY]
    refine skG (i := 24) (some 63) (.indexAddr 52 (.tmp 61) (.tmp 62)) 0 (some (18, false)) (fun _ => hS0) ?_
    simp only [sY]
    refine skG (i := 25) (some 64) (.load 33 (.tmp 63)) 33 (some (18, false)) (fun _ => hS0) ?_
    simp only [sY]
    refine skG (i := 26) (some 65) (.call { callee := .value (.func 90), args := #[.tmp 60, .tmp 64], argTypes := #[52, 33] }) 4 (some (18, false)) (fun _ => hS0) ?_
    simp only [sY]
    refine onl (i := 27) (some 66) (.pick (.tmp 57) (.const (.bool true)) (.tmp 65)) 4 (fun K hK => ?_)
    unfold bareOp
    go_wp2_with fail
    refine hK.o _ _ lt8 ?_
    clear hK K
    try simp only [sY]
    refine wpAnyB_done (by kernel_rfl) ?_ _
    go_wp2_with fail
    go_ret
    exact ⟨by rw [HZ.o]; rfl, HBW.o⟩
   have HON := Lh hon
   have hb0 : (U.one == one) = true := beq_iff_eq.2 hon
   have hb1 : (U.one != one) = false := by rw [bne, hb0]; rfl
   clear hon
   cases v1 with
   | false =>
    have HZ := Lh (HBAD.o (fun h => by have := HV1.o.2 h.2; cases this))
    refine wp_region_stage 27 (fun w' => Cl w' w.heap.size [υ P, υ Q, υ G] ∧ VCells w' s1 (o1 + i * 11) U) (by kernel_rfl) ?_
    refine tkP (i := 0) (some 39) (.move (.tmp 11)) 52 (fun _ => hS0) ?_
    simp only [sY]
    refine tkP (i := 1) (some 40) (.move (.tmp 12)) 3 (fun _ => hS0) ?_
    simp only [sY]
    refine tkP (i := 2) (some 41) (.indexAddr 52 (.tmp 39) (.tmp 40)) 0 (fun _ => hS0) ?_
    simp only [sY]
    refine tkP (i := 3) (some 42) (.fieldAddr 33 (.tmp 41) 2) 0 (fun _ => hS0) ?_
    simp only [sY]
    refine tkL (i := 4) (some 43) (.load 4 (.tmp 42)) 4 [6, 7, 8, 9, 10, 11, 12, 13, 14, 15, 16, 17, 18, 19, 20, 21, 22, 23, 24, 25, 26, 27] (v := ?_) hS0 (fun w' hSw => ?_) ?_
    rotate_left
    · obtain ⟨t1, t2⟩ := hSw; have g0 := t1.c 0 _ rfl; have g1 := t1.c 1 _ rfl; have g2 := t1.c 2 _ rfl; obtain ⟨-, e0, e1, e2, e3, e4, e5, e6, e7, e8, e9, e10⟩ := t2
      unfold bareOp; go_simp; try with_reducible rfl
    simp only [sY]
    refine tkP (i := 5) (some 44) (.move (.tmp 3)) 4 (fun _ => hS0) ?_
    simp only [sY]
    refine tkP (i := 6) (some 45) (.binOp .neq 4 (.tmp 43) (.tmp 44) 4) 4 (fun _ => hS0) ?_
    simp only [sY]
    refine tkP (i := 7) (some 46) (.move (.tmp 45)) 4 (fun _ => hS0) ?_
    simp only [sY]
    refine tkLG (i := 8) (some 47) (.load 24 (.tmp 5)) 24 (some (7, false)) [15, 16, 17, 18, 19, 20, 21, 22, 23, 24, 25, 26, 27] (v := ?_) hS0 (fun w' hSw => ?_) ?_
    rotate_left
    · obtain ⟨t1, t2⟩ := hSw; have g0 := t1.c 0 _ rfl; have g1 := t1.c 1 _ rfl; have g2 := t1.c 2 _ rfl; obtain ⟨-, e0, e1, e2, e3, e4, e5, e6, e7, e8, e9, e10⟩ := t2
      unfold bareOp; go_simp; try with_reducible rfl
    simp only [sY]
    refine tkPG (i := 9) (some 48) (.move (.tmp 1)) 22 (some (7, false)) (fun _ => hS0) ?_
    simp only [sY]
    refine tkPG (i := 10) (some 49) (.move (.tmp 2)) 3 (some (7, false)) (fun _ => hS0) ?_
    simp only [sY]
    refine tkPG (i := 11) (some 50) (.move (.tmp 11)) 52 (some (7, false)) (fun _ => hS0) ?_
    simp only [sY]
    refine tkPG (i := 12) (some 51) (.move (.tmp 12)) 3 (some (7, false)) (fun _ => hS0) ?_
    simp only [sY]
    refine tkPG (i := 13) (some 52) (.indexAddr 52 (.tmp 50) (.tmp 51)) 0 (some (7, false)) (fun _ => hS0) ?_
    simp only [sY]
    refine tkLG (i := 14) (some 53) (.load 33 (.tmp 52)) 33 (some (7, false)) [15, 16, 17, 18, 19, 20, 21, 22, 23, 24, 25, 26, 27] (v := ?_) hS0 (fun w' hSw => ?_) ?_
    rotate_left
    · obtain ⟨t1, t2⟩ := hSw; have g0 := t1.c 0 _ rfl; have g1 := t1.c 1 _ rfl; have g2 := t1.c 2 _ rfl; obtain ⟨-, e0, e1, e2, e3, e4, e5, e6, e7, e8, e9, e10⟩ := t2
      unfold bareOp; go_simp; try with_reducible rfl
    simp only [sY]
    refine wpAnyB_onlyG (i := 15) (some 54) (.call { callee := .value (.func 42), args := #[.tmp 47, .tmp 48, .tmp 49, .tmp 53], argTypes := #[24, 22, 3, 33] }) 4 (some (7, false)) ⟨_, rfl, rfl, rfl, rfl, rfl⟩ (by kernel_rfl) rfl (fun K hK => ?_)
    unfold bareOp
    refine OpW.out (wp_of_enter (run_call _ _ _ _ 42 Tryz.func42 (vs := #[.agg #[υ P, υ Q, υ G], υ y, .int .i64 (n : Int), U.v]) (by simp only [List.map_toArray, List.map_cons, List.map_nil]; rfl) rfl (by kernel_rfl) (by kernel_rfl)) (rMay_any (V := U) _ (HT.o.below HBW.o) HH.o hy hn hn1 HU.o HV1.o) ?_)
    rintro e w15 ⟨rfl, hb⟩
    refine ⟨_, rfl, ?_⟩
    replace F_g := Lh (F_g.o.keep hb)
    replace F_b := Lh (F_b.o.keep hb)
    replace HUC := Lh (HUC.o.keep hb)
    replace HU := Lh (HU.o.keep hb)
    replace HL := Lh (HL.o.keep hb)
    replace HBW := Kt HBW hb
    clear hS0 hb
    have hS0 := And.intro F_g.o HUC.o
    refine hK.o _ _ (fun _ => hS0) ?_
    clear hK K
    try simp only [sY]
    refine tkPG (i := 16) (some 55) (.unOp .not 4 (.tmp 54)) 4 (some (7, false)) (fun _ => hS0) ?_
    simp only [sY]
    refine tkP (i := 17) (some 56) (.pick (.tmp 46) (.const (.bool true)) (.tmp 55)) 4 (fun _ => hS0) ?_
    simp only [sY]
    refine tkP (i := 18) (some 57) (.move (.tmp 56)) 4 (fun _ => hS0) ?_
    simp only [sY]
    refine skG (i := 19) (some 58) (.move (.tmp 11)) 52 (some (18, false)) (fun _ => hS0) ?_
    simp only [sY]
    refine skG (i := 20) (some 59) (.move (.tmp 12)) 3 (some (18, false)) (fun _ => hS0) ?_
    simp only [sY]
    refine skG (i := 21) (some 60) (.slice 52 (.tmp 58) none (some (.tmp 59)) none) 52 (some (18, false)) (fun _ => hS0) ?_
    simp only [sY]
    refine skG (i := 22) (some 61) (.move (.tmp 11)) 52 (some (18, false)) (fun _ => hS0) ?_
    simp only [sY]
    refine skG (i := 23) (some 62) (.move (.tmp 12)) 3 (some (18, false)) (fun _ => hS0) ?_
    simp only [sY]
    refine skG (i := 24) (some 63) (.indexAddr 52 (.tmp 61) (.tmp 62)) 0 (some (18, false)) (fun _ => hS0) ?_
    simp only [sY]
    refine skG (i := 25) (some 64) (.load 33 (.tmp 63)) 33 (some (18, false)) (fun _ => hS0) ?_
    simp only [sY]
    refine skG (i := 26) (some 65) (.call { callee := .value (.func 90), args := #[.tmp 60, .tmp 64], argTypes := #[52, 33] }) 4 (some (18, false)) (fun _ => hS0) ?_
    simp only [sY]
    refine onl (i := 27) (some 66) (.pick (.tmp 57) (.const (.bool true)) (.tmp 65)) 4 (fun K hK => ?_)
    unfold bareOp
    go_wp2_with fail
    refine hK.o _ _ lt8 ?_
    clear hK K
    try simp only [sY]
    refine wpAnyB_done (by kernel_rfl) ?_ _
    go_wp2_with fail
    go_ret
    exact ⟨by rw [HZ.o]; rfl, HBW.o⟩
   | true =>
    refine wp_region_stage 27 (fun w' => Cl w' w.heap.size [υ P, υ Q, υ G] ∧ VCells w' s1 (o1 + i * 11) U) (by kernel_rfl) ?_
    refine tkP (i := 0) (some 39) (.move (.tmp 11)) 52 (fun _ => hS0) ?_
    simp only [sY]
    refine tkP (i := 1) (some 40) (.move (.tmp 12)) 3 (fun _ => hS0) ?_
    simp only [sY]
    refine tkP (i := 2) (some 41) (.indexAddr 52 (.tmp 39) (.tmp 40)) 0 (fun _ => hS0) ?_
    simp only [sY]
    refine tkP (i := 3) (some 42) (.fieldAddr 33 (.tmp 41) 2) 0 (fun _ => hS0) ?_
    simp only [sY]
    refine tkL (i := 4) (some 43) (.load 4 (.tmp 42)) 4 [6, 7, 8, 9, 10, 11, 12, 13, 14, 15, 16, 17, 18, 19, 20, 21, 22, 23, 24, 25, 26, 27] (v := ?_) hS0 (fun w' hSw => ?_) ?_
    rotate_left
    · obtain ⟨t1, t2⟩ := hSw; have g0 := t1.c 0 _ rfl; have g1 := t1.c 1 _ rfl; have g2 := t1.c 2 _ rfl; obtain ⟨-, e0, e1, e2, e3, e4, e5, e6, e7, e8, e9, e10⟩ := t2
      unfold bareOp; go_simp; try with_reducible rfl
    simp only [sY]
    refine tkP (i := 5) (some 44) (.move (.tmp 3)) 4 (fun _ => hS0) ?_
    simp only [sY]
    refine tkP (i := 6) (some 45) (.binOp .neq 4 (.tmp 43) (.tmp 44) 4) 4 (fun _ => hS0) ?_
    simp only [sY]
    refine tkP (i := 7) (some 46) (.move (.tmp 45)) 4 (fun _ => hS0) ?_
    simp only [sY]
    refine tkLG (i := 8) (some 47) (.load 24 (.tmp 5)) 24 (some (7, false)) [15, 16, 17, 18, 19, 20, 21, 22, 23, 24, 25, 26, 27] (v := ?_) hS0 (fun w' hSw => ?_) ?_
    rotate_left
    · obtain ⟨t1, t2⟩ := hSw; have g0 := t1.c 0 _ rfl; have g1 := t1.c 1 _ rfl; have g2 := t1.c 2 _ rfl; obtain ⟨-, e0, e1, e2, e3, e4, e5, e6, e7, e8, e9, e10⟩ := t2
      unfold bareOp; go_simp; try with_reducible rfl
    simp only [sY]
    refine tkPG (i := 9) (some 48) (.move (.tmp 1)) 22 (some (7, false)) (fun _ => hS0) ?_
    simp only [sY]
    refine tkPG (i := 10) (some 49) (.move (.tmp 2)) 3 (some (7, false)) (fun _ => hS0) ?_
    simp only [sY]
    refine tkPG (i := 11) (some 50) (.move (.tmp 11)) 52 (some (7, false)) (fun _ => hS0) ?_
    simp only [sY]
    refine tkPG (i := 12) (some 51) (.move (.tmp 12)) 3 (some (7, false)) (fun _ => hS0) ?_
    simp only [sY]
    refine tkPG (i := 13) (some 52) (.indexAddr 52 (.tmp 50) (.tmp 51)) 0 (some (7, false)) (fun _ => hS0) ?_
    simp only [sY]
    refine tkLG (i := 14) (some 53) (.load 33 (.tmp 52)) 33 (some (7, false)) [15, 16, 17, 18, 19, 20, 21, 22, 23, 24, 25, 26, 27] (v := ?_) hS0 (fun w' hSw => ?_) ?_
    rotate_left
    · obtain ⟨t1, t2⟩ := hSw; have g0 := t1.c 0 _ rfl; have g1 := t1.c 1 _ rfl; have g2 := t1.c 2 _ rfl; obtain ⟨-, e0, e1, e2, e3, e4, e5, e6, e7, e8, e9, e10⟩ := t2
      unfold bareOp; go_simp; try with_reducible rfl
    simp only [sY]
    refine wpAnyB_onlyG (i := 15) (some 54) (.call { callee := .value (.func 42), args := #[.tmp 47, .tmp 48, .tmp 49, .tmp 53], argTypes := #[24, 22, 3, 33] }) 4 (some (7, false)) ⟨_, rfl, rfl, rfl, rfl, rfl⟩ (by kernel_rfl) rfl (fun K hK => ?_)
    unfold bareOp
    refine OpW.out (wp_of_enter (run_call _ _ _ _ 42 Tryz.func42 (vs := #[.agg #[υ P, υ Q, υ G], υ y, .int .i64 (n : Int), U.v]) (by simp only [List.map_toArray, List.map_cons, List.map_nil]; rfl) rfl (by kernel_rfl) (by kernel_rfl)) (rMay_any (V := U) _ (HT.o.below HBW.o) HH.o hy hn hn1 HU.o HV1.o) ?_)
    rintro e w15 ⟨rfl, hb⟩
    refine ⟨_, rfl, ?_⟩
    replace F_g := Lh (F_g.o.keep hb)
    replace F_b := Lh (F_b.o.keep hb)
    replace HUC := Lh (HUC.o.keep hb)
    replace HU := Lh (HU.o.keep hb)
    replace HL := Lh (HL.o.keep hb)
    replace HBW := Kt HBW hb
    clear hS0 hb
    have hS0 := And.intro F_g.o HUC.o
    refine hK.o _ _ (fun _ => hS0) ?_
    clear hK K
    try simp only [sY]
    refine tkPG (i := 16) (some 55) (.unOp .not 4 (.tmp 54)) 4 (some (7, false)) (fun _ => hS0) ?_
    simp only [sY]
    refine tkP (i := 17) (some 56) (.pick (.tmp 46) (.const (.bool true)) (.tmp 55)) 4 (fun _ => hS0) ?_
    simp only [sY]
    refine tkP (i := 18) (some 57) (.move (.tmp 56)) 4 (fun _ => hS0) ?_
    simp only [sY]
    refine tkPG (i := 19) (some 58) (.move (.tmp 11)) 52 (some (18, false)) (fun _ => hS0) ?_
    simp only [sY]
    refine tkPG (i := 20) (some 59) (.move (.tmp 12)) 3 (some (18, false)) (fun _ => hS0) ?_
    simp only [sY]
    refine tkPG (i := 21) (some 60) (.slice 52 (.tmp 58) none (some (.tmp 59)) none) 52 (some (18, false)) (fun _ => hS0) ?_
    simp only [sY]
    refine tkPG (i := 22) (some 61) (.move (.tmp 11)) 52 (some (18, false)) (fun _ => hS0) ?_
    simp only [sY]
    refine tkPG (i := 23) (some 62) (.move (.tmp 12)) 3 (some (18, false)) (fun _ => hS0) ?_
    simp only [sY]
    refine tkPG (i := 24) (some 63) (.indexAddr 52 (.tmp 61) (.tmp 62)) 0 (some (18, false)) (fun _ => hS0) ?_
    simp only [sY]
    refine tkLG (i := 25) (some 64) (.load 33 (.tmp 63)) 33 (some (18, false)) [26, 27] (v := ?_) hS0 (fun w' hSw => ?_) ?_
    rotate_left
    · obtain ⟨t1, t2⟩ := hSw; have g0 := t1.c 0 _ rfl; have g1 := t1.c 1 _ rfl; have g2 := t1.c 2 _ rfl; obtain ⟨-, e0, e1, e2, e3, e4, e5, e6, e7, e8, e9, e10⟩ := t2
      unfold bareOp; go_simp; try with_reducible rfl
    simp only [sY]
    refine wpAnyB_onlyG (i := 26) (some 65) (.call { callee := .value (.func 90), args := #[.tmp 60, .tmp 64], argTypes := #[52, 33] }) 4 (some (18, false)) ⟨_, rfl, rfl, rfl, rfl, rfl⟩ (by kernel_rfl) rfl (fun K hK => ?_)
    unfold bareOp
    refine OpW.out (wp_of_enter (run_call _ _ _ _ 90 Tryz.func90 (vs := #[.slice (some ⟨s1, o1, none⟩) i c, U.v]) (by simp only [List.map_toArray, List.map_cons, List.map_nil]; rfl) rfl (by kernel_rfl) (by kernel_rfl)) (rSeen_any (V := U) (L := L.take i) _ (HL.o.take i (by omega)) (by have := HN0.o; have := HFW.o; omega) (fun X hX => by have h := (HGD.o X hX).2; exact ⟨by rw [h.1]; exact hn, by rw [h.2.1]; exact hn⟩) HU.o (by have h := HV1.o.1 rfl; exact ⟨by rw [h.1]; exact hn, by rw [h.2.1]; exact hn⟩) HV2.o) ?_)
    rintro e w26 ⟨rfl, hb⟩
    refine ⟨_, rfl, ?_⟩
    replace F_g := Lh (F_g.o.keep hb)
    replace F_b := Lh (F_b.o.keep hb)
    replace HUC := Lh (HUC.o.keep hb)
    replace HU := Lh (HU.o.keep hb)
    replace HL := Lh (HL.o.keep hb)
    replace HBW := Kt HBW hb
    clear hS0 hb
    have hS0 := And.intro F_g.o HUC.o
    refine hK.o _ _ (fun _ => hS0) ?_
    clear hK K
    try simp only [sY]
    refine onl (i := 27) (some 66) (.pick (.tmp 57) (.const (.bool true)) (.tmp 65)) 4 (fun K hK => ?_)
    unfold bareOp
    go_wp2_with fail
    refine hK.o _ _ lt8 ?_
    clear hK K
    try simp only [sY]
    refine wpAnyB_done (by kernel_rfl) ?_ _
    cases v2 with
    | true =>
     have HZ := Lh (show v = false from boolP HR.o (fun h => nodup_at (by have h2 := h.dist; rw [HL0.o] at h2; exact h2) HUL.o (HV2.o.1 rfl)))
     go_wp2_with fail
     go_ret
     exact ⟨by rw [HZ.o]; rfl, HBW.o⟩
    | false =>
     have HG2 := Lh (show ∀ X, X ∈ L.take (i + 1) → goodV P Q G y n one X by
      intro X hX
      rw [take_snoc HUL.o] at hX
      rcases List.mem_append.1 hX with h | h
      · exact HGD.o X h
      · rw [List.mem_singleton] at h; rw [h]; exact ⟨HON.o, by first | exact HV1.o.1 rfl | exact HV1.o.1 trivial⟩)
     have HN2 := Lh (show (cds (L.take (i + 1))).Nodup by
      rw [take_snoc HUL.o, cds_snoc]
      exact nodup_snoc HND.o (fun h => by have := HV2.o.2 h; cases this))
     go_wp2_with fail
     go_roundw
     case rel => exact ⟨i + 1, by omega, by go_num, HG2.o, HN2.o, F_g.o, F_b.o, HL.o, HBW.o⟩
     case measure => simp [intOf] <;> omega
  case neg =>
   obtain rfl : i = N := by omega
   have hd : decide ((i : Int) < (i : Int)) = false := decide_eq_false (by omega)
   have HGA := Lh (show ∀ U, U ∈ B.l ++ B.l' → goodV P Q G y n one U from fun U hU => HGD.o U (by rw [List.take_of_length_le (by rw [← HLN.o]; exact Nat.le_refl _), ← HL0.o]; exact hU))
   have HNA := Lh (show (cds (B.l ++ B.l')).Nodup by have h := HND.o; rw [List.take_of_length_le (by rw [← HLN.o]; exact Nat.le_refl _), ← HL0.o] at h; exact h)
   clear HGD HND HL
   go_wp2_with fail
   clear hd
   obtain ⟨wq, rfl⟩ : ∃ wq, wq = wr := ⟨_, rfl⟩
   go_loopw [13] (fun c13 wr => ∃ j : Nat, j ≤ B.m ∧ c13 = .int .i64 j ∧ Hid (∀ (t : Nat) (R : Rv) (V : Vt), t < j → B.rs[t]? = some R → B.l'[t]? = some V → rangeP Q n R ∧ matchP P G y n V R) ∧ Hid (Cl wr w.heap.size [υ P, υ Q, υ G]) ∧ Hid (Cl wr (w.heap.size + 1) [.slice B.a B.n B.c, .slice B.b B.m B.d, .slice B.e B.k B.f]) ∧ Hid (Below w.heap.size w wr)) (fun c13 _ => B.m - (intOf c13).toNat)
   case atStart => exact ⟨0, by omega, rfl, Lh (fun t R V ht => by omega), F_g.o, F_b.o, HBW.o⟩
   case round =>
    clear F_g F_b HBW
    obtain ⟨j, hj, rfl, HMT, F_g, F_b, HBW⟩ := hrel
    by_cases hlt : j < B.m
    case neg =>
     have hd : decide ((j : Int) < (B.m : Int)) = false := decide_eq_false (by omega)
     have HZ := Lh (show v = true from HR.o.2 ⟨HKM.o, HFW.o, HGA.o, HNA.o, fun t R V hR hV => HMT.o t R V (by
      have h1 := (List.getElem?_eq_some_iff.1 hV).1
      have h2 := HB.o.h2.len
      omega) hR hV⟩)
     have a1 := F_b.o.c 1 _ rfl
     go_wp2_with fail
     go_ret
     exact ⟨by rw [HZ.o]; rfl, HBW.o⟩
    case pos =>
     have hd : decide ((j : Int) < (B.m : Int)) = true := decide_eq_true (by omega)
     have hj0 : (0 : Int) ≤ (j : Int) := by omega
     have hj2 : (j : Int) < (B.m : Int) := by omega
     have hj3 : (j : Int) < (B.k : Int) := by have := HKM.o; omega
     have hwj : IntKind.i64.wrap ((j : Int) + 1) = (j : Int) + 1 := IntWalk.i64_in _ (by have := HFW.o; omega)
     have cV : Tryz.prog.cellsOf 33 = 11 := by kernel_rfl
     have cR : Tryz.prog.cellsOf 36 = 2 := by kernel_rfl
     obtain ⟨s1, o1, V, hsa, hVL, huc, hVin⟩ := (HB.o.keep HBW.o).h2.at j hlt
     obtain ⟨s2, o2, R, hsb, hRL, hs2, e0, e1, hRin⟩ := (HB.o.keep HBW.o).h3.at j (by have := HKM.o; omega)
     have HVC := Lh huc
     have HV := Lh hVin
     have HVL := Lh hVL
     have HRC := Lh (show RCells wr s2 (o2 + j * 2) R from ⟨hs2, e0, e1⟩)
     have HRI := Lh hRin
     have HRL := Lh hRL
     have HRN := Lh (HS.o.s3 R (List.mem_of_getElem? hRL))
     rw [hsa, hsb] at F_b ⊢
     clear huc hVin hVL hs2 e0 e1 hRin hRL hsa hsb
     obtain ⟨v1, hv1⟩ := Prop.bool (rangeP Q n R)
     have HV1 := Lh hv1
     obtain ⟨v2, hv2⟩ := Prop.bool (matchP P G y n V R)
     have HV2 := Lh hv2
     clear hv1 hv2
     have HBAD := Lh (show ¬ (rangeP Q n R ∧ matchP P G y n V R) → v = false from fun hno => boolP HR.o (fun h => hno (h.mat j R V HRL.o HVL.o)))
     have a1 := F_b.o.c 1 _ rfl
     go_wp2_with fail
     clear a1
     replace F_g := Lh F_g.o.drew
     replace F_b := Lh F_b.o.drew
     replace HVC := Lh (HVC.o.keep (Below.refl _ _).drew)
     replace HV := Lh (HV.o.keep (Below.refl _ _).drew)
     replace HRC := Lh (HRC.o.keep (Below.refl _ _).drew)
     replace HRI := Lh (HRI.o.keep (Below.refl _ _).drew)
     replace HBW := Lh HBW.o.drew
     have hS0 := And.intro F_g.o (And.intro F_b.o (And.intro HVC.o HRC.o))
     cases v1 with
     | false =>
      have HZ := Lh (HBAD.o (fun h => by have := HV1.o.2 h.1; cases this))
      refine wp_region_stage 25 (fun w' => Cl w' w.heap.size [υ P, υ Q, υ G] ∧ Cl w' (w.heap.size + 1) [.slice B.a B.n B.c, .slice (some ⟨s1, o1, none⟩) B.m B.d, .slice (some ⟨s2, o2, none⟩) B.k B.f] ∧ VCells w' s1 (o1 + j * 11) V ∧ RCells w' s2 (o2 + j * 2) R) (by kernel_rfl) ?_
      refine tkL (i := 0) (some 74) (.load 24 (.tmp 5)) 24 [7, 8, 9, 10, 11, 12, 13, 14, 15, 16, 17, 18, 19, 20, 21, 22, 23, 24, 25] (v := ?_) hS0 (fun w' hSw => ?_) ?_
      rotate_left
      · obtain ⟨t1, -, -, -⟩ := hSw; have g0 := t1.c 0 _ rfl; have g1 := t1.c 1 _ rfl; have g2 := t1.c 2 _ rfl
        unfold bareOp; go_simp; try with_reducible rfl
      simp only [sY]
      refine tkP (i := 1) (some 75) (.move (.tmp 2)) 3 (fun _ => hS0) ?_
      simp only [sY]
      refine tkP (i := 2) (some 76) (.fieldAddr 55 (.tmp 9) 2) 0 (fun _ => hS0) ?_
      simp only [sY]
      refine tkL (i := 3) (some 77) (.load 53 (.tmp 76)) 53 [5, 6, 7, 8, 9, 10, 11, 12, 13, 14, 15, 16, 17, 18, 19, 20, 21, 22, 23, 24, 25] (v := ?_) hS0 (fun w' hSw => ?_) ?_
      rotate_left
      · obtain ⟨t1, t2, t3, t4⟩ := hSw; have g0 := t1.c 0 _ rfl; have g1 := t1.c 1 _ rfl; have g2 := t1.c 2 _ rfl; have k1 := t2.c 1 _ rfl; have k2 := t2.c 2 _ rfl; obtain ⟨-, e0, e1, e2, e3, e4, e5, e6, e7, e8, e9, e10⟩ := t3; obtain ⟨-, d0, d1⟩ := t4
        unfold bareOp; go_simp; try with_reducible rfl
      simp only [sY]
      refine tkP (i := 4) (some 78) (.move (.tmp 13)) 3 (fun _ => hS0) ?_
      simp only [sY]
      refine tkP (i := 5) (some 79) (.indexAddr 53 (.tmp 77) (.tmp 78)) 0 (fun _ => hS0) ?_
      simp only [sY]
      refine tkL (i := 6) (some 80) (.load 36 (.tmp 79)) 36 [7, 8, 9, 10, 11, 12, 13, 14, 15, 16, 17, 18, 19, 20, 21, 22, 23, 24, 25] (v := ?_) hS0 (fun w' hSw => ?_) ?_
      rotate_left
      · obtain ⟨t1, t2, t3, t4⟩ := hSw; have g0 := t1.c 0 _ rfl; have g1 := t1.c 1 _ rfl; have g2 := t1.c 2 _ rfl; have k1 := t2.c 1 _ rfl; have k2 := t2.c 2 _ rfl; obtain ⟨-, e0, e1, e2, e3, e4, e5, e6, e7, e8, e9, e10⟩ := t3; obtain ⟨-, d0, d1⟩ := t4
        unfold bareOp; go_simp; try with_reducible rfl
      simp only [sY]
      refine onl (i := 7) (some 81) (.call { callee := .value (.func 39), args := #[.tmp 74, .tmp 75, .tmp 80], argTypes := #[24, 3, 36] }) 4 (fun K hK => ?_)
      unfold bareOp
      refine OpW.out (wp_of_enter (run_call _ _ _ _ 39 Tryz.func39 (vs := #[.agg #[υ P, υ Q, υ G], .int .i64 (n : Int), R.v]) (by simp only [List.map_toArray, List.map_cons, List.map_nil]; rfl) rfl (by kernel_rfl) (by kernel_rfl)) (rrevealed_any (R := R) _ HRI.o HRN.o.1 (by omega) HRN.o.2 HV1.o) ?_)
      rintro e w7 ⟨rfl, hb⟩
      refine ⟨_, rfl, ?_⟩
      replace F_g := Lh (F_g.o.keep hb)
      replace F_b := Lh (F_b.o.keep hb)
      replace HVC := Lh (HVC.o.keep hb)
      replace HV := Lh (HV.o.keep hb)
      replace HRC := Lh (HRC.o.keep hb)
      replace HRI := Lh (HRI.o.keep hb)
      replace HBW := Kt HBW hb
      clear hS0 hb
      have hS0 := And.intro F_g.o (And.intro F_b.o (And.intro HVC.o HRC.o))
      refine hK.o _ _ (fun _ => hS0) ?_
      clear hK K
      try simp only [sY]
      refine tkP (i := 8) (some 82) (.unOp .not 4 (.tmp 81)) 4 (fun _ => hS0) ?_
      simp only [sY]
      refine tkP (i := 9) (some 83) (.move (.tmp 82)) 4 (fun _ => hS0) ?_
      simp only [sY]
      refine skG (i := 10) (some 84) (.load 24 (.tmp 5)) 24 (some (9, false)) (fun _ => hS0) ?_
      simp only [sY]
      refine skG (i := 11) (some 85) (.move (.tmp 1)) 22 (some (9, false)) (fun _ => hS0) ?_
      simp only [sY]
      refine skG (i := 12) (some 86) (.move (.tmp 2)) 3 (some (9, false)) (fun _ => hS0) ?_
      simp only [sY]
      refine skG (i := 13) (some 87) (.fieldAddr 55 (.tmp 9) 1) 0 (some (9, false)) (fun _ => hS0) ?_
      simp only [sY]
      refine skG (i := 14) (some 88) (.load 52 (.tmp 87)) 52 (some (9, false)) (fun _ => hS0) ?_
      simp only [sY]
      refine skG (i := 15) (some 89) (.move (.tmp 13)) 3 (some (9, false)) (fun _ => hS0) ?_
      simp only [sY]
      refine skG (i := 16) (some 90) (.indexAddr 52 (.tmp 88) (.tmp 89)) 0 (some (9, false)) (fun _ => hS0) ?_
      simp only [sY]
      refine skG (i := 17) (some 91) (.load 33 (.tmp 90)) 33 (some (9, false)) (fun _ => hS0) ?_
      simp only [sY]
      refine skG (i := 18) (some 92) (.fieldAddr 55 (.tmp 9) 2) 0 (some (9, false)) (fun _ => hS0) ?_
      simp only [sY]
      refine skG (i := 19) (some 93) (.load 53 (.tmp 92)) 53 (some (9, false)) (fun _ => hS0) ?_
      simp only [sY]
      refine skG (i := 20) (some 94) (.move (.tmp 13)) 3 (some (9, false)) (fun _ => hS0) ?_
      simp only [sY]
      refine skG (i := 21) (some 95) (.indexAddr 53 (.tmp 93) (.tmp 94)) 0 (some (9, false)) (fun _ => hS0) ?_
      simp only [sY]
      refine skG (i := 22) (some 96) (.load 36 (.tmp 95)) 36 (some (9, false)) (fun _ => hS0) ?_
      simp only [sY]
      refine skG (i := 23) (some 97) (.call { callee := .value (.func 40), args := #[.tmp 84, .tmp 85, .tmp 86, .tmp 91, .tmp 96], argTypes := #[24, 22, 3, 33, 36] }) 4 (some (9, false)) (fun _ => hS0) ?_
      simp only [sY]
      refine skG (i := 24) (some 98) (.unOp .not 4 (.tmp 97)) 4 (some (9, false)) (fun _ => hS0) ?_
      simp only [sY]
      refine onl (i := 25) (some 99) (.pick (.tmp 83) (.const (.bool true)) (.tmp 98)) 4 (fun K hK => ?_)
      unfold bareOp
      go_wp2_with fail
      refine hK.o _ _ lt8 ?_
      clear hK K
      try simp only [sY]
      refine wpAnyB_done (by kernel_rfl) ?_ _
      go_wp2_with fail
      go_ret
      exact ⟨by rw [HZ.o]; rfl, HBW.o⟩
     | true =>
      refine wp_region_stage 25 (fun w' => Cl w' w.heap.size [υ P, υ Q, υ G] ∧ Cl w' (w.heap.size + 1) [.slice B.a B.n B.c, .slice (some ⟨s1, o1, none⟩) B.m B.d, .slice (some ⟨s2, o2, none⟩) B.k B.f] ∧ VCells w' s1 (o1 + j * 11) V ∧ RCells w' s2 (o2 + j * 2) R) (by kernel_rfl) ?_
      refine tkL (i := 0) (some 74) (.load 24 (.tmp 5)) 24 [7, 8, 9, 10, 11, 12, 13, 14, 15, 16, 17, 18, 19, 20, 21, 22, 23, 24, 25] (v := ?_) hS0 (fun w' hSw => ?_) ?_
      rotate_left
      · obtain ⟨t1, -, -, -⟩ := hSw; have g0 := t1.c 0 _ rfl; have g1 := t1.c 1 _ rfl; have g2 := t1.c 2 _ rfl
        unfold bareOp; go_simp; try with_reducible rfl
      simp only [sY]
      refine tkP (i := 1) (some 75) (.move (.tmp 2)) 3 (fun _ => hS0) ?_
      simp only [sY]
      refine tkP (i := 2) (some 76) (.fieldAddr 55 (.tmp 9) 2) 0 (fun _ => hS0) ?_
      simp only [sY]
      refine tkL (i := 3) (some 77) (.load 53 (.tmp 76)) 53 [5, 6, 7, 8, 9, 10, 11, 12, 13, 14, 15, 16, 17, 18, 19, 20, 21, 22, 23, 24, 25] (v := ?_) hS0 (fun w' hSw => ?_) ?_
      rotate_left
      · obtain ⟨t1, t2, t3, t4⟩ := hSw; have g0 := t1.c 0 _ rfl; have g1 := t1.c 1 _ rfl; have g2 := t1.c 2 _ rfl; have k1 := t2.c 1 _ rfl; have k2 := t2.c 2 _ rfl; obtain ⟨-, e0, e1, e2, e3, e4, e5, e6, e7, e8, e9, e10⟩ := t3; obtain ⟨-, d0, d1⟩ := t4
        unfold bareOp; go_simp; try with_reducible rfl
      simp only [sY]
      refine tkP (i := 4) (some 78) (.move (.tmp 13)) 3 (fun _ => hS0) ?_
      simp only [sY]
      refine tkP (i := 5) (some 79) (.indexAddr 53 (.tmp 77) (.tmp 78)) 0 (fun _ => hS0) ?_
      simp only [sY]
      refine tkL (i := 6) (some 80) (.load 36 (.tmp 79)) 36 [7, 8, 9, 10, 11, 12, 13, 14, 15, 16, 17, 18, 19, 20, 21, 22, 23, 24, 25] (v := ?_) hS0 (fun w' hSw => ?_) ?_
      rotate_left
      · obtain ⟨t1, t2, t3, t4⟩ := hSw; have g0 := t1.c 0 _ rfl; have g1 := t1.c 1 _ rfl; have g2 := t1.c 2 _ rfl; have k1 := t2.c 1 _ rfl; have k2 := t2.c 2 _ rfl; obtain ⟨-, e0, e1, e2, e3, e4, e5, e6, e7, e8, e9, e10⟩ := t3; obtain ⟨-, d0, d1⟩ := t4
        unfold bareOp; go_simp; try with_reducible rfl
      simp only [sY]
      refine onl (i := 7) (some 81) (.call { callee := .value (.func 39), args := #[.tmp 74, .tmp 75, .tmp 80], argTypes := #[24, 3, 36] }) 4 (fun K hK => ?_)
      unfold bareOp
      refine OpW.out (wp_of_enter (run_call _ _ _ _ 39 Tryz.func39 (vs := #[.agg #[υ P, υ Q, υ G], .int .i64 (n : Int), R.v]) (by simp only [List.map_toArray, List.map_cons, List.map_nil]; rfl) rfl (by kernel_rfl) (by kernel_rfl)) (rrevealed_any (R := R) _ HRI.o HRN.o.1 (by omega) HRN.o.2 HV1.o) ?_)
      rintro e w7 ⟨rfl, hb⟩
      refine ⟨_, rfl, ?_⟩
      replace F_g := Lh (F_g.o.keep hb)
      replace F_b := Lh (F_b.o.keep hb)
      replace HVC := Lh (HVC.o.keep hb)
      replace HV := Lh (HV.o.keep hb)
      replace HRC := Lh (HRC.o.keep hb)
      replace HRI := Lh (HRI.o.keep hb)
      replace HBW := Kt HBW hb
      clear hS0 hb
      have hS0 := And.intro F_g.o (And.intro F_b.o (And.intro HVC.o HRC.o))
      refine hK.o _ _ (fun _ => hS0) ?_
      clear hK K
      try simp only [sY]
      refine tkP (i := 8) (some 82) (.unOp .not 4 (.tmp 81)) 4 (fun _ => hS0) ?_
      simp only [sY]
      refine tkP (i := 9) (some 83) (.move (.tmp 82)) 4 (fun _ => hS0) ?_
      simp only [sY]
      refine tkLG (i := 10) (some 84) (.load 24 (.tmp 5)) 24 (some (9, false)) [23, 24, 25] (v := ?_) hS0 (fun w' hSw => ?_) ?_
      rotate_left
      · obtain ⟨t1, -, -, -⟩ := hSw; have g0 := t1.c 0 _ rfl; have g1 := t1.c 1 _ rfl; have g2 := t1.c 2 _ rfl
        unfold bareOp; go_simp; try with_reducible rfl
      simp only [sY]
      refine tkPG (i := 11) (some 85) (.move (.tmp 1)) 22 (some (9, false)) (fun _ => hS0) ?_
      simp only [sY]
      refine tkPG (i := 12) (some 86) (.move (.tmp 2)) 3 (some (9, false)) (fun _ => hS0) ?_
      simp only [sY]
      refine tkPG (i := 13) (some 87) (.fieldAddr 55 (.tmp 9) 1) 0 (some (9, false)) (fun _ => hS0) ?_
      simp only [sY]
      refine tkLG (i := 14) (some 88) (.load 52 (.tmp 87)) 52 (some (9, false)) [16, 17, 23, 24, 25] (v := ?_) hS0 (fun w' hSw => ?_) ?_
      rotate_left
      · obtain ⟨t1, t2, t3, t4⟩ := hSw; have g0 := t1.c 0 _ rfl; have g1 := t1.c 1 _ rfl; have g2 := t1.c 2 _ rfl; have k1 := t2.c 1 _ rfl; have k2 := t2.c 2 _ rfl; obtain ⟨-, e0, e1, e2, e3, e4, e5, e6, e7, e8, e9, e10⟩ := t3; obtain ⟨-, d0, d1⟩ := t4
        unfold bareOp; go_simp; try with_reducible rfl
      simp only [sY]
      refine tkPG (i := 15) (some 89) (.move (.tmp 13)) 3 (some (9, false)) (fun _ => hS0) ?_
      simp only [sY]
      refine tkPG (i := 16) (some 90) (.indexAddr 52 (.tmp 88) (.tmp 89)) 0 (some (9, false)) (fun _ => hS0) ?_
      simp only [sY]
      refine tkLG (i := 17) (some 91) (.load 33 (.tmp 90)) 33 (some (9, false)) [23, 24, 25] (v := ?_) hS0 (fun w' hSw => ?_) ?_
      rotate_left
      · obtain ⟨t1, t2, t3, t4⟩ := hSw; have g0 := t1.c 0 _ rfl; have g1 := t1.c 1 _ rfl; have g2 := t1.c 2 _ rfl; have k1 := t2.c 1 _ rfl; have k2 := t2.c 2 _ rfl; obtain ⟨-, e0, e1, e2, e3, e4, e5, e6, e7, e8, e9, e10⟩ := t3; obtain ⟨-, d0, d1⟩ := t4
        unfold bareOp; go_simp; try with_reducible rfl
      simp only [sY]
      refine tkPG (i := 18) (some 92) (.fieldAddr 55 (.tmp 9) 2) 0 (some (9, false)) (fun _ => hS0) ?_
      simp only [sY]
      refine tkLG (i := 19) (some 93) (.load 53 (.tmp 92)) 53 (some (9, false)) [21, 22, 23, 24, 25] (v := ?_) hS0 (fun w' hSw => ?_) ?_
      rotate_left
      · obtain ⟨t1, t2, t3, t4⟩ := hSw; have g0 := t1.c 0 _ rfl; have g1 := t1.c 1 _ rfl; have g2 := t1.c 2 _ rfl; have k1 := t2.c 1 _ rfl; have k2 := t2.c 2 _ rfl; obtain ⟨-, e0, e1, e2, e3, e4, e5, e6, e7, e8, e9, e10⟩ := t3; obtain ⟨-, d0, d1⟩ := t4
        unfold bareOp; go_simp; try with_reducible rfl
      simp only [sY]
      refine tkPG (i := 20) (some 94) (.move (.tmp 13)) 3 (some (9, false)) (fun _ => hS0) ?_
      simp only [sY]
      refine tkPG (i := 21) (some 95) (.indexAddr 53 (.tmp 93) (.tmp 94)) 0 (some (9, false)) (fun _ => hS0) ?_
      simp only [sY]
      refine tkLG (i := 22) (some 96) (.load 36 (.tmp 95)) 36 (some (9, false)) [23, 24, 25] (v := ?_) hS0 (fun w' hSw => ?_) ?_
      rotate_left
      · obtain ⟨t1, t2, t3, t4⟩ := hSw; have g0 := t1.c 0 _ rfl; have g1 := t1.c 1 _ rfl; have g2 := t1.c 2 _ rfl; have k1 := t2.c 1 _ rfl; have k2 := t2.c 2 _ rfl; obtain ⟨-, e0, e1, e2, e3, e4, e5, e6, e7, e8, e9, e10⟩ := t3; obtain ⟨-, d0, d1⟩ := t4
        unfold bareOp; go_simp; try with_reducible rfl
      simp only [sY]
      refine wpAnyB_onlyG (i := 23) (some 97) (.call { callee := .value (.func 40), args := #[.tmp 84, .tmp 85, .tmp 86, .tmp 91, .tmp 96], argTypes := #[24, 22, 3, 33, 36] }) 4 (some (9, false)) ⟨_, rfl, rfl, rfl, rfl, rfl⟩ (by kernel_rfl) rfl (fun K hK => ?_)
      unfold bareOp
      refine OpW.out (wp_of_enter (run_call _ _ _ _ 40 Tryz.func40 (vs := #[.agg #[υ P, υ Q, υ G], υ y, .int .i64 (n : Int), V.v, R.v]) (by simp only [List.map_toArray, List.map_cons, List.map_nil]; rfl) rfl (by kernel_rfl) (by kernel_rfl)) (rIs_any (V := V) (R := R) _ HH.o hy hyP hn HV.o HRI.o (by first | exact HV1.o.1 rfl | exact HV1.o.1 trivial) HRN.o.1 HV2.o) ?_)
      rintro e w23 ⟨rfl, hb⟩
      refine ⟨_, rfl, ?_⟩
      replace F_g := Lh (F_g.o.keep hb)
      replace F_b := Lh (F_b.o.keep hb)
      replace HVC := Lh (HVC.o.keep hb)
      replace HV := Lh (HV.o.keep hb)
      replace HRC := Lh (HRC.o.keep hb)
      replace HRI := Lh (HRI.o.keep hb)
      replace HBW := Kt HBW hb
      clear hS0 hb
      have hS0 := And.intro F_g.o (And.intro F_b.o (And.intro HVC.o HRC.o))
      refine hK.o _ _ (fun _ => hS0) ?_
      clear hK K
      try simp only [sY]
      refine tkPG (i := 24) (some 98) (.unOp .not 4 (.tmp 97)) 4 (some (9, false)) (fun _ => hS0) ?_
      simp only [sY]
      refine onl (i := 25) (some 99) (.pick (.tmp 83) (.const (.bool true)) (.tmp 98)) 4 (fun K hK => ?_)
      unfold bareOp
      go_wp2_with fail
      refine hK.o _ _ lt8 ?_
      clear hK K
      try simp only [sY]
      refine wpAnyB_done (by kernel_rfl) ?_ _
      cases v2 with
      | false =>
       have HZ := Lh (HBAD.o (fun h => by have := HV2.o.2 h.2; cases this))
       go_wp2_with fail
       go_ret
       exact ⟨by rw [HZ.o]; rfl, HBW.o⟩
      | true =>
       have HM2 := Lh (show ∀ (t : Nat) (R : Rv) (V : Vt), t < j + 1 → B.rs[t]? = some R → B.l'[t]? = some V → rangeP Q n R ∧ matchP P G y n V R by
        intro t R' V' ht hR' hV'
        by_cases e : t < j
        · exact HMT.o t R' V' e hR' hV'
        · obtain rfl : t = j := by omega
          rw [HRL.o] at hR'; rw [HVL.o] at hV'
          cases hR'; cases hV'
          exact ⟨by first | exact HV1.o.1 rfl | exact HV1.o.1 trivial, by first | exact HV2.o.1 rfl | exact HV2.o.1 trivial⟩)
       go_wp2_with fail
       go_roundw
       case rel => exact ⟨j + 1, by omega, by go_num, HM2.o, F_g.o, F_b.o, HBW.o⟩
       case measure => simp [intOf] <;> omega
end Go.Proofs.YtlbldpkgnonbpaaGreatDoor
