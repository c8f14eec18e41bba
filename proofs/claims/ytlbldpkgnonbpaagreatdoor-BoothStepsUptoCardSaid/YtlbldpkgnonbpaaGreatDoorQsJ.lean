/- proof.pow, mul, negative, equation, EqualHolds. -/
import Derived.Test.YtlbldpkgnonbpaaGreatDoorQsB
import Derived.Test.YtlbldpkgnonbpaaGreatDoorQsC
import Derived.Test.YtlbldpkgnonbpaaGreatDoorQsG
import Derived.Test.YtlbldpkgnonbpaaGreatDoorQsD
import Derived.Deep.Cut
set_option linter.unusedSimpArgs false
set_option linter.unusedVariables false
set_option maxRecDepth 100000
namespace Go.Proofs.YtlbldpkgnonbpaaGreatDoor
open Go.RowKit Num
set_option maxHeartbeats 1000000 in
theorem ppow_ok {P Q G a x v : Int} (w : World) (hH : Has P Q G) (a0 : 0 ≤ a) (aP : a < P) (ux : U64 x) (hv : powm a x P = v) :
 Calls Tryz.prog 68 #[.agg #[υ P, υ Q, υ G], υ a, υ x] w fun e w' => e = .returned (υ v) ∧ Below w.heap.size w w' := by
 have HH := Lh hH
 have HV := Lh hv
 clear hH hv
 have UX := Lh ux
 clear ux
 have F_g := Lh (show Boxed (w.alloc (.cells #[υ P, υ Q, υ G] 24)) (w.heap.size) P Q G from Boxed.at _ P Q G _ (w.heap.size) (by simp))
 have HBW := Lh (show Below w.heap.size w (w.alloc (.cells #[υ P, υ Q, υ G] 24)) from (Below.refl _ _).alloc (by simp <;> omega) _)
 go_enter Tryz.func68, Tryz.ntmps68
 obtain ⟨x0a, x0b, x0c, -⟩ := id F_g.o
 go_wp2_with fail
 clear x0a x0b x0c
 refine (pow_ok P Q G a x v _ HH.o a0 aP UX.o HV.o).mono ?_
 rintro e w1 ⟨rfl, hb1⟩
 replace F_g := Lh (F_g.o.keep hb1)
 replace HBW := Kt HBW hb1
 clear hb1
 obtain ⟨x0a, x0b, x0c, -⟩ := id F_g.o
 go_wp2_with fail
 go_ret
 exact ⟨rfl, HBW.o⟩
set_option maxHeartbeats 1000000 in
theorem pmul_ok {P Q G a b v : Int} (w : World) (hH : Has P Q G) (a0 : 0 ≤ a) (aP : a < P) (b0 : 0 ≤ b) (bP : b < P) (hv : a * b % P = v) :
 Calls Tryz.prog 67 #[.agg #[υ P, υ Q, υ G], υ a, υ b] w fun e w' => e = .returned (υ v) ∧ Below w.heap.size w w' := by
 have HH := Lh hH
 have HV := Lh hv
 clear hH hv
 have F_g := Lh (show Boxed (w.alloc (.cells #[υ P, υ Q, υ G] 24)) (w.heap.size) P Q G from Boxed.at _ P Q G _ (w.heap.size) (by simp))
 have HBW := Lh (show Below w.heap.size w (w.alloc (.cells #[υ P, υ Q, υ G] 24)) from (Below.refl _ _).alloc (by simp <;> omega) _)
 go_enter Tryz.func67, Tryz.ntmps67
 obtain ⟨x0a, x0b, x0c, -⟩ := id F_g.o
 go_wp2_with fail
 clear x0a x0b x0c
 refine (mul_ok P Q G a b v _ HH.o a0 aP b0 bP HV.o).mono ?_
 rintro e w1 ⟨rfl, hb1⟩
 replace F_g := Lh (F_g.o.keep hb1)
 replace HBW := Kt HBW hb1
 clear hb1
 obtain ⟨x0a, x0b, x0c, -⟩ := id F_g.o
 go_wp2_with fail
 go_ret
 exact ⟨rfl, HBW.o⟩
set_option maxHeartbeats 1000000 in
theorem pneg_ok {P Q G x v : Int} (w : World) (hH : Has P Q G) (x0 : 0 ≤ x) (xQ : x < Q) (hv : (0 - x) % Q = v) :
 Calls Tryz.prog 66 #[.agg #[υ P, υ Q, υ G], υ x] w fun e w' => e = .returned (υ v) ∧ Below w.heap.size w w' := by
 have HH := Lh hH
 have HV := Lh hv
 clear hH hv
 have q0 : 0 < Q := by have := HH.o; unfold Has at this; omega
 have F_g := Lh (show Boxed (w.alloc (.cells #[υ P, υ Q, υ G] 24)) (w.heap.size) P Q G from Boxed.at _ P Q G _ (w.heap.size) (by simp))
 have HBW := Lh (show Below w.heap.size w (w.alloc (.cells #[υ P, υ Q, υ G] 24)) from (Below.refl _ _).alloc (by simp <;> omega) _)
 go_enter Tryz.func66, Tryz.ntmps66
 obtain ⟨x0a, x0b, x0c, -⟩ := id F_g.o
 go_wp2_with fail
 clear x0a x0b x0c
 refine (subExp_ok P Q G 0 x v _ HH.o (Int.le_refl 0) q0 x0 xQ HV.o).mono ?_
 rintro e w1 ⟨rfl, hb1⟩
 replace F_g := Lh (F_g.o.keep hb1)
 replace HBW := Kt HBW hb1
 clear hb1
 obtain ⟨x0a, x0b, x0c, -⟩ := id F_g.o
 go_wp2_with fail
 go_ret
 exact ⟨rfl, HBW.o⟩
set_option maxHeartbeats 4000000 in
theorem peqn_any {P Q G base y r c s : Int} {v : Bool} (w : World) (hH : Has P Q G) (b0 : 0 ≤ base) (bP : base < P) (y0 : 0 ≤ y) (yP : y < P) (r0 : 0 ≤ r) (rP : r < P) (uc : U64 c) (us : U64 s) (hv : v = true ↔ powm base s P = r * powm y c P % P) :
 Calls Tryz.prog 150 #[.agg #[υ P, υ Q, υ G], υ base, υ y, υ r, υ c, υ s] w fun e w' => e = .returned (.bool v) ∧ Below w.heap.size w w' := by
 obtain ⟨a, ha⟩ : ∃ a, powm base s P = a := ⟨_, rfl⟩
 obtain ⟨b, hb⟩ : ∃ b, powm y c P = b := ⟨_, rfl⟩
 have p5 := hH.1
 have q0 : 0 ≤ b := by rw [← hb]; exact powm_nonneg (by omega)
 have qP : b < P := by rw [← hb]; exact powm_lt (by omega)
 obtain ⟨t, ht⟩ : ∃ t, r * b % P = t := ⟨_, rfl⟩
 have HZ := Lh (show (a == t) = v by rw [ha, hb, ht] at hv; rw [Bool.eq_iff_iff, hv]; simp)
 have HA := Lh ha
 have HB := Lh hb
 have HT := Lh ht
 have UC := Lh uc
 have US := Lh us
 have HH := Lh hH
 clear ha hb ht hv uc us hH
 have F_g := Lh (show Boxed (w.alloc (.cells #[υ P, υ Q, υ G] 24)) (w.heap.size) P Q G from Boxed.at _ P Q G _ (w.heap.size) (by simp))
 have HBW := Lh (show Below w.heap.size w (w.alloc (.cells #[υ P, υ Q, υ G] 24)) from (Below.refl _ _).alloc (by simp <;> omega) _)
 go_enter Tryz.func150, Tryz.ntmps150
 obtain ⟨x0a, x0b, x0c, -⟩ := id F_g.o
 go_wp2_with fail
 clear x0a x0b x0c
 replace F_g := Lh F_g.o.drew
 replace HBW := Lh HBW.o.drew
 have hS := F_g.o.s
 refine wp_region_stage 12 (fun w' => SBox w' w.heap.size P Q G) (by kernel_rfl) ?_
 refine tkL (i := 0) (some 13) (.load 24 (.tmp 6)) 24 [3, 9, 10, 11, 12] (v := ?_) hS (fun w' hSw => ?_) ?_
 rotate_left
 · obtain ⟨s0, s1, s2⟩ := hSw
   unfold bareOp; go_simp; try with_reducible rfl
 simp only [sY]
 refine tkQ 1 (some 14) (.move (.tmp 1)) 22 ?_
 simp only [sY]
 refine tkQ 2 (some 15) (.move (.tmp 5)) 22 ?_
 simp only [sY]
 refine tkL (i := 4) (some 17) (.load 24 (.tmp 6)) 24 [10, 11, 12] (v := ?_) hS (fun w' hSw => ?_) ?_
 rotate_left
 · obtain ⟨s0, s1, s2⟩ := hSw
   unfold bareOp; go_simp; try with_reducible rfl
 simp only [sY]
 refine tkQ 5 (some 18) (.move (.tmp 3)) 22 ?_
 simp only [sY]
 refine tkL (i := 6) (some 19) (.load 24 (.tmp 6)) 24 [9, 10, 11, 12] (v := ?_) hS (fun w' hSw => ?_) ?_
 rotate_left
 · obtain ⟨s0, s1, s2⟩ := hSw
   unfold bareOp; go_simp; try with_reducible rfl
 simp only [sY]
 refine tkQ 7 (some 20) (.move (.tmp 2)) 22 ?_
 simp only [sY]
 refine tkQ 8 (some 21) (.move (.tmp 4)) 22 ?_
 simp only [sY]
 refine onl (i := 3) (some 16) (.call { callee := .value (.func 68), args := #[.tmp 13, .tmp 14, .tmp 15], argTypes := #[24, 22, 22] }) 22 (fun K hK => ?_)
 unfold bareOp
 go_wp2_with (go_at_call 68; refine (ppow_ok _ HH.o b0 bP US.o HA.o).mono ?_; rintro e w1 ⟨rfl, hb1⟩)
 replace F_g := Lh (F_g.o.keep hb1)
 replace HBW := Kt HBW hb1
 replace hS := F_g.o.s
 clear hb1
 refine hK.o _ _ (fun _ => hS) ?_
 clear hK K
 try simp only [sY]
 refine onl (i := 9) (some 22) (.call { callee := .value (.func 68), args := #[.tmp 19, .tmp 20, .tmp 21], argTypes := #[24, 22, 22] }) 22 (fun K hK => ?_)
 unfold bareOp
 go_wp2_with (go_at_call 68; refine (ppow_ok _ HH.o y0 yP UC.o HB.o).mono ?_; rintro e w2 ⟨rfl, hb2⟩)
 replace F_g := Lh (F_g.o.keep hb2)
 replace HBW := Kt HBW hb2
 replace hS := F_g.o.s
 clear hb2
 refine hK.o _ _ (fun _ => hS) ?_
 clear hK K
 try simp only [sY]
 refine onl (i := 10) (some 23) (.call { callee := .value (.func 67), args := #[.tmp 17, .tmp 18, .tmp 22], argTypes := #[24, 22, 22] }) 22 (fun K hK => ?_)
 unfold bareOp
 go_wp2_with (go_at_call 67; refine (pmul_ok _ HH.o r0 rP q0 qP HT.o).mono ?_; rintro e w3 ⟨rfl, hb3⟩)
 replace F_g := Lh (F_g.o.keep hb3)
 replace HBW := Kt HBW hb3
 replace hS := F_g.o.s
 clear hb3
 refine hK.o _ _ (fun _ => hS) ?_
 clear hK K
 try simp only [sY]
 refine tkQ 11 (some 24) (.binOp .eql 22 (.tmp 16) (.tmp 23) 22) 4 ?_
 simp only [sY]
 refine onl (i := 12) (some 12) (.assign (.tmp 24)) 4 (fun K hK => ?_)
 unfold bareOp
 go_wp2_with fail
 refine hK.o _ _ lt8 ?_
 clear hK K
 try simp only [sY]
 refine wpAnyB_done (by kernel_rfl) ?_ _
 obtain ⟨x0a, x0b, x0c, -⟩ := id F_g.o
 go_wp2_with fail
 go_ret
 exact ⟨ret_bool HZ.o, HBW.o⟩
structure Three (w : World) (b : Nat) (x y z : Int) : Prop where
 c0 : w.cell? ⟨b, 0, none⟩ = some (υ x)
 c1 : w.cell? ⟨b, 1, none⟩ = some (υ y)
 c2 : w.cell? ⟨b, 2, none⟩ = some (υ z)
 lt : b < w.heap.size
theorem Three.at (w : World) (x y z : Int) (T : TypeId) (b : Nat) (hb : b = w.heap.size) : Three (w.alloc (.cells #[υ x, υ y, υ z] T)) b x y z := by
 subst hb
 refine ⟨?_, ?_, ?_, by simp⟩
 · rw [World.cell?_alloc_new]; rfl
 · rw [World.cell?_alloc_new]; rfl
 · rw [World.cell?_alloc_new]; rfl
theorem Three.keep {w w' : World} {b : Nat} {x y z : Int} (h : Three w b x y z) (hb : Below w.heap.size w w') : Three w' b x y z :=
 ⟨(hb.cell (p := ⟨b, 0, none⟩) h.lt).trans h.c0, (hb.cell (p := ⟨b, 1, none⟩) h.lt).trans h.c1, (hb.cell (p := ⟨b, 2, none⟩) h.lt).trans h.c2, Nat.lt_of_lt_of_le h.lt hb.size⟩
theorem Three.drew {w : World} {b : Nat} {x y z : Int} (h : Three w b x y z) : Three w.drew b x y z := h.keep (Below.refl _ _).drew
theorem Three.alloc {w : World} {b : Nat} {x y z : Int} (h : Three w b x y z) (o : Obj) : Three (w.alloc o) b x y z := h.keep ((Below.refl _ _).alloc (Nat.le_refl _) o)
open Go Go.RowKit Num Sha
theorem plong_any {a : Option Addr} {n c : Nat} {r : Int} (w : World) (hr : lgS 0 n = r) : Calls Tryz.prog 65 #[.slice a n c] w fun e w' => e = .returned (.int .i64 r) ∧ w = w' := by
 by_cases hn : 8000 < n
 · obtain rfl : r = 4 := by rw [← hr]; exact lgS_four rfl hn
   have hd : decide ((8000 : Int) < (n : Int)) = true := by simp; omega
   have hdn : decide (8000 < n) = true := by simp; omega
   clear hr
   go_enter Tryz.func65, Tryz.ntmps65
   go_wp2_with fail
   go_ret
   exact ⟨rfl, rfl⟩
 · obtain rfl : r = 0 := by rw [← hr]; exact lgS_ok rfl (by omega)
   have hd : decide ((8000 : Int) < (n : Int)) = false := by simp; omega
   have hdn : decide (8000 < n) = false := by simp; omega
   clear hr
   go_enter Tryz.func65, Tryz.ntmps65
   go_wp2_with fail
   go_ret
   exact ⟨rfl, rfl⟩
set_option maxHeartbeats 4000000 in
theorem pchallenge_any {P Q G v : Int} {a tx : Option Addr} {m d n cp : Nat} {ns T : List Int} (w : World) (hT : Txt w tx n T) (hH : Has P Q G) (hs : ShL w a m d ns) (hu : ∀ x, x ∈ ns → U64 x) (hm : m ≤ 20) (hn : n ≤ 8000) (hv : chV Q ns T = v) :
 Calls Tryz.prog 100 #[.agg #[υ P, υ Q, υ G], .slice tx n cp, .slice a m d] w fun e w' => e = .returned (υ v) ∧ Below w.heap.size w w' := by
 obtain ⟨i0, hi, hz0, hz1, hz2⟩ := info_parts (P := Tryz.prog) (e := 5) (z := .int .u8 0) (size := 1) (bytes := 1) (by kernel_rfl)
 have HTL := Lh hT.sh.len
 have HL := Lh hs.len
 have HU := Lh hu
 have HT := Lh hT
 have HS0 := Lh hs
 clear hs hu hT
 obtain ⟨D, hD⟩ : ∃ D, shaS (flat8 ns ++ T) = D := ⟨_, rfl⟩
 have HLD := Lh (show D.length = 32 by rw [← hD, shaS_len])
 have HBD := Lh (show Bytes D by rw [← hD]; exact shaS_bytes _)
 have HD := Lh hD
 have HV := Lh (show beN (D.take 8) % Q = v by rw [← hv, chV, hD])
 clear hD hv
 obtain ⟨p5, p3, hQ', pq, g2, gP⟩ := id hH
 have hP1 : 1 ≤ P := by omega
 have hGM : G < 2147483648 := by omega
 have q3 : Q < 1073741824 := by omega
 have q2 : 2 ≤ Q := by omega
 have HH := Lh hH
 clear hH pq
 have F_g0 := Lh (show Boxed (w.alloc (.cells #[υ P, υ Q, υ G] 24)) (w.heap.size) P Q G from Boxed.at _ P Q G _ (w.heap.size) (by simp))
 have HB0 := Lh (show Below w.heap.size w (w.alloc (.cells #[υ P, υ Q, υ G] 24)) from (Below.refl _ _).alloc (by simp <;> omega) _)
 go_enter Tryz.func100, Tryz.ntmps100
 go_wp2_with fail
 generalize w.alloc (.cells #[υ P, υ Q, υ G] 24) = W0 at F_g0 HB0 ⊢
 have HS := Lh (HS0.o.keep HB0.o)
 go_loopw [7, 17] (fun c3 c9 wr => ∃ k : Nat, k ≤ m ∧ c9 = .int .i64 k ∧ Hid (Grew W0 wr W0.heap.size c3 (flat8 (ns.take k)))) (fun _ c9 _ => m - (intOf c9).toNat)
 case atStart => exact ⟨0, by omega, rfl, Grew.nil W0⟩
 case round =>
  obtain ⟨k, hk, rfl, HG⟩ := hrel
  by_cases hlt : k < m
  case neg =>
   obtain rfl : k = m := by omega
   have hll := HL.o
   rw [hll, List.take_length] at HG
   clear hlt hll
   clear hk
   have HLE := Lh HG.o.le
   have HLW := Lh (show w.heap.size ≤ W0.heap.size from HB0.o.size)
   have HLG := Lh (show w.heap.size < W0.heap.size from F_g0.o.lt)
   have F_g := Lh (F_g0.o.keep HG.o.bel)
   have HBW := Lh (HB0.o.trans (HG.o.bel.mono HLW.o))
   have O2 := Lh HG.o.own
   have hnsl := HL.o
   go_wp2_with (at_builtin; refine wpL_append_sh rfl _ _ rfl W0.heap.size _ (flat8 ns) T tx n cp rfl rfl O2.o (HT.o.keep HBW.o).sh (by omega) (by rw [flat8_len]; omega) HLE.o ?_; intro v3 w3 hown hgr; have hb3 := Below.grown (Below.refl W0.heap.size _) hgr HLE.o (fun k hk => (World.ownsRow.lt O2.o k hk).1); have O3 := hown; replace F_g := Lh (F_g.o.under hb3 HLG.o); replace HBW := Lh (HBW.o.trans (hb3.mono HLW.o)); clear hown hgr hb3; simp only [sY])
   obtain ⟨a3, c3, rfl, S3⟩ := O3.shi
   clear HLG HLW HLE O2 O3 HG
   refine (dSum_any _ (HT.o.keep HBW.o).tabs S3 (by have := HTL.o; rw [List.length_append, flat8_len]; omega) ((flat8_bytes _).append HT.o.by8)).mono ?_
   rintro e w4 ⟨he, hb4⟩
   replace F_g := Lh (F_g.o.keep hb4)
   replace HBW := Kt HBW hb4
   clear hb4
   rw [HD.o] at he
   subst he
   clear S3
   go_wp2_with (first
    | (refine wpL_allocArr rfl 26 .u8 32 rfl (by kernel_rfl) ?_; intro wd hd'; have ne_g_d := Nat.ne_of_lt F_g.o.lt; have le_d := HBW.o.size; replace F_g := Lh (F_g.o.keep (hd'.below _ (Nat.le_refl _))); have F_d := Lh hd'.arr; replace HBW := Lh (HBW.o.trans (hd'.below _ HBW.o.size)); clear hd'; simp only [sY])
    | (refine wpL_storeArr rfl 26 .u8 _ _ _ D _ rfl rfl rfl rfl (by rw [HLD.o]; kernel_rfl) F_d.o (by rw [HLD.o]; rfl) ?_; intro ws hs'; replace F_g := Lh (F_g.o.laid hs' ne_g_d); replace F_d := Lh (F_d.o.whole hs'); replace HBW := Lh (HBW.o.trans (hs'.below _ le_d)); clear hs'; obtain ⟨x0a, x0b, x0c, -⟩ := id F_g.o)
    | (refine wpL_loadArr rfl 26 .u8 _ _ _ 32 5 rfl rfl Tryz.underlying26 (by rw [HLD.o]; kernel_rfl) F_d.o ?_; simp only [sY]))
   clear x0a x0b x0c
   refine (fromDigest_ok P Q G v D _ HH.o (by rw [HLD.o]; decide) HBD.o HV.o).mono ?_
   rintro e w7 ⟨rfl, hb7⟩
   replace F_g := Lh (F_g.o.keep hb7)
   replace HBW := Kt HBW hb7
   clear hb7
   go_wp2_with fail
   go_ret
   exact ⟨rfl, HBW.o⟩
  case pos =>
   have hdn : decide (k < m) = true := by simp; omega
   have hd : decide ((k : Int) < (m : Int)) = true := by simp; omega
   have k0 : (0 : Int) ≤ (k : Int) := by omega
   have hw1 : IntKind.i64.wrap ((k : Int) + 1) = (k : Int) + 1 := IntWalk.i64_in _ (by omega)
   obtain ⟨s, rfl, hc⟩ := (HS.o.keep HG.o.bel).at k hlt
   obtain ⟨x, hx⟩ : ∃ x, ns.getD k 0 = x := ⟨_, rfl⟩
   have HUX := Lh (show U64 x from HU.o x (by rw [← hx, List.getD_eq_getElem?_getD, List.getElem?_eq_getElem (by have := HL.o; omega)]; exact List.getElem_mem _))
   have HFL := Lh (show flat8 (ns.take k) ++ be8 x = flat8 (ns.take (k + 1)) from flat8_snoc ns k (by have := HL.o; omega) hx)
   obtain ⟨F, hF⟩ : ∃ F, flat8 (ns.take k) = F := ⟨_, rfl⟩
   have HF := Lh (show F.length ≤ 200 by rw [← hF, flat8_len, List.length_take]; omega)
   rw [hF] at HG HFL
   rw [hx] at hc
   clear hF hx
   go_wp2_with fail
   go_loopw [7, 10] (fun c3 c6 wq => ∃ j : Nat, j ≤ 8 ∧ c6 = .int .i64 (56 - 8 * (j : Int)) ∧ Hid (Grew W0 wq W0.heap.size c3 (F ++ (be8 x).take j))) (fun _ c6 _ => ((intOf c6) + 8).toNat)
   case atStart => exact ⟨0, by omega, rfl, Lh (by simpa using HG.o)⟩
   case round =>
    clear HG
    obtain ⟨j, hj, rfl, HG⟩ := hrel
    by_cases hlj : j < 8
    case neg =>
     obtain rfl : j = 8 := by omega
     rw [take_all8, HFL.o] at HG
     go_wp2_with fail
     go_roundw
     case rel => exact ⟨k + 1, by omega, by go_num, HG⟩
     case measure => simp [intOf]; omega
    case pos =>
     have hd3 : decide ((0 : Int) ≤ 56 - 8 * (j : Int)) = true := by simp; omega
     have hd2 : decide (8 * (j : Int) ≤ 56) = true := by simp; omega
     have hws : IntKind.i64.wrap (56 - 8 * (j : Int) - 8) = 56 - 8 * (j : Int) - 8 := IntWalk.i64_in _ (by omega)
     have p0 : (0 : Int) ≤ 56 - 8 * (j : Int) := by omega
     have e0 : (56 - 8 * (j : Int)).toNat = 56 - 8 * j := by omega
     have hm0 : min (56 - 8 * j) 64 = 56 - 8 * j := by omega
     have x0 := HUX.o.1
     have hpl : (F ++ (be8 x).take j).length ≤ 300 := by have := HF.o; simp [be8_len]; omega
     have HXM := Lh (show (F ++ (be8 x).take j).length + 1 ≤ maxLen by unfold maxLen; omega)
     have HXB := Lh (show ((F ++ (be8 x).take j).length + 1) * 1 ≤ 140737488355328 by omega)
     clear hpl
     go_wp2_with (at_builtin; (refine wpList_append_own _ rfl _ _ 80 rfl W0.heap.size 5 i0 (.int .u8 0) 1 1 Tryz.underlying80 hi hz0 hz1 hz2 rfl (by decide) _ (F ++ (be8 x).take j).length ((F ++ (be8 x).take j).map (Value.int .u8)) rfl (HG.o.own.keep ((Below.refl _ _).alloc (Nat.le_refl _) _)) _ 1 1 [.int .u8 (x / 2 ^ (56 - 8 * j) % 256)] rfl rfl (fun j u hj => by cases j with | zero => simp at hj; subst hj; simp [go_sem] | succ j => simp at hj) (fun u hu => by simp at hu; subst hu; rfl) HXM.o HXB.o (HG.o.leA _) ?_); intro v4 w4 hown hgr hnil; have HG4 := Lh (HG.o.snoc hown hgr); clear hown hgr hnil)
     go_roundw
     case rel => exact ⟨j + 1, by omega, by go_num, by rw [← be8_snoc x j hlj rfl, ← List.append_assoc]; exact HG4.o⟩
     case measure => simp [intOf]; omega
def memsP (P Q : Int) (ns : List Int) : Prop := ∀ x, x ∈ ns → Mem P Q x
set_option maxHeartbeats 4000000 in
theorem pmembers_any {P Q G : Int} {a : Option Addr} {m d : Nat} {ns : List Int} {v : Bool} (w : World) (hH : Has P Q G) (hs : ShL w a m d ns) (hr : ∀ x, x ∈ ns → 0 ≤ x ∧ x < P) (hm : m ≤ 20) (hv : v = true ↔ memsP P Q ns) :
 Calls Tryz.prog 132 #[.agg #[υ P, υ Q, υ G], .slice a m d] w fun e w' => e = .returned (.bool v) ∧ Below w.heap.size w w' := by
 have HS := Lh hs
 have HL := Lh hs.len
 have HR := Lh hr
 have HH := Lh hH
 have HV := Lh hv
 clear hs hr hH hv
 have F_g := Lh (show Boxed (w.alloc (.cells #[υ P, υ Q, υ G] 24)) (w.heap.size) P Q G from Boxed.at _ P Q G _ (w.heap.size) (by simp))
 have HBW := Lh (show Below w.heap.size w (w.alloc (.cells #[υ P, υ Q, υ G] 24)) from (Below.refl _ _).alloc (by simp <;> omega) _)
 go_enter Tryz.func132, Tryz.ntmps132
 go_wp2_with fail
 go_loopw [11] (fun c11 wr => ∃ k : Nat, k ≤ m ∧ c11 = .int .i64 k ∧ (∀ x, x ∈ ns.take k → Mem P Q x) ∧ Hid (Boxed wr w.heap.size P Q G) ∧ Hid (Below w.heap.size w wr)) (fun c11 _ => m - (intOf c11).toNat)
 case atStart => exact ⟨0, by omega, rfl, fun x hx => by simp at hx, F_g.o, HBW.o⟩
 case round =>
  clear F_g HBW
  obtain ⟨k, hk, rfl, hM, F_g, HBW⟩ := hrel
  have hll := HL.o
  by_cases hlt : k < m
  case neg =>
   obtain rfl : k = m := by omega
   have HZ := Lh (show true = v by rw [eq_comm, HV.o]; rw [hll, List.take_length] at hM; exact hM)
   clear hM hlt hll hk
   go_wp2_with fail
   go_ret
   exact ⟨ret_bool HZ.o, HBW.o⟩
  case pos =>
   have hdn : decide (k < m) = true := by simp; omega
   have hd : decide ((k : Int) < (m : Int)) = true := by simp; omega
   have k0 : (0 : Int) ≤ (k : Int) := by omega
   have hw1 : IntKind.i64.wrap ((k : Int) + 1) = (k : Int) + 1 := IntWalk.i64_in _ (by omega)
   obtain ⟨s, rfl, hc⟩ := (HS.o.keep HBW.o).at k hlt
   obtain ⟨x, hx⟩ : ∃ x, ns.getD k 0 = x := ⟨_, rfl⟩
   have hkl : k < ns.length := by omega
   have hxe : ns[k] = x := by rw [← hx, List.getD_eq_getElem?_getD, List.getElem?_eq_getElem hkl]; rfl
   have hxm : x ∈ ns := by rw [← hxe]; exact List.getElem_mem hkl
   obtain ⟨x0, xP⟩ := HR.o x hxm
   rw [hx] at hc
   by_cases hMx : Mem P Q x
   case neg =>
    have HM := Lh hMx
    have HZ := Lh (show false = v by rw [Bool.eq_iff_iff, HV.o]; exact ⟨fun h => (by cases h), fun h => absurd (h x hxm) hMx⟩)
    clear hMx hx hxe hxm hM hll
    obtain ⟨z0, z1, z2, -⟩ := id F_g.o
    go_wp2_with fail
    clear z0 z1 z2
    refine (member_ok P Q G x false _ HH.o x0 xP ⟨fun h => (by cases h), fun h => absurd h HM.o⟩).mono ?_
    rintro e w3 ⟨rfl, hb3⟩
    replace HBW := Kt HBW hb3
    clear hb3
    go_wp2_with fail
    go_ret
    exact ⟨ret_bool HZ.o, HBW.o⟩
   case pos =>
    have HM := Lh hMx
    have HN := Lh (show ∀ z, z ∈ ns.take (k + 1) → Mem P Q z from fun z hz => by
     rw [List.take_succ_eq_append_getElem hkl, List.mem_append, List.mem_singleton] at hz
     rcases hz with hz | hz
     · exact hM z hz
     · rw [hz, hxe]; exact hMx)
    clear hMx hx hxe hxm hM hll
    obtain ⟨z0, z1, z2, -⟩ := id F_g.o
    go_wp2_with fail
    clear z0 z1 z2
    refine (member_ok P Q G x true _ HH.o x0 xP ⟨fun _ => HM.o, fun _ => rfl⟩).mono ?_
    rintro e w3 ⟨rfl, hb3⟩
    replace F_g := Lh (F_g.o.keep hb3)
    replace HBW := Kt HBW hb3
    clear hb3
    go_wp2_with fail
    go_roundw
    case rel => exact ⟨k + 1, by omega, by go_num, HN.o, F_g.o, HBW.o⟩
    case measure => simp [intOf]; omega
open Go Go.RowKit Num Sha
theorem Arr.k3 {w : World} {b : Nat} {x y z : Int} (h : Arr .u64 w b [x, y, z]) : w.cell? ⟨b, 0, none⟩ = some (υ x) ∧ w.cell? ⟨b, 1, none⟩ = some (υ y) ∧ w.cell? ⟨b, 2, none⟩ = some (υ z) ∧ w.frozen? ⟨b, 0, none⟩ = false ∧ w.frozen? ⟨b, 1, none⟩ = false ∧ w.frozen? ⟨b, 2, none⟩ = false :=
 ⟨h.c 0 (by simp), h.c 1 (by simp), h.c 2 (by simp), h.f 0, h.f 1, h.f 2⟩
theorem Arr.under {k : IntKind} {w w' : World} {b n : Nat} {xs : List Int} (h : Arr k w b xs) (hb : Below n w w') (hn : b < n) : Arr k w' b xs := h.below hb hn
def S3 (w : World) (b : Nat) (x y z : Int) : Prop := w.cell? ⟨b, 0, none⟩ = some (.int .u64 x) ∧ w.cell? ⟨b, 1, none⟩ = some (.int .u64 y) ∧ w.cell? ⟨b, 2, none⟩ = some (.int .u64 z)
theorem Arr.s3 {w : World} {b : Nat} {x y z : Int} (h : Arr .u64 w b [x, y, z]) : S3 w b x y z := ⟨h.c 0 (by simp), h.c 1 (by simp), h.c 2 (by simp)⟩
def eqZ (P Q G a x k : Int) (T : List Int) : Int := (k + chV Q [powm G x P, a, powm a x P, powm G k P, powm a k P] T * x % Q) % Q
def RetE (chk R0 S0 Z0 R S Z e : Int) : Prop := (chk = 0 ∧ R = R0 ∧ S = S0 ∧ Z = Z0 ∧ e = 0) ∨ (chk ≠ 0 ∧ R = 0 ∧ S = 0 ∧ Z = 0 ∧ e = chk)
theorem RetE.exists (chk R0 S0 Z0 : Int) : ∃ R S Z e, RetE chk R0 S0 Z0 R S Z e := by
 by_cases h : chk = 0
 · exact ⟨R0, S0, Z0, 0, .inl ⟨h, rfl, rfl, rfl, rfl⟩⟩
 · exact ⟨0, 0, 0, chk, .inr ⟨h, rfl, rfl, rfl, rfl⟩⟩
def evP (P Q G y a d R S Z : Int) (T : List Int) : Prop := memsP P Q [y, a, d, R, S] ∧ powm G Z P = R * powm y (chV Q [y, a, d, R, S] T) P % P ∧ powm a Z P = S * powm d (chV Q [y, a, d, R, S] T) P % P
structure EqIn (w wx : World) (P Q G : Int) (Bp : Nat) (R S Z : Int) : Prop where
 g : Boxed wx w.heap.size P Q G
 r : Arr .u64 wx (w.heap.size + 1) [0, 0, 0]
 p : Arr .u64 wx Bp [R, S, Z]
 ne : w.heap.size + 2 ≤ Bp
 bel : Below w.heap.size w wx
open Go Go.RowKit Num Sha
theorem rlong_any {a : Option Addr} {n c : Nat} {e r : Int} (w : World) (hr : lgS e n = r) : Calls Tryz.prog 135 #[.int .i64 e, .slice a n c] w fun e w' => e = .returned (.int .i64 r) ∧ w = w' := by
 by_cases he : e = 0
 · subst he
   by_cases hn : 8000 < n
   · obtain rfl : r = 4 := by rw [← hr]; exact lgS_four rfl hn
     have hd : decide ((8000 : Int) < (n : Int)) = true := by simp; omega
     have hdn : decide (8000 < n) = true := by simp; omega
     clear hr
     go_enter Tryz.func135, Tryz.ntmps135
     go_wp2_with fail
     go_ret
     exact ⟨rfl, rfl⟩
   · obtain rfl : r = 0 := by rw [← hr]; exact lgS_ok rfl (by omega)
     have hd : decide ((8000 : Int) < (n : Int)) = false := by simp; omega
     have hdn : decide (8000 < n) = false := by simp; omega
     clear hr
     go_enter Tryz.func135, Tryz.ntmps135
     go_wp2_with fail
     go_ret
     exact ⟨rfl, rfl⟩
 · obtain rfl : r = e := by rw [← hr]; exact lgS_ne he
   have h1 : (r == 0) = false := by simpa using he
   clear hr
   go_enter Tryz.func135, Tryz.ntmps135
   go_wp2_with fail
   go_ret
   exact ⟨rfl, rfl⟩
set_option maxHeartbeats 4000000 in
theorem rmembers_any {P Q G : Int} {a : Option Addr} {m d : Nat} {ns : List Int} {v : Bool} (w : World) (hH : Has P Q G) (hs : ShL w a m d ns) (hr : ∀ x, x ∈ ns → 0 ≤ x ∧ x < P) (hm : m ≤ 20) (hv : v = true ↔ memsP P Q ns) :
 Calls Tryz.prog 151 #[.agg #[υ P, υ Q, υ G], .slice a m d] w fun e w' => e = .returned (.bool v) ∧ Below w.heap.size w w' := by
 have Q0 : 0 ≤ Q := by have := hH; unfold Has at this; omega
 have HS := Lh hs
 have HL := Lh hs.len
 have HR := Lh hr
 have HH := Lh hH
 have HV := Lh hv
 clear hs hr hH hv
 have F_g := Lh (show Boxed (w.alloc (.cells #[υ P, υ Q, υ G] 24)) (w.heap.size) P Q G from Boxed.at _ P Q G _ (w.heap.size) (by simp))
 have HBW := Lh (show Below w.heap.size w (w.alloc (.cells #[υ P, υ Q, υ G] 24)) from (Below.refl _ _).alloc (by simp <;> omega) _)
 go_enter Tryz.func151, Tryz.ntmps151
 go_wp2_with fail
 go_loopw [5] (fun c5 wr => ∃ k : Nat, k ≤ m ∧ c5 = .int .i64 k ∧ (∀ x, x ∈ ns.take k → Mem P Q x) ∧ Hid (Boxed wr w.heap.size P Q G) ∧ Hid (Below w.heap.size w wr)) (fun c5 _ => m - (intOf c5).toNat)
 case atStart => exact ⟨0, by omega, rfl, fun x hx => by simp at hx, F_g.o, HBW.o⟩
 case round =>
  clear F_g HBW
  obtain ⟨k, hk, rfl, hM, F_g, HBW⟩ := hrel
  have hll := HL.o
  by_cases hlt : k < m
  case neg =>
   obtain rfl : k = m := by omega
   have HZ := Lh (show true = v by rw [eq_comm, HV.o]; rw [hll, List.take_length] at hM; exact hM)
   clear hM hlt hll hk
   go_wp2_with fail
   go_ret
   exact ⟨ret_bool HZ.o, HBW.o⟩
  case pos =>
   have hdn : decide (k < m) = true := by simp; omega
   have hd : decide ((k : Int) < (m : Int)) = true := by simp; omega
   have k0 : (0 : Int) ≤ (k : Int) := by omega
   have hw1 : IntKind.i64.wrap ((k : Int) + 1) = (k : Int) + 1 := IntWalk.i64_in _ (by omega)
   obtain ⟨s, rfl, hc⟩ := (HS.o.keep HBW.o).at k hlt
   obtain ⟨x, hx⟩ : ∃ x, ns.getD k 0 = x := ⟨_, rfl⟩
   have hkl : k < ns.length := by omega
   have hxe : ns[k] = x := by rw [← hx, List.getD_eq_getElem?_getD, List.getElem?_eq_getElem hkl]; rfl
   have hxm : x ∈ ns := by rw [← hxe]; exact List.getElem_mem hkl
   obtain ⟨x0, xP⟩ := HR.o x hxm
   rw [hx] at hc
   by_cases hMx : Mem P Q x
   case neg =>
    have HM := Lh hMx
    have HZ := Lh (show false = v by rw [Bool.eq_iff_iff, HV.o]; exact ⟨fun h => (by cases h), fun h => absurd (h x hxm) hMx⟩)
    clear hMx hx hxe hxm hM hll
    go_wp2_with fail
    replace F_g := Lh F_g.o.drew
    replace HBW := Lh HBW.o.drew
    have hS := And.intro F_g.o.s hc
    refine wp_region_stage 5 (fun w' => SBox w' w.heap.size P Q G ∧ w'.cell? ⟨s, k, none⟩ = some (υ x)) (by kernel_rfl) ?_
    refine tkL (i := 0) (some 12) (.load 24 (.tmp 2)) 24 [5] (v := ?_) hS (fun w' hSw => ?_) ?_
    rotate_left
    · obtain ⟨⟨s0, s1, s2⟩, s3⟩ := hSw
      unfold bareOp; go_simp; try with_reducible rfl
    simp only [sY]
    refine tkQ 1 (some 13) (.move (.tmp 1)) 34 ?_
    simp only [sY]
    refine tkQ 2 (some 14) (.move (.tmp 5)) 3 ?_
    simp only [sY]
    refine tkQ 3 (some 15) (.indexAddr 34 (.tmp 13) (.tmp 14)) 0 ?_
    simp only [sY]
    refine tkL (i := 4) (some 16) (.load 22 (.tmp 15)) 22 [5] (v := ?_) hS (fun w' hSw => ?_) ?_
    rotate_left
    · obtain ⟨⟨s0, s1, s2⟩, s3⟩ := hSw
      unfold bareOp; go_simp; try with_reducible rfl
    simp only [sY]
    refine onl (i := 5) (some 17) (.call { callee := .value (.func 162), args := #[.tmp 12, .tmp 16], argTypes := #[24, 22] }) 4 (fun K hK => ?_)
    unfold bareOp
    go_wp2_with (go_at_call 162; refine (rIn_gen (r := false) Q0 _ HH.o x0 xP ⟨fun h => (by cases h), fun h => absurd h HM.o⟩).mono ?_; rintro e w3 ⟨rfl, hb3⟩)
    replace F_g := Lh (F_g.o.keep hb3)
    replace HBW := Kt HBW hb3
    clear hb3
    refine hK.o _ _ lt8 ?_
    clear hK K
    try simp only [sY]
    refine tkP (i := 6) (some 18) (.unOp .not 4 (.tmp 17)) 4 lt8 ?_
    simp only [sY]
    refine wpAnyB_done (by kernel_rfl) ?_ _
    go_wp2_with fail
    go_ret
    exact ⟨ret_bool HZ.o, HBW.o⟩
   case pos =>
    have HM := Lh hMx
    have HN := Lh (show ∀ z, z ∈ ns.take (k + 1) → Mem P Q z from fun z hz => by
     rw [List.take_succ_eq_append_getElem hkl, List.mem_append, List.mem_singleton] at hz
     rcases hz with hz | hz
     · exact hM z hz
     · rw [hz, hxe]; exact hMx)
    clear hMx hx hxe hxm hM hll
    go_wp2_with fail
    replace F_g := Lh F_g.o.drew
    replace HBW := Lh HBW.o.drew
    have hS := And.intro F_g.o.s hc
    refine wp_region_stage 5 (fun w' => SBox w' w.heap.size P Q G ∧ w'.cell? ⟨s, k, none⟩ = some (υ x)) (by kernel_rfl) ?_
    refine tkL (i := 0) (some 12) (.load 24 (.tmp 2)) 24 [5] (v := ?_) hS (fun w' hSw => ?_) ?_
    rotate_left
    · obtain ⟨⟨s0, s1, s2⟩, s3⟩ := hSw
      unfold bareOp; go_simp; try with_reducible rfl
    simp only [sY]
    refine tkQ 1 (some 13) (.move (.tmp 1)) 34 ?_
    simp only [sY]
    refine tkQ 2 (some 14) (.move (.tmp 5)) 3 ?_
    simp only [sY]
    refine tkQ 3 (some 15) (.indexAddr 34 (.tmp 13) (.tmp 14)) 0 ?_
    simp only [sY]
    refine tkL (i := 4) (some 16) (.load 22 (.tmp 15)) 22 [5] (v := ?_) hS (fun w' hSw => ?_) ?_
    rotate_left
    · obtain ⟨⟨s0, s1, s2⟩, s3⟩ := hSw
      unfold bareOp; go_simp; try with_reducible rfl
    simp only [sY]
    refine onl (i := 5) (some 17) (.call { callee := .value (.func 162), args := #[.tmp 12, .tmp 16], argTypes := #[24, 22] }) 4 (fun K hK => ?_)
    unfold bareOp
    go_wp2_with (go_at_call 162; refine (rIn_gen (r := true) Q0 _ HH.o x0 xP ⟨fun _ => HM.o, fun _ => rfl⟩).mono ?_; rintro e w3 ⟨rfl, hb3⟩)
    replace F_g := Lh (F_g.o.keep hb3)
    replace HBW := Kt HBW hb3
    clear hb3
    refine hK.o _ _ lt8 ?_
    clear hK K
    try simp only [sY]
    refine tkP (i := 6) (some 18) (.unOp .not 4 (.tmp 17)) 4 lt8 ?_
    simp only [sY]
    refine wpAnyB_done (by kernel_rfl) ?_ _
    go_wp2_with fail
    go_roundw
    case rel => exact ⟨k + 1, by omega, by go_num, HN.o, F_g.o, HBW.o⟩
    case measure => simp [intOf]; omega
end Go.Proofs.YtlbldpkgnonbpaaGreatDoor
