/- shamir.Key and the reference's. -/
import Derived.Test.YtkjkdfhjfnoalaaGreatDoorTqC
import Derived.Test.YtkjkdfhjfnoalaaGreatDoorTqB
import Derived.Laws.AppendOwn
import Derived.Laws.AppendOwnNone
import Derived.WalkKit
import Derived.Deep.SlicePairs
import Derived.ChangeSlices
import Derived.OpenShut
import Derived.Deep.Slices
set_option linter.unusedSimpArgs false
set_option linter.unusedVariables false
set_option maxRecDepth 100000
namespace Go.Proofs.YtkjkdfhjfnoalaaGreatDoor
open Go Go.RowKit Num
theorem belowS_true {L : Int} {xs : List Int} (h : belowS L xs = true) : 1 ≤ xs.length ∧ xs.length ≤ 8 ∧ ∀ x, x ∈ xs → x < L := by
 simp only [belowS, Bool.and_eq_true, decide_eq_true_eq, okAll, List.all_eq_true] at h
 exact ⟨h.1.1, h.1.2, h.2⟩
theorem numS_true {Q i : Int} (h : numS Q i = true) : 0 ≤ i ∧ i ≤ 8 ∧ i < Q := by
 simp only [numS, Bool.and_eq_true, decide_eq_true_eq] at h
 exact ⟨h.1.1, h.1.2, h.2⟩
theorem belowS_bd {L : Int} {xs : List Int} (h : belowS L xs = true) (hx : ∀ x, x ∈ xs → U64 x) : ∀ x, x ∈ xs → 0 ≤ x ∧ x < L := fun x hm => ⟨(hx x hm).1, (belowS_true h).2.2 x hm⟩
theorem powm_step (i : Int) (k : Nat) (Q : Int) (h0 : 0 ≤ i) (h1 : i < Q) : powm i ((k + 1 : Nat) : Int) Q = powm i k Q * i % Q := by
 rw [Int.natCast_add, powm_add i Q (by omega) (by omega)]
 show powm i k Q * powm i 1 Q % Q = _
 rw [powm_one h0 h1]
def keyOS (P Q G i : Int) (xs : List Int) : Int × Int := if Has P Q G then (if belowS P xs && numS Q i then (keyOfS P Q i xs xs.length, 0) else (0, 2)) else (0, 300)
set_option maxHeartbeats 4000000 in
theorem shkey_any {P Q G i v : Int} {a : Option Addr} {n c : Nat} {xs : List Int} (w : World) (hH : Has P Q G) (hi0 : 0 ≤ i) (hiQ : i < Q) (h : ShI .u64 w a n xs) (hn : n ≤ 1000) (hx : ∀ x, x ∈ xs → 0 ≤ x ∧ x < P) (hv : keyOfS P Q i xs n = v) :
    Calls Tryz.prog 64 #[.agg #[.int .u64 P, .int .u64 Q, .int .u64 G], .slice a n c, .int .i64 i] w fun e w' => e = .returned (.int .u64 v) ∧ Below w.heap.size w w' := by
  obtain ⟨p5, p3, hQ', pq, g2, gP⟩ := id hH
  have q3 : Q < 1073741824 := by omega
  have q1 : 1 < Q := by omega
  have p1 : 1 < P := by omega
  have hwi : IntKind.u64.wrap i = i := wrap_u hi0 (by omega)
  have HS := Lh h
  have HX := Lh hx
  have HV := Lh hv
  have HH := Lh hH
  clear h hx hv hH pq
  have F_g := Lh (show Boxed (w.alloc (.cells #[.int .u64 P, .int .u64 Q, .int .u64 G] 24)) (w.heap.size) P Q G from Boxed.at _ P Q G _ (w.heap.size) (by simp))
  have HBW := Lh (show Below w.heap.size w (w.alloc (.cells #[.int .u64 P, .int .u64 Q, .int .u64 G] 24)) from (Below.refl _ _).alloc (by simp <;> omega) _)
  go_enter Tryz.func64, Tryz.ntmps64
  go_wp2_with fail
  go_loopw [7, 8, 10, 11, 15] (fun c7 c8 c10 c11 c15 wr => ∃ k : Nat, k ≤ n ∧ c15 = .int .i64 k ∧ ∃ o x : Int, c7 = .int .u64 o ∧ c8 = .int .u64 x ∧ Hid (o = keyOfS P Q i xs k) ∧ Hid (x = powm i k Q) ∧ Hid (Boxed wr w.heap.size P Q G) ∧ Hid (Below w.heap.size w wr)) (fun _ _ _ _ c15 _ => n - (intOf c15).toNat)
  case atStart => exact ⟨0, Nat.zero_le _, rfl, _, _, rfl, rfl, rfl, (by show (1 : Int) = powm i 0 Q; rw [powm_zero]; exact (Int.emod_eq_of_lt (by omega) q1).symm), F_g.o, HBW.o⟩
  case round =>
   clear F_g HBW
   obtain ⟨k, hk, rfl, o, x, rfl, rfl, HO, HXP, F_g, HBW⟩ := hrel
   by_cases hlt : k < n
   case neg =>
    have hkn : k = n := by omega
    have HZ := Lh (show o = v by rw [HO.o, hkn]; exact HV.o)
    clear hkn
    go_wp2_with fail
    go_ret
    exact ⟨ret_int HZ.o, HBW.o⟩
   case pos =>
    obtain ⟨s, f, hsa, hsl, hck, hmem⟩ := HS.o.at k hlt
    have hck' := (HBW.o.cell (p := ⟨s, f + k, none⟩) hsl).trans hck
    clear hck
    obtain ⟨y, hy⟩ : ∃ y, xs.getD k 0 = y := ⟨_, rfl⟩
    rw [hy] at hck' hmem
    have y0 := (HX.o y hmem).1
    have yP := (HX.o y hmem).2
    have HY := Lh hy
    clear hmem hy
    subst hsa
    have hk0 : (0 : Int) ≤ (k : Int) := by omega
    have hk1 : (k : Int) < (n : Int) := by omega
    have o0 : 0 ≤ o := by rw [HO.o]; exact (keyOfS_range p1 xs k).1
    have oP : o < P := by rw [HO.o]; exact (keyOfS_range p1 xs k).2
    have x0 : 0 ≤ x := by rw [HXP.o]; exact powm_nonneg (by omega)
    have xQ : x < Q := by rw [HXP.o]; exact powm_lt (by omega)
    have UX := Lh (show U64 x from ⟨x0, by omega⟩)
    replace UX := UX
    obtain ⟨t, ht⟩ : ∃ t, powm y x P = t := ⟨_, rfl⟩
    have t0 : 0 ≤ t := by rw [← ht]; exact powm_nonneg (by omega)
    have tP : t < P := by rw [← ht]; exact powm_lt (by omega)
    obtain ⟨o2, ho2⟩ : ∃ o2, o * t % P = o2 := ⟨_, rfl⟩
    obtain ⟨x2, hx2⟩ : ∃ x2, x * i % Q = x2 := ⟨_, rfl⟩
    have HT := Lh ht
    have HO2 := Lh ho2
    have HX2 := Lh hx2
    clear ht ho2 hx2
    obtain ⟨x0a, x0b, x0c, -⟩ := id F_g.o
    go_wp2_with fail
    clear x0a x0b x0c
    refine (pow_ok P Q G y x t _ HH.o y0 yP UX.o HT.o).mono ?_
    rintro e w1 ⟨rfl, hb1⟩
    replace F_g := Lh (F_g.o.keep hb1)
    replace HBW := Lh (HBW.o.trans (hb1.mono HBW.o.size))
    clear hb1
    obtain ⟨x0a, x0b, x0c, -⟩ := id F_g.o
    go_wp2_with fail
    clear x0a x0b x0c
    refine (mul_ok P Q G o t o2 _ HH.o o0 oP t0 tP HO2.o).mono ?_
    rintro e w2 ⟨rfl, hb2⟩
    replace F_g := Lh (F_g.o.keep hb2)
    replace HBW := Lh (HBW.o.trans (hb2.mono HBW.o.size))
    clear hb2
    obtain ⟨x0a, x0b, x0c, -⟩ := id F_g.o
    go_wp2_with fail
    clear x0a x0b x0c
    refine (stimes_ok _ HH.o x0 xQ hi0 hiQ HX2.o).mono ?_
    rintro e w3 ⟨rfl, hb3⟩
    replace F_g := Lh (F_g.o.keep hb3)
    replace HBW := Lh (HBW.o.trans (hb3.mono HBW.o.size))
    clear hb3
    obtain ⟨x0a, x0b, x0c, -⟩ := id F_g.o
    go_wp2_with fail
    go_roundw
    case rel => exact ⟨k + 1, by omega, by go_num, _, _, rfl, rfl, (by rw [← HO2.o, ← HT.o, HXP.o, ← HY.o, HO.o]; rfl), (by rw [← HX2.o, HXP.o]; exact (powm_step i k Q hi0 hiQ).symm), F_g.o, HBW.o⟩
    case measure => simp [intOf]; omega
set_option maxHeartbeats 4000000 in
theorem rkeyof_any {P Q G i v : Int} {a : Option Addr} {n c : Nat} {xs : List Int} (w : World) (hH : Has P Q G) (hi0 : 0 ≤ i) (hiQ : i < Q) (h : ShI .u64 w a n xs) (hn : n ≤ 1000) (hx : ∀ x, x ∈ xs → 0 ≤ x ∧ x < P) (hv : keyOfS P Q i xs n = v) :
    Calls Tryz.prog 47 #[.agg #[.int .u64 P, .int .u64 Q, .int .u64 G], .slice a n c, .int .i64 i] w fun e w' => e = .returned (.int .u64 v) ∧ Below w.heap.size w w' := by
  obtain ⟨p5, p3, hQ', pq, g2, gP⟩ := id hH
  have q3 : Q < 1073741824 := by omega
  have q1 : 1 < Q := by omega
  have p1 : 1 < P := by omega
  have hwi : IntKind.u64.wrap i = i := wrap_u hi0 (by omega)
  have HS := Lh h
  have HX := Lh hx
  have HV := Lh hv
  have HH := Lh hH
  clear h hx hv hH pq
  have F_g := Lh (show Boxed (w.alloc (.cells #[.int .u64 P, .int .u64 Q, .int .u64 G] 24)) (w.heap.size) P Q G from Boxed.at _ P Q G _ (w.heap.size) (by simp))
  have HBW := Lh (show Below w.heap.size w (w.alloc (.cells #[.int .u64 P, .int .u64 Q, .int .u64 G] 24)) from (Below.refl _ _).alloc (by simp <;> omega) _)
  go_enter Tryz.func47, Tryz.ntmps47
  go_wp2_with fail
  go_loopw [7, 8] (fun c7 c8 wr => ∃ k : Nat, k ≤ n ∧ c8 = .int .i64 k ∧ ∃ o : Int, c7 = .int .u64 o ∧ Hid (o = keyOfS P Q i xs k) ∧ Hid (Boxed wr w.heap.size P Q G) ∧ Hid (Below w.heap.size w wr)) (fun _ c8 _ => n - (intOf c8).toNat)
  case atStart => exact ⟨0, Nat.zero_le _, rfl, _, rfl, rfl, F_g.o, HBW.o⟩
  case round =>
   clear F_g HBW
   obtain ⟨k, hk, rfl, o, rfl, HO, F_g, HBW⟩ := hrel
   by_cases hlt : k < n
   case neg =>
    have hkn : k = n := by omega
    have HZ := Lh (show o = v by rw [HO.o, hkn]; exact HV.o)
    clear hkn
    go_wp2_with fail
    go_ret
    exact ⟨ret_int HZ.o, HBW.o⟩
   case pos =>
    obtain ⟨s, f, hsa, hsl, hck, hmem⟩ := HS.o.at k hlt
    have hsw : s < w.heap.size := hsl
    obtain ⟨y, hy⟩ : ∃ y, xs.getD k 0 = y := ⟨_, rfl⟩
    rw [hy] at hck hmem
    have HEC := Lh hck
    have y0 := (HX.o y hmem).1
    have yP := (HX.o y hmem).2
    have HY := Lh hy
    clear hck hmem hy
    subst hsa
    have hk0 : (0 : Int) ≤ (k : Int) := by omega
    have hk1 : (k : Int) < (n : Int) := by omega
    have hwk : IntKind.u64.wrap (k : Int) = (k : Int) := wrap_u hk0 (by omega)
    have UK := Lh (show U64 (k : Int) from ⟨hk0, by omega⟩)
    obtain ⟨p, hp⟩ : ∃ p, powm i k Q = p := ⟨_, rfl⟩
    have p0 : 0 ≤ p := by rw [← hp]; exact powm_nonneg (by omega)
    have pQ : p < Q := by rw [← hp]; exact powm_lt (by omega)
    have UP := Lh (show U64 p from ⟨p0, by omega⟩)
    obtain ⟨t, ht⟩ : ∃ t, powm y p P = t := ⟨_, rfl⟩
    have t0 : 0 ≤ t := by rw [← ht]; exact powm_nonneg (by omega)
    have tP : t < P := by rw [← ht]; exact powm_lt (by omega)
    have HP := Lh hp
    have HT := Lh ht
    clear hp ht
    have o0 : 0 ≤ o := by rw [HO.o]; exact (keyOfS_range p1 xs k).1
    have oP : o < P := by rw [HO.o]; exact (keyOfS_range p1 xs k).2
    obtain ⟨mb1, mb2⟩ := mul_bound o0 (by omega) t0 (by omega)
    have hwm : IntKind.u64.wrap (o * t) = o * t := wrap_u mb1 (by omega)
    have htm : (o * t).tmod P = o * t % P := tmod_u mb1
    have hPn : P ≠ 0 := by omega
    go_wp2_with fail
    replace F_g := Lh F_g.o.drew
    replace HBW := Lh HBW.o.drew
    have hS := And.intro F_g.o.s ((HBW.o.cell (p := ⟨s, f + k, none⟩) hsw).trans HEC.o)
    refine wp_region_stage 18 (fun w' => SBox w' w.heap.size P Q G ∧ w'.cell? ⟨s, f + k, none⟩ = some (.int .u64 y)) (by kernel_rfl) ?_
    refine tkP (i := 0) (some 15) (.move (.tmp 7)) 22 (fun _ => hS) ?_
    simp only [Act.put, sZ]
    refine tkL (i := 1) (some 16) (.load 24 (.tmp 3)) 24 [13, 14, 17, 18] (v := ?_) hS (fun w' hSw => ?_) ?_
    rotate_left
    · obtain ⟨⟨s0, s1, s2⟩, s3⟩ := hSw
      unfold bareOp; go_simp; try with_reducible rfl
    simp only [Act.put, sZ]
    refine tkP (i := 2) (some 17) (.move (.tmp 1)) 26 (fun _ => hS) ?_
    simp only [Act.put, sZ]
    refine tkP (i := 3) (some 18) (.move (.tmp 8)) 3 (fun _ => hS) ?_
    simp only [Act.put, sZ]
    refine tkP (i := 4) (some 19) (.indexAddr 26 (.tmp 17) (.tmp 18)) 0 (fun _ => hS) ?_
    simp only [Act.put, sZ]
    refine tkL (i := 5) (some 20) (.load 22 (.tmp 19)) 22 [13, 14, 17, 18] (v := ?_) hS (fun w' hSw => ?_) ?_
    rotate_left
    · obtain ⟨⟨s0, s1, s2⟩, s3⟩ := hSw
      unfold bareOp; go_simp; try with_reducible rfl
    simp only [Act.put, sZ]
    refine tkP (i := 6) (some 21) (.fieldAddr 24 (.tmp 3) 1) 0 (fun _ => hS) ?_
    simp only [Act.put, sZ]
    refine tkL (i := 7) (some 22) (.load 22 (.tmp 21)) 22 [12, 13, 14, 17, 18] (v := ?_) hS (fun w' hSw => ?_) ?_
    rotate_left
    · obtain ⟨⟨s0, s1, s2⟩, s3⟩ := hSw
      unfold bareOp; go_simp; try with_reducible rfl
    simp only [Act.put, sZ]
    refine tkP (i := 8) (some 23) (.move (.tmp 2)) 3 (fun _ => hS) ?_
    simp only [Act.put, sZ]
    refine tkP (i := 9) (some 24) (.convert 3 22 (.tmp 23)) 22 (fun _ => hS) ?_
    simp only [Act.put, sZ]
    refine tkP (i := 10) (some 25) (.move (.tmp 8)) 3 (fun _ => hS) ?_
    simp only [Act.put, sZ]
    refine tkP (i := 11) (some 26) (.convert 3 22 (.tmp 25)) 22 (fun _ => hS) ?_
    simp only [Act.put, sZ]
    refine tkP (i := 15) (some 30) (.fieldAddr 24 (.tmp 3) 0) 0 (fun _ => hS) ?_
    simp only [Act.put, sZ]
    refine tkL (i := 16) (some 31) (.load 22 (.tmp 30)) 22 [17, 18] (v := ?_) hS (fun w' hSw => ?_) ?_
    rotate_left
    · obtain ⟨⟨s0, s1, s2⟩, s3⟩ := hSw
      unfold bareOp; go_simp; try with_reducible rfl
    simp only [Act.put, sZ]
    refine onl (i := 12) (some 27) (.call { callee := .value (.func 59), args := #[.tmp 22, .tmp 24, .tmp 26], argTypes := #[22, 22, 22] }) 22 (fun K hK => ?_)
    unfold bareOp
    go_wp2_with (go_at_call 59; refine (rPower_any Q i k p _ (by omega) (by omega) hi0 (by omega) UK.o HP.o).mono ?_; rintro e w11 ⟨rfl, rfl⟩)
    refine hK.o _ _ (fun _ => hS) ?_
    clear hK K
    try simp only [Act.put, sZ]
    refine onl (i := 13) (some 28) (.call { callee := .value (.func 42), args := #[.tmp 16, .tmp 20, .tmp 27], argTypes := #[24, 22, 22] }) 22 (fun K hK => ?_)
    unfold bareOp
    go_wp2_with (go_at_call 42; refine (r31Power_any _ (by omega) (by omega) y0 (by omega) UP.o HT.o).mono ?_; rintro e w12 ⟨rfl, hb12⟩)
    replace F_g := Lh (F_g.o.keep hb12)
    replace HBW := Lh (HBW.o.trans (hb12.mono HBW.o.size))
    replace hS := And.intro F_g.o.s ((HBW.o.cell (p := ⟨s, f + k, none⟩) hsw).trans HEC.o)
    clear hb12
    refine hK.o _ _ (fun _ => hS) ?_
    clear hK K
    try simp only [Act.put, sZ]
    refine tkP (i := 14) (some 29) (.binOp .mul 22 (.tmp 15) (.tmp 28) 22) 22 (fun _ => hS) ?_
    simp only [Act.put, sZ]
    refine tkP (i := 17) (some 32) (.binOp .rem 22 (.tmp 29) (.tmp 31) 22) 22 (fun _ => hS) ?_
    simp only [Act.put, sZ]
    refine onl (i := 18) (some 7) (.assign (.tmp 32)) 22 (fun K hK => ?_)
    unfold bareOp
    go_wp2_with fail
    refine hK.o _ _ lt8 ?_
    clear hK K
    try simp only [Act.put, sZ]
    refine wpAnyB_done (by kernel_rfl) ?_ _
    go_wp2_with fail
    go_roundw
    case rel => exact ⟨k + 1, by omega, by go_num, _, rfl, (by rw [HO.o, ← HT.o, ← HP.o, ← HY.o]; rfl), F_g.o, HBW.o⟩
    case measure => simp [intOf]; omega
set_option maxHeartbeats 4000000 in
theorem sKey_any {P Q G i v er : Int} {a : Option Addr} {n c : Nat} {xs : List Int} (w : World) (hP : 0 ≤ P) (hQ : 0 ≤ Q) (hG : 0 ≤ G) (il : -9223372036854775808 ≤ i) (iu : i ≤ 9223372036854775807) (h : ShI .u64 w a n xs) (hn : n ≤ 1000000) (hx : ∀ x, x ∈ xs → U64 x) (hr : keyOS P Q G i xs = (v, er)) :
    Calls Tryz.prog 45 #[.agg #[.int .u64 P, .int .u64 Q, .int .u64 G], .slice a n c, .int .i64 i] w fun e w' => e = .returned (.tuple #[.int .u64 v, .int .i64 er]) ∧ Below w.heap.size w w' := by
  have HS := Lh h
  clear h
  by_cases hH : Has P Q G
  case neg =>
   obtain ⟨rfl, rfl⟩ := Prod.mk.inj (show (0, 300) = (v, er) by rw [← hr]; simp [keyOS, hH])
   have HA := Lh (askS_no (es := []) (ns := []) hH)
   have HH := Lh hH
   clear hr hH
   have F_g := Lh (show Boxed (w.alloc (.cells #[.int .u64 P, .int .u64 Q, .int .u64 G] 24)) (w.heap.size) P Q G from Boxed.at _ P Q G _ (w.heap.size) (by simp))
   have HBW := Lh (show Below w.heap.size w (w.alloc (.cells #[.int .u64 P, .int .u64 Q, .int .u64 G] 24)) from (Below.refl _ _).alloc (by simp <;> omega) _)
   go_enter Tryz.func45, Tryz.ntmps45
   obtain ⟨x0a, x0b, x0c, -⟩ := id F_g.o
   go_wp2_with fail
   clear x0a x0b x0c
   refine (form_no P Q G _ hP hQ hG HH.o).mono ?_
   rintro e w1 ⟨rfl, hb1⟩
   replace F_g := Lh (F_g.o.keep hb1)
   replace HBW := Lh (HBW.o.trans (hb1.mono HBW.o.size))
   clear hb1
   obtain ⟨x0a, x0b, x0c, -⟩ := id F_g.o
   go_wp2_with fail
   go_ret2
   exact ⟨rfl, HBW.o⟩
  case pos =>
   have HA := Lh (askS_ok (es := []) (ns := []) hH (by simp) (by simp))
   obtain ⟨p5, p3, hQ', pq, g2, gP⟩ := id hH
   have q3 : Q < 1073741824 := by omega
   have q1 : 1 < Q := by omega
   have HH := Lh hH
   clear pq
   cases hb : belowS P xs
   case false =>
    obtain ⟨rfl, rfl⟩ := Prod.mk.inj (show (0, 2) = (v, er) by rw [← hr]; simp [keyOS, hH, hb])
    have HB := Lh hb
    clear hr hb hH
    have F_g := Lh (show Boxed (w.alloc (.cells #[.int .u64 P, .int .u64 Q, .int .u64 G] 24)) (w.heap.size) P Q G from Boxed.at _ P Q G _ (w.heap.size) (by simp))
    have HBW := Lh (show Below w.heap.size w (w.alloc (.cells #[.int .u64 P, .int .u64 Q, .int .u64 G] 24)) from (Below.refl _ _).alloc (by simp <;> omega) _)
    go_enter Tryz.func45, Tryz.ntmps45
    obtain ⟨x0a, x0b, x0c, -⟩ := id F_g.o
    go_wp2_with fail
    clear x0a x0b x0c
    refine (form_yes P Q G _ HH.o).mono ?_
    rintro e w1 ⟨rfl, hb1⟩
    replace F_g := Lh (F_g.o.keep hb1)
    replace HBW := Lh (HBW.o.trans (hb1.mono HBW.o.size))
    clear hb1
    obtain ⟨x0a, x0b, x0c, -⟩ := id F_g.o
    go_wp2_with fail
    clear x0a x0b x0c
    refine (sbelow_any _ (HS.o.keep HBW.o) HB.o).mono ?_
    rintro e w2 ⟨rfl, hb2⟩
    replace F_g := Lh (F_g.o.keep hb2)
    replace HBW := Lh (HBW.o.trans (hb2.mono HBW.o.size))
    clear hb2
    obtain ⟨x0a, x0b, x0c, -⟩ := id F_g.o
    go_wp2_with fail
    go_ret2
    exact ⟨rfl, HBW.o⟩
   case true =>
    cases hnu : numS Q i
    case false =>
     obtain ⟨rfl, rfl⟩ := Prod.mk.inj (show (0, 2) = (v, er) by rw [← hr]; simp [keyOS, hH, hb, hnu])
     have HB := Lh hb
     have HN := Lh hnu
     clear hr hb hnu hH
     have F_g := Lh (show Boxed (w.alloc (.cells #[.int .u64 P, .int .u64 Q, .int .u64 G] 24)) (w.heap.size) P Q G from Boxed.at _ P Q G _ (w.heap.size) (by simp))
     have HBW := Lh (show Below w.heap.size w (w.alloc (.cells #[.int .u64 P, .int .u64 Q, .int .u64 G] 24)) from (Below.refl _ _).alloc (by simp <;> omega) _)
     go_enter Tryz.func45, Tryz.ntmps45
     obtain ⟨x0a, x0b, x0c, -⟩ := id F_g.o
     go_wp2_with fail
     clear x0a x0b x0c
     refine (form_yes P Q G _ HH.o).mono ?_
     rintro e w1 ⟨rfl, hb1⟩
     replace F_g := Lh (F_g.o.keep hb1)
     replace HBW := Lh (HBW.o.trans (hb1.mono HBW.o.size))
     clear hb1
     obtain ⟨x0a, x0b, x0c, -⟩ := id F_g.o
     go_wp2_with fail
     clear x0a x0b x0c
     refine (sbelow_any _ (HS.o.keep HBW.o) HB.o).mono ?_
     rintro e w2 ⟨rfl, hb2⟩
     replace F_g := Lh (F_g.o.keep hb2)
     replace HBW := Lh (HBW.o.trans (hb2.mono HBW.o.size))
     clear hb2
     obtain ⟨x0a, x0b, x0c, -⟩ := id F_g.o
     go_wp2_with fail
     clear x0a x0b x0c
     refine (snumbered_any _ il iu HN.o).mono ?_
     rintro e w3 ⟨rfl, hb3⟩
     replace F_g := Lh (F_g.o.keep hb3)
     replace HBW := Lh (HBW.o.trans (hb3.mono HBW.o.size))
     clear hb3
     obtain ⟨x0a, x0b, x0c, -⟩ := id F_g.o
     go_wp2_with fail
     go_ret2
     exact ⟨rfl, HBW.o⟩
    case true =>
     obtain ⟨hv, rfl⟩ := Prod.mk.inj (show (keyOfS P Q i xs xs.length, 0) = (v, er) by rw [← hr]; simp [keyOS, hH, hb, hnu])
     have HV := Lh hv
     have HVL := Lh (show keyOfS P Q i xs n = v by rw [HS.o.len]; exact hv)
     have HX := Lh (belowS_bd hb hx)
     obtain ⟨i0, i8, iQ⟩ := numS_true hnu
     obtain ⟨l1, l8, -⟩ := belowS_true hb
     rw [← HS.o.len] at l1 l8
     have HB := Lh hb
     have HN := Lh hnu
     clear hr hb hnu hH hv hx
     have F_g := Lh (show Boxed (w.alloc (.cells #[.int .u64 P, .int .u64 Q, .int .u64 G] 24)) (w.heap.size) P Q G from Boxed.at _ P Q G _ (w.heap.size) (by simp))
     have HBW := Lh (show Below w.heap.size w (w.alloc (.cells #[.int .u64 P, .int .u64 Q, .int .u64 G] 24)) from (Below.refl _ _).alloc (by simp <;> omega) _)
     go_enter Tryz.func45, Tryz.ntmps45
     obtain ⟨x0a, x0b, x0c, -⟩ := id F_g.o
     go_wp2_with fail
     clear x0a x0b x0c
     refine (form_yes P Q G _ HH.o).mono ?_
     rintro e w1 ⟨rfl, hb1⟩
     replace F_g := Lh (F_g.o.keep hb1)
     replace HBW := Lh (HBW.o.trans (hb1.mono HBW.o.size))
     clear hb1
     obtain ⟨x0a, x0b, x0c, -⟩ := id F_g.o
     go_wp2_with fail
     clear x0a x0b x0c
     refine (sbelow_any _ (HS.o.keep HBW.o) HB.o).mono ?_
     rintro e w2 ⟨rfl, hb2⟩
     replace F_g := Lh (F_g.o.keep hb2)
     replace HBW := Lh (HBW.o.trans (hb2.mono HBW.o.size))
     clear hb2
     obtain ⟨x0a, x0b, x0c, -⟩ := id F_g.o
     go_wp2_with fail
     clear x0a x0b x0c
     refine (snumbered_any _ il iu HN.o).mono ?_
     rintro e w3 ⟨rfl, hb3⟩
     replace F_g := Lh (F_g.o.keep hb3)
     replace HBW := Lh (HBW.o.trans (hb3.mono HBW.o.size))
     clear hb3
     obtain ⟨x0a, x0b, x0c, -⟩ := id F_g.o
     go_wp2_with fail
     clear x0a x0b x0c
     refine (shkey_any _ HH.o i0 iQ (HS.o.keep HBW.o) (by omega) HX.o HVL.o).mono ?_
     rintro e w4 ⟨rfl, hb4⟩
     replace F_g := Lh (F_g.o.keep hb4)
     replace HBW := Lh (HBW.o.trans (hb4.mono HBW.o.size))
     clear hb4
     obtain ⟨x0a, x0b, x0c, -⟩ := id F_g.o
     go_wp2_with fail
     go_ret2
     exact ⟨rfl, HBW.o⟩
end Go.Proofs.YtkjkdfhjfnoalaaGreatDoor
/- How a ciphertext among the arguments is opened. -/
namespace Go.Proofs.YtkjkdfhjfnoalaaGreatDoor
open Go.ChangeShapes Go.WideShapes Go.ChangeAt Go.RowKit
section
variable {H : Type} {enc : TypeId × Value → H} {w : World} {base : Nat} {spare : Nat → Bool} {held : Bool} {r : Reach} {b0 : Nat} {v : Value} {d : DataW H} {p : List MemPlace}
end
end Go.Proofs.YtkjkdfhjfnoalaaGreatDoor
/- Slices of ciphertexts: how they lie, and the copies and comparisons of the reference. -/
namespace Go.Proofs.YtkjkdfhjfnoalaaGreatDoor
open Go.RowKit Num
theorem add_pl (s o i : Nat) : (⟨s, o, none⟩ : Addr).add i = ⟨s, o + i, none⟩ := by unfold Addr.add; split <;> simp_all
def ShS (w : World) (a : Option Addr) (n : Nat) (ps : List (Int × Int)) : Prop :=
  (n = 0 ∧ ps = []) ∨ ∃ s o, a = some ⟨s, o, none⟩ ∧ n = ps.length ∧ s < w.heap.size ∧ ∀ i, i < ps.length → w.cell? ⟨s, o + i * 2, none⟩ = some (.int .u64 (ps.getD i (0, 0)).1) ∧ w.cell? ⟨s, o + i * 2 + 1, none⟩ = some (.int .u64 (ps.getD i (0, 0)).2)
theorem ShS.len {w : World} {a : Option Addr} {n : Nat} {ps : List (Int × Int)} (h : ShS w a n ps) : n = ps.length := by
 rcases h with ⟨h1, h2⟩ | ⟨s, o, _, h1, _⟩
 · rw [h1, h2]; rfl
 · exact h1
theorem ShS.keep {w w' : World} {a : Option Addr} {n : Nat} {ps : List (Int × Int)} (h : ShS w a n ps) (hb : Below w.heap.size w w') : ShS w' a n ps := by
 rcases h with h | ⟨s, o, h0, h1, h2, h3⟩
 · exact .inl h
 · exact .inr ⟨s, o, h0, h1, Nat.lt_of_lt_of_le h2 hb.size, fun i hi => ⟨(hb.cell (p := ⟨s, o + i * 2, none⟩) h2).trans (h3 i hi).1, (hb.cell (p := ⟨s, o + i * 2 + 1, none⟩) h2).trans (h3 i hi).2⟩⟩
theorem ShS.drew {w : World} {a : Option Addr} {n : Nat} {ps : List (Int × Int)} (h : ShS w a n ps) : ShS w.drew a n ps := h.keep (Below.refl _ _).drew
theorem ShS.alloc {w : World} {a : Option Addr} {n : Nat} {ps : List (Int × Int)} (h : ShS w a n ps) (x : Obj) : ShS (w.alloc x) a n ps := h.keep ((Below.refl _ _).alloc (Nat.le_refl _) x)
theorem ShS.nil (w : World) (a : Option Addr) : ShS w a 0 [] := .inl ⟨rfl, rfl⟩
theorem ShS.at {w : World} {a : Option Addr} {n : Nat} {ps : List (Int × Int)} (h : ShS w a n ps) (k : Nat) (hk : k < n) : ∃ s o, a = some ⟨s, o, none⟩ ∧ s < w.heap.size ∧ w.cell? ⟨s, o + k * 2, none⟩ = some (.int .u64 (ps.getD k (0, 0)).1) ∧ w.cell? ⟨s, o + k * 2 + 1, none⟩ = some (.int .u64 (ps.getD k (0, 0)).2) := by
 rcases h with ⟨h1, _⟩ | ⟨s, o, h0, h1, h2, h3⟩
 · omega
 · exact ⟨s, o, h0, h2, h3 k (by omega)⟩
theorem ShS.drop {w : World} {ad : Addr} {n : Nat} {ps : List (Int × Int)} (h : ShS w (some ad) n ps) (m : Nat) : ShS w (some (ad.add (m * 2))) (n - m) (ps.drop m) := by
 rcases h with ⟨h, h'⟩ | ⟨s', o', h0, h1, h2, h3⟩
 · exact .inl ⟨by omega, by rw [h']; simp⟩
 · cases h0
   refine .inr ⟨s', o' + m * 2, by rw [add_pl], by simp [h1], h2, fun i hi => ?_⟩
   have hi' : m + i < ps.length := by simp at hi; omega
   have := h3 (m + i) hi'
   rw [show o' + (m + i) * 2 = o' + m * 2 + i * 2 by omega] at this
   have e : (ps.drop m).getD i (0, 0) = ps.getD (m + i) (0, 0) := by simp [List.getD_eq_getElem?_getD]
   rw [e]; exact this
theorem ShS.take {w : World} {a : Option Addr} {n : Nat} {ps : List (Int × Int)} (h : ShS w a n ps) (m : Nat) (hm : m ≤ n) : ShS w a m (ps.take m) := by
 rcases h with ⟨h, h'⟩ | ⟨s', o', h0, h1, h2, h3⟩
 · exact .inl ⟨by omega, by rw [h']; simp⟩
 · refine .inr ⟨s', o', h0, by simp; omega, h2, fun i hi => ?_⟩
   have hi' : i < m ∧ i < ps.length := by simp at hi; omega
   have e : (ps.take m).getD i (0, 0) = ps.getD i (0, 0) := by simp [List.getD_eq_getElem?_getD, List.getElem?_take, hi'.1]
   rw [e]; exact h3 i hi'.2
def flatS : List (Int × Int) → List Value
  | [] => []
  | p :: ps => .int .u64 p.1 :: .int .u64 p.2 :: flatS ps
theorem flatS_length : ∀ ps : List (Int × Int), (flatS ps).length = ps.length * 2
  | [] => rfl
  | _ :: ps => by simp [flatS, flatS_length ps]; omega
theorem flatS_at : ∀ (ps : List (Int × Int)) (i : Nat), i < ps.length → (flatS ps)[i * 2]? = some (.int .u64 (ps.getD i (0, 0)).1) ∧ (flatS ps)[i * 2 + 1]? = some (.int .u64 (ps.getD i (0, 0)).2)
  | [], i, h => by simp at h
  | p :: ps, 0, _ => by simp [flatS]
  | p :: ps, i + 1, h => by
   have := flatS_at ps i (by simpa using h)
   rw [show (i + 1) * 2 = i * 2 + 2 by omega]
   simpa [flatS] using this
theorem flatS_one : ∀ (ps : List (Int × Int)) u, u ∈ flatS ps → u.oneCell' = true
  | [], u, h => by simp [flatS] at h
  | p :: ps, u, h => by
   simp only [flatS, List.mem_cons] at h
   rcases h with rfl | rfl | h
   · rfl
   · rfl
   · exact flatS_one ps u h
theorem ShS.cells {w : World} {ad : Addr} {n : Nat} {ps : List (Int × Int)} (h : ShS w (some ad) n ps) : ∀ j u, (flatS ps)[j]? = some u → w.cell? (ad.add j) = some u := by
 rcases h with ⟨_, h⟩ | ⟨s, o, h0, h1, h2, h3⟩
 · subst h; intro j u hj; simp [flatS] at hj
 · cases h0
   intro j u hj
   have hlt : j < ps.length * 2 := by
    rw [← flatS_length ps]
    exact (List.getElem?_eq_some_iff.1 hj).1
   obtain ⟨i, hi | hi⟩ : ∃ i, j = i * 2 ∨ j = i * 2 + 1 := ⟨j / 2, by omega⟩
   · subst hi
     rw [(flatS_at ps i (by omega)).1] at hj
     cases hj
     rw [add_pl]
     exact (h3 i (by omega)).1
   · subst hi
     rw [(flatS_at ps i (by omega)).2] at hj
     cases hj
     have := (h3 i (by omega)).2
     rw [show o + i * 2 + 1 = o + (i * 2 + 1) by omega] at this
     rw [add_pl]
     exact this
theorem ShS.of_owned {w : World} {base : Nat} {e : TypeId} {v : Value} {n : Nat} {ps : List (Int × Int)} (h : w.ownsRow base e 2 v n (flatS ps)) : ∃ a c, v = .slice a n c ∧ ShS w a n ps := by
 have hl := h.1
 rw [flatS_length] at hl
 rcases h.2 with ⟨rfl, h0⟩ | ⟨g, cap, cur, rfl, hb, hg, _⟩
 · subst h0
   have : ps = [] := List.eq_nil_of_length_eq_zero (by omega)
   subst this
   exact ⟨none, 0, rfl, ShS.nil w _⟩
 · refine ⟨_, _, rfl, .inr ⟨g, 0, rfl, by omega, ?_, fun i hi => ?_⟩⟩
   · have := h.lt g rfl
     exact this.2
   · have hc := h.cells (g := g) rfl
     have h1 := flatS_at ps i hi
     refine ⟨?_, ?_⟩
     · have := hc _ _ h1.1
       rwa [add_pl] at this
     · have := hc _ _ h1.2
       rw [add_pl] at this
       rwa [Nat.add_assoc]
set_option maxHeartbeats 2000000 in
theorem stwin_any {a : Option Addr} {n c : Nat} {ps : List (Int × Int)} (w : World) (h : ShS w a n ps) (hc : a = none → c = 0) (hn : n ≤ 10000) :
    Calls Tryz.prog 5 #[.slice a n c] w fun e w' => ∃ a' c', e = .returned (.slice a' n c') ∧ ShS w' a' n ps ∧ Below w.heap.size w w' := by
  obtain ⟨i0, hi, hz0, hz1, hz2⟩ := info_parts (P := Tryz.prog) (e := 49) (z := .agg #[.int .u64 0, .int .u64 0]) (size := 2) (bytes := 16) (by kernel_rfl)
  have HS := Lh h
  cases a with
  | none =>
   have hz : n = 0 ∧ ps = [] := by
    rcases h with ⟨h1, h2⟩ | ⟨s, o, h0, -⟩
    · exact ⟨h1, h2⟩
    · cases h0
   obtain ⟨rfl, rfl⟩ := hz
   have hc0 : c = 0 := hc rfl
   subst hc0
   go_enter Tryz.func5, Tryz.ntmps5
   go_wp2_with (at_builtin; refine wpList_append_own_none rfl _ _ 25 rfl w.heap.size 49 i0 2 Tryz.underlying25 hi _ _ _ rfl (World.ownsRow_nil w _ _ _) rfl ?_)
   go_ret
   exact ⟨none, ⟨0, rfl⟩, ShS.nil _ _, Below.refl _ _⟩
  | some ad =>
   have hl := h.len
   have HL := Lh (show (flatS ps).length = n * 2 by rw [flatS_length, hl])
   clear h hl
   go_enter Tryz.func5, Tryz.ntmps5
   go_wp2_with (at_builtin; refine wpList_append_own _ rfl _ _ 25 rfl w.heap.size 49 i0 (.agg #[.int .u64 0, .int .u64 0]) 2 16 Tryz.underlying25 hi hz0 hz1 hz2 rfl (by decide) _ _ _ rfl (World.ownsRow_nil w _ _ _) ad n c (flatS ps) rfl HL.o HS.o.cells (flatS_one ps) (by unfold maxLen; omega) (by omega) (Nat.le_refl _) ?_; intro v' w1 hown hgr hnil
                have hB := Lh (Below.grown (Below.refl w.heap.size w) hgr (Nat.le_refl _) (fun k hk => by cases hk))
                simp only [Nat.zero_add, List.nil_append] at hown
                obtain ⟨a', c', hv', hS'⟩ := ShS.of_owned hown
                subst hv'
                have HS' := Lh hS'
                clear hown hgr hnil hS')
   go_ret
   exact ⟨_, _, rfl, HS'.o, hB.o⟩
set_option maxHeartbeats 4000000 in
theorem ssame_any {a b : Option Addr} {n c d : Nat} {ps : List (Int × Int)} (w : World) (ha : ShS w a n ps) (hb : ShS w b n ps) (hn : n ≤ 10000) :
    Calls Tryz.prog 11 #[.slice a n c, .slice b n d] w fun e w' => e = .returned (.bool true) ∧ Below w.heap.size w w' := by
  have HA := Lh ha
  have HB := Lh hb
  clear ha hb
  go_enter Tryz.func11, Tryz.ntmps11
  go_wp2_with fail
  go_loopw [5] (fun c5 wr => ∃ k : Nat, k ≤ n ∧ c5 = .int .i64 k ∧ Hid (Below w.heap.size w wr)) (fun c5 _ => n - (intOf c5).toNat)
  case atStart => exact ⟨0, Nat.zero_le _, rfl, Below.refl _ _⟩
  case round =>
   obtain ⟨k, hk, rfl, HK⟩ := hrel
   by_cases hlt : k < n
   case neg =>
    go_wp2_with fail
    go_ret
    exact ⟨rfl, HK.o⟩
   case pos =>
    obtain ⟨s, o, hsa, hsl, a0, a1⟩ := (HA.o.keep HK.o).at k hlt
    obtain ⟨t, p, hta, htl, b0, b1⟩ := (HB.o.keep HK.o).at k hlt
    generalize ps.getD k (0, 0) = z at a0 a1 b0 b1
    obtain ⟨u, v⟩ := z
    subst hsa hta
    have hk0 : (0 : Int) ≤ (k : Int) := by omega
    have hk1 : (k : Int) < (n : Int) := by omega
    have c26 : Tryz.prog.cellsOf 49 = 2 := by kernel_rfl
    go_wp2_with fail
    go_region
    go_wp2_with fail
    go_roundw
    case rel => exact ⟨k + 1, by omega, by go_num, HK.o.drew⟩
    case measure => simp [intOf]; omega
end Go.Proofs.YtkjkdfhjfnoalaaGreatDoor
/- How slices among the arguments are opened: ciphertexts, numbers, bytes. -/
namespace Go.Proofs.YtkjkdfhjfnoalaaGreatDoor
open Go.ChangeShapes Go.WideShapes Go.ChangeAt Go.RowKit
section
variable {H : Type} {enc : TypeId × Value → H} {w : World} {base : Nat} {held : Bool} {r : Reach} {b0 : Nat} {v : Value} {d : DataW H} {p : List MemPlace}
end
end Go.Proofs.YtkjkdfhjfnoalaaGreatDoor
/- How pairs of numbers and bit proofs among the arguments are opened. -/
namespace Go.Proofs.YtkjkdfhjfnoalaaGreatDoor
open Go.ChangeShapes Go.WideShapes Go.ChangeAt Go.RowKit
section
variable {H : Type} {enc : TypeId × Value → H} {P : Program} {w : World} {base : Nat} {spare : Nat → Bool} {held : Bool} {r : Reach} {b0 : Nat} {v : Value} {d : DataW H} {p : List MemPlace}
end
section
variable {H : Type} {enc : TypeId × Value → H} {w : World} {base : Nat} {spare : Nat → Bool} {held : Bool} {r : Reach} {b0 : Nat} {v : Value} {d : DataW H} {p : List MemPlace}
end
end Go.Proofs.YtkjkdfhjfnoalaaGreatDoor
/- Votes: how they lie, and how lists of them among the arguments are opened. -/
namespace Go.Proofs.YtkjkdfhjfnoalaaGreatDoor
open Go.ChangeShapes Go.WideShapes Go.ChangeAt Go.RowKit Num
structure Bt where
  r0 : Int
  r1 : Int
  s0 : Int
  s1 : Int
  c0 : Int
  c1 : Int
  z0 : Int
  z1 : Int
def Bt.vs (x : Bt) : List Value := [.int .u64 x.r0, .int .u64 x.r1, .int .u64 x.s0, .int .u64 x.s1, .int .u64 x.c0, .int .u64 x.c1, .int .u64 x.z0, .int .u64 x.z1]
def Bt.u (x : Bt) : Prop := U64 x.r0 ∧ U64 x.r1 ∧ U64 x.s0 ∧ U64 x.s1 ∧ U64 x.c0 ∧ U64 x.c1 ∧ U64 x.z0 ∧ U64 x.z1
def Bt.zero : Bt := ⟨0, 0, 0, 0, 0, 0, 0, 0⟩
instance : Inhabited Bt := ⟨Bt.zero⟩
def ShB (w : World) (a : Option Addr) (n : Nat) (ps : List Bt) : Prop :=
  (n = 0 ∧ ps = []) ∨ ∃ s o, a = some ⟨s, o, none⟩ ∧ n = ps.length ∧ s < w.heap.size ∧ ∀ i, i < ps.length → ∀ k u, (ps.getD i Bt.zero).vs[k]? = some u → w.cell? ⟨s, o + i * 8 + k, none⟩ = some u
theorem ShB.len {w : World} {a : Option Addr} {n : Nat} {ps : List Bt} (h : ShB w a n ps) : n = ps.length := by
 rcases h with ⟨h1, h2⟩ | ⟨s, o, _, h1, _⟩
 · rw [h1, h2]; rfl
 · exact h1
theorem ShB.keep {w w' : World} {a : Option Addr} {n : Nat} {ps : List Bt} (h : ShB w a n ps) (hb : Below w.heap.size w w') : ShB w' a n ps := by
 rcases h with h | ⟨s, o, h0, h1, h2, h3⟩
 · exact .inl h
 · exact .inr ⟨s, o, h0, h1, Nat.lt_of_lt_of_le h2 hb.size, fun i hi k u hu => (hb.cell (p := ⟨s, o + i * 8 + k, none⟩) h2).trans (h3 i hi k u hu)⟩
structure BCells (w : World) (s p : Nat) (z : Bt) : Prop where
  lt : s < w.heap.size
  c0 : w.cell? ⟨s, p, none⟩ = some (.int .u64 z.r0)
  c1 : w.cell? ⟨s, p + 1, none⟩ = some (.int .u64 z.r1)
  c2 : w.cell? ⟨s, p + 2, none⟩ = some (.int .u64 z.s0)
  c3 : w.cell? ⟨s, p + 3, none⟩ = some (.int .u64 z.s1)
  c4 : w.cell? ⟨s, p + 4, none⟩ = some (.int .u64 z.c0)
  c5 : w.cell? ⟨s, p + 5, none⟩ = some (.int .u64 z.c1)
  c6 : w.cell? ⟨s, p + 6, none⟩ = some (.int .u64 z.z0)
  c7 : w.cell? ⟨s, p + 7, none⟩ = some (.int .u64 z.z1)
theorem ShB.at {w : World} {a : Option Addr} {n : Nat} {ps : List Bt} (h : ShB w a n ps) (k : Nat) (hk : k < n) : ∃ s o z, a = some ⟨s, o, none⟩ ∧ ps[k]? = some z ∧ BCells w s (o + k * 8) z := by
 rcases h with ⟨h1, _⟩ | ⟨s, o, h0, h1, h2, h3⟩
 · omega
 · have hl : k < ps.length := by omega
   refine ⟨s, o, ps[k], h0, List.getElem?_eq_getElem hl, ?_⟩
   have e : ps.getD k Bt.zero = ps[k] := by rw [List.getD_eq_getElem?_getD, List.getElem?_eq_getElem hl]; rfl
   have g := h3 k hl
   rw [e] at g
   exact ⟨h2, g 0 _ rfl, g 1 _ rfl, g 2 _ rfl, g 3 _ rfl, g 4 _ rfl, g 5 _ rfl, g 6 _ rfl, g 7 _ rfl⟩
structure Vt where
  a : Option Addr
  n : Nat
  c : Nat
  bs : List (Int × Int)
  b : Option Addr
  m : Nat
  d : Nat
  ps : List Bt
  one : Bool
  z : Bt
instance : Inhabited Vt := ⟨⟨none, 0, 0, [], none, 0, 0, [], false, Bt.zero⟩⟩
def Vt.vs (V : Vt) : List Value := [.slice V.a V.n V.c, .slice V.b V.m V.d, .bool V.one] ++ V.z.vs
def Vt.v (V : Vt) : Value := .agg #[.slice V.a V.n V.c, .slice V.b V.m V.d, .bool V.one, .int .u64 V.z.r0, .int .u64 V.z.r1, .int .u64 V.z.s0, .int .u64 V.z.s1, .int .u64 V.z.c0, .int .u64 V.z.c1, .int .u64 V.z.z0, .int .u64 V.z.z1]
abbrev Vt.cl (V : Vt) : List Value := [.slice V.a V.n V.c, .slice V.b V.m V.d, .bool V.one, .int .u64 V.z.r0, .int .u64 V.z.r1, .int .u64 V.z.s0, .int .u64 V.z.s1, .int .u64 V.z.c0, .int .u64 V.z.c1, .int .u64 V.z.z0, .int .u64 V.z.z1]
abbrev Vt.ca (V : Vt) : Array Value := #[.slice V.a V.n V.c, .slice V.b V.m V.d, .bool V.one, .int .u64 V.z.r0, .int .u64 V.z.r1, .int .u64 V.z.s0, .int .u64 V.z.s1, .int .u64 V.z.c0, .int .u64 V.z.c1, .int .u64 V.z.z0, .int .u64 V.z.z1]
structure VtIn (w : World) (V : Vt) : Prop where
  h1 : ShS w V.a V.n V.bs
  u1 : ∀ q, q ∈ V.bs → U64 q.1 ∧ U64 q.2
  k1 : V.a = none → V.c = 0
  h2 : ShB w V.b V.m V.ps
  u2 : ∀ q, q ∈ V.ps → q.u
  k2 : V.b = none → V.d = 0
  uz : V.z.u
theorem VtIn.keep {w w' : World} {V : Vt} (h : VtIn w V) (hb : Below w.heap.size w w') : VtIn w' V := ⟨h.h1.keep hb, h.u1, h.k1, h.h2.keep hb, h.u2, h.k2, h.uz⟩
structure VRow (w : World) (s o : Nat) (l : List Vt) : Prop where
  lt : s < w.heap.size
  c : ∀ i (h : i < l.length), ∀ k u, l[i].vs[k]? = some u → w.cell? ⟨s, o + i * 11 + k, none⟩ = some u
  ok : ∀ V, V ∈ l → VtIn w V
theorem VRow.keep {w w' : World} {s o : Nat} {l : List Vt} (h : VRow w s o l) (hb : Below w.heap.size w w') : VRow w' s o l :=
  ⟨Nat.lt_of_lt_of_le h.lt hb.size, fun i hi k u hu => (hb.cell (p := ⟨s, o + i * 11 + k, none⟩) h.lt).trans (h.c i hi k u hu), fun V hV => (h.ok V hV).keep hb⟩
def ShV (w : World) (a : Option Addr) (n : Nat) (l : List Vt) : Prop := (n = 0 ∧ l = []) ∨ ∃ s o, a = some ⟨s, o, none⟩ ∧ n = l.length ∧ VRow w s o l
theorem ShV.len {w : World} {a : Option Addr} {n : Nat} {l : List Vt} (h : ShV w a n l) : n = l.length := by
 rcases h with ⟨h1, h2⟩ | ⟨s, o, _, h1, _⟩
 · rw [h1, h2]; rfl
 · exact h1
theorem ShV.keep {w w' : World} {a : Option Addr} {n : Nat} {l : List Vt} (h : ShV w a n l) (hb : Below w.heap.size w w') : ShV w' a n l := by
 rcases h with h | ⟨s, o, h0, h1, h2⟩
 · exact .inl h
 · exact .inr ⟨s, o, h0, h1, h2.keep hb⟩
theorem ShV.nil (w : World) (a : Option Addr) : ShV w a 0 [] := .inl ⟨rfl, rfl⟩
structure VCells (w : World) (s p : Nat) (V : Vt) : Prop where
  lt : s < w.heap.size
  c0 : w.cell? ⟨s, p, none⟩ = some (.slice V.a V.n V.c)
  c1 : w.cell? ⟨s, p + 1, none⟩ = some (.slice V.b V.m V.d)
  c2 : w.cell? ⟨s, p + 2, none⟩ = some (.bool V.one)
  c3 : w.cell? ⟨s, p + 3, none⟩ = some (.int .u64 V.z.r0)
  c4 : w.cell? ⟨s, p + 4, none⟩ = some (.int .u64 V.z.r1)
  c5 : w.cell? ⟨s, p + 5, none⟩ = some (.int .u64 V.z.s0)
  c6 : w.cell? ⟨s, p + 6, none⟩ = some (.int .u64 V.z.s1)
  c7 : w.cell? ⟨s, p + 7, none⟩ = some (.int .u64 V.z.c0)
  c8 : w.cell? ⟨s, p + 8, none⟩ = some (.int .u64 V.z.c1)
  c9 : w.cell? ⟨s, p + 9, none⟩ = some (.int .u64 V.z.z0)
  c10 : w.cell? ⟨s, p + 10, none⟩ = some (.int .u64 V.z.z1)
theorem VCells.keep {w w' : World} {s p : Nat} {V : Vt} (h : VCells w s p V) (hb : Below w.heap.size w w') : VCells w' s p V :=
  ⟨Nat.lt_of_lt_of_le h.lt hb.size, (hb.cell (p := ⟨s, p, none⟩) h.lt).trans h.c0, (hb.cell (p := ⟨s, p + 1, none⟩) h.lt).trans h.c1, (hb.cell (p := ⟨s, p + 2, none⟩) h.lt).trans h.c2, (hb.cell (p := ⟨s, p + 3, none⟩) h.lt).trans h.c3, (hb.cell (p := ⟨s, p + 4, none⟩) h.lt).trans h.c4, (hb.cell (p := ⟨s, p + 5, none⟩) h.lt).trans h.c5, (hb.cell (p := ⟨s, p + 6, none⟩) h.lt).trans h.c6, (hb.cell (p := ⟨s, p + 7, none⟩) h.lt).trans h.c7, (hb.cell (p := ⟨s, p + 8, none⟩) h.lt).trans h.c8, (hb.cell (p := ⟨s, p + 9, none⟩) h.lt).trans h.c9, (hb.cell (p := ⟨s, p + 10, none⟩) h.lt).trans h.c10⟩
theorem VRow.at {w : World} {s o : Nat} {l : List Vt} (h : VRow w s o l) (i : Nat) (hi : i < l.length) : VCells w s (o + i * 11) l[i] :=
  have g := h.c i hi
  ⟨h.lt, g 0 _ rfl, g 1 _ rfl, g 2 _ rfl, g 3 _ rfl, g 4 _ rfl, g 5 _ rfl, g 6 _ rfl, g 7 _ rfl, g 8 _ rfl, g 9 _ rfl, g 10 _ rfl⟩
theorem ShV.at {w : World} {a : Option Addr} {n : Nat} {l : List Vt} (h : ShV w a n l) (k : Nat) (hk : k < n) : ∃ s o V, a = some ⟨s, o, none⟩ ∧ l[k]? = some V ∧ VCells w s (o + k * 11) V ∧ VtIn w V := by
 rcases h with ⟨h1, _⟩ | ⟨s, o, h0, h1, h2⟩
 · omega
 · have hl : k < l.length := by omega
   exact ⟨s, o, l[k], h0, List.getElem?_eq_getElem hl, h2.at k hl, h2.ok _ (List.getElem_mem hl)⟩
theorem ShV.drop {w : World} {ad : Addr} {n : Nat} {l : List Vt} (h : ShV w (some ad) n l) (m : Nat) : ShV w (some (ad.add (m * 11))) (n - m) (l.drop m) := by
 rcases h with ⟨h, h'⟩ | ⟨s', o', h0, h1, h2⟩
 · exact .inl ⟨by omega, by rw [h']; simp⟩
 · cases h0
   refine .inr ⟨s', o' + m * 11, by rw [add_pl], by simp [h1], h2.lt, fun i hi k u hu => ?_, fun V hV => h2.ok V (List.mem_of_mem_drop hV)⟩
   have hi' : m + i < l.length := by simp at hi; omega
   rw [List.getElem_drop] at hu
   have := h2.c (m + i) hi' k u hu
   rwa [show o' + (m + i) * 11 + k = o' + m * 11 + i * 11 + k by omega] at this
theorem ShV.take {w : World} {a : Option Addr} {n : Nat} {l : List Vt} (h : ShV w a n l) (m : Nat) (hm : m ≤ n) : ShV w a m (l.take m) := by
 rcases h with ⟨h, h'⟩ | ⟨s', o', h0, h1, h2⟩
 · exact .inl ⟨by omega, by rw [h']; simp⟩
 · refine .inr ⟨s', o', h0, by simp; omega, h2.lt, fun i hi k u hu => ?_, fun V hV => h2.ok V (List.mem_of_mem_take hV)⟩
   have hi' : i < l.length := by simp at hi; omega
   rw [List.getElem_take] at hu
   exact h2.c i hi' k u hu
section
variable {H : Type} {enc : TypeId × Value → H} {w : World} {base : Nat} {held : Bool} {r : Reach} {b0 : Nat} {v : Value} {d : DataW H} {p : List MemPlace}
theorem sealeds_cells {fuel : Nat} {v0 : Value} {y : DataW H × List MemPlace} (hf : DataW.trod enc Tryz.prog w base (fun _ => true) held fuel 25 [v0] = some y) :
    ∃ a n c ps, v0 = .slice a n c ∧ ShS w a n ps ∧ (∀ q, q ∈ ps → U64 q.1 ∧ U64 q.2) ∧ (a = none → c = 0) ∧ n ≤ c := by
  rcases Deep.open_slice_pairs Tryz.underlying25 Tryz.underlying49 (by kernel_rfl) rfl rfl (by kernel_rfl) (by kernel_rfl) hf with ⟨hcs, -⟩ | ⟨a, l0, c0, m, n, V0, V1, D0, D1, P0, P1, hcs, -, hl, hm, hmm, -, hx⟩
  · simp at hcs
    exact ⟨none, 0, 0, [], hcs, ShS.nil w _, (fun q hq => by cases hq), (fun _ => rfl), Nat.le_refl _⟩
  · simp at hcs
    subst hcs
    have hmc : m = c0 := by simpa using hmm
    have each : ∀ i, i < l0 → ∃ q : Int × Int, V0 i = .int .u64 q.1 ∧ V1 i = .int .u64 q.2 ∧ U64 q.1 ∧ U64 q.2 := by
     intro i hi
     obtain ⟨-, -, h0, h1⟩ := hx i (by omega)
     obtain ⟨x, e0, -, wx⟩ := DataW.trod_int Tryz.underlying22 h0
     obtain ⟨y, e1, -, wy⟩ := DataW.trod_int Tryz.underlying22 h1
     simp at e0 e1
     exact ⟨(x, y), e0, e1, U64.wf wx, U64.wf wy⟩
    obtain ⟨q, hq⟩ := Deep.choose_lt each
    by_cases hl0 : l0 = 0
    · subst hl0
      exact ⟨_, _, _, [], rfl, ShS.nil w _, (fun q hq => by cases hq), (fun h => by cases h), hl⟩
    · obtain ⟨b, off, spot⟩ := a
      have g0 := (hx 0 (by omega)).1
      have hspot : spot = none := by simpa [Addr.add] using World.cell?_spot g0
      subst hspot
      have hcell : ∀ i, i < l0 → w.cell? ⟨b, off + i * 2, none⟩ = some (.int .u64 (q i).1) ∧ w.cell? ⟨b, off + i * 2 + 1, none⟩ = some (.int .u64 (q i).2) := by
       intro i hi
       obtain ⟨h0, h1, -, -⟩ := hx i (by omega)
       obtain ⟨e0, e1, -, -⟩ := hq i hi
       rw [e0] at h0
       rw [e1] at h1
       rw [add_pl] at h0 h1
       exact ⟨h0, by rw [Nat.add_assoc]; exact h1⟩
      have hlt : b < w.heap.size := World.block_lt_of_cell? w _ (hcell 0 (by omega)).1
      refine ⟨_, _, _, (List.range l0).map q, rfl, .inr ⟨b, off, rfl, by simp, hlt, fun i hi => ?_⟩, fun z hz => ?_, (fun h => by cases h), hl⟩
      · have hi' : i < l0 := by simpa using hi
        have e : ((List.range l0).map q).getD i (0, 0) = q i := by simp [List.getD_eq_getElem?_getD, hi']
        rw [e]; exact hcell i hi'
      · obtain ⟨i, hi, rfl⟩ := List.mem_map.1 hz
        obtain ⟨-, -, h1, h2⟩ := hq i (by simpa using hi)
        exact ⟨h1, h2⟩
end
structure VBox (w : World) (B : Nat) (V : Vt) : Prop where
  lt : B < w.heap.size
  c0 : w.cell? ⟨B, 0, none⟩ = some (.slice V.a V.n V.c)
  c1 : w.cell? ⟨B, 1, none⟩ = some (.slice V.b V.m V.d)
  c2 : w.cell? ⟨B, 2, none⟩ = some (.bool V.one)
  c3 : w.cell? ⟨B, 3, none⟩ = some (.int .u64 V.z.r0)
  c4 : w.cell? ⟨B, 4, none⟩ = some (.int .u64 V.z.r1)
  c5 : w.cell? ⟨B, 5, none⟩ = some (.int .u64 V.z.s0)
  c6 : w.cell? ⟨B, 6, none⟩ = some (.int .u64 V.z.s1)
  c7 : w.cell? ⟨B, 7, none⟩ = some (.int .u64 V.z.c0)
  c8 : w.cell? ⟨B, 8, none⟩ = some (.int .u64 V.z.c1)
  c9 : w.cell? ⟨B, 9, none⟩ = some (.int .u64 V.z.z0)
  c10 : w.cell? ⟨B, 10, none⟩ = some (.int .u64 V.z.z1)
  f0 : ∀ o, w.frozen? ⟨B, o, none⟩ = false
theorem VBox.at (w : World) (V : Vt) (t : TypeId) (B : Nat) (hB : B = w.heap.size) : VBox (w.alloc (.cells V.ca t)) B V := by
 subst hB
 refine ⟨by simp, ?_, ?_, ?_, ?_, ?_, ?_, ?_, ?_, ?_, ?_, ?_, fun o => ?_⟩
 all_goals first | (rw [World.cell?_alloc_new]; rfl) | (unfold World.frozen?; rw [heap_alloc_new]; simp)
theorem VBox.keep {w w' : World} {B : Nat} {V : Vt} (h : VBox w B V) (hb : Below w.heap.size w w') : VBox w' B V :=
  ⟨Nat.lt_of_lt_of_le h.lt hb.size, (hb.cell (p := ⟨B, 0, none⟩) h.lt).trans h.c0, (hb.cell (p := ⟨B, 1, none⟩) h.lt).trans h.c1, (hb.cell (p := ⟨B, 2, none⟩) h.lt).trans h.c2, (hb.cell (p := ⟨B, 3, none⟩) h.lt).trans h.c3, (hb.cell (p := ⟨B, 4, none⟩) h.lt).trans h.c4, (hb.cell (p := ⟨B, 5, none⟩) h.lt).trans h.c5, (hb.cell (p := ⟨B, 6, none⟩) h.lt).trans h.c6, (hb.cell (p := ⟨B, 7, none⟩) h.lt).trans h.c7, (hb.cell (p := ⟨B, 8, none⟩) h.lt).trans h.c8, (hb.cell (p := ⟨B, 9, none⟩) h.lt).trans h.c9, (hb.cell (p := ⟨B, 10, none⟩) h.lt).trans h.c10, fun o => (hb.frozen (p := ⟨B, o, none⟩) h.lt).trans (h.f0 o)⟩
theorem VBox.alloc {w : World} {B : Nat} {V : Vt} (h : VBox w B V) (x : Obj) : VBox (w.alloc x) B V := h.keep ((Below.refl _ _).alloc (Nat.le_refl _) x)
theorem VBox.drew {w : World} {B : Nat} {V : Vt} (h : VBox w B V) : VBox w.drew B V := h.keep (Below.refl _ _).drew
theorem VBox.keepN {w w' : World} {B n : Nat} {V : Vt} (h : VBox w B V) (hb : Below n w w') (hn : B < n) : VBox w' B V :=
  ⟨Nat.lt_of_lt_of_le h.lt hb.size, (hb.cell (p := ⟨B, 0, none⟩) hn).trans h.c0, (hb.cell (p := ⟨B, 1, none⟩) hn).trans h.c1, (hb.cell (p := ⟨B, 2, none⟩) hn).trans h.c2, (hb.cell (p := ⟨B, 3, none⟩) hn).trans h.c3, (hb.cell (p := ⟨B, 4, none⟩) hn).trans h.c4, (hb.cell (p := ⟨B, 5, none⟩) hn).trans h.c5, (hb.cell (p := ⟨B, 6, none⟩) hn).trans h.c6, (hb.cell (p := ⟨B, 7, none⟩) hn).trans h.c7, (hb.cell (p := ⟨B, 8, none⟩) hn).trans h.c8, (hb.cell (p := ⟨B, 9, none⟩) hn).trans h.c9, (hb.cell (p := ⟨B, 10, none⟩) hn).trans h.c10, fun o => (hb.frozen (p := ⟨B, o, none⟩) hn).trans (h.f0 o)⟩
end Go.Proofs.YtkjkdfhjfnoalaaGreatDoor
