/- Joining shares, raising powers: own and the reference's. -/
import Derived.Test.YtjfaaicbojnpaaaShF
namespace Go.Proofs.Ytjfaaicbojnpaaa
open Go.RowKit Num
set_option linter.unusedSimpArgs false
set_option linter.unusedVariables false

theorem ShI.lt {q : IntKind} {w : World} {a : Option Addr} {n : Nat} {xs : List Int} (h : ShI q w a n xs) {s o : Nat} (ha : a = some ⟨s, o, none⟩) (hn : 1 ≤ n) : s < w.heap.size := by
  rcases h with ⟨h0, _⟩ | ⟨s', o', h2, h3, h4, h5⟩
  · omega
  · rw [ha] at h2; cases h2; exact h4

set_option maxRecDepth 100000 in
set_option maxHeartbeats 8000000 in
theorem sJoin_any {P Q G v er : Int} {a b : Option Addr} {n c m d : Nat} {ids xs : List Int} (w : World) (hP : 0 ≤ P) (hQ : 0 ≤ Q) (hG : 0 ≤ G) (h : ShI .i64 w a n ids) (hn : n ≤ 1000000) (hx : ∀ x, x ∈ ids → I64 x) (ht : ShI .u64 w b m xs) (hm : m ≤ 1000000) (hu : ∀ x, x ∈ xs → U64 x) (hr : joinS P Q G ids xs = (v, er)) :
    Calls Try.prog 31 #[.agg #[.int .u64 P, .int .u64 Q, .int .u64 G], .slice a n c, .slice b m d] w fun e w' => e = .returned (.tuple #[.int .u64 v, .int .i64 er]) ∧ Below w.heap.size w w' := by
  have HS := Lib.hid h
  have HX := Lib.hid hx
  have HT0 := Lib.hid ht
  have HL2 := Lib.hid ht.len
  have HL1 := Lib.hid h.len
  obtain ⟨f, ws, hp⟩ : ∃ f ws, pairedS P Q G Q ids xs = (f, ws) := ⟨_, _, rfl⟩
  rw [joinS, hp] at hr
  have HPR := Lib.hid hp
  clear hx h ht
  by_cases hf : f = 0
  case neg =>
    obtain ⟨rfl, rfl⟩ := Prod.mk.inj (show (0, f) = (v, er) by rw [← hr]; simp [hf])
    have hfb : (f != 0) = true := by simpa using hf
    clear hr hp hf
    have F_g := Lib.hid (show Boxed (w.alloc (.cells #[.int .u64 P, .int .u64 Q, .int .u64 G] 24)) (w.heap.size) P Q G from Boxed.at _ P Q G _ (w.heap.size) (by simp))
    have HBW := Lib.hid (show Below w.heap.size w (w.alloc (.cells #[.int .u64 P, .int .u64 Q, .int .u64 G] 24)) from (Below.refl _ _).alloc (by simp <;> omega) _)
    go_enter Try.func31, Try.ntmps31
    obtain ⟨x0a, x0b, x0c, -⟩ := id F_g.out
    go_wp2_with fail
    clear x0a x0b x0c
    refine (sweighted_any _ hP hQ hG (HS.out.keep HBW.out) hn HX.out (HT0.out.keep HBW.out) hm HPR.out).mono ?_
    rintro e w1 ⟨v0, rfl, ho1, hb1⟩
    obtain ⟨oa, oc, rfl, hsw⟩ := ho1.shI
    replace F_g := Lib.hid (F_g.out.keep hb1)
    replace HBW := Lib.hid (HBW.out.trans (hb1.mono HBW.out.size))
    have HSW := Lib.hid hsw
    clear hb1 ho1 hsw
    go_wp2_with fail
    go_ret2
    exact ⟨rfl, HBW.out⟩
  case pos =>
    subst hf
    obtain ⟨hH, hl, hln, hb, hw⟩ := pairedS_ok hp
    obtain ⟨p5, p3, hQ', pq, g2, gP⟩ := id hH
    have q3 : Q < 1073741824 := by omega
    have q1 : 1 < Q := by omega
    obtain ⟨hv, rfl⟩ := Prod.mk.inj (show (joinP Q ws xs xs.length, 0) = (v, er) by rw [← hr]; simp)
    have HV := Lib.hid (show joinP Q ws xs m = v by rw [HL2.out]; exact hv)
    have HWL := Lib.hid (show ws.length = m by rw [wAll_len hw, HL2.out, hln])
    have HWR := Lib.hid (wAll_range q1 hw)
    have HXR := Lib.hid (belowS_bd hb hu)
    obtain ⟨-, l8, -⟩ := belowS_true hb
    rw [← HL2.out] at l8
    have HH := Lib.hid hH
    clear hr hp hH hl hln hb hw pq hv hu
    have F_g := Lib.hid (show Boxed (w.alloc (.cells #[.int .u64 P, .int .u64 Q, .int .u64 G] 24)) (w.heap.size) P Q G from Boxed.at _ P Q G _ (w.heap.size) (by simp))
    have HBW := Lib.hid (show Below w.heap.size w (w.alloc (.cells #[.int .u64 P, .int .u64 Q, .int .u64 G] 24)) from (Below.refl _ _).alloc (by simp <;> omega) _)
    go_enter Try.func31, Try.ntmps31
    obtain ⟨x0a, x0b, x0c, -⟩ := id F_g.out
    go_wp2_with fail
    clear x0a x0b x0c
    refine (sweighted_any _ hP hQ hG (HS.out.keep HBW.out) hn HX.out (HT0.out.keep HBW.out) hm HPR.out).mono ?_
    rintro e w1 ⟨v0, rfl, ho1, hb1⟩
    obtain ⟨oa, oc, rfl, hsw⟩ := ho1.shI
    replace F_g := Lib.hid (F_g.out.keep hb1)
    replace HBW := Lib.hid (HBW.out.trans (hb1.mono HBW.out.size))
    have HSW := Lib.hid hsw
    clear hb1 ho1 hsw
    rw [HWL.out] at HSW ⊢
    have HBV := Lib.hid (Below.refl w1.heap.size w1)
    go_wp2_with fail
    go_loopw [10, 11, 12, 27] (fun c10 c11 c12 c27 wr => ∃ k : Nat, k ≤ m ∧ c27 = .int .i64 k ∧ ∃ acc : Int, c10 = .int .u64 acc ∧ Hid (acc = joinP Q ws xs k) ∧ Hid (Boxed wr w.heap.size P Q G) ∧ Hid (Below w.heap.size w wr) ∧ Hid (Below w1.heap.size w1 wr)) (fun _ _ _ c27 _ => m - (intOf c27).toNat)
    case atStart => exact ⟨0, Nat.zero_le _, rfl, _, rfl, rfl, F_g.out, HBW.out, HBV.out⟩
    case round =>
      clear F_g HBW HBV
      obtain ⟨k, hk, rfl, acc, rfl, HA, F_g, HBW, HBV⟩ := hrel
      by_cases hlt : k < m
      case neg =>
        have hkn : k = m := by omega
        have HZ := Lib.hid (show acc = v by rw [HA.out, hkn]; exact HV.out)
        clear hkn
        go_wp2_with fail
        go_ret2
        exact ⟨ret_two HZ.out rfl, HBW.out⟩
      case pos =>
        obtain ⟨s, o, hoa, hsl, hck, hmem⟩ := HSW.out.at k hlt
        obtain ⟨y, hy⟩ : ∃ y, ws.getD k 0 = y := ⟨_, rfl⟩
        rw [hy] at hck hmem
        obtain ⟨y0, yQ⟩ := HWR.out y hmem
        have HEC := Lib.hid hck
        obtain ⟨s2, o2, hob, hsl2, hcx, hmemx⟩ := HT0.out.at k hlt
        obtain ⟨x, hxx⟩ : ∃ x, xs.getD k 0 = x := ⟨_, rfl⟩
        rw [hxx] at hcx hmemx
        obtain ⟨x0, xL⟩ := HXR.out x hmemx
        have HEX := Lib.hid hcx
        have hcx' := (HBW.out.cell (p := ⟨s2, o2 + k, none⟩) hsl2).trans hcx
        have HY := Lib.hid hy
        have HXX := Lib.hid hxx
        have UY := Lib.hid (show U64 y from ⟨y0, by omega⟩)
        clear hck hmem hcx hmemx hy hxx
        subst hoa hob
        have hk0 : (0 : Int) ≤ (k : Int) := by omega
        have hk1 : (k : Int) < (m : Int) := by omega
        have s0 : 0 ≤ acc := by rw [HA.out]; exact (joinP_range (by omega) ws xs k).1
        have sL : acc < Q := by rw [HA.out]; exact (joinP_range (by omega) ws xs k).2
        have hm0 := hk1
        obtain ⟨m', hm2⟩ : ∃ m', y * x % Q = m' := ⟨_, rfl⟩
        have m0 : 0 ≤ m' := by rw [← hm2]; exact Int.emod_nonneg _ (by omega)
        have mL : m' < Q := by rw [← hm2]; exact Int.emod_lt_of_pos _ (by omega)
        obtain ⟨t, ht2⟩ : ∃ t, (acc + m') % Q = t := ⟨_, rfl⟩
        have HM := Lib.hid hm2
        have HT := Lib.hid ht2
        clear hm2 ht2
        go_wp2_with fail
        replace F_g := Lib.hid F_g.out.drew
        replace HBW := Lib.hid HBW.out.drew
        replace HBV := Lib.hid HBV.out.drew
        have hS := And.intro F_g.out.s ((HBV.out.cell (p := ⟨s, o + k, none⟩) hsl).trans HEC.out)
        refine wp_region_stage 10 (fun w' => SBox w' w.heap.size P Q G ∧ w'.cell? ⟨s, o + k, none⟩ = some (.int .u64 y)) (by kernel_rfl) ?_
        refine wpAnyB_take (i := 0) (some 32) (Op.load 24 (Operand.tmp 3)) 24 (v := ?_) ⟨_, rfl, rfl, rfl, rfl, rfl⟩ (by kernel_rfl) (by kernel_rfl) (by kernel_rfl) [9, 10] (by kernel_rfl) (fun _ _ _ h => h) hS (fun w' hSw => ?_) ?_
        rotate_left
        · obtain ⟨⟨s0x, s1x, s2x⟩, s3x⟩ := hSw
          unfold bareOp
          go_simp
          try with_reducible rfl
        simp only [Act.put, List.setIfInBounds_toArray, List.set_cons_zero, List.set_cons_succ]
        refine wpAnyB_takeP (i := 1) (some 33) (Op.move (Operand.tmp 10)) 22 (v := ?_) ⟨_, rfl, rfl, rfl, rfl, rfl⟩ (by kernel_rfl) (by kernel_rfl) (by kernel_rfl) (by kernel_rfl) (fun _ _ _ h => h) (fun _ => hS) (fun w' => ?_) ?_
        rotate_left
        · unfold bareOp
          go_simp
          try with_reducible rfl
        simp only [Act.put, List.setIfInBounds_toArray, List.set_cons_zero, List.set_cons_succ]
        refine wpAnyB_take (i := 2) (some 34) (Op.load 24 (Operand.tmp 3)) 24 (v := ?_) ⟨_, rfl, rfl, rfl, rfl, rfl⟩ (by kernel_rfl) (by kernel_rfl) (by kernel_rfl) [8, 9, 10] (by kernel_rfl) (fun _ _ _ h => h) hS (fun w' hSw => ?_) ?_
        rotate_left
        · obtain ⟨⟨s0x, s1x, s2x⟩, s3x⟩ := hSw
          unfold bareOp
          go_simp
          try with_reducible rfl
        simp only [Act.put, List.setIfInBounds_toArray, List.set_cons_zero, List.set_cons_succ]
        refine wpAnyB_takeP (i := 3) (some 35) (Op.move (Operand.tmp 8)) 25 (v := ?_) ⟨_, rfl, rfl, rfl, rfl, rfl⟩ (by kernel_rfl) (by kernel_rfl) (by kernel_rfl) (by kernel_rfl) (fun _ _ _ h => h) (fun _ => hS) (fun w' => ?_) ?_
        rotate_left
        · unfold bareOp
          go_simp
          try with_reducible rfl
        simp only [Act.put, List.setIfInBounds_toArray, List.set_cons_zero, List.set_cons_succ]
        refine wpAnyB_takeP (i := 4) (some 36) (Op.move (Operand.tmp 11)) 3 (v := ?_) ⟨_, rfl, rfl, rfl, rfl, rfl⟩ (by kernel_rfl) (by kernel_rfl) (by kernel_rfl) (by kernel_rfl) (fun _ _ _ h => h) (fun _ => hS) (fun w' => ?_) ?_
        rotate_left
        · unfold bareOp
          go_simp
          try with_reducible rfl
        simp only [Act.put, List.setIfInBounds_toArray, List.set_cons_zero, List.set_cons_succ]
        refine wpAnyB_takeP (i := 5) (some 37) (Op.indexAddr 25 (Operand.tmp 35) (Operand.tmp 36)) 0 (v := ?_) ⟨_, rfl, rfl, rfl, rfl, rfl⟩ (by kernel_rfl) (by kernel_rfl) (by kernel_rfl) (by kernel_rfl) (fun _ _ _ h => h) (fun _ => hS) (fun w' => ?_) ?_
        rotate_left
        · unfold bareOp
          go_simp
          try with_reducible rfl
        simp only [Act.put, List.setIfInBounds_toArray, List.set_cons_zero, List.set_cons_succ]
        refine wpAnyB_take (i := 6) (some 38) (Op.load 22 (Operand.tmp 37)) 22 (v := ?_) ⟨_, rfl, rfl, rfl, rfl, rfl⟩ (by kernel_rfl) (by kernel_rfl) (by kernel_rfl) [8, 9, 10] (by kernel_rfl) (fun _ _ _ h => h) hS (fun w' hSw => ?_) ?_
        rotate_left
        · obtain ⟨⟨s0x, s1x, s2x⟩, s3x⟩ := hSw
          unfold bareOp
          go_simp
          try with_reducible rfl
        simp only [Act.put, List.setIfInBounds_toArray, List.set_cons_zero, List.set_cons_succ]
        refine wpAnyB_takeP (i := 7) (some 39) (Op.move (Operand.tmp 12)) 22 (v := ?_) ⟨_, rfl, rfl, rfl, rfl, rfl⟩ (by kernel_rfl) (by kernel_rfl) (by kernel_rfl) (by kernel_rfl) (fun _ _ _ h => h) (fun _ => hS) (fun w' => ?_) ?_
        rotate_left
        · unfold bareOp
          go_simp
          try with_reducible rfl
        simp only [Act.put, List.setIfInBounds_toArray, List.set_cons_zero, List.set_cons_succ]
        refine wpAnyB_only (i := 8) (some 40) (Op.call { callee := Callee.value (Operand.func 71), args := #[Operand.tmp 34, Operand.tmp 38, Operand.tmp 39], argTypes := #[24, 22, 22] }) 22 ⟨_, rfl, rfl, rfl, rfl, rfl⟩ (by kernel_rfl) (fun K hK => ?_)
        unfold bareOp
        go_wp2_with (go_at_call 71; refine (stimes_ok _ HH.out y0 yQ x0 xL HM.out).mono ?_; rintro e w8 ⟨rfl, hb8⟩)
        replace F_g := Lib.hid (F_g.out.keep hb8)
        replace HBW := Lib.hid (HBW.out.trans (hb8.mono HBW.out.size))
        replace HBV := Lib.hid (HBV.out.trans (hb8.mono HBV.out.size))
        replace hS := And.intro F_g.out.s ((HBV.out.cell (p := ⟨s, o + k, none⟩) hsl).trans HEC.out)
        clear hb8
        refine hK.out _ _ (fun _ => hS) ?_
        clear hK K
        try simp only [Act.put, List.setIfInBounds_toArray, List.set_cons_zero, List.set_cons_succ]
        refine wpAnyB_only (i := 9) (some 41) (Op.call { callee := Callee.value (Operand.func 53), args := #[Operand.tmp 32, Operand.tmp 33, Operand.tmp 40], argTypes := #[24, 22, 22] }) 22 ⟨_, rfl, rfl, rfl, rfl, rfl⟩ (by kernel_rfl) (fun K hK => ?_)
        unfold bareOp
        go_wp2_with (go_at_call 53; refine (splus_ok _ HH.out s0 sL m0 mL HT.out).mono ?_; rintro e w8 ⟨rfl, hb8⟩)
        replace F_g := Lib.hid (F_g.out.keep hb8)
        replace HBW := Lib.hid (HBW.out.trans (hb8.mono HBW.out.size))
        replace HBV := Lib.hid (HBV.out.trans (hb8.mono HBV.out.size))
        replace hS := And.intro F_g.out.s ((HBV.out.cell (p := ⟨s, o + k, none⟩) hsl).trans HEC.out)
        clear hb8
        refine hK.out _ _ (fun _ => hS) ?_
        clear hK K
        try simp only [Act.put, List.setIfInBounds_toArray, List.set_cons_zero, List.set_cons_succ]
        refine wpAnyB_only (i := 10) (some 10) (Op.assign (Operand.tmp 41)) 22 ⟨_, rfl, rfl, rfl, rfl, rfl⟩ (by kernel_rfl) (fun K hK => ?_)
        unfold bareOp
        go_wp2_with fail
        refine hK.out _ _ (fun h => absurd (h.symm.trans (by kernel_rfl : _ = true)) (by decide)) ?_
        clear hK K
        try simp only [Act.put, List.setIfInBounds_toArray, List.set_cons_zero, List.set_cons_succ]
        refine wpAnyB_done (by kernel_rfl) ?_ _
        go_wp2_with fail
        go_roundw
        case rel => exact ⟨k + 1, by omega, by go_num, _, rfl, (by first | (rw [← HT.out, ← HM.out, ← HY.out, ← HXX.out, HA.out]; rfl) | (rw [← HM.out, ← HY.out, ← HXX.out, HA.out]; rfl)), F_g.out, HBW.out, HBV.out⟩
        case measure => simp [intOf]; omega

set_option maxRecDepth 100000 in
set_option maxHeartbeats 8000000 in
theorem rJoin_any {P Q G v er : Int} {a b : Option Addr} {n c m d : Nat} {ids xs : List Int} (w : World) (hP : 0 ≤ P) (hQ : 0 ≤ Q) (hG : 0 ≤ G) (h : ShI .i64 w a n ids) (hn : n ≤ 1000000) (hx : ∀ x, x ∈ ids → I64 x) (ht : ShI .u64 w b m xs) (hm : m ≤ 1000000) (hu : ∀ x, x ∈ xs → U64 x) (hr : joinS P Q G ids xs = (v, er)) :
    Calls Try.prog 32 #[.agg #[.int .u64 P, .int .u64 Q, .int .u64 G], .slice a n c, .slice b m d] w fun e w' => e = .returned (.tuple #[.int .u64 v, .int .i64 er]) ∧ Below w.heap.size w w' := by
  have HS := Lib.hid h
  have HX := Lib.hid hx
  have HT0 := Lib.hid ht
  have HL2 := Lib.hid ht.len
  have HL1 := Lib.hid h.len
  obtain ⟨f, ws, hp⟩ : ∃ f ws, pairedS P Q G Q ids xs = (f, ws) := ⟨_, _, rfl⟩
  rw [joinS, hp] at hr
  have HPR := Lib.hid hp
  clear hx h ht
  by_cases hf : f = 0
  case neg =>
    obtain ⟨rfl, rfl⟩ := Prod.mk.inj (show (0, f) = (v, er) by rw [← hr]; simp [hf])
    have hfb : (f != 0) = true := by simpa using hf
    clear hr hp hf
    have F_g := Lib.hid (show Boxed (w.alloc (.cells #[.int .u64 P, .int .u64 Q, .int .u64 G] 24)) (w.heap.size) P Q G from Boxed.at _ P Q G _ (w.heap.size) (by simp))
    have HBW := Lib.hid (show Below w.heap.size w (w.alloc (.cells #[.int .u64 P, .int .u64 Q, .int .u64 G] 24)) from (Below.refl _ _).alloc (by simp <;> omega) _)
    go_enter Try.func32, Try.ntmps32
    obtain ⟨x0a, x0b, x0c, -⟩ := id F_g.out
    go_wp2_with fail
    clear x0a x0b x0c
    refine (rpaired_any _ hP hQ hG (HS.out.keep HBW.out) hn HX.out (HT0.out.keep HBW.out) hm HPR.out).mono ?_
    rintro e w1 ⟨v0, rfl, ho1, hb1⟩
    obtain ⟨oa, oc, rfl, hsw⟩ := ho1.shI
    replace F_g := Lib.hid (F_g.out.keep hb1)
    replace HBW := Lib.hid (HBW.out.trans (hb1.mono HBW.out.size))
    have HSW := Lib.hid hsw
    clear hb1 ho1 hsw
    go_wp2_with fail
    go_ret2
    exact ⟨rfl, HBW.out⟩
  case pos =>
    subst hf
    obtain ⟨hH, hl, hln, hb, hw⟩ := pairedS_ok hp
    obtain ⟨p5, p3, hQ', pq, g2, gP⟩ := id hH
    have q3 : Q < 1073741824 := by omega
    have q1 : 1 < Q := by omega
    obtain ⟨hv, rfl⟩ := Prod.mk.inj (show (joinP Q ws xs xs.length, 0) = (v, er) by rw [← hr]; simp)
    have HV := Lib.hid (show joinP Q ws xs m = v by rw [HL2.out]; exact hv)
    have HWL := Lib.hid (show ws.length = m by rw [wAll_len hw, HL2.out, hln])
    have HWR := Lib.hid (wAll_range q1 hw)
    have HXR := Lib.hid (belowS_bd hb hu)
    obtain ⟨-, l8, -⟩ := belowS_true hb
    rw [← HL2.out] at l8
    have HH := Lib.hid hH
    clear hr hp hH hl hln hb hw pq hv hu
    have F_g := Lib.hid (show Boxed (w.alloc (.cells #[.int .u64 P, .int .u64 Q, .int .u64 G] 24)) (w.heap.size) P Q G from Boxed.at _ P Q G _ (w.heap.size) (by simp))
    have HBW := Lib.hid (show Below w.heap.size w (w.alloc (.cells #[.int .u64 P, .int .u64 Q, .int .u64 G] 24)) from (Below.refl _ _).alloc (by simp <;> omega) _)
    go_enter Try.func32, Try.ntmps32
    obtain ⟨x0a, x0b, x0c, -⟩ := id F_g.out
    go_wp2_with fail
    clear x0a x0b x0c
    refine (rpaired_any _ hP hQ hG (HS.out.keep HBW.out) hn HX.out (HT0.out.keep HBW.out) hm HPR.out).mono ?_
    rintro e w1 ⟨v0, rfl, ho1, hb1⟩
    obtain ⟨oa, oc, rfl, hsw⟩ := ho1.shI
    replace F_g := Lib.hid (F_g.out.keep hb1)
    replace HBW := Lib.hid (HBW.out.trans (hb1.mono HBW.out.size))
    have HSW := Lib.hid hsw
    clear hb1 ho1 hsw
    rw [HWL.out] at HSW ⊢
    have HBV := Lib.hid (Below.refl w1.heap.size w1)
    go_wp2_with fail
    go_loopw [10, 11] (fun c10 c11 wr => ∃ k : Nat, k ≤ m ∧ c11 = .int .i64 k ∧ ∃ acc : Int, c10 = .int .u64 acc ∧ Hid (acc = joinP Q ws xs k) ∧ Hid (Boxed wr w.heap.size P Q G) ∧ Hid (Below w.heap.size w wr) ∧ Hid (Below w1.heap.size w1 wr)) (fun _ c11 _ => m - (intOf c11).toNat)
    case atStart => exact ⟨0, Nat.zero_le _, rfl, _, rfl, rfl, F_g.out, HBW.out, HBV.out⟩
    case round =>
      clear F_g HBW HBV
      obtain ⟨k, hk, rfl, acc, rfl, HA, F_g, HBW, HBV⟩ := hrel
      by_cases hlt : k < m
      case neg =>
        have hkn : k = m := by omega
        have HZ := Lib.hid (show acc = v by rw [HA.out, hkn]; exact HV.out)
        clear hkn
        go_wp2_with fail
        go_ret2
        exact ⟨ret_two HZ.out rfl, HBW.out⟩
      case pos =>
        obtain ⟨s, o, hoa, hsl, hck, hmem⟩ := HSW.out.at k hlt
        obtain ⟨y, hy⟩ : ∃ y, ws.getD k 0 = y := ⟨_, rfl⟩
        rw [hy] at hck hmem
        obtain ⟨y0, yQ⟩ := HWR.out y hmem
        have HEC := Lib.hid hck
        obtain ⟨s2, o2, hob, hsl2, hcx, hmemx⟩ := HT0.out.at k hlt
        obtain ⟨x, hxx⟩ : ∃ x, xs.getD k 0 = x := ⟨_, rfl⟩
        rw [hxx] at hcx hmemx
        obtain ⟨x0, xL⟩ := HXR.out x hmemx
        have HEX := Lib.hid hcx
        have hcx' := (HBW.out.cell (p := ⟨s2, o2 + k, none⟩) hsl2).trans hcx
        have HY := Lib.hid hy
        have HXX := Lib.hid hxx
        have UY := Lib.hid (show U64 y from ⟨y0, by omega⟩)
        clear hck hmem hcx hmemx hy hxx
        subst hoa hob
        have hk0 : (0 : Int) ≤ (k : Int) := by omega
        have hk1 : (k : Int) < (m : Int) := by omega
        have s0 : 0 ≤ acc := by rw [HA.out]; exact (joinP_range (by omega) ws xs k).1
        have sL : acc < Q := by rw [HA.out]; exact (joinP_range (by omega) ws xs k).2
        have hm0 := hk1
        obtain ⟨m', hm2⟩ : ∃ m', y * x % Q = m' := ⟨_, rfl⟩
        have m0 : 0 ≤ m' := by rw [← hm2]; exact Int.emod_nonneg _ (by omega)
        have mL : m' < Q := by rw [← hm2]; exact Int.emod_lt_of_pos _ (by omega)
        obtain ⟨t, ht2⟩ : ∃ t, (acc + m') % Q = t := ⟨_, rfl⟩
        have HM := Lib.hid hm2
        have HT := Lib.hid ht2
        clear hm2 ht2
        go_wp2_with fail
        replace F_g := Lib.hid F_g.out.drew
        replace HBW := Lib.hid HBW.out.drew
        replace HBV := Lib.hid HBV.out.drew
        have hS := And.intro F_g.out.s (And.intro ((HBV.out.cell (p := ⟨s, o + k, none⟩) hsl).trans HEC.out) ((HBW.out.cell (p := ⟨s2, o2 + k, none⟩) hsl2).trans HEX.out))
        refine wp_region_stage 13 (fun w' => SBox w' w.heap.size P Q G ∧ w'.cell? ⟨s, o + k, none⟩ = some (.int .u64 y) ∧ w'.cell? ⟨s2, o2 + k, none⟩ = some (.int .u64 x)) (by kernel_rfl) ?_
        refine wpAnyB_take (i := 0) (some 30) (Op.load 24 (Operand.tmp 3)) 24 (v := ?_) ⟨_, rfl, rfl, rfl, rfl, rfl⟩ (by kernel_rfl) (by kernel_rfl) (by kernel_rfl) [12, 13] (by kernel_rfl) (fun _ _ _ h => h) hS (fun w' hSw => ?_) ?_
        rotate_left
        · obtain ⟨⟨s0x, s1x, s2x⟩, s3x, s4x⟩ := hSw
          unfold bareOp
          go_simp
          try with_reducible rfl
        simp only [Act.put, List.setIfInBounds_toArray, List.set_cons_zero, List.set_cons_succ]
        refine wpAnyB_takeP (i := 1) (some 31) (Op.move (Operand.tmp 10)) 22 (v := ?_) ⟨_, rfl, rfl, rfl, rfl, rfl⟩ (by kernel_rfl) (by kernel_rfl) (by kernel_rfl) (by kernel_rfl) (fun _ _ _ h => h) (fun _ => hS) (fun w' => ?_) ?_
        rotate_left
        · unfold bareOp
          go_simp
          try with_reducible rfl
        simp only [Act.put, List.setIfInBounds_toArray, List.set_cons_zero, List.set_cons_succ]
        refine wpAnyB_take (i := 2) (some 32) (Op.load 24 (Operand.tmp 3)) 24 (v := ?_) ⟨_, rfl, rfl, rfl, rfl, rfl⟩ (by kernel_rfl) (by kernel_rfl) (by kernel_rfl) [11, 12, 13] (by kernel_rfl) (fun _ _ _ h => h) hS (fun w' hSw => ?_) ?_
        rotate_left
        · obtain ⟨⟨s0x, s1x, s2x⟩, s3x, s4x⟩ := hSw
          unfold bareOp
          go_simp
          try with_reducible rfl
        simp only [Act.put, List.setIfInBounds_toArray, List.set_cons_zero, List.set_cons_succ]
        refine wpAnyB_takeP (i := 3) (some 33) (Op.move (Operand.tmp 8)) 25 (v := ?_) ⟨_, rfl, rfl, rfl, rfl, rfl⟩ (by kernel_rfl) (by kernel_rfl) (by kernel_rfl) (by kernel_rfl) (fun _ _ _ h => h) (fun _ => hS) (fun w' => ?_) ?_
        rotate_left
        · unfold bareOp
          go_simp
          try with_reducible rfl
        simp only [Act.put, List.setIfInBounds_toArray, List.set_cons_zero, List.set_cons_succ]
        refine wpAnyB_takeP (i := 4) (some 34) (Op.move (Operand.tmp 11)) 3 (v := ?_) ⟨_, rfl, rfl, rfl, rfl, rfl⟩ (by kernel_rfl) (by kernel_rfl) (by kernel_rfl) (by kernel_rfl) (fun _ _ _ h => h) (fun _ => hS) (fun w' => ?_) ?_
        rotate_left
        · unfold bareOp
          go_simp
          try with_reducible rfl
        simp only [Act.put, List.setIfInBounds_toArray, List.set_cons_zero, List.set_cons_succ]
        refine wpAnyB_takeP (i := 5) (some 35) (Op.indexAddr 25 (Operand.tmp 33) (Operand.tmp 34)) 0 (v := ?_) ⟨_, rfl, rfl, rfl, rfl, rfl⟩ (by kernel_rfl) (by kernel_rfl) (by kernel_rfl) (by kernel_rfl) (fun _ _ _ h => h) (fun _ => hS) (fun w' => ?_) ?_
        rotate_left
        · unfold bareOp
          go_simp
          try with_reducible rfl
        simp only [Act.put, List.setIfInBounds_toArray, List.set_cons_zero, List.set_cons_succ]
        refine wpAnyB_take (i := 6) (some 36) (Op.load 22 (Operand.tmp 35)) 22 (v := ?_) ⟨_, rfl, rfl, rfl, rfl, rfl⟩ (by kernel_rfl) (by kernel_rfl) (by kernel_rfl) [11, 12, 13] (by kernel_rfl) (fun _ _ _ h => h) hS (fun w' hSw => ?_) ?_
        rotate_left
        · obtain ⟨⟨s0x, s1x, s2x⟩, s3x, s4x⟩ := hSw
          unfold bareOp
          go_simp
          try with_reducible rfl
        simp only [Act.put, List.setIfInBounds_toArray, List.set_cons_zero, List.set_cons_succ]
        refine wpAnyB_takeP (i := 7) (some 37) (Op.move (Operand.tmp 2)) 25 (v := ?_) ⟨_, rfl, rfl, rfl, rfl, rfl⟩ (by kernel_rfl) (by kernel_rfl) (by kernel_rfl) (by kernel_rfl) (fun _ _ _ h => h) (fun _ => hS) (fun w' => ?_) ?_
        rotate_left
        · unfold bareOp
          go_simp
          try with_reducible rfl
        simp only [Act.put, List.setIfInBounds_toArray, List.set_cons_zero, List.set_cons_succ]
        refine wpAnyB_takeP (i := 8) (some 38) (Op.move (Operand.tmp 11)) 3 (v := ?_) ⟨_, rfl, rfl, rfl, rfl, rfl⟩ (by kernel_rfl) (by kernel_rfl) (by kernel_rfl) (by kernel_rfl) (fun _ _ _ h => h) (fun _ => hS) (fun w' => ?_) ?_
        rotate_left
        · unfold bareOp
          go_simp
          try with_reducible rfl
        simp only [Act.put, List.setIfInBounds_toArray, List.set_cons_zero, List.set_cons_succ]
        refine wpAnyB_takeP (i := 9) (some 39) (Op.indexAddr 25 (Operand.tmp 37) (Operand.tmp 38)) 0 (v := ?_) ⟨_, rfl, rfl, rfl, rfl, rfl⟩ (by kernel_rfl) (by kernel_rfl) (by kernel_rfl) (by kernel_rfl) (fun _ _ _ h => h) (fun _ => hS) (fun w' => ?_) ?_
        rotate_left
        · unfold bareOp
          go_simp
          try with_reducible rfl
        simp only [Act.put, List.setIfInBounds_toArray, List.set_cons_zero, List.set_cons_succ]
        refine wpAnyB_take (i := 10) (some 40) (Op.load 22 (Operand.tmp 39)) 22 (v := ?_) ⟨_, rfl, rfl, rfl, rfl, rfl⟩ (by kernel_rfl) (by kernel_rfl) (by kernel_rfl) [11, 12, 13] (by kernel_rfl) (fun _ _ _ h => h) hS (fun w' hSw => ?_) ?_
        rotate_left
        · obtain ⟨⟨s0x, s1x, s2x⟩, s3x, s4x⟩ := hSw
          unfold bareOp
          go_simp
          try with_reducible rfl
        simp only [Act.put, List.setIfInBounds_toArray, List.set_cons_zero, List.set_cons_succ]
        refine wpAnyB_only (i := 11) (some 41) (Op.call { callee := Callee.value (Operand.func 76), args := #[Operand.tmp 32, Operand.tmp 36, Operand.tmp 40], argTypes := #[24, 22, 22] }) 22 ⟨_, rfl, rfl, rfl, rfl, rfl⟩ (by kernel_rfl) (fun K hK => ?_)
        unfold bareOp
        go_wp2_with (go_at_call 76; refine (rProduct_gen _ HH.out y0 yQ x0 xL HM.out).mono ?_; rintro e w8 ⟨rfl, hb8⟩)
        replace F_g := Lib.hid (F_g.out.keep hb8)
        replace HBW := Lib.hid (HBW.out.trans (hb8.mono HBW.out.size))
        replace HBV := Lib.hid (HBV.out.trans (hb8.mono HBV.out.size))
        replace hS := And.intro F_g.out.s (And.intro ((HBV.out.cell (p := ⟨s, o + k, none⟩) hsl).trans HEC.out) ((HBW.out.cell (p := ⟨s2, o2 + k, none⟩) hsl2).trans HEX.out))
        clear hb8
        refine hK.out _ _ (fun _ => hS) ?_
        clear hK K
        try simp only [Act.put, List.setIfInBounds_toArray, List.set_cons_zero, List.set_cons_succ]
        refine wpAnyB_only (i := 12) (some 42) (Op.call { callee := Callee.value (Operand.func 56), args := #[Operand.tmp 30, Operand.tmp 31, Operand.tmp 41], argTypes := #[24, 22, 22] }) 22 ⟨_, rfl, rfl, rfl, rfl, rfl⟩ (by kernel_rfl) (fun K hK => ?_)
        unfold bareOp
        go_wp2_with (go_at_call 56; refine (rSum_gen _ HH.out s0 sL m0 mL HT.out).mono ?_; rintro e w8 ⟨rfl, hb8⟩)
        replace F_g := Lib.hid (F_g.out.keep hb8)
        replace HBW := Lib.hid (HBW.out.trans (hb8.mono HBW.out.size))
        replace HBV := Lib.hid (HBV.out.trans (hb8.mono HBV.out.size))
        replace hS := And.intro F_g.out.s (And.intro ((HBV.out.cell (p := ⟨s, o + k, none⟩) hsl).trans HEC.out) ((HBW.out.cell (p := ⟨s2, o2 + k, none⟩) hsl2).trans HEX.out))
        clear hb8
        refine hK.out _ _ (fun _ => hS) ?_
        clear hK K
        try simp only [Act.put, List.setIfInBounds_toArray, List.set_cons_zero, List.set_cons_succ]
        refine wpAnyB_only (i := 13) (some 10) (Op.assign (Operand.tmp 42)) 22 ⟨_, rfl, rfl, rfl, rfl, rfl⟩ (by kernel_rfl) (fun K hK => ?_)
        unfold bareOp
        go_wp2_with fail
        refine hK.out _ _ (fun h => absurd (h.symm.trans (by kernel_rfl : _ = true)) (by decide)) ?_
        clear hK K
        try simp only [Act.put, List.setIfInBounds_toArray, List.set_cons_zero, List.set_cons_succ]
        refine wpAnyB_done (by kernel_rfl) ?_ _
        go_wp2_with fail
        go_roundw
        case rel => exact ⟨k + 1, by omega, by go_num, _, rfl, (by first | (rw [← HT.out, ← HM.out, ← HY.out, ← HXX.out, HA.out]; rfl) | (rw [← HM.out, ← HY.out, ← HXX.out, HA.out]; rfl)), F_g.out, HBW.out, HBV.out⟩
        case measure => simp [intOf]; omega

set_option maxRecDepth 100000 in
set_option maxHeartbeats 8000000 in
theorem sRaise_any {P Q G v er : Int} {a b : Option Addr} {n c m d : Nat} {ids xs : List Int} (w : World) (hP : 0 ≤ P) (hQ : 0 ≤ Q) (hG : 0 ≤ G) (h : ShI .i64 w a n ids) (hn : n ≤ 1000000) (hx : ∀ x, x ∈ ids → I64 x) (ht : ShI .u64 w b m xs) (hm : m ≤ 1000000) (hu : ∀ x, x ∈ xs → U64 x) (hr : raiseS P Q G ids xs = (v, er)) :
    Calls Try.prog 33 #[.agg #[.int .u64 P, .int .u64 Q, .int .u64 G], .slice a n c, .slice b m d] w fun e w' => e = .returned (.tuple #[.int .u64 v, .int .i64 er]) ∧ Below w.heap.size w w' := by
  have HS := Lib.hid h
  have HX := Lib.hid hx
  have HT0 := Lib.hid ht
  have HL2 := Lib.hid ht.len
  have HL1 := Lib.hid h.len
  obtain ⟨f, ws, hp⟩ : ∃ f ws, pairedS P Q G P ids xs = (f, ws) := ⟨_, _, rfl⟩
  rw [raiseS, hp] at hr
  have HPR := Lib.hid hp
  clear hx h ht
  by_cases hf : f = 0
  case neg =>
    obtain ⟨rfl, rfl⟩ := Prod.mk.inj (show (0, f) = (v, er) by rw [← hr]; simp [hf])
    have hfb : (f != 0) = true := by simpa using hf
    clear hr hp hf
    have F_g := Lib.hid (show Boxed (w.alloc (.cells #[.int .u64 P, .int .u64 Q, .int .u64 G] 24)) (w.heap.size) P Q G from Boxed.at _ P Q G _ (w.heap.size) (by simp))
    have HBW := Lib.hid (show Below w.heap.size w (w.alloc (.cells #[.int .u64 P, .int .u64 Q, .int .u64 G] 24)) from (Below.refl _ _).alloc (by simp <;> omega) _)
    go_enter Try.func33, Try.ntmps33
    obtain ⟨x0a, x0b, x0c, -⟩ := id F_g.out
    go_wp2_with fail
    clear x0a x0b x0c
    refine (sweighted_any _ hP hQ hG (HS.out.keep HBW.out) hn HX.out (HT0.out.keep HBW.out) hm HPR.out).mono ?_
    rintro e w1 ⟨v0, rfl, ho1, hb1⟩
    obtain ⟨oa, oc, rfl, hsw⟩ := ho1.shI
    replace F_g := Lib.hid (F_g.out.keep hb1)
    replace HBW := Lib.hid (HBW.out.trans (hb1.mono HBW.out.size))
    have HSW := Lib.hid hsw
    clear hb1 ho1 hsw
    go_wp2_with fail
    go_ret2
    exact ⟨rfl, HBW.out⟩
  case pos =>
    subst hf
    obtain ⟨hH, hl, hln, hb, hw⟩ := pairedS_ok hp
    obtain ⟨p5, p3, hQ', pq, g2, gP⟩ := id hH
    have q3 : Q < 1073741824 := by omega
    have q1 : 1 < Q := by omega
    obtain ⟨hv, rfl⟩ := Prod.mk.inj (show (raiseP P ws xs xs.length, 0) = (v, er) by rw [← hr]; simp)
    have HV := Lib.hid (show raiseP P ws xs m = v by rw [HL2.out]; exact hv)
    have HWL := Lib.hid (show ws.length = m by rw [wAll_len hw, HL2.out, hln])
    have HWR := Lib.hid (wAll_range q1 hw)
    have HXR := Lib.hid (belowS_bd hb hu)
    obtain ⟨-, l8, -⟩ := belowS_true hb
    rw [← HL2.out] at l8
    have HH := Lib.hid hH
    clear hr hp hH hl hln hb hw pq hv hu
    have F_g := Lib.hid (show Boxed (w.alloc (.cells #[.int .u64 P, .int .u64 Q, .int .u64 G] 24)) (w.heap.size) P Q G from Boxed.at _ P Q G _ (w.heap.size) (by simp))
    have HBW := Lib.hid (show Below w.heap.size w (w.alloc (.cells #[.int .u64 P, .int .u64 Q, .int .u64 G] 24)) from (Below.refl _ _).alloc (by simp <;> omega) _)
    go_enter Try.func33, Try.ntmps33
    obtain ⟨x0a, x0b, x0c, -⟩ := id F_g.out
    go_wp2_with fail
    clear x0a x0b x0c
    refine (sweighted_any _ hP hQ hG (HS.out.keep HBW.out) hn HX.out (HT0.out.keep HBW.out) hm HPR.out).mono ?_
    rintro e w1 ⟨v0, rfl, ho1, hb1⟩
    obtain ⟨oa, oc, rfl, hsw⟩ := ho1.shI
    replace F_g := Lib.hid (F_g.out.keep hb1)
    replace HBW := Lib.hid (HBW.out.trans (hb1.mono HBW.out.size))
    have HSW := Lib.hid hsw
    clear hb1 ho1 hsw
    rw [HWL.out] at HSW ⊢
    have HBV := Lib.hid (Below.refl w1.heap.size w1)
    go_wp2_with fail
    go_loopw [10, 11, 12, 13, 14, 29] (fun c10 c11 c12 c13 c14 c29 wr => ∃ k : Nat, k ≤ m ∧ c29 = .int .i64 k ∧ ∃ acc : Int, c10 = .int .u64 acc ∧ Hid (acc = raiseP P ws xs k) ∧ Hid (Boxed wr w.heap.size P Q G) ∧ Hid (Below w.heap.size w wr) ∧ Hid (Below w1.heap.size w1 wr)) (fun _ _ _ _ _ c29 _ => m - (intOf c29).toNat)
    case atStart => exact ⟨0, Nat.zero_le _, rfl, _, rfl, rfl, F_g.out, HBW.out, HBV.out⟩
    case round =>
      clear F_g HBW HBV
      obtain ⟨k, hk, rfl, acc, rfl, HA, F_g, HBW, HBV⟩ := hrel
      by_cases hlt : k < m
      case neg =>
        have hkn : k = m := by omega
        have HZ := Lib.hid (show acc = v by rw [HA.out, hkn]; exact HV.out)
        clear hkn
        go_wp2_with fail
        go_ret2
        exact ⟨ret_two HZ.out rfl, HBW.out⟩
      case pos =>
        obtain ⟨s, o, hoa, hsl, hck, hmem⟩ := HSW.out.at k hlt
        obtain ⟨y, hy⟩ : ∃ y, ws.getD k 0 = y := ⟨_, rfl⟩
        rw [hy] at hck hmem
        obtain ⟨y0, yQ⟩ := HWR.out y hmem
        have HEC := Lib.hid hck
        obtain ⟨s2, o2, hob, hsl2, hcx, hmemx⟩ := HT0.out.at k hlt
        obtain ⟨x, hxx⟩ : ∃ x, xs.getD k 0 = x := ⟨_, rfl⟩
        rw [hxx] at hcx hmemx
        obtain ⟨x0, xL⟩ := HXR.out x hmemx
        have HEX := Lib.hid hcx
        have hcx' := (HBW.out.cell (p := ⟨s2, o2 + k, none⟩) hsl2).trans hcx
        have HY := Lib.hid hy
        have HXX := Lib.hid hxx
        have UY := Lib.hid (show U64 y from ⟨y0, by omega⟩)
        clear hck hmem hcx hmemx hy hxx
        subst hoa hob
        have hk0 : (0 : Int) ≤ (k : Int) := by omega
        have hk1 : (k : Int) < (m : Int) := by omega
        have s0 : 0 ≤ acc := by rw [HA.out]; exact (raiseP_range (by omega) ws xs k).1
        have sL : acc < P := by rw [HA.out]; exact (raiseP_range (by omega) ws xs k).2
        have hm0 := hk1
        obtain ⟨m', hm2⟩ : ∃ m', powm x y P = m' := ⟨_, rfl⟩
        have m0 : 0 ≤ m' := by rw [← hm2]; exact powm_nonneg (by omega)
        have mL : m' < P := by rw [← hm2]; exact powm_lt (by omega)
        obtain ⟨mb1, mb2⟩ := mul_bound s0 (by omega) m0 (by omega)
        have hwm : IntKind.u64.wrap (acc * m') = acc * m' := wrap_u mb1 (by omega)
        have htm : (acc * m').tmod P = acc * m' % P := tmod_u mb1
        have hPn : P ≠ 0 := by omega
        obtain ⟨t, ht2⟩ : ∃ t, acc * m' % P = t := ⟨_, rfl⟩
        have HM := Lib.hid hm2
        have HT := Lib.hid ht2
        clear hm2 ht2
        go_wp2_with fail
        replace F_g := Lib.hid F_g.out.drew
        replace HBW := Lib.hid HBW.out.drew
        replace HBV := Lib.hid HBV.out.drew
        have hS := And.intro F_g.out.s ((HBV.out.cell (p := ⟨s, o + k, none⟩) hsl).trans HEC.out)
        refine wp_region_stage 11 (fun w' => SBox w' w.heap.size P Q G ∧ w'.cell? ⟨s, o + k, none⟩ = some (.int .u64 y)) (by kernel_rfl) ?_
        refine wpAnyB_take (i := 0) (some 35) (Op.load 24 (Operand.tmp 3)) 24 (v := ?_) ⟨_, rfl, rfl, rfl, rfl, rfl⟩ (by kernel_rfl) (by kernel_rfl) (by kernel_rfl) [6, 7, 8, 9, 10, 11] (by kernel_rfl) (fun _ _ _ h => h) hS (fun w' hSw => ?_) ?_
        rotate_left
        · obtain ⟨⟨s0x, s1x, s2x⟩, s3x⟩ := hSw
          unfold bareOp
          go_simp
          try with_reducible rfl
        simp only [Act.put, List.setIfInBounds_toArray, List.set_cons_zero, List.set_cons_succ]
        refine wpAnyB_takeP (i := 1) (some 36) (Op.move (Operand.tmp 12)) 22 (v := ?_) ⟨_, rfl, rfl, rfl, rfl, rfl⟩ (by kernel_rfl) (by kernel_rfl) (by kernel_rfl) (by kernel_rfl) (fun _ _ _ h => h) (fun _ => hS) (fun w' => ?_) ?_
        rotate_left
        · unfold bareOp
          go_simp
          try with_reducible rfl
        simp only [Act.put, List.setIfInBounds_toArray, List.set_cons_zero, List.set_cons_succ]
        refine wpAnyB_takeP (i := 2) (some 37) (Op.move (Operand.tmp 8)) 25 (v := ?_) ⟨_, rfl, rfl, rfl, rfl, rfl⟩ (by kernel_rfl) (by kernel_rfl) (by kernel_rfl) (by kernel_rfl) (fun _ _ _ h => h) (fun _ => hS) (fun w' => ?_) ?_
        rotate_left
        · unfold bareOp
          go_simp
          try with_reducible rfl
        simp only [Act.put, List.setIfInBounds_toArray, List.set_cons_zero, List.set_cons_succ]
        refine wpAnyB_takeP (i := 3) (some 38) (Op.move (Operand.tmp 11)) 3 (v := ?_) ⟨_, rfl, rfl, rfl, rfl, rfl⟩ (by kernel_rfl) (by kernel_rfl) (by kernel_rfl) (by kernel_rfl) (fun _ _ _ h => h) (fun _ => hS) (fun w' => ?_) ?_
        rotate_left
        · unfold bareOp
          go_simp
          try with_reducible rfl
        simp only [Act.put, List.setIfInBounds_toArray, List.set_cons_zero, List.set_cons_succ]
        refine wpAnyB_takeP (i := 4) (some 39) (Op.indexAddr 25 (Operand.tmp 37) (Operand.tmp 38)) 0 (v := ?_) ⟨_, rfl, rfl, rfl, rfl, rfl⟩ (by kernel_rfl) (by kernel_rfl) (by kernel_rfl) (by kernel_rfl) (fun _ _ _ h => h) (fun _ => hS) (fun w' => ?_) ?_
        rotate_left
        · unfold bareOp
          go_simp
          try with_reducible rfl
        simp only [Act.put, List.setIfInBounds_toArray, List.set_cons_zero, List.set_cons_succ]
        refine wpAnyB_take (i := 5) (some 40) (Op.load 22 (Operand.tmp 39)) 22 (v := ?_) ⟨_, rfl, rfl, rfl, rfl, rfl⟩ (by kernel_rfl) (by kernel_rfl) (by kernel_rfl) [6, 7, 8, 9, 10, 11] (by kernel_rfl) (fun _ _ _ h => h) hS (fun w' hSw => ?_) ?_
        rotate_left
        · obtain ⟨⟨s0x, s1x, s2x⟩, s3x⟩ := hSw
          unfold bareOp
          go_simp
          try with_reducible rfl
        simp only [Act.put, List.setIfInBounds_toArray, List.set_cons_zero, List.set_cons_succ]
        refine wpAnyB_only (i := 6) (some 41) (Op.call { callee := Callee.value (Operand.func 42), args := #[Operand.tmp 35, Operand.tmp 36, Operand.tmp 40], argTypes := #[24, 22, 22] }) 39 ⟨_, rfl, rfl, rfl, rfl, rfl⟩ (by kernel_rfl) (fun K hK => ?_)
        unfold bareOp
        go_wp2_with (go_at_call 42; refine (pow_ok P Q G x y m' _ HH.out x0 xL UY.out HM.out).mono ?_; rintro e w8 ⟨rfl, hb8⟩)
        replace F_g := Lib.hid (F_g.out.keep hb8)
        replace HBW := Lib.hid (HBW.out.trans (hb8.mono HBW.out.size))
        replace HBV := Lib.hid (HBV.out.trans (hb8.mono HBV.out.size))
        replace hS := And.intro F_g.out.s ((HBV.out.cell (p := ⟨s, o + k, none⟩) hsl).trans HEC.out)
        clear hb8
        refine hK.out _ _ (fun _ => hS) ?_
        clear hK K
        try simp only [Act.put, List.setIfInBounds_toArray, List.set_cons_zero, List.set_cons_succ]
        refine wpAnyB_takeP (i := 7) (some 34) (Op.move (Operand.tmp 41)) 39 (v := ?_) ⟨_, rfl, rfl, rfl, rfl, rfl⟩ (by kernel_rfl) (by kernel_rfl) (by kernel_rfl) (by kernel_rfl) (fun _ _ _ h => h) (fun _ => hS) (fun w' => ?_) ?_
        rotate_left
        · unfold bareOp
          go_simp
          try with_reducible rfl
        simp only [Act.put, List.setIfInBounds_toArray, List.set_cons_zero, List.set_cons_succ]
        refine wpAnyB_takeP (i := 8) (some 42) (Op.extract (Operand.tmp 34) 0) 22 (v := ?_) ⟨_, rfl, rfl, rfl, rfl, rfl⟩ (by kernel_rfl) (by kernel_rfl) (by kernel_rfl) (by kernel_rfl) (fun _ _ _ h => h) (fun _ => hS) (fun w' => ?_) ?_
        rotate_left
        · unfold bareOp
          go_simp
          try with_reducible rfl
        simp only [Act.put, List.setIfInBounds_toArray, List.set_cons_zero, List.set_cons_succ]
        refine wpAnyB_takeP (i := 9) (some 43) (Op.extract (Operand.tmp 34) 1) 30 (v := ?_) ⟨_, rfl, rfl, rfl, rfl, rfl⟩ (by kernel_rfl) (by kernel_rfl) (by kernel_rfl) (by kernel_rfl) (fun _ _ _ h => h) (fun _ => hS) (fun w' => ?_) ?_
        rotate_left
        · unfold bareOp
          go_simp
          try with_reducible rfl
        simp only [Act.put, List.setIfInBounds_toArray, List.set_cons_zero, List.set_cons_succ]
        refine wpAnyB_takeP (i := 10) (some 13) (Op.assign (Operand.tmp 42)) 22 (v := ?_) ⟨_, rfl, rfl, rfl, rfl, rfl⟩ (by kernel_rfl) (by kernel_rfl) (by kernel_rfl) (by kernel_rfl) (fun _ _ _ h => h) (fun _ => hS) (fun w' => ?_) ?_
        rotate_left
        · unfold bareOp
          go_simp
          try with_reducible rfl
        simp only [Act.put, List.setIfInBounds_toArray, List.set_cons_zero, List.set_cons_succ]
        refine wpAnyB_only (i := 11) (some 14) (Op.assign (Operand.tmp 43)) 30 ⟨_, rfl, rfl, rfl, rfl, rfl⟩ (by kernel_rfl) (fun K hK => ?_)
        unfold bareOp
        go_wp2_with fail
        refine hK.out _ _ (fun h => absurd (h.symm.trans (by kernel_rfl : _ = true)) (by decide)) ?_
        clear hK K
        try simp only [Act.put, List.setIfInBounds_toArray, List.set_cons_zero, List.set_cons_succ]
        refine wpAnyB_done (by kernel_rfl) ?_ _
        obtain ⟨x0a, x0b, x0c, -⟩ := id F_g.out
        go_wp2_with fail
        clear x0a x0b x0c
        refine (mul_ok P Q G acc m' t _ HH.out s0 sL m0 mL HT.out).mono ?_
        rintro e w7 ⟨rfl, hb7⟩
        replace F_g := Lib.hid (F_g.out.keep hb7)
        replace HBW := Lib.hid (HBW.out.trans (hb7.mono HBW.out.size))
        replace HBV := Lib.hid (HBV.out.trans (hb7.mono HBV.out.size))
        clear hb7
        go_wp2_with fail
        go_roundw
        case rel => exact ⟨k + 1, by omega, by go_num, _, rfl, (by first | (rw [← HT.out, ← HM.out, ← HY.out, ← HXX.out, HA.out]; rfl) | (rw [← HM.out, ← HY.out, ← HXX.out, HA.out]; rfl)), F_g.out, HBW.out, HBV.out⟩
        case measure => simp [intOf]; omega

set_option maxRecDepth 100000 in
set_option maxHeartbeats 8000000 in
theorem rRaise_any {P Q G v er : Int} {a b : Option Addr} {n c m d : Nat} {ids xs : List Int} (w : World) (hP : 0 ≤ P) (hQ : 0 ≤ Q) (hG : 0 ≤ G) (h : ShI .i64 w a n ids) (hn : n ≤ 1000000) (hx : ∀ x, x ∈ ids → I64 x) (ht : ShI .u64 w b m xs) (hm : m ≤ 1000000) (hu : ∀ x, x ∈ xs → U64 x) (hr : raiseS P Q G ids xs = (v, er)) :
    Calls Try.prog 34 #[.agg #[.int .u64 P, .int .u64 Q, .int .u64 G], .slice a n c, .slice b m d] w fun e w' => e = .returned (.tuple #[.int .u64 v, .int .i64 er]) ∧ Below w.heap.size w w' := by
  have HS := Lib.hid h
  have HX := Lib.hid hx
  have HT0 := Lib.hid ht
  have HL2 := Lib.hid ht.len
  have HL1 := Lib.hid h.len
  obtain ⟨f, ws, hp⟩ : ∃ f ws, pairedS P Q G P ids xs = (f, ws) := ⟨_, _, rfl⟩
  rw [raiseS, hp] at hr
  have HPR := Lib.hid hp
  clear hx h ht
  by_cases hf : f = 0
  case neg =>
    obtain ⟨rfl, rfl⟩ := Prod.mk.inj (show (0, f) = (v, er) by rw [← hr]; simp [hf])
    have hfb : (f != 0) = true := by simpa using hf
    clear hr hp hf
    have F_g := Lib.hid (show Boxed (w.alloc (.cells #[.int .u64 P, .int .u64 Q, .int .u64 G] 24)) (w.heap.size) P Q G from Boxed.at _ P Q G _ (w.heap.size) (by simp))
    have HBW := Lib.hid (show Below w.heap.size w (w.alloc (.cells #[.int .u64 P, .int .u64 Q, .int .u64 G] 24)) from (Below.refl _ _).alloc (by simp <;> omega) _)
    go_enter Try.func34, Try.ntmps34
    obtain ⟨x0a, x0b, x0c, -⟩ := id F_g.out
    go_wp2_with fail
    clear x0a x0b x0c
    refine (rpaired_any _ hP hQ hG (HS.out.keep HBW.out) hn HX.out (HT0.out.keep HBW.out) hm HPR.out).mono ?_
    rintro e w1 ⟨v0, rfl, ho1, hb1⟩
    obtain ⟨oa, oc, rfl, hsw⟩ := ho1.shI
    replace F_g := Lib.hid (F_g.out.keep hb1)
    replace HBW := Lib.hid (HBW.out.trans (hb1.mono HBW.out.size))
    have HSW := Lib.hid hsw
    clear hb1 ho1 hsw
    go_wp2_with fail
    go_ret2
    exact ⟨rfl, HBW.out⟩
  case pos =>
    subst hf
    obtain ⟨hH, hl, hln, hb, hw⟩ := pairedS_ok hp
    obtain ⟨p5, p3, hQ', pq, g2, gP⟩ := id hH
    have q3 : Q < 1073741824 := by omega
    have q1 : 1 < Q := by omega
    obtain ⟨hv, rfl⟩ := Prod.mk.inj (show (raiseP P ws xs xs.length, 0) = (v, er) by rw [← hr]; simp)
    have HV := Lib.hid (show raiseP P ws xs m = v by rw [HL2.out]; exact hv)
    have HWL := Lib.hid (show ws.length = m by rw [wAll_len hw, HL2.out, hln])
    have HWR := Lib.hid (wAll_range q1 hw)
    have HXR := Lib.hid (belowS_bd hb hu)
    obtain ⟨-, l8, -⟩ := belowS_true hb
    rw [← HL2.out] at l8
    have HH := Lib.hid hH
    clear hr hp hH hl hln hb hw pq hv hu
    have F_g := Lib.hid (show Boxed (w.alloc (.cells #[.int .u64 P, .int .u64 Q, .int .u64 G] 24)) (w.heap.size) P Q G from Boxed.at _ P Q G _ (w.heap.size) (by simp))
    have HBW := Lib.hid (show Below w.heap.size w (w.alloc (.cells #[.int .u64 P, .int .u64 Q, .int .u64 G] 24)) from (Below.refl _ _).alloc (by simp <;> omega) _)
    go_enter Try.func34, Try.ntmps34
    obtain ⟨x0a, x0b, x0c, -⟩ := id F_g.out
    go_wp2_with fail
    clear x0a x0b x0c
    refine (rpaired_any _ hP hQ hG (HS.out.keep HBW.out) hn HX.out (HT0.out.keep HBW.out) hm HPR.out).mono ?_
    rintro e w1 ⟨v0, rfl, ho1, hb1⟩
    obtain ⟨oa, oc, rfl, hsw⟩ := ho1.shI
    replace F_g := Lib.hid (F_g.out.keep hb1)
    replace HBW := Lib.hid (HBW.out.trans (hb1.mono HBW.out.size))
    have HSW := Lib.hid hsw
    clear hb1 ho1 hsw
    rw [HWL.out] at HSW ⊢
    have HBV := Lib.hid (Below.refl w1.heap.size w1)
    go_wp2_with fail
    go_loopw [10, 11] (fun c10 c11 wr => ∃ k : Nat, k ≤ m ∧ c11 = .int .i64 k ∧ ∃ acc : Int, c10 = .int .u64 acc ∧ Hid (acc = raiseP P ws xs k) ∧ Hid (Boxed wr w.heap.size P Q G) ∧ Hid (Below w.heap.size w wr) ∧ Hid (Below w1.heap.size w1 wr)) (fun _ c11 _ => m - (intOf c11).toNat)
    case atStart => exact ⟨0, Nat.zero_le _, rfl, _, rfl, rfl, F_g.out, HBW.out, HBV.out⟩
    case round =>
      clear F_g HBW HBV
      obtain ⟨k, hk, rfl, acc, rfl, HA, F_g, HBW, HBV⟩ := hrel
      by_cases hlt : k < m
      case neg =>
        have hkn : k = m := by omega
        have HZ := Lib.hid (show acc = v by rw [HA.out, hkn]; exact HV.out)
        clear hkn
        go_wp2_with fail
        go_ret2
        exact ⟨ret_two HZ.out rfl, HBW.out⟩
      case pos =>
        obtain ⟨s, o, hoa, hsl, hck, hmem⟩ := HSW.out.at k hlt
        obtain ⟨y, hy⟩ : ∃ y, ws.getD k 0 = y := ⟨_, rfl⟩
        rw [hy] at hck hmem
        obtain ⟨y0, yQ⟩ := HWR.out y hmem
        have HEC := Lib.hid hck
        obtain ⟨s2, o2, hob, hsl2, hcx, hmemx⟩ := HT0.out.at k hlt
        obtain ⟨x, hxx⟩ : ∃ x, xs.getD k 0 = x := ⟨_, rfl⟩
        rw [hxx] at hcx hmemx
        obtain ⟨x0, xL⟩ := HXR.out x hmemx
        have HEX := Lib.hid hcx
        have hcx' := (HBW.out.cell (p := ⟨s2, o2 + k, none⟩) hsl2).trans hcx
        have HY := Lib.hid hy
        have HXX := Lib.hid hxx
        have UY := Lib.hid (show U64 y from ⟨y0, by omega⟩)
        clear hck hmem hcx hmemx hy hxx
        subst hoa hob
        have hk0 : (0 : Int) ≤ (k : Int) := by omega
        have hk1 : (k : Int) < (m : Int) := by omega
        have s0 : 0 ≤ acc := by rw [HA.out]; exact (raiseP_range (by omega) ws xs k).1
        have sL : acc < P := by rw [HA.out]; exact (raiseP_range (by omega) ws xs k).2
        have hm0 := hk1
        obtain ⟨m', hm2⟩ : ∃ m', powm x y P = m' := ⟨_, rfl⟩
        have m0 : 0 ≤ m' := by rw [← hm2]; exact powm_nonneg (by omega)
        have mL : m' < P := by rw [← hm2]; exact powm_lt (by omega)
        obtain ⟨mb1, mb2⟩ := mul_bound s0 (by omega) m0 (by omega)
        have hwm : IntKind.u64.wrap (acc * m') = acc * m' := wrap_u mb1 (by omega)
        have htm : (acc * m').tmod P = acc * m' % P := tmod_u mb1
        have hPn : P ≠ 0 := by omega
        obtain ⟨t, ht2⟩ : ∃ t, acc * m' % P = t := ⟨_, rfl⟩
        have HM := Lib.hid hm2
        have HT := Lib.hid ht2
        clear hm2 ht2
        go_wp2_with fail
        replace F_g := Lib.hid F_g.out.drew
        replace HBW := Lib.hid HBW.out.drew
        replace HBV := Lib.hid HBV.out.drew
        have hS := And.intro F_g.out.s (And.intro ((HBV.out.cell (p := ⟨s, o + k, none⟩) hsl).trans HEC.out) ((HBW.out.cell (p := ⟨s2, o2 + k, none⟩) hsl2).trans HEX.out))
        refine wp_region_stage 15 (fun w' => SBox w' w.heap.size P Q G ∧ w'.cell? ⟨s, o + k, none⟩ = some (.int .u64 y) ∧ w'.cell? ⟨s2, o2 + k, none⟩ = some (.int .u64 x)) (by kernel_rfl) ?_
        refine wpAnyB_takeP (i := 0) (some 30) (Op.move (Operand.tmp 10)) 22 (v := ?_) ⟨_, rfl, rfl, rfl, rfl, rfl⟩ (by kernel_rfl) (by kernel_rfl) (by kernel_rfl) (by kernel_rfl) (fun _ _ _ h => h) (fun _ => hS) (fun w' => ?_) ?_
        rotate_left
        · unfold bareOp
          go_simp
          try with_reducible rfl
        simp only [Act.put, List.setIfInBounds_toArray, List.set_cons_zero, List.set_cons_succ]
        refine wpAnyB_take (i := 1) (some 31) (Op.load 24 (Operand.tmp 3)) 24 (v := ?_) ⟨_, rfl, rfl, rfl, rfl, rfl⟩ (by kernel_rfl) (by kernel_rfl) (by kernel_rfl) [10, 11, 14, 15] (by kernel_rfl) (fun _ _ _ h => h) hS (fun w' hSw => ?_) ?_
        rotate_left
        · obtain ⟨⟨s0x, s1x, s2x⟩, s3x, s4x⟩ := hSw
          unfold bareOp
          go_simp
          try with_reducible rfl
        simp only [Act.put, List.setIfInBounds_toArray, List.set_cons_zero, List.set_cons_succ]
        refine wpAnyB_takeP (i := 2) (some 32) (Op.move (Operand.tmp 2)) 25 (v := ?_) ⟨_, rfl, rfl, rfl, rfl, rfl⟩ (by kernel_rfl) (by kernel_rfl) (by kernel_rfl) (by kernel_rfl) (fun _ _ _ h => h) (fun _ => hS) (fun w' => ?_) ?_
        rotate_left
        · unfold bareOp
          go_simp
          try with_reducible rfl
        simp only [Act.put, List.setIfInBounds_toArray, List.set_cons_zero, List.set_cons_succ]
        refine wpAnyB_takeP (i := 3) (some 33) (Op.move (Operand.tmp 11)) 3 (v := ?_) ⟨_, rfl, rfl, rfl, rfl, rfl⟩ (by kernel_rfl) (by kernel_rfl) (by kernel_rfl) (by kernel_rfl) (fun _ _ _ h => h) (fun _ => hS) (fun w' => ?_) ?_
        rotate_left
        · unfold bareOp
          go_simp
          try with_reducible rfl
        simp only [Act.put, List.setIfInBounds_toArray, List.set_cons_zero, List.set_cons_succ]
        refine wpAnyB_takeP (i := 4) (some 34) (Op.indexAddr 25 (Operand.tmp 32) (Operand.tmp 33)) 0 (v := ?_) ⟨_, rfl, rfl, rfl, rfl, rfl⟩ (by kernel_rfl) (by kernel_rfl) (by kernel_rfl) (by kernel_rfl) (fun _ _ _ h => h) (fun _ => hS) (fun w' => ?_) ?_
        rotate_left
        · unfold bareOp
          go_simp
          try with_reducible rfl
        simp only [Act.put, List.setIfInBounds_toArray, List.set_cons_zero, List.set_cons_succ]
        refine wpAnyB_take (i := 5) (some 35) (Op.load 22 (Operand.tmp 34)) 22 (v := ?_) ⟨_, rfl, rfl, rfl, rfl, rfl⟩ (by kernel_rfl) (by kernel_rfl) (by kernel_rfl) [10, 11, 14, 15] (by kernel_rfl) (fun _ _ _ h => h) hS (fun w' hSw => ?_) ?_
        rotate_left
        · obtain ⟨⟨s0x, s1x, s2x⟩, s3x, s4x⟩ := hSw
          unfold bareOp
          go_simp
          try with_reducible rfl
        simp only [Act.put, List.setIfInBounds_toArray, List.set_cons_zero, List.set_cons_succ]
        refine wpAnyB_takeP (i := 6) (some 36) (Op.move (Operand.tmp 8)) 25 (v := ?_) ⟨_, rfl, rfl, rfl, rfl, rfl⟩ (by kernel_rfl) (by kernel_rfl) (by kernel_rfl) (by kernel_rfl) (fun _ _ _ h => h) (fun _ => hS) (fun w' => ?_) ?_
        rotate_left
        · unfold bareOp
          go_simp
          try with_reducible rfl
        simp only [Act.put, List.setIfInBounds_toArray, List.set_cons_zero, List.set_cons_succ]
        refine wpAnyB_takeP (i := 7) (some 37) (Op.move (Operand.tmp 11)) 3 (v := ?_) ⟨_, rfl, rfl, rfl, rfl, rfl⟩ (by kernel_rfl) (by kernel_rfl) (by kernel_rfl) (by kernel_rfl) (fun _ _ _ h => h) (fun _ => hS) (fun w' => ?_) ?_
        rotate_left
        · unfold bareOp
          go_simp
          try with_reducible rfl
        simp only [Act.put, List.setIfInBounds_toArray, List.set_cons_zero, List.set_cons_succ]
        refine wpAnyB_takeP (i := 8) (some 38) (Op.indexAddr 25 (Operand.tmp 36) (Operand.tmp 37)) 0 (v := ?_) ⟨_, rfl, rfl, rfl, rfl, rfl⟩ (by kernel_rfl) (by kernel_rfl) (by kernel_rfl) (by kernel_rfl) (fun _ _ _ h => h) (fun _ => hS) (fun w' => ?_) ?_
        rotate_left
        · unfold bareOp
          go_simp
          try with_reducible rfl
        simp only [Act.put, List.setIfInBounds_toArray, List.set_cons_zero, List.set_cons_succ]
        refine wpAnyB_take (i := 9) (some 39) (Op.load 22 (Operand.tmp 38)) 22 (v := ?_) ⟨_, rfl, rfl, rfl, rfl, rfl⟩ (by kernel_rfl) (by kernel_rfl) (by kernel_rfl) [10, 11, 14, 15] (by kernel_rfl) (fun _ _ _ h => h) hS (fun w' hSw => ?_) ?_
        rotate_left
        · obtain ⟨⟨s0x, s1x, s2x⟩, s3x, s4x⟩ := hSw
          unfold bareOp
          go_simp
          try with_reducible rfl
        simp only [Act.put, List.setIfInBounds_toArray, List.set_cons_zero, List.set_cons_succ]
        refine wpAnyB_takeP (i := 12) (some 42) (Op.fieldAddr 24 (Operand.tmp 3) 0) 0 (v := ?_) ⟨_, rfl, rfl, rfl, rfl, rfl⟩ (by kernel_rfl) (by kernel_rfl) (by kernel_rfl) (by kernel_rfl) (fun _ _ _ h => h) (fun _ => hS) (fun w' => ?_) ?_
        rotate_left
        · unfold bareOp
          go_simp
          try with_reducible rfl
        simp only [Act.put, List.setIfInBounds_toArray, List.set_cons_zero, List.set_cons_succ]
        refine wpAnyB_take (i := 13) (some 43) (Op.load 22 (Operand.tmp 42)) 22 (v := ?_) ⟨_, rfl, rfl, rfl, rfl, rfl⟩ (by kernel_rfl) (by kernel_rfl) (by kernel_rfl) [14, 15] (by kernel_rfl) (fun _ _ _ h => h) hS (fun w' hSw => ?_) ?_
        rotate_left
        · obtain ⟨⟨s0x, s1x, s2x⟩, s3x, s4x⟩ := hSw
          unfold bareOp
          go_simp
          try with_reducible rfl
        simp only [Act.put, List.setIfInBounds_toArray, List.set_cons_zero, List.set_cons_succ]
        refine wpAnyB_only (i := 10) (some 40) (Op.call { callee := Callee.value (Operand.func 66), args := #[Operand.tmp 31, Operand.tmp 35, Operand.tmp 39], argTypes := #[24, 22, 22] }) 22 ⟨_, rfl, rfl, rfl, rfl, rfl⟩ (by kernel_rfl) (fun K hK => ?_)
        unfold bareOp
        go_wp2_with (go_at_call 66; refine (r31Power_any _ (by omega) (by omega) x0 (by omega) UY.out HM.out).mono ?_; rintro e w8 ⟨rfl, hb8⟩)
        replace F_g := Lib.hid (F_g.out.keep hb8)
        replace HBW := Lib.hid (HBW.out.trans (hb8.mono HBW.out.size))
        replace HBV := Lib.hid (HBV.out.trans (hb8.mono HBV.out.size))
        replace hS := And.intro F_g.out.s (And.intro ((HBV.out.cell (p := ⟨s, o + k, none⟩) hsl).trans HEC.out) ((HBW.out.cell (p := ⟨s2, o2 + k, none⟩) hsl2).trans HEX.out))
        clear hb8
        refine hK.out _ _ (fun _ => hS) ?_
        clear hK K
        try simp only [Act.put, List.setIfInBounds_toArray, List.set_cons_zero, List.set_cons_succ]
        refine wpAnyB_takeP (i := 11) (some 41) (Op.binOp BinOp.mul 22 (Operand.tmp 30) (Operand.tmp 40) 22) 22 (v := ?_) ⟨_, rfl, rfl, rfl, rfl, rfl⟩ (by kernel_rfl) (by kernel_rfl) (by kernel_rfl) (by kernel_rfl) (fun _ _ _ h => h) (fun _ => hS) (fun w' => ?_) ?_
        rotate_left
        · unfold bareOp
          go_simp
          try with_reducible rfl
        simp only [Act.put, List.setIfInBounds_toArray, List.set_cons_zero, List.set_cons_succ]
        refine wpAnyB_takeP (i := 14) (some 44) (Op.binOp BinOp.rem 22 (Operand.tmp 41) (Operand.tmp 43) 22) 22 (v := ?_) ⟨_, rfl, rfl, rfl, rfl, rfl⟩ (by kernel_rfl) (by kernel_rfl) (by kernel_rfl) (by kernel_rfl) (fun _ _ _ h => h) (fun _ => hS) (fun w' => ?_) ?_
        rotate_left
        · unfold bareOp
          go_simp
          try with_reducible rfl
        simp only [Act.put, List.setIfInBounds_toArray, List.set_cons_zero, List.set_cons_succ]
        refine wpAnyB_only (i := 15) (some 10) (Op.assign (Operand.tmp 44)) 22 ⟨_, rfl, rfl, rfl, rfl, rfl⟩ (by kernel_rfl) (fun K hK => ?_)
        unfold bareOp
        go_wp2_with fail
        refine hK.out _ _ (fun h => absurd (h.symm.trans (by kernel_rfl : _ = true)) (by decide)) ?_
        clear hK K
        try simp only [Act.put, List.setIfInBounds_toArray, List.set_cons_zero, List.set_cons_succ]
        refine wpAnyB_done (by kernel_rfl) ?_ _
        go_wp2_with fail
        go_roundw
        case rel => exact ⟨k + 1, by omega, by go_num, _, rfl, (by first | (rw [← HT.out, ← HM.out, ← HY.out, ← HXX.out, HA.out]; rfl) | (rw [← HM.out, ← HY.out, ← HXX.out, HA.out]; rfl)), F_g.out, HBW.out, HBV.out⟩
        case measure => simp [intOf]; omega
end Go.Proofs.Ytjfaaicbojnpaaa
