/- The code of a vote: both sides. -/
import Derived.Test.YtlbldpkgnonbpaaDoorByD
namespace Go.Proofs.YtlbldpkgnonbpaaDoor
open Go Go.RowKit Num Sha
set_option linter.unusedSimpArgs false
set_option linter.unusedVariables false

def zero32 : List Int := List.replicate 32 0
/-- The code of a vote, and the error. -/
def codeF (V : Vt) : Int × List Int := if 10 < V.n ∨ 10 < V.m then (4, zero32) else (0, shaS V.bytes)
theorem bytes_len {w : World} {V : Vt} (h : VtIn w V) (hn : V.n ≤ 10) (hm : V.m ≤ 10) : V.bytes.length ≤ 8000 ∧ 3 ≤ V.bytes.length := by
  have h1 := h.h1.len
  have h2 := h.h2.len
  have h3 := nums_len V.pts
  have h4 : V.pts.length = V.n + V.m + 1 := by simp [Vt.pts]; omega
  rw [Vt.bytes, List.length_append, flat8_len]
  have h5 : V.nums.length ≤ 8 * (V.n + V.m + 1) := by rw [← h4]; exact h3
  have h6 : [(V.n : Int), (V.m : Int), if V.one then 1 else 0].length = 3 := rfl
  omega
theorem bytes_ok {w : World} {V : Vt} (h : VtIn w V) (hn : V.n ≤ 10) (hm : V.m ≤ 10) : ByteL V.bytes := by
  intro x hx
  rcases List.mem_append.1 hx with hx | hx
  · simp at hx
    rcases hx with rfl | rfl | rfl
    · omega
    · omega
    · split <;> omega
  · exact flat8_bytes _ x hx

set_option maxRecDepth 100000 in
set_option maxHeartbeats 8000000 in
theorem bCode_any {V : Vt} {er : Int} {cs : List Int} (w : World) (hT : Tabs w) (hV : VtIn w V) (hr : codeF V = (er, cs)) :
    Calls Tryd.prog 12 #[V.v] w fun e w' => e = .returned (.tuple #[.agg (valV .u8 cs), .int .i64 er]) ∧ Below w.heap.size w w' := by
  have hbu : ∀ w : World, (Instr.build 37 #[]).run Tryd.prog w = .ok (.agg (valV .u8 zero32)) w := fun w => by kernel_rfl
  have HT := Lib.hid hT
  have HV := Lib.hid hV
  have HR := Lib.hid hr
  have F_v := Lib.hid (VBox.at w V 29 w.heap.size rfl)
  have HBW := Lib.hid (show Below w.heap.size w (w.alloc (.cells #[.slice V.a V.n V.c, .slice V.b V.m V.d, .bool V.one, .int .u64 V.z.r0, .int .u64 V.z.r1, .int .u64 V.z.s0, .int .u64 V.z.s1, .int .u64 V.z.c0, .int .u64 V.z.c1, .int .u64 V.z.z0, .int .u64 V.z.z1] 29)) from (Below.refl _ _).alloc (Nat.le_refl _) _)
  clear hT hV hr
  have hvv : V.v = .agg #[.slice V.a V.n V.c, .slice V.b V.m V.d, .bool V.one, .int .u64 V.z.r0, .int .u64 V.z.r1, .int .u64 V.z.s0, .int .u64 V.z.s1, .int .u64 V.z.c0, .int .u64 V.z.c1, .int .u64 V.z.z0, .int .u64 V.z.z1] := rfl
  rw [hvv]
  go_enter Tryd.func12, Tryd.ntmps12
  go_wp2_with (first
    | (refine wpL_allocArr rfl 37 .u8 32 rfl (by kernel_rfl) ?_; intro w1 h1; have F_o := Lib.hid h1.arr; have HB1 := Lib.hid (h1.below _ (Nat.le_refl _)); clear h1; simp only [Act.put, List.setIfInBounds_toArray, List.set_cons_zero, List.set_cons_succ]; replace F_v := Lib.hid (F_v.out.keep HB1.out); replace HBW := Lib.hid (HBW.out.trans (HB1.out.mono (by simp))); obtain ⟨-, v0, v1, v2, v3, v4, v5, v6, v7, v8, v9, v10, vf⟩ := id F_v.out))
  obtain ⟨Bo, hBo⟩ : ∃ Bo, (w.alloc (.cells #[.slice V.a V.n V.c, .slice V.b V.m V.d, .bool V.one, .int .u64 V.z.r0, .int .u64 V.z.r1, .int .u64 V.z.s0, .int .u64 V.z.s1, .int .u64 V.z.c0, .int .u64 V.z.c1, .int .u64 V.z.z0, .int .u64 V.z.z1] 29)).heap.size = Bo := ⟨_, rfl⟩
  have hB1 : w.heap.size ≤ Bo := by rw [← hBo]; simp
  rw [hBo] at F_o ⊢
  clear v0 v1 v2 v3 v4 v5 v6 v7 v8 v9 v10 vf hBo
  by_cases hc : 10 < V.n ∨ 10 < V.m
  case pos =>
    have hr := HR.out
    rw [codeF, if_pos hc] at hr
    cases hr
    refine (bBytes_any _ (HV.out.keep HBW.out) (show bytesF V = (4, []) from if_pos hc)).mono ?_
    rintro e w2 ⟨v, rfl, -, hb2⟩
    replace F_o := Lib.hid (F_o.out.keep hb2)
    replace HBW := Lib.hid (HBW.out.trans (hb2.mono HBW.out.size))
    clear hb2
    go_wp2_with (refine wpL_storeArr rfl 37 .u8 _ _ Bo zero32 _ rfl rfl rfl rfl (by kernel_rfl) F_o.out rfl ?_; intro w9 h9; have H9 := Lib.hid h9; clear h9)
    refine bodyPost_ret (res_arr2 .u8 Bo 0 zero32 32 5 rfl Tryd.underlying37 (by kernel_rfl) _ rfl rfl H9.out.row) rfl ?_
    exact ⟨rfl, HBW.out.trans (H9.out.below _ hB1)⟩
  case neg =>
    have hr := HR.out
    rw [codeF, if_neg hc] at hr
    obtain ⟨rfl, rfl⟩ := Prod.mk.inj hr
    clear hr
    refine (bBytes_any _ (HV.out.keep HBW.out) (show bytesF V = (0, V.bytes) from if_neg hc)).mono ?_
    rintro e w2 ⟨v, rfl, ho2, hb2⟩
    obtain ⟨hbl, hb3⟩ := bytes_len HV.out (by omega) (by omega)
    have HBY := Lib.hid (bytes_ok HV.out (by omega) (by omega))
    obtain ⟨g, c2, rfl, hsh⟩ := ho2.shs (by omega)
    have HS2 := Lib.hid hsh
    replace F_o := Lib.hid (F_o.out.keep hb2)
    replace HBW := Lib.hid (HBW.out.trans (hb2.mono HBW.out.size))
    obtain ⟨nl, hnl⟩ : ∃ nl, V.bytes.length = nl := ⟨_, rfl⟩
    rw [hnl] at HS2 hbl ⊢
    clear hb2 ho2 hsh hnl hb3
    go_wp2_with (first
      | (go_at_call 32; refine (dSum_any _ (HT.out.below HBW.out) HS2.out (by omega) HBY.out).mono ?_; rintro e w3 ⟨rfl, hb3⟩; replace F_o := Lib.hid (F_o.out.keep hb3); replace HBW := Lib.hid (HBW.out.trans (hb3.mono HBW.out.size)); clear hb3)
      | (refine wpL_storeArr rfl 37 .u8 _ _ Bo (shaS V.bytes) _ rfl rfl rfl rfl (by kernel_rfl) F_o.out rfl ?_; intro w9 h9; have H9 := Lib.hid h9; clear h9))
    refine bodyPost_ret (res_arr2 .u8 Bo 0 (shaS V.bytes) 32 5 rfl Tryd.underlying37 (by kernel_rfl) _ rfl rfl H9.out.row) rfl ?_
    exact ⟨rfl, HBW.out.trans (H9.out.below _ hB1)⟩

set_option maxRecDepth 100000 in
set_option maxHeartbeats 8000000 in
theorem rCode_any {V : Vt} {er : Int} {cs : List Int} (w : World) (hT : Tabs w) (hV : VtIn w V) (hr : codeF V = (er, cs)) :
    Calls Tryd.prog 13 #[V.v] w fun e w' => e = .returned (.tuple #[.agg (valV .u8 cs), .int .i64 er]) ∧ Below w.heap.size w w' := by
  have hbu : ∀ w : World, (Instr.build 37 #[]).run Tryd.prog w = .ok (.agg (valV .u8 zero32)) w := fun w => by kernel_rfl
  have HT := Lib.hid hT
  have HV := Lib.hid hV
  have HR := Lib.hid hr
  have F_v := Lib.hid (VBox.at w V 29 w.heap.size rfl)
  have HBW := Lib.hid (show Below w.heap.size w (w.alloc (.cells #[.slice V.a V.n V.c, .slice V.b V.m V.d, .bool V.one, .int .u64 V.z.r0, .int .u64 V.z.r1, .int .u64 V.z.s0, .int .u64 V.z.s1, .int .u64 V.z.c0, .int .u64 V.z.c1, .int .u64 V.z.z0, .int .u64 V.z.z1] 29)) from (Below.refl _ _).alloc (Nat.le_refl _) _)
  clear hT hV hr
  have hvv : V.v = .agg #[.slice V.a V.n V.c, .slice V.b V.m V.d, .bool V.one, .int .u64 V.z.r0, .int .u64 V.z.r1, .int .u64 V.z.s0, .int .u64 V.z.s1, .int .u64 V.z.c0, .int .u64 V.z.c1, .int .u64 V.z.z0, .int .u64 V.z.z1] := rfl
  rw [hvv]
  go_enter Tryd.func13, Tryd.ntmps13
  go_wp2_with (first
    | (refine wpL_allocArr rfl 37 .u8 32 rfl (by kernel_rfl) ?_; intro w1 h1; have F_o := Lib.hid h1.arr; have HB1 := Lib.hid (h1.below _ (Nat.le_refl _)); clear h1; simp only [Act.put, List.setIfInBounds_toArray, List.set_cons_zero, List.set_cons_succ]; replace F_v := Lib.hid (F_v.out.keep HB1.out); replace HBW := Lib.hid (HBW.out.trans (HB1.out.mono (by simp))); obtain ⟨-, v0, v1, v2, v3, v4, v5, v6, v7, v8, v9, v10, vf⟩ := id F_v.out))
  obtain ⟨Bo, hBo⟩ : ∃ Bo, (w.alloc (.cells #[.slice V.a V.n V.c, .slice V.b V.m V.d, .bool V.one, .int .u64 V.z.r0, .int .u64 V.z.r1, .int .u64 V.z.s0, .int .u64 V.z.s1, .int .u64 V.z.c0, .int .u64 V.z.c1, .int .u64 V.z.z0, .int .u64 V.z.z1] 29)).heap.size = Bo := ⟨_, rfl⟩
  have hB1 : w.heap.size ≤ Bo := by rw [← hBo]; simp
  rw [hBo] at F_o ⊢
  clear v0 v1 v2 v3 v4 v5 v6 v7 v8 v9 v10 vf hBo
  by_cases hc : 10 < V.n ∨ 10 < V.m
  case pos =>
    have hr := HR.out
    rw [codeF, if_pos hc] at hr
    cases hr
    refine (rBytes36_any _ (HV.out.keep HBW.out) (show bytesF V = (4, []) from if_pos hc)).mono ?_
    rintro e w2 ⟨v, rfl, -, hb2⟩
    replace F_o := Lib.hid (F_o.out.keep hb2)
    replace HBW := Lib.hid (HBW.out.trans (hb2.mono HBW.out.size))
    clear hb2
    go_wp2_with (refine wpL_storeArr rfl 37 .u8 _ _ Bo zero32 _ rfl rfl rfl rfl (by kernel_rfl) F_o.out rfl ?_; intro w9 h9; have H9 := Lib.hid h9; clear h9)
    refine bodyPost_ret (res_arr2 .u8 Bo 0 zero32 32 5 rfl Tryd.underlying37 (by kernel_rfl) _ rfl rfl H9.out.row) rfl ?_
    exact ⟨rfl, HBW.out.trans (H9.out.below _ hB1)⟩
  case neg =>
    have hr := HR.out
    rw [codeF, if_neg hc] at hr
    obtain ⟨rfl, rfl⟩ := Prod.mk.inj hr
    clear hr
    refine (rBytes36_any _ (HV.out.keep HBW.out) (show bytesF V = (0, V.bytes) from if_neg hc)).mono ?_
    rintro e w2 ⟨v, rfl, ho2, hb2⟩
    obtain ⟨hbl, hb3⟩ := bytes_len HV.out (by omega) (by omega)
    have HBY := Lib.hid (bytes_ok HV.out (by omega) (by omega))
    obtain ⟨g, c2, rfl, hsh⟩ := ho2.shs (by omega)
    have HS2 := Lib.hid hsh
    replace F_o := Lib.hid (F_o.out.keep hb2)
    replace HBW := Lib.hid (HBW.out.trans (hb2.mono HBW.out.size))
    obtain ⟨nl, hnl⟩ : ∃ nl, V.bytes.length = nl := ⟨_, rfl⟩
    rw [hnl] at HS2 hbl ⊢
    clear hb2 ho2 hsh hnl hb3
    go_wp2_with (first
      | (go_at_call 33; refine (rOf5_any _ HS2.out (by omega) HBY.out).mono ?_; rintro e w3 ⟨rfl, hb3⟩; replace F_o := Lib.hid (F_o.out.keep hb3); replace HBW := Lib.hid (HBW.out.trans (hb3.mono HBW.out.size)); clear hb3)
      | (refine wpL_storeArr rfl 37 .u8 _ _ Bo (shaS V.bytes) _ rfl rfl rfl rfl (by kernel_rfl) F_o.out rfl ?_; intro w9 h9; have H9 := Lib.hid h9; clear h9))
    refine bodyPost_ret (res_arr2 .u8 Bo 0 (shaS V.bytes) 32 5 rfl Tryd.underlying37 (by kernel_rfl) _ rfl rfl H9.out.row) rfl ?_
    exact ⟨rfl, HBW.out.trans (H9.out.below _ hB1)⟩
end Go.Proofs.YtlbldpkgnonbpaaDoor
