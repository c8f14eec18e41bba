/- The bytes of a vote: the reference's. -/
import Derived.Test.YtlbldpkgnonbpaaDoorByC
namespace Go.Proofs.YtlbldpkgnonbpaaDoor
open Go Go.RowKit Num Sha
set_option linter.unusedSimpArgs false
set_option linter.unusedVariables false

/-- Numbers that the call itself laid. -/
def OwnU8 (w : World) (n₀ : Nat) (v : Value) (xs : List Int) : Prop := w.ownsRow n₀ 24 1 v xs.length (xs.map (Value.int .u64))
theorem OwnU8.keep {w w' : World} {n₀ : Nat} {v : Value} {xs : List Int} (h : OwnU8 w n₀ v xs) (hb : Below w.heap.size w w') : OwnU8 w' n₀ v xs := owns_below2 h hb
theorem OwnU8.nil (w : World) (n₀ : Nat) : OwnU8 w n₀ (.slice none 0 0) [] := World.ownsRow_nil _ _ _ _
theorem OwnU8.sl {w : World} {n₀ : Nat} {v : Value} {xs : List Int} (h : OwnU8 w n₀ v xs) : ∃ a c, v = .slice a xs.length c := by
  rcases h.2 with ⟨rfl, h0⟩ | ⟨g, cap, cur, rfl, _⟩
  · exact ⟨none, 0, by rw [h0]⟩
  · exact ⟨_, _, rfl⟩
theorem OwnU8.at {w : World} {n₀ n k : Nat} {a : Option Addr} {c : Nat} {xs : List Int} (h : OwnU8 w n₀ (.slice a n c) xs) (hn : n = xs.length) (hk : k < n) : ∃ g, a = some ⟨g, 0, none⟩ ∧ w.cell? ⟨g, k, none⟩ = some (.int .u64 (xs.getD k 0)) := by
  subst hn
  rcases h.2 with ⟨h1, h0⟩ | ⟨g, cap, cur, h1, _⟩
  · omega
  · injection h1 with e1 e2 e3
    subst e1 e3
    refine ⟨g, rfl, ?_⟩
    rw [World.ownsRow.cellAt h k (by omega), List.getElem?_map, List.getElem?_eq_getElem hk, List.getD_eq_getElem?_getD, List.getElem?_eq_getElem hk]; rfl
/-- Numbers appended, as a builtin does it. -/
theorem wp_push_u {w : World} {o : Oper} {a : Act} {K : Act → World → Prop} {Q : Exit → Act → World → Prop} (s x : Operand) (ho : o.op = .call { callee := .builtin .append, args := #[s, x], argTypes := #[55, 55] })
    (base b m : Nat) (v : Value) (xs ys : List Int) (hs : a.eval s = v) (hx : a.eval x = .slice (some ⟨b, 0, none⟩) m m) (hown : OwnU8 w base v xs) (hm : ys.length = m) (hc : ∀ j u, (ys.map (Value.int .u64))[j]? = some u → w.cell? ((⟨b, 0, none⟩ : Addr).add j) = some u) (hn : xs.length + m ≤ 1000000) (hb : base ≤ w.heap.size)
    (h : ∀ v' w', OwnU8 w' base v' (xs ++ ys) → w.grownBy w' v.ownBlock → K (a.put o.dst v') w') : o.wp Tryd.prog a w K Q := by
  obtain ⟨i0, hi, hz0, hz1, hz2⟩ := info_parts (P := Tryd.prog) (e := 24) (z := .int .u64 0) (size := 1) (bytes := 8) (by kernel_rfl)
  refine wp_append_own w s x 55 ho base 24 i0 _ 1 8 Tryd.underlying55 hi hz0 hz1 hz2 rfl (by decide) v xs.length _ hs hown ⟨b, 0, none⟩ m m (ys.map (Value.int .u64)) hx (by simp [hm]) hc (fun u hu => by obtain ⟨y, -, rfl⟩ := List.mem_map.1 hu; rfl) (by unfold maxLen; omega) (by omega) hb (fun v' w' h1 h2 _ => h v' w' ?_ h2)
  unfold OwnU8
  rw [List.length_append, hm, List.map_append]; exact h1
theorem wpL_push_u {w : World} {ops : Array Oper} {rest : List Oper} {o : Oper} {a : Act} {Q : Exit → Act → World → Prop} (hg : o.guard = none) (s x : Operand) (ho : o.op = .call { callee := .builtin .append, args := #[s, x], argTypes := #[55, 55] })
    (base b m : Nat) (v : Value) (xs ys : List Int) (hs : a.eval s = v) (hx : a.eval x = .slice (some ⟨b, 0, none⟩) m m) (hown : OwnU8 w base v xs) (hm : ys.length = m) (hc : ∀ j u, (ys.map (Value.int .u64))[j]? = some u → w.cell? ((⟨b, 0, none⟩ : Addr).add j) = some u) (hn : xs.length + m ≤ 1000000) (hb : base ≤ w.heap.size)
    (h : ∀ v' w', OwnU8 w' base v' (xs ++ ys) → w.grownBy w' v.ownBlock → wpList Tryd.prog ops Q rest (a.put o.dst v') w') : wpList Tryd.prog ops Q (o :: rest) a w :=
  wpList_plain hg fun K hK => wp_push_u s x ho base b m v xs ys hs hx hown hm hc hn hb fun v' w' h1 h2 => hK _ _ (h v' w' h1 h2)

set_option maxRecDepth 100000 in
set_option maxHeartbeats 8000000 in
theorem rnums_any {z : Bt} (w : World) :
    Calls Tryd.prog 58 #[.agg #[.int .u64 z.r0, .int .u64 z.r1, .int .u64 z.s0, .int .u64 z.s1, .int .u64 z.c0, .int .u64 z.c1, .int .u64 z.z0, .int .u64 z.z1]] w fun e w' => ∃ s, e = .returned (.slice (some ⟨s, 0, none⟩) 8 8) ∧ OwnQ w' w.heap.size s 8 [z.r0, z.s0, z.r1, z.s1, z.c0, z.c1, z.z0, z.z1] ∧ Below w.heap.size w w' := by
  have F_s := Lib.hid (show BBox (w.alloc (.cells #[.int .u64 z.r0, .int .u64 z.r1, .int .u64 z.s0, .int .u64 z.s1, .int .u64 z.c0, .int .u64 z.c1, .int .u64 z.z0, .int .u64 z.z1] 27)) w.heap.size z from BBox.at _ z _ w.heap.size rfl)
  have HBW := Lib.hid (show Below w.heap.size w (w.alloc (.cells #[.int .u64 z.r0, .int .u64 z.r1, .int .u64 z.s0, .int .u64 z.s1, .int .u64 z.c0, .int .u64 z.c1, .int .u64 z.z0, .int .u64 z.z1] 27)) from (Below.refl _ _).alloc (Nat.le_refl _) _)
  obtain ⟨-, b0, b1, b2, b3, b4, b5, b6, b7⟩ := id F_s.out
  go_enter Tryd.func58, Tryd.ntmps58
  go_wp2_with fail
  go_ret
  exact ⟨_, rfl, OwnQ.lit _ [z.r0, z.s0, z.r1, z.s1, z.c0, z.c1, z.z0, z.z1] _ _ (by simp) (by simp) (by simp), HBW.out.alloc HBW.out.size _⟩

set_option maxRecDepth 100000 in
set_option maxHeartbeats 8000000 in
theorem r36Of_any {V : Vt} (w : World) (hV : VtIn w V) (hn : V.n ≤ 10) (hm : V.m ≤ 10) :
    Calls Tryd.prog 31 #[V.v] w fun e w' => ∃ v, e = .returned v ∧ OwnB w' w.heap.size v V.bytes ∧ Below w.heap.size w w' := by
  have F_v := Lib.hid (VBox.at w V 29 w.heap.size rfl)
  have HBW := Lib.hid (show Below w.heap.size w (w.alloc (.cells #[.slice V.a V.n V.c, .slice V.b V.m V.d, .bool V.one, .int .u64 V.z.r0, .int .u64 V.z.r1, .int .u64 V.z.s0, .int .u64 V.z.s1, .int .u64 V.z.c0, .int .u64 V.z.c1, .int .u64 V.z.z0, .int .u64 V.z.z1] 29)) from (Below.refl _ _).alloc (Nat.le_refl _) _)
  have HV := Lib.hid hV
  have H1 := Lib.hid hV.h1.len
  have H2 := Lib.hid hV.h2.len
  have n8 : IntKind.u8.wrap (V.n : Int) = (V.n : Int) := by rw [IntKind.wrap_u8]; omega
  have m8 : IntKind.u8.wrap (V.m : Int) = (V.m : Int) := by rw [IntKind.wrap_u8]; omega
  clear hV
  obtain ⟨-, v0, v1, v2, v3, v4, v5, v6, v7, v8, v9, v10, vf⟩ := id F_v.out
  cases ho : V.one with
  | true =>
    unfold Vt.v
    rw [ho] at v2 F_v HBW
    go_enter Tryd.func31, Tryd.ntmps31
    rw [ho]
    go_wp2_with fail
    clear v0 v1 v2 v3 v4 v5 v6 v7 v8 v9 v10 vf
    have HO := Lib.hid (show OwnB ((w.alloc (.cells #[.slice V.a V.n V.c, .slice V.b V.m V.d, .bool true, .int .u64 V.z.r0, .int .u64 V.z.r1, .int .u64 V.z.s0, .int .u64 V.z.s1, .int .u64 V.z.c0, .int .u64 V.z.c1, .int .u64 V.z.z0, .int .u64 V.z.z1] 29)).alloc (.cells #[.int .u8 (V.n : Int), .int .u8 (V.m : Int), .int .u8 1] 5)) (w.heap.size + 1) (.slice (some ⟨w.heap.size + 1, 0, none⟩) 3 3) [(V.n : Int), (V.m : Int), 1] from by
      have := World.ownsRow_lit (base := w.heap.size + 1) (e := 5) (size := 1) (w.alloc (.cells #[.slice V.a V.n V.c, .slice V.b V.m V.d, .bool true, .int .u64 V.z.r0, .int .u64 V.z.r1, .int .u64 V.z.s0, .int .u64 V.z.s1, .int .u64 V.z.c0, .int .u64 V.z.c1, .int .u64 V.z.z0, .int .u64 V.z.z1] 29)) #[.int .u8 (V.n : Int), .int .u8 (V.m : Int), .int .u8 1] 3 (by simp) (by decide) rfl
      simpa [OwnB] using this)
    replace F_v := Lib.hid (F_v.out.alloc (.cells #[.int .u8 (V.n : Int), .int .u8 (V.m : Int), .int .u8 1] 5))
    replace HBW := Lib.hid (HBW.out.alloc HBW.out.size (.cells #[.int .u8 (V.n : Int), .int .u8 (V.m : Int), .int .u8 1] 5))
    go_loopw [4, 5] (fun c4 c5 wr => ∃ i : Nat, i ≤ V.n ∧ c5 = .int .i64 i ∧ Hid (OwnU8 wr (w.heap.size + 1) c4 (((V.bs.take i).map boxP).flatMap Pt.ns)) ∧ Hid (OwnB wr (w.heap.size + 1) (.slice (some ⟨w.heap.size + 1, 0, none⟩) 3 3) [(V.n : Int), (V.m : Int), 1]) ∧ Hid (VBox wr w.heap.size V) ∧ Hid (Below w.heap.size w wr)) (fun _ c5 _ => V.n - (intOf c5).toNat)
    case atStart => exact ⟨0, Nat.zero_le _, rfl, OwnU8.nil _ _, HO.out, F_v.out, HBW.out⟩
    case round =>
      clear HO F_v HBW
      obtain ⟨i, hi1, rfl, HU, HO, F_v, HBW⟩ := hrel
      have hi0 : (0 : Int) ≤ (i : Int) := by omega
      have hzv := F_v.out.lt
      obtain ⟨-, v0, v1, v2, v3, v4, v5, v6, v7, v8, v9, v10, vf⟩ := id F_v.out
      by_cases hlt : i < V.n
      case pos =>
        have hi2 : (i : Int) < (V.n : Int) := by omega
        have hwi : IntKind.i64.wrap ((i : Int) + 1) = (i : Int) + 1 := IntWalk.i64_in _ (by omega)
        have cS : Tryd.prog.cellsOf 78 = 2 := by kernel_rfl
        obtain ⟨s, o, hsa, hsl, b0, b1⟩ := (HV.out.h1.keep HBW.out).at i hlt
        obtain ⟨x, y, hxy⟩ : ∃ x y, V.bs.getD i (0, 0) = (x, y) := ⟨_, _, rfl⟩
        rw [hxy] at b0 b1
        simp only at b0 b1
        have HST := Lib.hid (show ((V.bs.take (i + 1)).map boxP).flatMap Pt.ns = ((V.bs.take i).map boxP).flatMap Pt.ns ++ [x, y] by
          have hl : i < V.bs.length := by have := H1.out; omega
          rw [List.take_succ_eq_append_getElem hl, List.map_append, List.flatMap_append]
          have e : V.bs[i] = (x, y) := by rw [← hxy, List.getD_eq_getElem?_getD, List.getElem?_eq_getElem hl]; rfl
          rw [e]; rfl)
        have HLN := Lib.hid (show (((V.bs.take i).map boxP).flatMap Pt.ns).length ≤ 200 by
          have := nums_len ((V.bs.take i).map boxP)
          rw [List.length_map, List.length_take] at this
          omega)
        obtain ⟨xs, hxs⟩ : ∃ xs, ((V.bs.take i).map boxP).flatMap Pt.ns = xs := ⟨_, rfl⟩
        rw [hxs] at HU HST HLN
        rw [hsa] at v0
        clear hxy hxs hsa
        go_wp2_with fail
        have HWW := Lib.hid (show Below wr.heap.size wr ((wr.alloc (.cells #[.int .u64 x, .int .u64 y] 24)).drew) from ((Below.refl wr.heap.size wr).alloc (Nat.le_refl _) _).drew)
        have HUW := Lib.hid (HU.out.keep HWW.out)
        have HOW := Lib.hid (HO.out.keep HWW.out)
        have HCW := Lib.hid (show ∀ j u, ([x, y].map (Value.int .u64))[j]? = some u → ((wr.alloc (.cells #[.int .u64 x, .int .u64 y] 24)).drew).cell? ((⟨wr.heap.size, 0, none⟩ : Addr).add j) = some u from fun j u h => cell_list_at wr _ _ _ rfl j u h)
        go_region_law (first
          | (refine wanted_wp rfl (wp_push_u (.tmp 28) (.tmp 41) rfl (w.heap.size + 1) wr.heap.size 2 u4 xs [x, y] ?jjv ?jjx HUW.out rfl HCW.out ?jjm ?jjb ?_)
             case jjv => kernel_rfl
             case jjx => kernel_rfl
             case jjm => have := HLN.out; omega
             case jjb => have := HWW.out.size; omega
             intro v9 w9 hown hgr
             have HU9 := Lib.hid hown
             have HO9 := Lib.hid (show OwnB w9 (w.heap.size + 1) (.slice (some ⟨w.heap.size + 1, 0, none⟩) 3 3) [(V.n : Int), (V.m : Int), 1] from World.ownsRow.kept HOW.out hgr (own_diffN HUW.out HOW.out (by decide)))
             have HK9 := Lib.hid ((HWW.out.mono (by omega)).trans (Below.rowT (n := w.heap.size + 1) hgr (fun k hk => (World.ownsRow.lt HU.out k hk).1) (by have := HWW.out.size; omega)))
             clear hown hgr))
        all_goals (go_wp2_with fail; go_roundw)
        all_goals first | (case rel => exact ⟨i + 1, by omega, by go_num, (by rw [HST.out]; exact HU9.out), HO9.out, F_v.out.keepN HK9.out (by omega), HBW.out.trans (HK9.out.mono (by omega))⟩) | (case measure => simp [intOf] <;> omega) | skip
      case neg =>
        have d3 : decide ((i : Int) < (V.n : Int)) = false := by simp; omega
        have HU1 := Lib.hid (show OwnU8 wr (w.heap.size + 1) _ ((V.bs.map boxP).flatMap Pt.ns) by have h := HU.out; rwa [List.take_of_length_le (by have := H1.out; omega)] at h)
        clear HU
        go_wp2_with fail
        clear d3 v0 v1 v2 v3 v4 v5 v6 v7 v8 v9 v10 vf
        go_loopw [4, 6] (fun c4 c6 wr => ∃ j : Nat, j ≤ V.m ∧ c6 = .int .i64 j ∧ Hid (OwnU8 wr (w.heap.size + 1) c4 ((V.bs.map boxP ++ (V.ps.take j).map Pt.bit).flatMap Pt.ns)) ∧ Hid (OwnB wr (w.heap.size + 1) (.slice (some ⟨w.heap.size + 1, 0, none⟩) 3 3) [(V.n : Int), (V.m : Int), 1]) ∧ Hid (VBox wr w.heap.size V) ∧ Hid (Below w.heap.size w wr)) (fun _ c6 _ => V.m - (intOf c6).toNat)
        case atStart => exact ⟨0, Nat.zero_le _, rfl, (show OwnU8 _ _ _ ((V.bs.map boxP ++ (V.ps.take 0).map Pt.bit).flatMap Pt.ns) by simpa using HU1.out), HO.out, F_v.out, HBW.out⟩
        case round =>
          clear HO F_v HBW HU1
          obtain ⟨j, hj1, rfl, HU, HO, F_v, HBW⟩ := hrel
          have hj0 : (0 : Int) ≤ (j : Int) := by omega
          have hzw := F_v.out.lt
          obtain ⟨-, v0, v1, v2, v3, v4, v5, v6, v7, v8, v9, v10, vf⟩ := id F_v.out
          have HLN := Lib.hid (show ((V.bs.map boxP ++ (V.ps.take j).map Pt.bit).flatMap Pt.ns).length ≤ 200 by
            have := nums_len (V.bs.map boxP ++ (V.ps.take j).map Pt.bit)
            rw [List.length_append, List.length_map, List.length_map, List.length_take] at this
            have := H1.out
            omega)
          by_cases hjt : j < V.m
          case pos =>
            have hj2 : (j : Int) < (V.m : Int) := by omega
            have hwj : IntKind.i64.wrap ((j : Int) + 1) = (j : Int) + 1 := IntWalk.i64_in _ (by omega)
            have cB : Tryd.prog.cellsOf 27 = 8 := by kernel_rfl
            obtain ⟨s, o, z, hsa, hz_, hbc⟩ := (HV.out.h2.keep HBW.out).at j hjt
            obtain ⟨-, b0, b1, b2, b3, b4, b5, b6, b7⟩ := hbc
            have HST := Lib.hid (show (V.bs.map boxP ++ (V.ps.take (j + 1)).map Pt.bit).flatMap Pt.ns = (V.bs.map boxP ++ (V.ps.take j).map Pt.bit).flatMap Pt.ns ++ [z.r0, z.s0, z.r1, z.s1, z.c0, z.c1, z.z0, z.z1] by
              rw [List.take_add_one, hz_]; simp [Pt.ns])
            obtain ⟨xs, hxs⟩ : ∃ xs, (V.bs.map boxP ++ (V.ps.take j).map Pt.bit).flatMap Pt.ns = xs := ⟨_, rfl⟩
            rw [hxs] at HU HST HLN
            rw [hsa] at v1
            clear hz_ hxs hsa
            go_wp2_with (first
      | (go_simp
         go_at_call 58
         refine (rnums_any (z := z) _).mono ?_
         rintro e w7 ⟨s7, rfl, hs7, hb7⟩
         have HN7 := Lib.hid hs7
         have HU7 := Lib.hid (HU.out.keep hb7)
         have HO7 := Lib.hid (HO.out.keep hb7)
         have F7 := Lib.hid (F_v.out.keep hb7)
         have HB7 := Lib.hid (HBW.out.trans (hb7.mono HBW.out.size))
         clear hs7 hb7)
      | (at_builtin
         refine wpL_push_u rfl _ _ rfl (w.heap.size + 1) s7 8 _ xs [z.r0, z.s0, z.r1, z.s1, z.c0, z.c1, z.z0, z.z1] rfl rfl HU7.out rfl (fun j u hu => by rw [add_pl, Nat.zero_add, HN7.out.row.cellAt j (by have := (List.getElem?_eq_some_iff.1 hu).1; simpa using this)]; exact hu) (by have := HLN.out; omega) (by have := F7.out.lt; omega) ?_
         intro v9 w9 hown hgr
         have HU9 := Lib.hid hown
         have HO9 := Lib.hid (show OwnB w9 (w.heap.size + 1) _ _ from World.ownsRow.kept HO7.out hgr (own_diffN HU7.out HO7.out (by decide)))
         have HK9 := Lib.hid (Below.rowT (n := w.heap.size + 1) hgr (fun k hk => (World.ownsRow.lt HU7.out k hk).1) (by have := F7.out.lt; omega))
         clear hown hgr))
            go_wp2_with fail
            go_roundw
            case rel => exact ⟨j + 1, by omega, by go_num, (show OwnU8 _ _ _ ((V.bs.map boxP ++ (V.ps.take (j + 1)).map Pt.bit).flatMap Pt.ns) by rw [HST.out]; exact HU9.out), HO9.out, F7.out.keepN HK9.out (by omega), HB7.out.trans (HK9.out.mono (by omega))⟩
            case measure => simp [intOf] <;> omega
          case neg =>
            have d3 : decide ((j : Int) < (V.m : Int)) = false := by simp; omega
            have HST := Lib.hid (show V.nums = (V.bs.map boxP ++ (V.ps.take j).map Pt.bit).flatMap Pt.ns ++ [V.z.r0, V.z.s0, V.z.r1, V.z.s1, V.z.c0, V.z.c1, V.z.z0, V.z.z1] by
              rw [List.take_of_length_le (by have := H2.out; omega), Vt.nums, Vt.pts, List.map_append, ← List.append_assoc, List.flatMap_append]; simp [Pt.ns])
            obtain ⟨xs, hxs⟩ : ∃ xs, (V.bs.map boxP ++ (V.ps.take j).map Pt.bit).flatMap Pt.ns = xs := ⟨_, rfl⟩
            rw [hxs] at HU HST HLN
            clear hxs
            go_wp2_with (first
      | (go_simp
         go_at_call 58
         refine (rnums_any (z := V.z) _).mono ?_
         rintro e w7 ⟨s7, rfl, hs7, hb7⟩
         have HN7 := Lib.hid hs7
         have HU7 := Lib.hid (HU.out.keep hb7)
         have HO7 := Lib.hid (HO.out.keep hb7)
         have F7 := Lib.hid (F_v.out.keep hb7)
         have HB7 := Lib.hid (HBW.out.trans (hb7.mono HBW.out.size))
         clear hs7 hb7)
      | (at_builtin
         refine wpL_push_u rfl _ _ rfl (w.heap.size + 1) s7 8 _ xs [V.z.r0, V.z.s0, V.z.r1, V.z.s1, V.z.c0, V.z.c1, V.z.z0, V.z.z1] rfl rfl HU7.out rfl (fun j u hu => by rw [add_pl, Nat.zero_add, HN7.out.row.cellAt j (by have := (List.getElem?_eq_some_iff.1 hu).1; simpa using this)]; exact hu) (by have := HLN.out; omega) (by have := F7.out.lt; omega) ?_
         intro v9 w9 hown hgr
         have HU9 := Lib.hid hown
         have HO9 := Lib.hid (show OwnB w9 (w.heap.size + 1) _ _ from World.ownsRow.kept HO7.out hgr (own_diffN HU7.out HO7.out (by decide)))
         have HK9 := Lib.hid (Below.rowT (n := w.heap.size + 1) hgr (fun k hk => (World.ownsRow.lt HU7.out k hk).1) (by have := F7.out.lt; omega))
         clear hown hgr))
            have HU3 := Lib.hid (show OwnU8 w9 (w.heap.size + 1) _ V.nums by rw [HST.out]; exact HU9.out)
            have HLL := Lib.hid (show V.nums.length ≤ 300 by rw [HST.out, List.length_append]; have := HLN.out; simp; omega)
            replace F_v := Lib.hid (F7.out.keepN HK9.out (by omega))
            replace HBW := Lib.hid (HB7.out.trans (HK9.out.mono (by omega)))
            have HNP := Lib.hid (show 0 < V.nums.length by rw [HST.out, List.length_append]; simp)
            obtain ⟨aq, cq, rfl⟩ := HU3.out.sl
            obtain ⟨g, hag, -⟩ := HU3.out.at rfl HNP.out
            subst hag
            obtain ⟨nn, hnn⟩ : ∃ nn, V.nums.length = nn := ⟨_, rfl⟩
            have HNN := Lib.hid hnn
            rw [hnn] at HU3 HLL ⊢
            have HNU := Lib.hid (show ∀ x, x ∈ V.nums → U64 x from fun x hx => by
              obtain ⟨p, hp, hx⟩ := List.mem_flatMap.1 hx
              exact Pt.us (Vt.us HV.out p hp) x hx)
            have HBY := Lib.hid (show [(V.n : Int), (V.m : Int), 1] ++ flat8 V.nums = V.bytes by rw [Vt.bytes, ho]; rfl)
            clear hnn HU HU7 HO7 HU9 F7 HN7 HB7 HK9 F_v HST HLN d3 v0 v1 v2 v3 v4 v5 v6 v7 v8 v9 v10 vf hzw hzv
            go_loopw [3, 7] (fun c3 c7 wr => ∃ k : Nat, k ≤ nn ∧ c7 = .int .i64 k ∧ ∃ (a3 : Option Addr) (p3 : Nat), c3 = .slice a3 (3 + 8 * k) p3 ∧ Hid (OwnB wr (w.heap.size + 1) c3 ([(V.n : Int), (V.m : Int), 1] ++ flat8 (V.nums.take k))) ∧ Hid (OwnU8 wr (w.heap.size + 1) (.slice (some ⟨g, 0, none⟩) nn cq) V.nums) ∧ Hid (Below w.heap.size w wr)) (fun _ c7 _ => nn - (intOf c7).toNat)
            case atStart => exact ⟨0, Nat.zero_le _, rfl, _, 3, rfl, (show OwnB _ _ _ ([(V.n : Int), (V.m : Int), 1] ++ flat8 (V.nums.take 0)) by simpa [flat8] using HO9.out), HU3.out, HBW.out⟩
            case round =>
              clear HO9 HU3 HBW
              obtain ⟨k, hk, rfl, a3, p3, rfl, HO3, HU3, HBW⟩ := hrel
              have hk0 : (0 : Int) ≤ (k : Int) := by omega
              have hnl := HLL.out
              by_cases hkn : k < nn
              case pos =>
                have hk1 : (k : Int) < (nn : Int) := by omega
                have hwk : IntKind.i64.wrap ((k : Int) + 1) = (k : Int) + 1 := IntWalk.i64_in _ (by omega)
                obtain ⟨g', hg', hc⟩ := HU3.out.at HNN.out.symm hkn
                cases hg'
                obtain ⟨x, hx⟩ : ∃ x, V.nums.getD k 0 = x := ⟨_, rfl⟩
                have HUX := Lib.hid (show U64 x from HNU.out x (by rw [← hx, List.getD_eq_getElem?_getD, List.getElem?_eq_getElem (by have := HNN.out; omega)]; exact List.getElem_mem _))
                have HFL := Lib.hid (show flat8 (V.nums.take k) ++ be8 x = flat8 (V.nums.take (k + 1)) from flat8_snoc V.nums k (by have := HNN.out; omega) hx)
                obtain ⟨xs, hxs⟩ : ∃ xs, [(V.n : Int), (V.m : Int), 1] ++ flat8 (V.nums.take k) = xs := ⟨_, rfl⟩
                have HXL := Lib.hid (show xs.length = 3 + 8 * k by rw [← hxs, List.length_append, flat8_len, List.length_take, Nat.min_eq_left (by have := HNN.out; omega)]; rfl)
                have HXN := Lib.hid (show xs ++ be8 x = [(V.n : Int), (V.m : Int), 1] ++ flat8 (V.nums.take (k + 1)) by rw [← hxs, List.append_assoc, HFL.out])
                rw [hxs] at HO3
                rw [hx] at hc
                obtain ⟨a5, c5, e5, hs5⟩ := HO3.out.shi
                rw [HXL.out] at e5 hs5
                injection e5 with f1 f2 f3
                subst f1
                have HS5 := Lib.hid hs5
                clear hxs hx hs5 f2 f3
                go_wp2_with fail
                clear hc
                refine (rEight_any _ HS5.out HUX.out (by omega)).mono ?_
                rintro e w8 ⟨v8, rfl, ho8, hb8⟩
                obtain ⟨a8, c8, e8, -⟩ := ho8.shi
                rw [List.length_append, HXL.out, be8_len, show 3 + 8 * k + 8 = 3 + 8 * (k + 1) by omega] at e8
                subst e8
                have HO8 := Lib.hid (OwnB.mono ho8 (n₀ := w.heap.size + 1) (Nat.le_trans (Nat.succ_le_of_lt (by have := (World.ownsRow.lt HU3.out g rfl).1; have := (World.ownsRow.lt HU3.out g rfl).2; omega)) (Nat.le_refl _)))
                have HU8 := Lib.hid (HU3.out.keep hb8)
                have HB8 := Lib.hid (HBW.out.trans (hb8.mono HBW.out.size))
                clear ho8 hb8
                go_wp2_with fail
                go_roundw
                case rel => exact ⟨k + 1, by omega, by go_num, a8, c8, rfl, (show OwnB _ _ _ ([(V.n : Int), (V.m : Int), 1] ++ flat8 (V.nums.take (k + 1))) by rw [← HXN.out]; exact HO8.out), HU8.out, HB8.out⟩
                case measure => simp [intOf] <;> omega
              case neg =>
                have d3 : decide ((k : Int) < (nn : Int)) = false := by simp; omega
                have HZ := Lib.hid (show OwnB wr w.heap.size (.slice a3 (3 + 8 * k) p3) V.bytes by
                  have h := HO3.out
                  rw [List.take_of_length_le (by rw [HNN.out]; omega), HBY.out] at h
                  exact OwnB.mono h (by omega))
                go_wp2_with fail
                go_ret
                exact ⟨_, rfl, HZ.out, HBW.out⟩
  | false =>
    unfold Vt.v
    rw [ho] at v2 F_v HBW
    go_enter Tryd.func31, Tryd.ntmps31
    rw [ho]
    go_wp2_with fail
    clear v0 v1 v2 v3 v4 v5 v6 v7 v8 v9 v10 vf
    have HO := Lib.hid (show OwnB ((w.alloc (.cells #[.slice V.a V.n V.c, .slice V.b V.m V.d, .bool false, .int .u64 V.z.r0, .int .u64 V.z.r1, .int .u64 V.z.s0, .int .u64 V.z.s1, .int .u64 V.z.c0, .int .u64 V.z.c1, .int .u64 V.z.z0, .int .u64 V.z.z1] 29)).alloc (.cells #[.int .u8 (V.n : Int), .int .u8 (V.m : Int), .int .u8 0] 5)) (w.heap.size + 1) (.slice (some ⟨w.heap.size + 1, 0, none⟩) 3 3) [(V.n : Int), (V.m : Int), 0] from by
      have := World.ownsRow_lit (base := w.heap.size + 1) (e := 5) (size := 1) (w.alloc (.cells #[.slice V.a V.n V.c, .slice V.b V.m V.d, .bool false, .int .u64 V.z.r0, .int .u64 V.z.r1, .int .u64 V.z.s0, .int .u64 V.z.s1, .int .u64 V.z.c0, .int .u64 V.z.c1, .int .u64 V.z.z0, .int .u64 V.z.z1] 29)) #[.int .u8 (V.n : Int), .int .u8 (V.m : Int), .int .u8 0] 3 (by simp) (by decide) rfl
      simpa [OwnB] using this)
    replace F_v := Lib.hid (F_v.out.alloc (.cells #[.int .u8 (V.n : Int), .int .u8 (V.m : Int), .int .u8 0] 5))
    replace HBW := Lib.hid (HBW.out.alloc HBW.out.size (.cells #[.int .u8 (V.n : Int), .int .u8 (V.m : Int), .int .u8 0] 5))
    go_loopw [4, 5] (fun c4 c5 wr => ∃ i : Nat, i ≤ V.n ∧ c5 = .int .i64 i ∧ Hid (OwnU8 wr (w.heap.size + 1) c4 (((V.bs.take i).map boxP).flatMap Pt.ns)) ∧ Hid (OwnB wr (w.heap.size + 1) (.slice (some ⟨w.heap.size + 1, 0, none⟩) 3 3) [(V.n : Int), (V.m : Int), 0]) ∧ Hid (VBox wr w.heap.size V) ∧ Hid (Below w.heap.size w wr)) (fun _ c5 _ => V.n - (intOf c5).toNat)
    case atStart => exact ⟨0, Nat.zero_le _, rfl, OwnU8.nil _ _, HO.out, F_v.out, HBW.out⟩
    case round =>
      clear HO F_v HBW
      obtain ⟨i, hi1, rfl, HU, HO, F_v, HBW⟩ := hrel
      have hi0 : (0 : Int) ≤ (i : Int) := by omega
      have hzv := F_v.out.lt
      obtain ⟨-, v0, v1, v2, v3, v4, v5, v6, v7, v8, v9, v10, vf⟩ := id F_v.out
      by_cases hlt : i < V.n
      case pos =>
        have hi2 : (i : Int) < (V.n : Int) := by omega
        have hwi : IntKind.i64.wrap ((i : Int) + 1) = (i : Int) + 1 := IntWalk.i64_in _ (by omega)
        have cS : Tryd.prog.cellsOf 78 = 2 := by kernel_rfl
        obtain ⟨s, o, hsa, hsl, b0, b1⟩ := (HV.out.h1.keep HBW.out).at i hlt
        obtain ⟨x, y, hxy⟩ : ∃ x y, V.bs.getD i (0, 0) = (x, y) := ⟨_, _, rfl⟩
        rw [hxy] at b0 b1
        simp only at b0 b1
        have HST := Lib.hid (show ((V.bs.take (i + 1)).map boxP).flatMap Pt.ns = ((V.bs.take i).map boxP).flatMap Pt.ns ++ [x, y] by
          have hl : i < V.bs.length := by have := H1.out; omega
          rw [List.take_succ_eq_append_getElem hl, List.map_append, List.flatMap_append]
          have e : V.bs[i] = (x, y) := by rw [← hxy, List.getD_eq_getElem?_getD, List.getElem?_eq_getElem hl]; rfl
          rw [e]; rfl)
        have HLN := Lib.hid (show (((V.bs.take i).map boxP).flatMap Pt.ns).length ≤ 200 by
          have := nums_len ((V.bs.take i).map boxP)
          rw [List.length_map, List.length_take] at this
          omega)
        obtain ⟨xs, hxs⟩ : ∃ xs, ((V.bs.take i).map boxP).flatMap Pt.ns = xs := ⟨_, rfl⟩
        rw [hxs] at HU HST HLN
        rw [hsa] at v0
        clear hxy hxs hsa
        go_wp2_with fail
        have HWW := Lib.hid (show Below wr.heap.size wr ((wr.alloc (.cells #[.int .u64 x, .int .u64 y] 24)).drew) from ((Below.refl wr.heap.size wr).alloc (Nat.le_refl _) _).drew)
        have HUW := Lib.hid (HU.out.keep HWW.out)
        have HOW := Lib.hid (HO.out.keep HWW.out)
        have HCW := Lib.hid (show ∀ j u, ([x, y].map (Value.int .u64))[j]? = some u → ((wr.alloc (.cells #[.int .u64 x, .int .u64 y] 24)).drew).cell? ((⟨wr.heap.size, 0, none⟩ : Addr).add j) = some u from fun j u h => cell_list_at wr _ _ _ rfl j u h)
        go_region_law (first
          | (refine wanted_wp rfl (wp_push_u (.tmp 28) (.tmp 41) rfl (w.heap.size + 1) wr.heap.size 2 u4 xs [x, y] ?jjv ?jjx HUW.out rfl HCW.out ?jjm ?jjb ?_)
             case jjv => kernel_rfl
             case jjx => kernel_rfl
             case jjm => have := HLN.out; omega
             case jjb => have := HWW.out.size; omega
             intro v9 w9 hown hgr
             have HU9 := Lib.hid hown
             have HO9 := Lib.hid (show OwnB w9 (w.heap.size + 1) (.slice (some ⟨w.heap.size + 1, 0, none⟩) 3 3) [(V.n : Int), (V.m : Int), 0] from World.ownsRow.kept HOW.out hgr (own_diffN HUW.out HOW.out (by decide)))
             have HK9 := Lib.hid ((HWW.out.mono (by omega)).trans (Below.rowT (n := w.heap.size + 1) hgr (fun k hk => (World.ownsRow.lt HU.out k hk).1) (by have := HWW.out.size; omega)))
             clear hown hgr))
        all_goals (go_wp2_with fail; go_roundw)
        all_goals first | (case rel => exact ⟨i + 1, by omega, by go_num, (by rw [HST.out]; exact HU9.out), HO9.out, F_v.out.keepN HK9.out (by omega), HBW.out.trans (HK9.out.mono (by omega))⟩) | (case measure => simp [intOf] <;> omega) | skip
      case neg =>
        have d3 : decide ((i : Int) < (V.n : Int)) = false := by simp; omega
        have HU1 := Lib.hid (show OwnU8 wr (w.heap.size + 1) _ ((V.bs.map boxP).flatMap Pt.ns) by have h := HU.out; rwa [List.take_of_length_le (by have := H1.out; omega)] at h)
        clear HU
        go_wp2_with fail
        clear d3 v0 v1 v2 v3 v4 v5 v6 v7 v8 v9 v10 vf
        go_loopw [4, 6] (fun c4 c6 wr => ∃ j : Nat, j ≤ V.m ∧ c6 = .int .i64 j ∧ Hid (OwnU8 wr (w.heap.size + 1) c4 ((V.bs.map boxP ++ (V.ps.take j).map Pt.bit).flatMap Pt.ns)) ∧ Hid (OwnB wr (w.heap.size + 1) (.slice (some ⟨w.heap.size + 1, 0, none⟩) 3 3) [(V.n : Int), (V.m : Int), 0]) ∧ Hid (VBox wr w.heap.size V) ∧ Hid (Below w.heap.size w wr)) (fun _ c6 _ => V.m - (intOf c6).toNat)
        case atStart => exact ⟨0, Nat.zero_le _, rfl, (show OwnU8 _ _ _ ((V.bs.map boxP ++ (V.ps.take 0).map Pt.bit).flatMap Pt.ns) by simpa using HU1.out), HO.out, F_v.out, HBW.out⟩
        case round =>
          clear HO F_v HBW HU1
          obtain ⟨j, hj1, rfl, HU, HO, F_v, HBW⟩ := hrel
          have hj0 : (0 : Int) ≤ (j : Int) := by omega
          have hzw := F_v.out.lt
          obtain ⟨-, v0, v1, v2, v3, v4, v5, v6, v7, v8, v9, v10, vf⟩ := id F_v.out
          have HLN := Lib.hid (show ((V.bs.map boxP ++ (V.ps.take j).map Pt.bit).flatMap Pt.ns).length ≤ 200 by
            have := nums_len (V.bs.map boxP ++ (V.ps.take j).map Pt.bit)
            rw [List.length_append, List.length_map, List.length_map, List.length_take] at this
            have := H1.out
            omega)
          by_cases hjt : j < V.m
          case pos =>
            have hj2 : (j : Int) < (V.m : Int) := by omega
            have hwj : IntKind.i64.wrap ((j : Int) + 1) = (j : Int) + 1 := IntWalk.i64_in _ (by omega)
            have cB : Tryd.prog.cellsOf 27 = 8 := by kernel_rfl
            obtain ⟨s, o, z, hsa, hz_, hbc⟩ := (HV.out.h2.keep HBW.out).at j hjt
            obtain ⟨-, b0, b1, b2, b3, b4, b5, b6, b7⟩ := hbc
            have HST := Lib.hid (show (V.bs.map boxP ++ (V.ps.take (j + 1)).map Pt.bit).flatMap Pt.ns = (V.bs.map boxP ++ (V.ps.take j).map Pt.bit).flatMap Pt.ns ++ [z.r0, z.s0, z.r1, z.s1, z.c0, z.c1, z.z0, z.z1] by
              rw [List.take_add_one, hz_]; simp [Pt.ns])
            obtain ⟨xs, hxs⟩ : ∃ xs, (V.bs.map boxP ++ (V.ps.take j).map Pt.bit).flatMap Pt.ns = xs := ⟨_, rfl⟩
            rw [hxs] at HU HST HLN
            rw [hsa] at v1
            clear hz_ hxs hsa
            go_wp2_with (first
      | (go_simp
         go_at_call 58
         refine (rnums_any (z := z) _).mono ?_
         rintro e w7 ⟨s7, rfl, hs7, hb7⟩
         have HN7 := Lib.hid hs7
         have HU7 := Lib.hid (HU.out.keep hb7)
         have HO7 := Lib.hid (HO.out.keep hb7)
         have F7 := Lib.hid (F_v.out.keep hb7)
         have HB7 := Lib.hid (HBW.out.trans (hb7.mono HBW.out.size))
         clear hs7 hb7)
      | (at_builtin
         refine wpL_push_u rfl _ _ rfl (w.heap.size + 1) s7 8 _ xs [z.r0, z.s0, z.r1, z.s1, z.c0, z.c1, z.z0, z.z1] rfl rfl HU7.out rfl (fun j u hu => by rw [add_pl, Nat.zero_add, HN7.out.row.cellAt j (by have := (List.getElem?_eq_some_iff.1 hu).1; simpa using this)]; exact hu) (by have := HLN.out; omega) (by have := F7.out.lt; omega) ?_
         intro v9 w9 hown hgr
         have HU9 := Lib.hid hown
         have HO9 := Lib.hid (show OwnB w9 (w.heap.size + 1) _ _ from World.ownsRow.kept HO7.out hgr (own_diffN HU7.out HO7.out (by decide)))
         have HK9 := Lib.hid (Below.rowT (n := w.heap.size + 1) hgr (fun k hk => (World.ownsRow.lt HU7.out k hk).1) (by have := F7.out.lt; omega))
         clear hown hgr))
            go_wp2_with fail
            go_roundw
            case rel => exact ⟨j + 1, by omega, by go_num, (show OwnU8 _ _ _ ((V.bs.map boxP ++ (V.ps.take (j + 1)).map Pt.bit).flatMap Pt.ns) by rw [HST.out]; exact HU9.out), HO9.out, F7.out.keepN HK9.out (by omega), HB7.out.trans (HK9.out.mono (by omega))⟩
            case measure => simp [intOf] <;> omega
          case neg =>
            have d3 : decide ((j : Int) < (V.m : Int)) = false := by simp; omega
            have HST := Lib.hid (show V.nums = (V.bs.map boxP ++ (V.ps.take j).map Pt.bit).flatMap Pt.ns ++ [V.z.r0, V.z.s0, V.z.r1, V.z.s1, V.z.c0, V.z.c1, V.z.z0, V.z.z1] by
              rw [List.take_of_length_le (by have := H2.out; omega), Vt.nums, Vt.pts, List.map_append, ← List.append_assoc, List.flatMap_append]; simp [Pt.ns])
            obtain ⟨xs, hxs⟩ : ∃ xs, (V.bs.map boxP ++ (V.ps.take j).map Pt.bit).flatMap Pt.ns = xs := ⟨_, rfl⟩
            rw [hxs] at HU HST HLN
            clear hxs
            go_wp2_with (first
      | (go_simp
         go_at_call 58
         refine (rnums_any (z := V.z) _).mono ?_
         rintro e w7 ⟨s7, rfl, hs7, hb7⟩
         have HN7 := Lib.hid hs7
         have HU7 := Lib.hid (HU.out.keep hb7)
         have HO7 := Lib.hid (HO.out.keep hb7)
         have F7 := Lib.hid (F_v.out.keep hb7)
         have HB7 := Lib.hid (HBW.out.trans (hb7.mono HBW.out.size))
         clear hs7 hb7)
      | (at_builtin
         refine wpL_push_u rfl _ _ rfl (w.heap.size + 1) s7 8 _ xs [V.z.r0, V.z.s0, V.z.r1, V.z.s1, V.z.c0, V.z.c1, V.z.z0, V.z.z1] rfl rfl HU7.out rfl (fun j u hu => by rw [add_pl, Nat.zero_add, HN7.out.row.cellAt j (by have := (List.getElem?_eq_some_iff.1 hu).1; simpa using this)]; exact hu) (by have := HLN.out; omega) (by have := F7.out.lt; omega) ?_
         intro v9 w9 hown hgr
         have HU9 := Lib.hid hown
         have HO9 := Lib.hid (show OwnB w9 (w.heap.size + 1) _ _ from World.ownsRow.kept HO7.out hgr (own_diffN HU7.out HO7.out (by decide)))
         have HK9 := Lib.hid (Below.rowT (n := w.heap.size + 1) hgr (fun k hk => (World.ownsRow.lt HU7.out k hk).1) (by have := F7.out.lt; omega))
         clear hown hgr))
            have HU3 := Lib.hid (show OwnU8 w9 (w.heap.size + 1) _ V.nums by rw [HST.out]; exact HU9.out)
            have HLL := Lib.hid (show V.nums.length ≤ 300 by rw [HST.out, List.length_append]; have := HLN.out; simp; omega)
            replace F_v := Lib.hid (F7.out.keepN HK9.out (by omega))
            replace HBW := Lib.hid (HB7.out.trans (HK9.out.mono (by omega)))
            have HNP := Lib.hid (show 0 < V.nums.length by rw [HST.out, List.length_append]; simp)
            obtain ⟨aq, cq, rfl⟩ := HU3.out.sl
            obtain ⟨g, hag, -⟩ := HU3.out.at rfl HNP.out
            subst hag
            obtain ⟨nn, hnn⟩ : ∃ nn, V.nums.length = nn := ⟨_, rfl⟩
            have HNN := Lib.hid hnn
            rw [hnn] at HU3 HLL ⊢
            have HNU := Lib.hid (show ∀ x, x ∈ V.nums → U64 x from fun x hx => by
              obtain ⟨p, hp, hx⟩ := List.mem_flatMap.1 hx
              exact Pt.us (Vt.us HV.out p hp) x hx)
            have HBY := Lib.hid (show [(V.n : Int), (V.m : Int), 0] ++ flat8 V.nums = V.bytes by rw [Vt.bytes, ho]; rfl)
            clear hnn HU HU7 HO7 HU9 F7 HN7 HB7 HK9 F_v HST HLN d3 v0 v1 v2 v3 v4 v5 v6 v7 v8 v9 v10 vf hzw hzv
            go_loopw [3, 7] (fun c3 c7 wr => ∃ k : Nat, k ≤ nn ∧ c7 = .int .i64 k ∧ ∃ (a3 : Option Addr) (p3 : Nat), c3 = .slice a3 (3 + 8 * k) p3 ∧ Hid (OwnB wr (w.heap.size + 1) c3 ([(V.n : Int), (V.m : Int), 0] ++ flat8 (V.nums.take k))) ∧ Hid (OwnU8 wr (w.heap.size + 1) (.slice (some ⟨g, 0, none⟩) nn cq) V.nums) ∧ Hid (Below w.heap.size w wr)) (fun _ c7 _ => nn - (intOf c7).toNat)
            case atStart => exact ⟨0, Nat.zero_le _, rfl, _, 3, rfl, (show OwnB _ _ _ ([(V.n : Int), (V.m : Int), 0] ++ flat8 (V.nums.take 0)) by simpa [flat8] using HO9.out), HU3.out, HBW.out⟩
            case round =>
              clear HO9 HU3 HBW
              obtain ⟨k, hk, rfl, a3, p3, rfl, HO3, HU3, HBW⟩ := hrel
              have hk0 : (0 : Int) ≤ (k : Int) := by omega
              have hnl := HLL.out
              by_cases hkn : k < nn
              case pos =>
                have hk1 : (k : Int) < (nn : Int) := by omega
                have hwk : IntKind.i64.wrap ((k : Int) + 1) = (k : Int) + 1 := IntWalk.i64_in _ (by omega)
                obtain ⟨g', hg', hc⟩ := HU3.out.at HNN.out.symm hkn
                cases hg'
                obtain ⟨x, hx⟩ : ∃ x, V.nums.getD k 0 = x := ⟨_, rfl⟩
                have HUX := Lib.hid (show U64 x from HNU.out x (by rw [← hx, List.getD_eq_getElem?_getD, List.getElem?_eq_getElem (by have := HNN.out; omega)]; exact List.getElem_mem _))
                have HFL := Lib.hid (show flat8 (V.nums.take k) ++ be8 x = flat8 (V.nums.take (k + 1)) from flat8_snoc V.nums k (by have := HNN.out; omega) hx)
                obtain ⟨xs, hxs⟩ : ∃ xs, [(V.n : Int), (V.m : Int), 0] ++ flat8 (V.nums.take k) = xs := ⟨_, rfl⟩
                have HXL := Lib.hid (show xs.length = 3 + 8 * k by rw [← hxs, List.length_append, flat8_len, List.length_take, Nat.min_eq_left (by have := HNN.out; omega)]; rfl)
                have HXN := Lib.hid (show xs ++ be8 x = [(V.n : Int), (V.m : Int), 0] ++ flat8 (V.nums.take (k + 1)) by rw [← hxs, List.append_assoc, HFL.out])
                rw [hxs] at HO3
                rw [hx] at hc
                obtain ⟨a5, c5, e5, hs5⟩ := HO3.out.shi
                rw [HXL.out] at e5 hs5
                injection e5 with f1 f2 f3
                subst f1
                have HS5 := Lib.hid hs5
                clear hxs hx hs5 f2 f3
                go_wp2_with fail
                clear hc
                refine (rEight_any _ HS5.out HUX.out (by omega)).mono ?_
                rintro e w8 ⟨v8, rfl, ho8, hb8⟩
                obtain ⟨a8, c8, e8, -⟩ := ho8.shi
                rw [List.length_append, HXL.out, be8_len, show 3 + 8 * k + 8 = 3 + 8 * (k + 1) by omega] at e8
                subst e8
                have HO8 := Lib.hid (OwnB.mono ho8 (n₀ := w.heap.size + 1) (Nat.le_trans (Nat.succ_le_of_lt (by have := (World.ownsRow.lt HU3.out g rfl).1; have := (World.ownsRow.lt HU3.out g rfl).2; omega)) (Nat.le_refl _)))
                have HU8 := Lib.hid (HU3.out.keep hb8)
                have HB8 := Lib.hid (HBW.out.trans (hb8.mono HBW.out.size))
                clear ho8 hb8
                go_wp2_with fail
                go_roundw
                case rel => exact ⟨k + 1, by omega, by go_num, a8, c8, rfl, (show OwnB _ _ _ ([(V.n : Int), (V.m : Int), 0] ++ flat8 (V.nums.take (k + 1))) by rw [← HXN.out]; exact HO8.out), HU8.out, HB8.out⟩
                case measure => simp [intOf] <;> omega
              case neg =>
                have d3 : decide ((k : Int) < (nn : Int)) = false := by simp; omega
                have HZ := Lib.hid (show OwnB wr w.heap.size (.slice a3 (3 + 8 * k) p3) V.bytes by
                  have h := HO3.out
                  rw [List.take_of_length_le (by rw [HNN.out]; omega), HBY.out] at h
                  exact OwnB.mono h (by omega))
                go_wp2_with fail
                go_ret
                exact ⟨_, rfl, HZ.out, HBW.out⟩

set_option maxRecDepth 100000 in
set_option maxHeartbeats 8000000 in
theorem rBytes36_any {V : Vt} {er : Int} {bs : List Int} (w : World) (hV : VtIn w V) (hr : bytesF V = (er, bs)) :
    Calls Tryd.prog 11 #[V.v] w (RetBy w er bs) := by
  have F_v := Lib.hid (VBox.at w V 29 w.heap.size rfl)
  have HBW := Lib.hid (show Below w.heap.size w (w.alloc (.cells #[.slice V.a V.n V.c, .slice V.b V.m V.d, .bool V.one, .int .u64 V.z.r0, .int .u64 V.z.r1, .int .u64 V.z.s0, .int .u64 V.z.s1, .int .u64 V.z.c0, .int .u64 V.z.c1, .int .u64 V.z.z0, .int .u64 V.z.z1] 29)) from (Below.refl _ _).alloc (Nat.le_refl _) _)
  have HV := Lib.hid hV
  have HR := Lib.hid hr
  clear hV hr
  have hvv : V.v = .agg #[.slice V.a V.n V.c, .slice V.b V.m V.d, .bool V.one, .int .u64 V.z.r0, .int .u64 V.z.r1, .int .u64 V.z.s0, .int .u64 V.z.s1, .int .u64 V.z.c0, .int .u64 V.z.c1, .int .u64 V.z.z0, .int .u64 V.z.z1] := rfl
  rw [hvv]
  obtain ⟨-, v0, v1, v2, v3, v4, v5, v6, v7, v8, v9, v10, vf⟩ := id F_v.out
  go_enter Tryd.func11, Tryd.ntmps11
  by_cases h1 : 10 < V.n
  case pos =>
    have hr := HR.out
    rw [bytesF, if_pos (.inl h1)] at hr
    cases hr
    have d1 : decide ((10 : Int) < (V.n : Int)) = true := by simp; omega
    go_wp2_with fail
    go_ret2
    exact ⟨_, rfl, World.ownsRow_nil _ _ _ _, HBW.out⟩
  case neg =>
    have d1 : decide ((10 : Int) < (V.n : Int)) = false := by simp; omega
    by_cases h2 : 10 < V.m
    case pos =>
      have hr := HR.out
      rw [bytesF, if_pos (.inr h2)] at hr
      cases hr
      have d2 : decide ((10 : Int) < (V.m : Int)) = true := by simp; omega
      go_wp2_with fail
      go_ret2
      exact ⟨_, rfl, World.ownsRow_nil _ _ _ _, HBW.out⟩
    case neg =>
      have d2 : decide ((10 : Int) < (V.m : Int)) = false := by simp; omega
      have hr := HR.out
      rw [bytesF, if_neg (by omega)] at hr
      obtain ⟨rfl, rfl⟩ := Prod.mk.inj hr
      clear hr HR
      go_wp2_with fail
      clear v0 v1 v2 v3 v4 v5 v6 v7 v8 v9 v10 vf
      refine (r36Of_any _ (HV.out.keep HBW.out) (by omega) (by omega)).mono ?_
      rintro e w1 ⟨v, rfl, ho1, hb1⟩
      have HO := Lib.hid (OwnB.mono ho1 (n₀ := w.heap.size) HBW.out.size)
      have HB := Lib.hid (HBW.out.trans (hb1.mono HBW.out.size))
      clear ho1 hb1
      go_wp2_with fail
      go_ret2
      exact ⟨_, rfl, HO.out, HB.out⟩
end Go.Proofs.YtlbldpkgnonbpaaDoor
