/- The bytes of a vote: the reference's. -/
import Derived.Test.YtlbldpkgnonbpaaGreatDoorQsH
import Derived.Test.YtlbldpkgnonbpaaGreatDoorQsB
set_option linter.unusedSimpArgs false
set_option linter.unusedVariables false
set_option maxRecDepth 100000
namespace Go.Proofs.YtlbldpkgnonbpaaGreatDoor
open Go Go.RowKit Num Sha
def OwnU8 (w : World) (n₀ : Nat) (v : Value) (xs : List Int) : Prop := w.ownsRow n₀ 22 1 v xs.length (xs.map (Value.int .u64))
theorem OwnU8.keep {w w' : World} {n₀ : Nat} {v : Value} {xs : List Int} (h : OwnU8 w n₀ v xs) (hb : Below w.heap.size w w') : OwnU8 w' n₀ v xs := owns_below2 h hb
theorem OwnU8.nil (w : World) (n₀ : Nat) : OwnU8 w n₀ (.slice none 0 0) [] := World.ownsRow_nil _ _ _ _
theorem OwnU8.sl {w : World} {n₀ : Nat} {v : Value} {xs : List Int} (h : OwnU8 w n₀ v xs) : ∃ a c, v = .slice a xs.length c := by
 rcases h.2 with ⟨rfl, h0⟩ | ⟨g, cap, cur, rfl, _⟩
 · exact ⟨none, 0, by rw [h0]⟩
 · exact ⟨_, _, rfl⟩
theorem OwnU8.at {w : World} {n₀ n k : Nat} {a : Option Addr} {c : Nat} {xs : List Int} (h : OwnU8 w n₀ (.slice a n c) xs) (hn : n = xs.length) (hk : k < n) : ∃ g, a = some ⟨g, 0, none⟩ ∧ w.cell? ⟨g, k, none⟩ = some (.int .u64 (xs.getD k 0)) := by
 subst hn
 rcases h.2 with ⟨h1, h0⟩ | ⟨g, cap, cur, h1, _⟩
 · omega
 · injection h1 with e1 e2 e3
   subst e1 e3
   refine ⟨g, rfl, ?_⟩
   rw [World.ownsRow.cellAt h k (by omega), List.getElem?_map, List.getElem?_eq_getElem hk, List.getD_eq_getElem?_getD, List.getElem?_eq_getElem hk]; rfl
theorem wp_push_u {w : World} {o : Oper} {a : Act} {K : Act → World → Prop} {Q : Exit → Act → World → Prop} (s x : Operand) (ho : o.op = .call { callee := .builtin .append, args := #[s, x], argTypes := #[34, 34] })
 (base b m : Nat) (v : Value) (xs ys : List Int) (hs : a.eval s = v) (hx : a.eval x = .slice (some ⟨b, 0, none⟩) m m) (hown : OwnU8 w base v xs) (hm : ys.length = m) (hc : ∀ j u, (ys.map (Value.int .u64))[j]? = some u → w.cell? ((⟨b, 0, none⟩ : Addr).add j) = some u) (hn : xs.length + m ≤ 1000000) (hb : base ≤ w.heap.size)
 (h : ∀ v' w', OwnU8 w' base v' (xs ++ ys) → w.grownBy w' v.ownBlock → K (a.put o.dst v') w') : o.wp Tryz.prog a w K Q := by
 obtain ⟨i0, hi, hz0, hz1, hz2⟩ := info_parts (P := Tryz.prog) (e := 22) (z := .int .u64 0) (size := 1) (bytes := 8) (by kernel_rfl)
 refine wp_append_own w s x 34 ho base 22 i0 _ 1 8 Tryz.underlying34 hi hz0 hz1 hz2 rfl (by decide) v xs.length _ hs hown ⟨b, 0, none⟩ m m (ys.map (Value.int .u64)) hx (by simp [hm]) hc (fun u hu => by obtain ⟨y, -, rfl⟩ := List.mem_map.1 hu; rfl) (by unfold maxLen; omega) (by omega) hb (fun v' w' h1 h2 _ => h v' w' ?_ h2)
 unfold OwnU8
 rw [List.length_append, hm, List.map_append]; exact h1
theorem wpL_push_u {w : World} {ops : Array Oper} {rest : List Oper} {o : Oper} {a : Act} {Q : Exit → Act → World → Prop} (hg : o.guard = none) (s x : Operand) (ho : o.op = .call { callee := .builtin .append, args := #[s, x], argTypes := #[34, 34] })
 (base b m : Nat) (v : Value) (xs ys : List Int) (hs : a.eval s = v) (hx : a.eval x = .slice (some ⟨b, 0, none⟩) m m) (hown : OwnU8 w base v xs) (hm : ys.length = m) (hc : ∀ j u, (ys.map (Value.int .u64))[j]? = some u → w.cell? ((⟨b, 0, none⟩ : Addr).add j) = some u) (hn : xs.length + m ≤ 1000000) (hb : base ≤ w.heap.size)
 (h : ∀ v' w', OwnU8 w' base v' (xs ++ ys) → w.grownBy w' v.ownBlock → wpList Tryz.prog ops Q rest (a.put o.dst v') w') : wpList Tryz.prog ops Q (o :: rest) a w :=
 wpList_plain hg fun K hK => wp_push_u s x ho base b m v xs ys hs hx hown hm hc hn hb fun v' w' h1 h2 => hK _ _ (h v' w' h1 h2)
set_option maxHeartbeats 8000000 in
theorem rnums_any {z : Bt} (w : World) :
 Calls Tryz.prog 143 #[.agg #[.int .u64 z.r0, .int .u64 z.r1, .int .u64 z.s0, .int .u64 z.s1, .int .u64 z.c0, .int .u64 z.c1, .int .u64 z.z0, .int .u64 z.z1]] w fun e w' => ∃ s, e = .returned (.slice (some ⟨s, 0, none⟩) 8 8) ∧ OwnQ w' w.heap.size s 8 [z.r0, z.s0, z.r1, z.s1, z.c0, z.c1, z.z0, z.z1] ∧ Below w.heap.size w w' := by
 have F_s := Lh (show BBox (w.alloc (.cells #[.int .u64 z.r0, .int .u64 z.r1, .int .u64 z.s0, .int .u64 z.s1, .int .u64 z.c0, .int .u64 z.c1, .int .u64 z.z0, .int .u64 z.z1] 31)) w.heap.size z from BBox.at _ z _ w.heap.size rfl)
 have HBW := Lh (show Below w.heap.size w (w.alloc (.cells #[.int .u64 z.r0, .int .u64 z.r1, .int .u64 z.s0, .int .u64 z.s1, .int .u64 z.c0, .int .u64 z.c1, .int .u64 z.z0, .int .u64 z.z1] 31)) from (Below.refl _ _).alloc (Nat.le_refl _) _)
 obtain ⟨-, b0, b1, b2, b3, b4, b5, b6, b7⟩ := id F_s.o
 go_enter Tryz.func143, Tryz.ntmps143
 go_wp2_with fail
 go_ret
 exact ⟨_, rfl, OwnQ.lit _ [z.r0, z.s0, z.r1, z.s1, z.c0, z.c1, z.z0, z.z1] _ _ (by simp) (by simp) (by simp), HBW.o.alloc HBW.o.size _⟩
set_option maxHeartbeats 8000000 in
theorem r36Of_any {V : Vt} (w : World) (hV : VtIn w V) (hn : V.n ≤ 10) (hm : V.m ≤ 10) :
 Calls Tryz.prog 122 #[V.v] w fun e w' => ∃ v, e = .returned v ∧ OwnB w' w.heap.size v V.bytes ∧ Below w.heap.size w w' := by
 have F_v := Lh (VBox.at w V 33 w.heap.size rfl)
 have HBW := Lh (show Below w.heap.size w (w.alloc (.cells V.ca 33)) from (Below.refl _ _).alloc (Nat.le_refl _) _)
 have HV := Lh hV
 have H1 := Lh hV.h1.len
 have H2 := Lh hV.h2.len
 have n8 : IntKind.u8.wrap (V.n : Int) = (V.n : Int) := by rw [IntKind.wrap_u8]; omega
 have m8 : IntKind.u8.wrap (V.m : Int) = (V.m : Int) := by rw [IntKind.wrap_u8]; omega
 clear hV
 obtain ⟨-, v0, v1, v2, v3, v4, v5, v6, v7, v8, v9, v10, vf⟩ := id F_v.o
 cases ho : V.one with
 | true =>
  unfold Vt.v
  unfold Vt.ca at F_v HBW; rw [ho] at v2 F_v HBW
  go_enter Tryz.func122, Tryz.ntmps122
  rw [ho]
  go_wp2_with fail
  clear v0 v1 v2 v3 v4 v5 v6 v7 v8 v9 v10 vf
  have HO := Lh (show OwnB ((w.alloc (.cells #[.slice V.a V.n V.c, .slice V.b V.m V.d, .bool true, .int .u64 V.z.r0, .int .u64 V.z.r1, .int .u64 V.z.s0, .int .u64 V.z.s1, .int .u64 V.z.c0, .int .u64 V.z.c1, .int .u64 V.z.z0, .int .u64 V.z.z1] 33)).alloc (.cells #[.int .u8 (V.n : Int), .int .u8 (V.m : Int), .int .u8 1] 5)) (w.heap.size + 1) (.slice (some ⟨w.heap.size + 1, 0, none⟩) 3 3) [(V.n : Int), (V.m : Int), 1] from by
   have := World.ownsRow_lit (base := w.heap.size + 1) (e := 5) (size := 1) (w.alloc (.cells #[.slice V.a V.n V.c, .slice V.b V.m V.d, .bool true, .int .u64 V.z.r0, .int .u64 V.z.r1, .int .u64 V.z.s0, .int .u64 V.z.s1, .int .u64 V.z.c0, .int .u64 V.z.c1, .int .u64 V.z.z0, .int .u64 V.z.z1] 33)) #[.int .u8 (V.n : Int), .int .u8 (V.m : Int), .int .u8 1] 3 (by simp) (by decide) rfl
   simpa [OwnB] using this)
  replace F_v := Lh (F_v.o.alloc (.cells #[.int .u8 (V.n : Int), .int .u8 (V.m : Int), .int .u8 1] 5))
  replace HBW := Lh (HBW.o.alloc HBW.o.size (.cells #[.int .u8 (V.n : Int), .int .u8 (V.m : Int), .int .u8 1] 5))
  go_loopw [4, 5] (fun c4 c5 wr => ∃ i : Nat, i ≤ V.n ∧ c5 = .int .i64 i ∧ Hid (OwnU8 wr (w.heap.size + 1) c4 (((V.bs.take i).map boxP).flatMap Pt.ns)) ∧ Hid (OwnB wr (w.heap.size + 1) (.slice (some ⟨w.heap.size + 1, 0, none⟩) 3 3) [(V.n : Int), (V.m : Int), 1]) ∧ Hid (VBox wr w.heap.size V) ∧ Hid (Below w.heap.size w wr)) (fun _ c5 _ => V.n - (intOf c5).toNat)
  case atStart => exact ⟨0, Nat.zero_le _, rfl, OwnU8.nil _ _, HO.o, F_v.o, HBW.o⟩
  case round =>
   clear HO F_v HBW
   obtain ⟨i, hi1, rfl, HU, HO, F_v, HBW⟩ := hrel
   have hi0 : (0 : Int) ≤ (i : Int) := by omega
   have hzv := F_v.o.lt
   obtain ⟨-, v0, v1, v2, v3, v4, v5, v6, v7, v8, v9, v10, vf⟩ := id F_v.o
   by_cases hlt : i < V.n
   case pos =>
    have hi2 : (i : Int) < (V.n : Int) := by omega
    have hwi : IntKind.i64.wrap ((i : Int) + 1) = (i : Int) + 1 := IntWalk.i64_in _ (by omega)
    have cS : Tryz.prog.cellsOf 75 = 2 := by kernel_rfl
    obtain ⟨s, o, hsa, hsl, b0, b1⟩ := (HV.o.h1.keep HBW.o).at i hlt
    obtain ⟨x, y, hxy⟩ : ∃ x y, V.bs.getD i (0, 0) = (x, y) := ⟨_, _, rfl⟩
    rw [hxy] at b0 b1
    dsimp only [υ] at b0 b1
    have HST := Lh (show ((V.bs.take (i + 1)).map boxP).flatMap Pt.ns = ((V.bs.take i).map boxP).flatMap Pt.ns ++ [x, y] by
     have hl : i < V.bs.length := by have := H1.o; omega
     rw [List.take_succ_eq_append_getElem hl, List.map_append, List.flatMap_append]
     have e : V.bs[i] = (x, y) := by rw [← hxy, List.getD_eq_getElem?_getD, List.getElem?_eq_getElem hl]; rfl
     rw [e]; rfl)
    have HLN := Lh (show (((V.bs.take i).map boxP).flatMap Pt.ns).length ≤ 200 by
     have := nums_len ((V.bs.take i).map boxP)
     rw [List.length_map, List.length_take] at this
     omega)
    obtain ⟨xs, hxs⟩ : ∃ xs, ((V.bs.take i).map boxP).flatMap Pt.ns = xs := ⟨_, rfl⟩
    rw [hxs] at HU HST HLN
    rw [hsa] at v0
    clear hxy hxs hsa
    go_wp2_with fail
    have HWW := Lh (show Below wr.heap.size wr ((wr.alloc (.cells #[.int .u64 x, .int .u64 y] 22)).drew) from ((Below.refl wr.heap.size wr).alloc (Nat.le_refl _) _).drew)
    have HUW := Lh (HU.o.keep HWW.o)
    have HOW := Lh (HO.o.keep HWW.o)
    have HCW := Lh (show ∀ j u, ([x, y].map (Value.int .u64))[j]? = some u → ((wr.alloc (.cells #[.int .u64 x, .int .u64 y] 22)).drew).cell? ((⟨wr.heap.size, 0, none⟩ : Addr).add j) = some u from fun j u h => cell_list_at wr _ _ _ rfl j u h)
    go_region_law (first
     | (refine wanted_wp rfl (wp_push_u (.tmp 28) (.tmp 41) rfl (w.heap.size + 1) wr.heap.size 2 u4 xs [x, y] ?jjv ?jjx HUW.o rfl HCW.o ?jjm ?jjb ?_)
        case jjv => kernel_rfl
        case jjx => kernel_rfl
        case jjm => have := HLN.o; omega
        case jjb => have := HWW.o.size; omega
        intro v9 w9 hown hgr
        have HU9 := Lh hown
        have HO9 := Lh (show OwnB w9 (w.heap.size + 1) (.slice (some ⟨w.heap.size + 1, 0, none⟩) 3 3) [(V.n : Int), (V.m : Int), 1] from World.ownsRow.kept HOW.o hgr (own_diffN HUW.o HOW.o (by decide)))
        have HK9 := Lh ((HWW.o.mono (by omega)).trans (Below.rowT (n := w.heap.size + 1) hgr (fun k hk => (World.ownsRow.lt HU.o k hk).1) (by have := HWW.o.size; omega)))
        clear hown hgr))
    all_goals (go_wp2_with fail; go_roundw)
    all_goals first | (case rel => exact ⟨i + 1, by omega, by go_num, (by rw [HST.o]; exact HU9.o), HO9.o, F_v.o.keepN HK9.o (by omega), HBW.o.trans (HK9.o.mono (by omega))⟩) | (case measure => simp [intOf] <;> omega) | skip
   case neg =>
    have d3 : decide ((i : Int) < (V.n : Int)) = false := by simp; omega
    have HU1 := Lh (show OwnU8 wr (w.heap.size + 1) _ ((V.bs.map boxP).flatMap Pt.ns) by have h := HU.o; rwa [List.take_of_length_le (by have := H1.o; omega)] at h)
    clear HU
    go_wp2_with fail
    clear d3 v0 v1 v2 v3 v4 v5 v6 v7 v8 v9 v10 vf
    go_loopw [4, 6] (fun c4 c6 wr => ∃ j : Nat, j ≤ V.m ∧ c6 = .int .i64 j ∧ Hid (OwnU8 wr (w.heap.size + 1) c4 ((V.bs.map boxP ++ (V.ps.take j).map Pt.bit).flatMap Pt.ns)) ∧ Hid (OwnB wr (w.heap.size + 1) (.slice (some ⟨w.heap.size + 1, 0, none⟩) 3 3) [(V.n : Int), (V.m : Int), 1]) ∧ Hid (VBox wr w.heap.size V) ∧ Hid (Below w.heap.size w wr)) (fun _ c6 _ => V.m - (intOf c6).toNat)
    case atStart => exact ⟨0, Nat.zero_le _, rfl, (show OwnU8 _ _ _ ((V.bs.map boxP ++ (V.ps.take 0).map Pt.bit).flatMap Pt.ns) by simpa using HU1.o), HO.o, F_v.o, HBW.o⟩
    case round =>
     clear HO F_v HBW HU1
     obtain ⟨j, hj1, rfl, HU, HO, F_v, HBW⟩ := hrel
     have hj0 : (0 : Int) ≤ (j : Int) := by omega
     have hzw := F_v.o.lt
     obtain ⟨-, v0, v1, v2, v3, v4, v5, v6, v7, v8, v9, v10, vf⟩ := id F_v.o
     have HLN := Lh (show ((V.bs.map boxP ++ (V.ps.take j).map Pt.bit).flatMap Pt.ns).length ≤ 200 by
      have := nums_len (V.bs.map boxP ++ (V.ps.take j).map Pt.bit)
      rw [List.length_append, List.length_map, List.length_map, List.length_take] at this
      have := H1.o
      omega)
     by_cases hjt : j < V.m
     case pos =>
      have hj2 : (j : Int) < (V.m : Int) := by omega
      have hwj : IntKind.i64.wrap ((j : Int) + 1) = (j : Int) + 1 := IntWalk.i64_in _ (by omega)
      have cB : Tryz.prog.cellsOf 31 = 8 := by kernel_rfl
      obtain ⟨s, o, z, hsa, hz_, hbc⟩ := (HV.o.h2.keep HBW.o).at j hjt
      obtain ⟨-, b0, b1, b2, b3, b4, b5, b6, b7⟩ := hbc
      have HST := Lh (show (V.bs.map boxP ++ (V.ps.take (j + 1)).map Pt.bit).flatMap Pt.ns = (V.bs.map boxP ++ (V.ps.take j).map Pt.bit).flatMap Pt.ns ++ [z.r0, z.s0, z.r1, z.s1, z.c0, z.c1, z.z0, z.z1] by
       rw [List.take_add_one, hz_]; simp [Pt.ns])
      obtain ⟨xs, hxs⟩ : ∃ xs, (V.bs.map boxP ++ (V.ps.take j).map Pt.bit).flatMap Pt.ns = xs := ⟨_, rfl⟩
      rw [hxs] at HU HST HLN
      rw [hsa] at v1
      clear hz_ hxs hsa
      go_wp2_with (first
       | (go_simp
          go_at_call 143
          refine (rnums_any (z := z) _).mono ?_
          rintro e w7 ⟨s7, rfl, hs7, hb7⟩
          have HN7 := Lh hs7
          have HU7 := Lh (HU.o.keep hb7)
          have HO7 := Lh (HO.o.keep hb7)
          have F7 := Lh (F_v.o.keep hb7)
          have HB7 := Kt HBW hb7
          clear hs7 hb7)
       | (at_builtin
          refine wpL_push_u rfl _ _ rfl (w.heap.size + 1) s7 8 _ xs [z.r0, z.s0, z.r1, z.s1, z.c0, z.c1, z.z0, z.z1] rfl rfl HU7.o rfl (fun j u hu => by rw [add_pl, Nat.zero_add, HN7.o.row.cellAt j (by have := (List.getElem?_eq_some_iff.1 hu).1; simpa using this)]; exact hu) (by have := HLN.o; omega) (by have := F7.o.lt; omega) ?_
          intro v9 w9 hown hgr
          have HU9 := Lh hown
          have HO9 := Lh (show OwnB w9 (w.heap.size + 1) _ _ from World.ownsRow.kept HO7.o hgr (own_diffN HU7.o HO7.o (by decide)))
          have HK9 := Lh (Below.rowT (n := w.heap.size + 1) hgr (fun k hk => (World.ownsRow.lt HU7.o k hk).1) (by have := F7.o.lt; omega))
          clear hown hgr))
      go_wp2_with fail
      go_roundw
      case rel => exact ⟨j + 1, by omega, by go_num, (show OwnU8 _ _ _ ((V.bs.map boxP ++ (V.ps.take (j + 1)).map Pt.bit).flatMap Pt.ns) by rw [HST.o]; exact HU9.o), HO9.o, F7.o.keepN HK9.o (by omega), HB7.o.trans (HK9.o.mono (by omega))⟩
      case measure => simp [intOf] <;> omega
     case neg =>
      have d3 : decide ((j : Int) < (V.m : Int)) = false := by simp; omega
      have HST := Lh (show V.nums = (V.bs.map boxP ++ (V.ps.take j).map Pt.bit).flatMap Pt.ns ++ [V.z.r0, V.z.s0, V.z.r1, V.z.s1, V.z.c0, V.z.c1, V.z.z0, V.z.z1] by
       rw [List.take_of_length_le (by have := H2.o; omega), Vt.nums, Vt.pts, List.map_append, ← List.append_assoc, List.flatMap_append]; simp [Pt.ns])
      obtain ⟨xs, hxs⟩ : ∃ xs, (V.bs.map boxP ++ (V.ps.take j).map Pt.bit).flatMap Pt.ns = xs := ⟨_, rfl⟩
      rw [hxs] at HU HST HLN
      clear hxs
      go_wp2_with (first
       | (go_simp
          go_at_call 143
          refine (rnums_any (z := V.z) _).mono ?_
          rintro e w7 ⟨s7, rfl, hs7, hb7⟩
          have HN7 := Lh hs7
          have HU7 := Lh (HU.o.keep hb7)
          have HO7 := Lh (HO.o.keep hb7)
          have F7 := Lh (F_v.o.keep hb7)
          have HB7 := Kt HBW hb7
          clear hs7 hb7)
       | (at_builtin
          refine wpL_push_u rfl _ _ rfl (w.heap.size + 1) s7 8 _ xs [V.z.r0, V.z.s0, V.z.r1, V.z.s1, V.z.c0, V.z.c1, V.z.z0, V.z.z1] rfl rfl HU7.o rfl (fun j u hu => by rw [add_pl, Nat.zero_add, HN7.o.row.cellAt j (by have := (List.getElem?_eq_some_iff.1 hu).1; simpa using this)]; exact hu) (by have := HLN.o; omega) (by have := F7.o.lt; omega) ?_
          intro v9 w9 hown hgr
          have HU9 := Lh hown
          have HO9 := Lh (show OwnB w9 (w.heap.size + 1) _ _ from World.ownsRow.kept HO7.o hgr (own_diffN HU7.o HO7.o (by decide)))
          have HK9 := Lh (Below.rowT (n := w.heap.size + 1) hgr (fun k hk => (World.ownsRow.lt HU7.o k hk).1) (by have := F7.o.lt; omega))
          clear hown hgr))
      have HU3 := Lh (show OwnU8 w9 (w.heap.size + 1) _ V.nums by rw [HST.o]; exact HU9.o)
      have HLL := Lh (show V.nums.length ≤ 300 by rw [HST.o, List.length_append]; have := HLN.o; simp; omega)
      replace F_v := Lh (F7.o.keepN HK9.o (by omega))
      replace HBW := Lh (HB7.o.trans (HK9.o.mono (by omega)))
      have HNP := Lh (show 0 < V.nums.length by rw [HST.o, List.length_append]; simp)
      obtain ⟨aq, cq, rfl⟩ := HU3.o.sl
      obtain ⟨g, hag, -⟩ := HU3.o.at rfl HNP.o
      subst hag
      obtain ⟨nn, hnn⟩ : ∃ nn, V.nums.length = nn := ⟨_, rfl⟩
      have HNN := Lh hnn
      rw [hnn] at HU3 HLL ⊢
      have HNU := Lh (show ∀ x, x ∈ V.nums → U64 x from fun x hx => by
       obtain ⟨p, hp, hx⟩ := List.mem_flatMap.1 hx
       exact Pt.us (Vt.us HV.o p hp) x hx)
      have HBY := Lh (show [(V.n : Int), (V.m : Int), 1] ++ flat8 V.nums = V.bytes by rw [Vt.bytes, ho]; rfl)
      clear hnn HU HU7 HO7 HU9 F7 HN7 HB7 HK9 F_v HST HLN d3 v0 v1 v2 v3 v4 v5 v6 v7 v8 v9 v10 vf hzw hzv
      go_loopw [3, 7] (fun c3 c7 wr => ∃ k : Nat, k ≤ nn ∧ c7 = .int .i64 k ∧ ∃ (a3 : Option Addr) (p3 : Nat), c3 = .slice a3 (3 + 8 * k) p3 ∧ Hid (OwnB wr (w.heap.size + 1) c3 ([(V.n : Int), (V.m : Int), 1] ++ flat8 (V.nums.take k))) ∧ Hid (OwnU8 wr (w.heap.size + 1) (.slice (some ⟨g, 0, none⟩) nn cq) V.nums) ∧ Hid (Below w.heap.size w wr)) (fun _ c7 _ => nn - (intOf c7).toNat)
      case atStart => exact ⟨0, Nat.zero_le _, rfl, _, 3, rfl, (show OwnB _ _ _ ([(V.n : Int), (V.m : Int), 1] ++ flat8 (V.nums.take 0)) by simpa [flat8] using HO9.o), HU3.o, HBW.o⟩
      case round =>
       clear HO9 HU3 HBW
       obtain ⟨k, hk, rfl, a3, p3, rfl, HO3, HU3, HBW⟩ := hrel
       have hk0 : (0 : Int) ≤ (k : Int) := by omega
       have hnl := HLL.o
       by_cases hkn : k < nn
       case pos =>
        have hk1 : (k : Int) < (nn : Int) := by omega
        have hwk : IntKind.i64.wrap ((k : Int) + 1) = (k : Int) + 1 := IntWalk.i64_in _ (by omega)
        obtain ⟨g', hg', hc⟩ := HU3.o.at HNN.o.symm hkn
        cases hg'
        obtain ⟨x, hx⟩ : ∃ x, V.nums.getD k 0 = x := ⟨_, rfl⟩
        have HUX := Lh (show U64 x from HNU.o x (by rw [← hx, List.getD_eq_getElem?_getD, List.getElem?_eq_getElem (by have := HNN.o; omega)]; exact List.getElem_mem _))
        have HFL := Lh (show flat8 (V.nums.take k) ++ be8 x = flat8 (V.nums.take (k + 1)) from flat8_snoc V.nums k (by have := HNN.o; omega) hx)
        obtain ⟨xs, hxs⟩ : ∃ xs, [(V.n : Int), (V.m : Int), 1] ++ flat8 (V.nums.take k) = xs := ⟨_, rfl⟩
        have HXL := Lh (show xs.length = 3 + 8 * k by rw [← hxs, List.length_append, flat8_len, List.length_take, Nat.min_eq_left (by have := HNN.o; omega)]; rfl)
        have HXN := Lh (show xs ++ be8 x = [(V.n : Int), (V.m : Int), 1] ++ flat8 (V.nums.take (k + 1)) by rw [← hxs, List.append_assoc, HFL.o])
        rw [hxs] at HO3
        rw [hx] at hc
        obtain ⟨a5, c5, e5, hs5⟩ := HO3.o.shi
        rw [HXL.o] at e5 hs5
        injection e5 with f1 f2 f3
        subst f1
        have HS5 := Lh hs5
        clear hxs hx hs5 f2 f3
        go_wp2_with fail
        clear hc
        refine (rEight_any _ HS5.o HUX.o (by omega)).mono ?_
        rintro e w8 ⟨v8, rfl, ho8, hb8⟩
        obtain ⟨a8, c8, e8, -⟩ := ho8.shi
        rw [List.length_append, HXL.o, be8_len, show 3 + 8 * k + 8 = 3 + 8 * (k + 1) by omega] at e8
        subst e8
        have HO8 := Lh (OwnB.mono ho8 (n₀ := w.heap.size + 1) (Nat.le_trans (Nat.succ_le_of_lt (by have := (World.ownsRow.lt HU3.o g rfl).1; have := (World.ownsRow.lt HU3.o g rfl).2; omega)) (Nat.le_refl _)))
        have HU8 := Lh (HU3.o.keep hb8)
        have HB8 := Kt HBW hb8
        clear ho8 hb8
        go_wp2_with fail
        go_roundw
        case rel => exact ⟨k + 1, by omega, by go_num, a8, c8, rfl, (show OwnB _ _ _ ([(V.n : Int), (V.m : Int), 1] ++ flat8 (V.nums.take (k + 1))) by rw [← HXN.o]; exact HO8.o), HU8.o, HB8.o⟩
        case measure => simp [intOf] <;> omega
       case neg =>
        have d3 : decide ((k : Int) < (nn : Int)) = false := by simp; omega
        have HZ := Lh (show OwnB wr w.heap.size (.slice a3 (3 + 8 * k) p3) V.bytes by
         have h := HO3.o
         rw [List.take_of_length_le (by rw [HNN.o]; omega), HBY.o] at h
         exact OwnB.mono h (by omega))
        go_wp2_with fail
        go_ret
        exact ⟨_, rfl, HZ.o, HBW.o⟩
 | false =>
  unfold Vt.v
  unfold Vt.ca at F_v HBW; rw [ho] at v2 F_v HBW
  go_enter Tryz.func122, Tryz.ntmps122
  rw [ho]
  go_wp2_with fail
  clear v0 v1 v2 v3 v4 v5 v6 v7 v8 v9 v10 vf
  have HO := Lh (show OwnB ((w.alloc (.cells #[.slice V.a V.n V.c, .slice V.b V.m V.d, .bool false, .int .u64 V.z.r0, .int .u64 V.z.r1, .int .u64 V.z.s0, .int .u64 V.z.s1, .int .u64 V.z.c0, .int .u64 V.z.c1, .int .u64 V.z.z0, .int .u64 V.z.z1] 33)).alloc (.cells #[.int .u8 (V.n : Int), .int .u8 (V.m : Int), .int .u8 0] 5)) (w.heap.size + 1) (.slice (some ⟨w.heap.size + 1, 0, none⟩) 3 3) [(V.n : Int), (V.m : Int), 0] from by
   have := World.ownsRow_lit (base := w.heap.size + 1) (e := 5) (size := 1) (w.alloc (.cells #[.slice V.a V.n V.c, .slice V.b V.m V.d, .bool false, .int .u64 V.z.r0, .int .u64 V.z.r1, .int .u64 V.z.s0, .int .u64 V.z.s1, .int .u64 V.z.c0, .int .u64 V.z.c1, .int .u64 V.z.z0, .int .u64 V.z.z1] 33)) #[.int .u8 (V.n : Int), .int .u8 (V.m : Int), .int .u8 0] 3 (by simp) (by decide) rfl
   simpa [OwnB] using this)
  replace F_v := Lh (F_v.o.alloc (.cells #[.int .u8 (V.n : Int), .int .u8 (V.m : Int), .int .u8 0] 5))
  replace HBW := Lh (HBW.o.alloc HBW.o.size (.cells #[.int .u8 (V.n : Int), .int .u8 (V.m : Int), .int .u8 0] 5))
  go_loopw [4, 5] (fun c4 c5 wr => ∃ i : Nat, i ≤ V.n ∧ c5 = .int .i64 i ∧ Hid (OwnU8 wr (w.heap.size + 1) c4 (((V.bs.take i).map boxP).flatMap Pt.ns)) ∧ Hid (OwnB wr (w.heap.size + 1) (.slice (some ⟨w.heap.size + 1, 0, none⟩) 3 3) [(V.n : Int), (V.m : Int), 0]) ∧ Hid (VBox wr w.heap.size V) ∧ Hid (Below w.heap.size w wr)) (fun _ c5 _ => V.n - (intOf c5).toNat)
  case atStart => exact ⟨0, Nat.zero_le _, rfl, OwnU8.nil _ _, HO.o, F_v.o, HBW.o⟩
  case round =>
   clear HO F_v HBW
   obtain ⟨i, hi1, rfl, HU, HO, F_v, HBW⟩ := hrel
   have hi0 : (0 : Int) ≤ (i : Int) := by omega
   have hzv := F_v.o.lt
   obtain ⟨-, v0, v1, v2, v3, v4, v5, v6, v7, v8, v9, v10, vf⟩ := id F_v.o
   by_cases hlt : i < V.n
   case pos =>
    have hi2 : (i : Int) < (V.n : Int) := by omega
    have hwi : IntKind.i64.wrap ((i : Int) + 1) = (i : Int) + 1 := IntWalk.i64_in _ (by omega)
    have cS : Tryz.prog.cellsOf 75 = 2 := by kernel_rfl
    obtain ⟨s, o, hsa, hsl, b0, b1⟩ := (HV.o.h1.keep HBW.o).at i hlt
    obtain ⟨x, y, hxy⟩ : ∃ x y, V.bs.getD i (0, 0) = (x, y) := ⟨_, _, rfl⟩
    rw [hxy] at b0 b1
    dsimp only [υ] at b0 b1
    have HST := Lh (show ((V.bs.take (i + 1)).map boxP).flatMap Pt.ns = ((V.bs.take i).map boxP).flatMap Pt.ns ++ [x, y] by
     have hl : i < V.bs.length := by have := H1.o; omega
     rw [List.take_succ_eq_append_getElem hl, List.map_append, List.flatMap_append]
     have e : V.bs[i] = (x, y) := by rw [← hxy, List.getD_eq_getElem?_getD, List.getElem?_eq_getElem hl]; rfl
     rw [e]; rfl)
    have HLN := Lh (show (((V.bs.take i).map boxP).flatMap Pt.ns).length ≤ 200 by
     have := nums_len ((V.bs.take i).map boxP)
     rw [List.length_map, List.length_take] at this
     omega)
    obtain ⟨xs, hxs⟩ : ∃ xs, ((V.bs.take i).map boxP).flatMap Pt.ns = xs := ⟨_, rfl⟩
    rw [hxs] at HU HST HLN
    rw [hsa] at v0
    clear hxy hxs hsa
    go_wp2_with fail
    have HWW := Lh (show Below wr.heap.size wr ((wr.alloc (.cells #[.int .u64 x, .int .u64 y] 22)).drew) from ((Below.refl wr.heap.size wr).alloc (Nat.le_refl _) _).drew)
    have HUW := Lh (HU.o.keep HWW.o)
    have HOW := Lh (HO.o.keep HWW.o)
    have HCW := Lh (show ∀ j u, ([x, y].map (Value.int .u64))[j]? = some u → ((wr.alloc (.cells #[.int .u64 x, .int .u64 y] 22)).drew).cell? ((⟨wr.heap.size, 0, none⟩ : Addr).add j) = some u from fun j u h => cell_list_at wr _ _ _ rfl j u h)
    go_region_law (first
     | (refine wanted_wp rfl (wp_push_u (.tmp 28) (.tmp 41) rfl (w.heap.size + 1) wr.heap.size 2 u4 xs [x, y] ?jjv ?jjx HUW.o rfl HCW.o ?jjm ?jjb ?_)
        case jjv => kernel_rfl
        case jjx => kernel_rfl
        case jjm => have := HLN.o; omega
        case jjb => have := HWW.o.size; omega
        intro v9 w9 hown hgr
        have HU9 := Lh hown
        have HO9 := Lh (show OwnB w9 (w.heap.size + 1) (.slice (some ⟨w.heap.size + 1, 0, none⟩) 3 3) [(V.n : Int), (V.m : Int), 0] from World.ownsRow.kept HOW.o hgr (own_diffN HUW.o HOW.o (by decide)))
        have HK9 := Lh ((HWW.o.mono (by omega)).trans (Below.rowT (n := w.heap.size + 1) hgr (fun k hk => (World.ownsRow.lt HU.o k hk).1) (by have := HWW.o.size; omega)))
        clear hown hgr))
    all_goals (go_wp2_with fail; go_roundw)
    all_goals first | (case rel => exact ⟨i + 1, by omega, by go_num, (by rw [HST.o]; exact HU9.o), HO9.o, F_v.o.keepN HK9.o (by omega), HBW.o.trans (HK9.o.mono (by omega))⟩) | (case measure => simp [intOf] <;> omega) | skip
   case neg =>
    have d3 : decide ((i : Int) < (V.n : Int)) = false := by simp; omega
    have HU1 := Lh (show OwnU8 wr (w.heap.size + 1) _ ((V.bs.map boxP).flatMap Pt.ns) by have h := HU.o; rwa [List.take_of_length_le (by have := H1.o; omega)] at h)
    clear HU
    go_wp2_with fail
    clear d3 v0 v1 v2 v3 v4 v5 v6 v7 v8 v9 v10 vf
    go_loopw [4, 6] (fun c4 c6 wr => ∃ j : Nat, j ≤ V.m ∧ c6 = .int .i64 j ∧ Hid (OwnU8 wr (w.heap.size + 1) c4 ((V.bs.map boxP ++ (V.ps.take j).map Pt.bit).flatMap Pt.ns)) ∧ Hid (OwnB wr (w.heap.size + 1) (.slice (some ⟨w.heap.size + 1, 0, none⟩) 3 3) [(V.n : Int), (V.m : Int), 0]) ∧ Hid (VBox wr w.heap.size V) ∧ Hid (Below w.heap.size w wr)) (fun _ c6 _ => V.m - (intOf c6).toNat)
    case atStart => exact ⟨0, Nat.zero_le _, rfl, (show OwnU8 _ _ _ ((V.bs.map boxP ++ (V.ps.take 0).map Pt.bit).flatMap Pt.ns) by simpa using HU1.o), HO.o, F_v.o, HBW.o⟩
    case round =>
     clear HO F_v HBW HU1
     obtain ⟨j, hj1, rfl, HU, HO, F_v, HBW⟩ := hrel
     have hj0 : (0 : Int) ≤ (j : Int) := by omega
     have hzw := F_v.o.lt
     obtain ⟨-, v0, v1, v2, v3, v4, v5, v6, v7, v8, v9, v10, vf⟩ := id F_v.o
     have HLN := Lh (show ((V.bs.map boxP ++ (V.ps.take j).map Pt.bit).flatMap Pt.ns).length ≤ 200 by
      have := nums_len (V.bs.map boxP ++ (V.ps.take j).map Pt.bit)
      rw [List.length_append, List.length_map, List.length_map, List.length_take] at this
      have := H1.o
      omega)
     by_cases hjt : j < V.m
     case pos =>
      have hj2 : (j : Int) < (V.m : Int) := by omega
      have hwj : IntKind.i64.wrap ((j : Int) + 1) = (j : Int) + 1 := IntWalk.i64_in _ (by omega)
      have cB : Tryz.prog.cellsOf 31 = 8 := by kernel_rfl
      obtain ⟨s, o, z, hsa, hz_, hbc⟩ := (HV.o.h2.keep HBW.o).at j hjt
      obtain ⟨-, b0, b1, b2, b3, b4, b5, b6, b7⟩ := hbc
      have HST := Lh (show (V.bs.map boxP ++ (V.ps.take (j + 1)).map Pt.bit).flatMap Pt.ns = (V.bs.map boxP ++ (V.ps.take j).map Pt.bit).flatMap Pt.ns ++ [z.r0, z.s0, z.r1, z.s1, z.c0, z.c1, z.z0, z.z1] by
       rw [List.take_add_one, hz_]; simp [Pt.ns])
      obtain ⟨xs, hxs⟩ : ∃ xs, (V.bs.map boxP ++ (V.ps.take j).map Pt.bit).flatMap Pt.ns = xs := ⟨_, rfl⟩
      rw [hxs] at HU HST HLN
      rw [hsa] at v1
      clear hz_ hxs hsa
      go_wp2_with (first
       | (go_simp
          go_at_call 143
          refine (rnums_any (z := z) _).mono ?_
          rintro e w7 ⟨s7, rfl, hs7, hb7⟩
          have HN7 := Lh hs7
          have HU7 := Lh (HU.o.keep hb7)
          have HO7 := Lh (HO.o.keep hb7)
          have F7 := Lh (F_v.o.keep hb7)
          have HB7 := Kt HBW hb7
          clear hs7 hb7)
       | (at_builtin
          refine wpL_push_u rfl _ _ rfl (w.heap.size + 1) s7 8 _ xs [z.r0, z.s0, z.r1, z.s1, z.c0, z.c1, z.z0, z.z1] rfl rfl HU7.o rfl (fun j u hu => by rw [add_pl, Nat.zero_add, HN7.o.row.cellAt j (by have := (List.getElem?_eq_some_iff.1 hu).1; simpa using this)]; exact hu) (by have := HLN.o; omega) (by have := F7.o.lt; omega) ?_
          intro v9 w9 hown hgr
          have HU9 := Lh hown
          have HO9 := Lh (show OwnB w9 (w.heap.size + 1) _ _ from World.ownsRow.kept HO7.o hgr (own_diffN HU7.o HO7.o (by decide)))
          have HK9 := Lh (Below.rowT (n := w.heap.size + 1) hgr (fun k hk => (World.ownsRow.lt HU7.o k hk).1) (by have := F7.o.lt; omega))
          clear hown hgr))
      go_wp2_with fail
      go_roundw
      case rel => exact ⟨j + 1, by omega, by go_num, (show OwnU8 _ _ _ ((V.bs.map boxP ++ (V.ps.take (j + 1)).map Pt.bit).flatMap Pt.ns) by rw [HST.o]; exact HU9.o), HO9.o, F7.o.keepN HK9.o (by omega), HB7.o.trans (HK9.o.mono (by omega))⟩
      case measure => simp [intOf] <;> omega
     case neg =>
      have d3 : decide ((j : Int) < (V.m : Int)) = false := by simp; omega
      have HST := Lh (show V.nums = (V.bs.map boxP ++ (V.ps.take j).map Pt.bit).flatMap Pt.ns ++ [V.z.r0, V.z.s0, V.z.r1, V.z.s1, V.z.c0, V.z.c1, V.z.z0, V.z.z1] by
       rw [List.take_of_length_le (by have := H2.o; omega), Vt.nums, Vt.pts, List.map_append, ← List.append_assoc, List.flatMap_append]; simp [Pt.ns])
      obtain ⟨xs, hxs⟩ : ∃ xs, (V.bs.map boxP ++ (V.ps.take j).map Pt.bit).flatMap Pt.ns = xs := ⟨_, rfl⟩
      rw [hxs] at HU HST HLN
      clear hxs
      go_wp2_with (first
       | (go_simp
          go_at_call 143
          refine (rnums_any (z := V.z) _).mono ?_
          rintro e w7 ⟨s7, rfl, hs7, hb7⟩
          have HN7 := Lh hs7
          have HU7 := Lh (HU.o.keep hb7)
          have HO7 := Lh (HO.o.keep hb7)
          have F7 := Lh (F_v.o.keep hb7)
          have HB7 := Kt HBW hb7
          clear hs7 hb7)
       | (at_builtin
          refine wpL_push_u rfl _ _ rfl (w.heap.size + 1) s7 8 _ xs [V.z.r0, V.z.s0, V.z.r1, V.z.s1, V.z.c0, V.z.c1, V.z.z0, V.z.z1] rfl rfl HU7.o rfl (fun j u hu => by rw [add_pl, Nat.zero_add, HN7.o.row.cellAt j (by have := (List.getElem?_eq_some_iff.1 hu).1; simpa using this)]; exact hu) (by have := HLN.o; omega) (by have := F7.o.lt; omega) ?_
          intro v9 w9 hown hgr
          have HU9 := Lh hown
          have HO9 := Lh (show OwnB w9 (w.heap.size + 1) _ _ from World.ownsRow.kept HO7.o hgr (own_diffN HU7.o HO7.o (by decide)))
          have HK9 := Lh (Below.rowT (n := w.heap.size + 1) hgr (fun k hk => (World.ownsRow.lt HU7.o k hk).1) (by have := F7.o.lt; omega))
          clear hown hgr))
      have HU3 := Lh (show OwnU8 w9 (w.heap.size + 1) _ V.nums by rw [HST.o]; exact HU9.o)
      have HLL := Lh (show V.nums.length ≤ 300 by rw [HST.o, List.length_append]; have := HLN.o; simp; omega)
      replace F_v := Lh (F7.o.keepN HK9.o (by omega))
      replace HBW := Lh (HB7.o.trans (HK9.o.mono (by omega)))
      have HNP := Lh (show 0 < V.nums.length by rw [HST.o, List.length_append]; simp)
      obtain ⟨aq, cq, rfl⟩ := HU3.o.sl
      obtain ⟨g, hag, -⟩ := HU3.o.at rfl HNP.o
      subst hag
      obtain ⟨nn, hnn⟩ : ∃ nn, V.nums.length = nn := ⟨_, rfl⟩
      have HNN := Lh hnn
      rw [hnn] at HU3 HLL ⊢
      have HNU := Lh (show ∀ x, x ∈ V.nums → U64 x from fun x hx => by
       obtain ⟨p, hp, hx⟩ := List.mem_flatMap.1 hx
       exact Pt.us (Vt.us HV.o p hp) x hx)
      have HBY := Lh (show [(V.n : Int), (V.m : Int), 0] ++ flat8 V.nums = V.bytes by rw [Vt.bytes, ho]; rfl)
      clear hnn HU HU7 HO7 HU9 F7 HN7 HB7 HK9 F_v HST HLN d3 v0 v1 v2 v3 v4 v5 v6 v7 v8 v9 v10 vf hzw hzv
      go_loopw [3, 7] (fun c3 c7 wr => ∃ k : Nat, k ≤ nn ∧ c7 = .int .i64 k ∧ ∃ (a3 : Option Addr) (p3 : Nat), c3 = .slice a3 (3 + 8 * k) p3 ∧ Hid (OwnB wr (w.heap.size + 1) c3 ([(V.n : Int), (V.m : Int), 0] ++ flat8 (V.nums.take k))) ∧ Hid (OwnU8 wr (w.heap.size + 1) (.slice (some ⟨g, 0, none⟩) nn cq) V.nums) ∧ Hid (Below w.heap.size w wr)) (fun _ c7 _ => nn - (intOf c7).toNat)
      case atStart => exact ⟨0, Nat.zero_le _, rfl, _, 3, rfl, (show OwnB _ _ _ ([(V.n : Int), (V.m : Int), 0] ++ flat8 (V.nums.take 0)) by simpa [flat8] using HO9.o), HU3.o, HBW.o⟩
      case round =>
       clear HO9 HU3 HBW
       obtain ⟨k, hk, rfl, a3, p3, rfl, HO3, HU3, HBW⟩ := hrel
       have hk0 : (0 : Int) ≤ (k : Int) := by omega
       have hnl := HLL.o
       by_cases hkn : k < nn
       case pos =>
        have hk1 : (k : Int) < (nn : Int) := by omega
        have hwk : IntKind.i64.wrap ((k : Int) + 1) = (k : Int) + 1 := IntWalk.i64_in _ (by omega)
        obtain ⟨g', hg', hc⟩ := HU3.o.at HNN.o.symm hkn
        cases hg'
        obtain ⟨x, hx⟩ : ∃ x, V.nums.getD k 0 = x := ⟨_, rfl⟩
        have HUX := Lh (show U64 x from HNU.o x (by rw [← hx, List.getD_eq_getElem?_getD, List.getElem?_eq_getElem (by have := HNN.o; omega)]; exact List.getElem_mem _))
        have HFL := Lh (show flat8 (V.nums.take k) ++ be8 x = flat8 (V.nums.take (k + 1)) from flat8_snoc V.nums k (by have := HNN.o; omega) hx)
        obtain ⟨xs, hxs⟩ : ∃ xs, [(V.n : Int), (V.m : Int), 0] ++ flat8 (V.nums.take k) = xs := ⟨_, rfl⟩
        have HXL := Lh (show xs.length = 3 + 8 * k by rw [← hxs, List.length_append, flat8_len, List.length_take, Nat.min_eq_left (by have := HNN.o; omega)]; rfl)
        have HXN := Lh (show xs ++ be8 x = [(V.n : Int), (V.m : Int), 0] ++ flat8 (V.nums.take (k + 1)) by rw [← hxs, List.append_assoc, HFL.o])
        rw [hxs] at HO3
        rw [hx] at hc
        obtain ⟨a5, c5, e5, hs5⟩ := HO3.o.shi
        rw [HXL.o] at e5 hs5
        injection e5 with f1 f2 f3
        subst f1
        have HS5 := Lh hs5
        clear hxs hx hs5 f2 f3
        go_wp2_with fail
        clear hc
        refine (rEight_any _ HS5.o HUX.o (by omega)).mono ?_
        rintro e w8 ⟨v8, rfl, ho8, hb8⟩
        obtain ⟨a8, c8, e8, -⟩ := ho8.shi
        rw [List.length_append, HXL.o, be8_len, show 3 + 8 * k + 8 = 3 + 8 * (k + 1) by omega] at e8
        subst e8
        have HO8 := Lh (OwnB.mono ho8 (n₀ := w.heap.size + 1) (Nat.le_trans (Nat.succ_le_of_lt (by have := (World.ownsRow.lt HU3.o g rfl).1; have := (World.ownsRow.lt HU3.o g rfl).2; omega)) (Nat.le_refl _)))
        have HU8 := Lh (HU3.o.keep hb8)
        have HB8 := Kt HBW hb8
        clear ho8 hb8
        go_wp2_with fail
        go_roundw
        case rel => exact ⟨k + 1, by omega, by go_num, a8, c8, rfl, (show OwnB _ _ _ ([(V.n : Int), (V.m : Int), 0] ++ flat8 (V.nums.take (k + 1))) by rw [← HXN.o]; exact HO8.o), HU8.o, HB8.o⟩
        case measure => simp [intOf] <;> omega
       case neg =>
        have d3 : decide ((k : Int) < (nn : Int)) = false := by simp; omega
        have HZ := Lh (show OwnB wr w.heap.size (.slice a3 (3 + 8 * k) p3) V.bytes by
         have h := HO3.o
         rw [List.take_of_length_le (by rw [HNN.o]; omega), HBY.o] at h
         exact OwnB.mono h (by omega))
        go_wp2_with fail
        go_ret
        exact ⟨_, rfl, HZ.o, HBW.o⟩
open Go Go.RowKit Num Sha
def zero32 : List Int := List.replicate 32 0
def codeF (V : Vt) : Int × List Int := if 10 < V.n ∨ 10 < V.m then (4, zero32) else (0, shaS V.bytes)
theorem bytes_len {w : World} {V : Vt} (h : VtIn w V) (hn : V.n ≤ 10) (hm : V.m ≤ 10) : V.bytes.length ≤ 8000 ∧ 3 ≤ V.bytes.length := by
 have h1 := h.h1.len
 have h2 := h.h2.len
 have h3 := nums_len V.pts
 have h4 : V.pts.length = V.n + V.m + 1 := by simp [Vt.pts]; omega
 rw [Vt.bytes, List.length_append, flat8_len]
 have h5 : V.nums.length ≤ 8 * (V.n + V.m + 1) := by rw [← h4]; exact h3
 have h6 : [(V.n : Int), (V.m : Int), if V.one then 1 else 0].length = 3 := rfl
 omega
theorem bytes_ok {w : World} {V : Vt} (h : VtIn w V) (hn : V.n ≤ 10) (hm : V.m ≤ 10) : ByteL V.bytes := by
 intro x hx
 rcases List.mem_append.1 hx with hx | hx
 · simp at hx
   rcases hx with rfl | rfl | rfl
   · omega
   · omega
   · split <;> omega
 · exact flat8_bytes _ x hx
set_option maxHeartbeats 8000000 in
theorem bCode_any {V : Vt} {er : Int} {cs : List Int} (w : World) (hT : Tabs w) (hV : VtIn w V) (hr : codeF V = (er, cs)) :
 Calls Tryz.prog 86 #[V.v] w fun e w' => e = .returned (.tuple #[.agg (valV .u8 cs), .int .i64 er]) ∧ Below w.heap.size w w' := by
 have hbu : ∀ w : World, (Instr.build 26 #[]).run Tryz.prog w = .ok (.agg (valV .u8 zero32)) w := fun w => by kernel_rfl
 have HT := Lh hT
 have HV := Lh hV
 have HR := Lh hr
 have F_v := Lh (VBox.at w V 33 w.heap.size rfl)
 have HBW := Lh (show Below w.heap.size w (w.alloc (.cells V.ca 33)) from (Below.refl _ _).alloc (Nat.le_refl _) _)
 clear hT hV hr
 have hvv : V.v = .agg V.ca := rfl
 rw [hvv]
 go_enter Tryz.func86, Tryz.ntmps86
 go_wp2_with (first
  | (refine wpL_allocArr rfl 26 .u8 32 rfl (by kernel_rfl) ?_; intro w1 h1; have F_o := Lh h1.arr; have HB1 := Lh (h1.below _ (Nat.le_refl _)); clear h1; simp only [sY]; replace F_v := Lh (F_v.o.keep HB1.o); replace HBW := Lh (HBW.o.trans (HB1.o.mono (by simp))); obtain ⟨-, v0, v1, v2, v3, v4, v5, v6, v7, v8, v9, v10, vf⟩ := id F_v.o))
 obtain ⟨Bo, hBo⟩ : ∃ Bo, (w.alloc (.cells V.ca 33)).heap.size = Bo := ⟨_, rfl⟩
 have hB1 : w.heap.size ≤ Bo := by rw [← hBo]; simp
 rw [hBo] at F_o ⊢
 clear v0 v1 v2 v3 v4 v5 v6 v7 v8 v9 v10 vf hBo
 by_cases hc : 10 < V.n ∨ 10 < V.m
 case pos =>
  have hr := HR.o
  rw [codeF, if_pos hc] at hr
  cases hr
  refine (bBytes_any _ (HV.o.keep HBW.o) (show bytesF V = (4, []) from if_pos hc)).mono ?_
  rintro e w2 ⟨v, rfl, -, hb2⟩
  replace F_o := Lh (F_o.o.keep hb2)
  replace HBW := Kt HBW hb2
  clear hb2
  go_wp2_with (refine wpL_storeArr rfl 26 .u8 _ _ Bo zero32 _ rfl rfl rfl rfl (by kernel_rfl) F_o.o rfl ?_; intro w9 h9; have H9 := Lh h9; clear h9)
  refine bodyPost_ret (res_arr2 .u8 Bo 0 zero32 32 5 rfl Tryz.underlying26 (by kernel_rfl) _ rfl rfl H9.o.row) rfl ?_
  exact ⟨rfl, HBW.o.trans (H9.o.below _ hB1)⟩
 case neg =>
  have hr := HR.o
  rw [codeF, if_neg hc] at hr
  obtain ⟨rfl, rfl⟩ := Prod.mk.inj hr
  clear hr
  refine (bBytes_any _ (HV.o.keep HBW.o) (show bytesF V = (0, V.bytes) from if_neg hc)).mono ?_
  rintro e w2 ⟨v, rfl, ho2, hb2⟩
  obtain ⟨hbl, hb3⟩ := bytes_len HV.o (by omega) (by omega)
  have HBY := Lh (bytes_ok HV.o (by omega) (by omega))
  obtain ⟨g, c2, rfl, hsh⟩ := ho2.shs (by omega)
  have HS2 := Lh hsh
  replace F_o := Lh (F_o.o.keep hb2)
  replace HBW := Kt HBW hb2
  obtain ⟨nl, hnl⟩ : ∃ nl, V.bytes.length = nl := ⟨_, rfl⟩
  rw [hnl] at HS2 hbl ⊢
  clear hb2 ho2 hsh hnl hb3
  go_wp2_with (first
   | (go_at_call 119; refine (dSum_any _ (HT.o.below HBW.o) HS2.o (by omega) HBY.o).mono ?_; rintro e w3 ⟨rfl, hb3⟩; replace F_o := Lh (F_o.o.keep hb3); replace HBW := Kt HBW hb3; clear hb3)
   | (refine wpL_storeArr rfl 26 .u8 _ _ Bo (shaS V.bytes) _ rfl rfl rfl rfl (by kernel_rfl) F_o.o rfl ?_; intro w9 h9; have H9 := Lh h9; clear h9))
  refine bodyPost_ret (res_arr2 .u8 Bo 0 (shaS V.bytes) 32 5 rfl Tryz.underlying26 (by kernel_rfl) _ rfl rfl H9.o.row) rfl ?_
  exact ⟨rfl, HBW.o.trans (H9.o.below _ hB1)⟩
open Go Go.RowKit Num Sha
structure RBox (W : World) (B : Nat) (v : Value) : Prop where
 c0 : W.cell? ⟨B, 0, none⟩ = some v
 f0 : W.frozen? ⟨B, 0, none⟩ = false
 lt : B < W.heap.size
theorem RBox.at (W : World) (v : Value) (T : TypeId) (b : Nat) (hb : b = W.heap.size) : RBox (W.alloc (.cells #[v] T)) b v := by
 subst hb
 refine ⟨?_, ?_, by simp⟩
 · rw [World.cell?_alloc_new]; rfl
 · simp
theorem RBox.keepN {W W' : World} {B n : Nat} {v : Value} (h : RBox W B v) (hb : Below n W W') (hn : B < n) : RBox W' B v :=
 ⟨(hb.cell (p := ⟨B, 0, none⟩) hn).trans h.c0, (hb.frozen (p := ⟨B, 0, none⟩) hn).trans h.f0, Nat.lt_of_lt_of_le h.lt hb.size⟩
theorem RBox.keep {W W' : World} {B : Nat} {v : Value} (h : RBox W B v) (hb : Below W.heap.size W W') : RBox W' B v := h.keepN hb h.lt
theorem RBox.drew {W : World} {B : Nat} {v : Value} (h : RBox W B v) : RBox W.drew B v := h.keep (Below.refl _ _).drew
theorem RBox.alloc {W : World} {B : Nat} {v : Value} (h : RBox W B v) (o : Obj) : RBox (W.alloc o) B v := h.keep ((Below.refl _ _).alloc (Nat.le_refl _) o)
theorem RBox.set {W : World} {B : Nat} {v : Value} (h : RBox W B v) (u : Value) : RBox (W.setCell ⟨B, 0, none⟩ u) B u := by
 refine ⟨World.cell?_setCell_same' _ _ _ (by rw [h.c0]; rfl), ?_, by simpa using h.lt⟩
 rw [World.frozen?_setCell]; exact h.f0
theorem RBox.other {W : World} {B : Nat} {v : Value} (h : RBox W B v) (p : Addr) (u : Value) (hp : p.block ≠ B) : RBox (W.setCell p u) B v := by
 refine ⟨?_, ?_, by simpa using h.lt⟩
 · rw [World.cell?_setCell_other _ _ _ _ (show p ≠ ⟨B, 0, none⟩ from fun e => hp (by rw [e]))]; exact h.c0
 · rw [World.frozen?_setCell]; exact h.f0
open Go Go.RowKit Num Sha
def be4 (x : Int) : List Int := (List.range 4).map fun i => x / 2 ^ (24 - 8 * i) % 256
open Go Go.RowKit Go.Shelf Num Sha
attribute [local go_sem] Oper.semAt_some
section
variable {P : Program} {ops : Array Oper} {Q : Exit → Act → World → Prop} {n : Nat}
end
def tryB (seed : List Int) (i : Int) (k : Nat) : List Int := seed ++ be4 i ++ be4 (k : Int)
def tryS (seed : List Int) (i : Int) (k : Nat) : Int := beN ((shaS (tryB seed i k)).take 8)
def Kc (W W' : World) : Prop := W.heap.size ≤ W'.heap.size ∧ ∀ p v, W.cell? p = some v → W'.cell? p = some v
theorem Kc.refl (W : World) : Kc W W := ⟨Nat.le_refl _, fun _ _ h => h⟩
theorem Kc.trans {A B C : World} (h : Kc A B) (k : Kc B C) : Kc A C := ⟨Nat.le_trans h.1 k.1, fun p v hv => k.2 p v (h.2 p v hv)⟩
theorem Kc.below {W W' : World} (h : Below W.heap.size W W') : Kc W W' := ⟨h.size, fun p v hv => (h.cell (World.block_lt_of_cell? W _ hv)).trans hv⟩
theorem Kc.put (W : World) (l : Nat) (o o' : Obj) (h : W.heap[l]? = some o) (ho : o.isCells = false) : Kc W (W.putObj l o') := by
 have hg := grownBy_putObj' W l o'
 refine ⟨hg.size, fun p v hv => ?_⟩
 have hb : p.block ≠ l := by
  intro e
  unfold World.cell? at hv
  rw [e, h] at hv
  cases o <;> simp [Obj.isCells] at ho hv
 exact (World.cell?_of_block (w := W) (a := p) (hg.block p.block (World.block_lt_of_cell? W _ hv) (fun e => hb (by cases e; rfl)))).trans hv
theorem ShI.kc {q : IntKind} {W W' : World} {a : Option Addr} {n : Nat} {xs : List Int} (h : ShI q W a n xs) (k : Kc W W') : ShI q W' a n xs := by
 rcases h with h | ⟨s, o, h0, h1, h2, h3⟩
 · exact .inl h
 · exact .inr ⟨s, o, h0, h1, Nat.lt_of_lt_of_le h2 k.1, fun i hi => k.2 _ _ (h3 i hi)⟩
theorem Tabs.kc {W W' : World} (h : Tabs W) (k : Kc W W') : Tabs W' :=
 ⟨fun t ht => k.2 _ _ (h.k t ht), fun i hi => k.2 _ _ (h.f i hi), Nat.lt_of_lt_of_le h.klt k.1, Nat.lt_of_lt_of_le h.flt k.1⟩
structure UrnB (W : World) (Bu Bi : Nat) (seed : List Int) (i : Int) : Prop where
 u : ∀ j, j < seed.length → W.cell? ⟨Bu, j, none⟩ = some (.int .u8 (seed.getD j 0))
 i : W.cell? ⟨Bi, 0, none⟩ = some (.int .u32 i)
theorem UrnB.kc {W W' : World} {Bu Bi : Nat} {seed : List Int} {i : Int} (h : UrnB W Bu Bi seed i) (k : Kc W W') : UrnB W' Bu Bi seed i := ⟨fun j hj => k.2 _ _ (h.u j hj), k.2 _ _ h.i⟩
theorem UrnB.sh {W : World} {Bu Bi : Nat} {seed : List Int} {i : Int} (h : UrnB W Bu Bi seed i) (hl : seed.length = 32) : ShI .u8 W (some ⟨Bu, 0, none⟩) 32 seed :=
 .inr ⟨Bu, 0, rfl, hl.symm, World.block_lt_of_cell? W _ (h.u 0 (by omega)), fun j hj => by rw [Nat.zero_add]; exact h.u j hj⟩
theorem UrnB.new {seed : List Int} {i : Int} (w : World) (T T' : TypeId) : UrnB ((w.alloc (.cells (valV .u8 seed) T)).alloc (.cells #[.int .u32 i] T')) w.heap.size (w.heap.size + 1) seed i := by
 refine ⟨fun j hj => ?_, ?_⟩
 · have h := ((Arr.new .u8 w seed T _ rfl).alloc (.cells #[.int .u32 i] T')).c j hj
   exact h
 · simp
end Go.Proofs.YtlbldpkgnonbpaaGreatDoor
