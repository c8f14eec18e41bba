/- booth.Bytes. -/
import Derived.Test.YtlbldpkgnonbpaaGreatDoorQsG
import Derived.Deep.Cut
set_option linter.unusedSimpArgs false
set_option linter.unusedVariables false
set_option maxRecDepth 100000
namespace Go.Proofs.YtlbldpkgnonbpaaGreatDoor
open Go Go.RowKit Num Sha
theorem wanted_wp {P : Program} {ops : Array Oper} {o : Oper} {a : Act} {w : World} {K : Act → World → Prop} {Q : Exit → Act → World → Prop} {E : Prop} (hg : o.guard = none) (h : Oper.wp P o a w K Q) : if Region.wanted o (yielded ops a.tmps) = true then Oper.wp P o a w K Q else E := by
 have hw : Region.wanted o (yielded ops a.tmps) = true := by simp [Region.wanted, hg]
 rw [if_pos hw]
 exact h
theorem wp_push_bit {w : World} {o : Oper} {a : Act} {K : Act → World → Prop} {Q : Exit → Act → World → Prop} (s x : Operand) (ho : o.op = .call { callee := .builtin .append, args := #[s, x], argTypes := #[28, 28] })
 (base n b : Nat) (v : Value) (xs : List Value) (z : Bt) (hs : a.eval s = v) (hx : a.eval x = .slice (some ⟨b, 0, none⟩) 1 1) (hown : w.ownsRow base 31 8 v n xs) (hc : ∀ j u, z.vs[j]? = some u → w.cell? ((⟨b, 0, none⟩ : Addr).add j) = some u) (hn : n ≤ 1000000) (hb : base ≤ w.heap.size)
 (h : ∀ v' w', w'.ownsRow base 31 8 v' (n + 1) (xs ++ z.vs) → w.grownBy w' v.ownBlock → K (a.put o.dst v') w') : o.wp Tryz.prog a w K Q := by
 obtain ⟨j0, ji, jz0, jz1, jz2⟩ := info_parts (P := Tryz.prog) (e := 31) (z := .agg #[υ 0, υ 0, υ 0, υ 0, υ 0, υ 0, υ 0, υ 0]) (size := 8) (bytes := 64) (by kernel_rfl)
 exact wp_append_own w s x 28 ho base 31 j0 _ 8 64 Tryz.underlying28 ji jz0 jz1 jz2 rfl (by decide) v n xs hs hown ⟨b, 0, none⟩ 1 1 z.vs hx rfl hc (fun u hu => flatB_one [z] u (by simpa [flatB] using hu)) (by unfold maxLen; omega) (by omega) hb (fun v' w' h1 h2 _ => h v' w' h1 h2)
theorem GrewO.trans {w0 w1 w2 : World} {n₀ : Nat} {v v' : Value} {xs ys : List Int} (h : GrewO w0 w1 n₀ v xs) (k : GrewO w1 w2 n₀ v' ys) : GrewO w0 w2 n₀ v' ys := ⟨k.own, h.bel.trans k.bel, k.le, h.oth.trans k.oth⟩
theorem nums_len (l : List Pt) : (l.flatMap Pt.ns).length ≤ 8 * l.length := by
 induction l with
 | nil => simp
 | cons p l ih => rw [List.flatMap_cons, List.length_append, List.length_cons]; have := p.len; omega
theorem nums_snoc {l : List Pt} {k : Nat} {p : Pt} (h : l[k]? = some p) : flat8 ((l.take k).flatMap Pt.ns) ++ flat8 p.ns = flat8 ((l.take (k + 1)).flatMap Pt.ns) := by
 rw [List.take_add_one, h, List.flatMap_append]; simp [flat8, List.flatMap_append]
theorem GrewO.lit (w : World) (xs : List Int) (hx : xs.length ≤ 100) : GrewO w (w.alloc (.cells (xs.map (Value.int .u8)).toArray 5)) w.heap.size (.slice (some ⟨w.heap.size, 0, none⟩) xs.length xs.length) xs :=
 ⟨by
  have := World.ownsRow_lit (base := w.heap.size) (e := 5) (size := 1) w (xs.map (Value.int .u8)).toArray xs.length (Nat.le_refl _) (by unfold maxLen; omega) (by simp)
  unfold OwnB; simpa using this, (Below.refl _ _).alloc (Nat.le_refl _) _, by simp, Others.below ((Below.refl _ _).alloc (Nat.le_refl _) _)⟩
theorem below_al {w W : World} {o : Obj} (h : Below w.heap.size w W) : Below w.heap.size w (W.alloc o) := h.alloc h.size o
theorem owns_mono {W : World} {n₀ n₁ : Nat} {e : TypeId} {sz n : Nat} {v : Value} {xs : List Value} (h : W.ownsRow n₁ e sz v n xs) (hn : n₀ ≤ n₁) : W.ownsRow n₀ e sz v n xs := by
 refine ⟨h.1, ?_⟩
 rcases h.2 with h2 | ⟨g, cap, cur, a, b, c⟩
 · exact .inl h2
 · exact .inr ⟨g, cap, cur, a, Nat.le_trans hn b, c⟩
def boxP (q : Int × Int) : Pt := .box q.1 q.2
def Vt.pts (V : Vt) : List Pt := V.bs.map boxP ++ (V.ps ++ [V.z]).map Pt.bit
def Vt.nums (V : Vt) : List Int := V.pts.flatMap Pt.ns
def Vt.bytes (V : Vt) : List Int := [(V.n : Int), (V.m : Int), if V.one then 1 else 0] ++ flat8 V.nums
def bytesF (V : Vt) : Int × List Int := if 10 < V.n ∨ 10 < V.m then (4, []) else (0, V.bytes)
theorem Vt.us {w : World} {V : Vt} (h : VtIn w V) : ∀ p, p ∈ V.pts → p.u := by
 intro p hp
 rcases List.mem_append.1 hp with hp | hp
 · obtain ⟨q, hq, rfl⟩ := List.mem_map.1 hp
   exact h.u1 q hq
 · obtain ⟨z, hz, rfl⟩ := List.mem_map.1 hp
   rcases List.mem_append.1 hz with hz | hz
   · exact h.u2 z hz
   · simp at hz; subst hz; exact h.uz
def RetBy (w : World) (er : Int) (bs : List Int) (e : Ending) (w' : World) : Prop :=
 ∃ v, e = .returned (.tuple #[v, .int .i64 er]) ∧ OwnB w' w.heap.size v bs ∧ Below w.heap.size w w'
def ptsTo (V : Vt) (j : Nat) : List Pt := V.bs.map boxP ++ ((V.ps ++ [V.z]).take j).map Pt.bit
def OwnPt (w : World) (n₀ : Nat) (v : Value) (l : List Pt) : Prop := w.ownsRow n₀ 189 1 v l.length (l.map Pt.v)
theorem OwnPt.nil (w : World) (n₀ : Nat) : OwnPt w n₀ (.slice none 0 0) [] := World.ownsRow_nil _ _ _ _
theorem OwnPt.keep {w w' : World} {n₀ : Nat} {v : Value} {l : List Pt} (h : OwnPt w n₀ v l) (hb : Below w.heap.size w w') : OwnPt w' n₀ v l := owns_below2 h hb
theorem OwnPt.others {w w' : World} {n₀ : Nat} {v : Value} {l : List Pt} (h : OwnPt w n₀ v l) (ho : Others w w') : OwnPt w' n₀ v l := ho _ _ _ _ _ _ (by decide) h
theorem OwnPt.snoc {w : World} {n₀ : Nat} {v : Value} {l : List Pt} {p : Pt} (h : w.ownsRow n₀ 189 1 v (l.length + 1) (l.map Pt.v ++ [p.v])) : OwnPt w n₀ v (l ++ [p]) := by
 unfold OwnPt
 rw [List.length_append, List.map_append]; exact h
theorem OwnPt.sl {w : World} {n₀ : Nat} {v : Value} {l : List Pt} (h : OwnPt w n₀ v l) : ∃ a c, v = .slice a l.length c := by
 have hl := h.1
 rcases h.2 with ⟨rfl, h0⟩ | ⟨g, cap, cur, rfl, _⟩
 · exact ⟨none, 0, by rw [h0]⟩
 · exact ⟨_, _, rfl⟩
theorem OwnPt.at {w : World} {n₀ n k : Nat} {a : Option Addr} {c : Nat} {l : List Pt} {p : Pt} (h : OwnPt w n₀ (.slice a n c) l) (hn : n = l.length) (hp : l[k]? = some p) : ∃ g, a = some ⟨g, 0, none⟩ ∧ w.cell? ⟨g, k, none⟩ = some p.v := by
 have hk : k < l.length := (List.getElem?_eq_some_iff.1 hp).1
 subst hn
 rcases h.2 with ⟨h1, h0⟩ | ⟨g, cap, cur, h1, _⟩
 · omega
 · injection h1 with e1 e2 e3
   subst e1 e3
   refine ⟨g, rfl, ?_⟩
   rw [World.ownsRow.cellAt h k (by omega), List.getElem?_map, hp]; rfl
set_option maxHeartbeats 8000000 in
theorem bBytes_any {V : Vt} {er : Int} {bs : List Int} (w : World) (hV : VtIn w V) (hr : bytesF V = (er, bs)) :
 Calls Tryz.prog 118 #[V.v] w (RetBy w er bs) := by
 obtain ⟨i0, hi, hz0, hz1, hz2⟩ := info_parts (P := Tryz.prog) (e := 189) (z := .nilIface) (size := 1) (bytes := 16) (by kernel_rfl)
 obtain ⟨j0, ji, jz0, jz1, jz2⟩ := info_parts (P := Tryz.prog) (e := 31) (z := .agg #[υ 0, υ 0, υ 0, υ 0, υ 0, υ 0, υ 0, υ 0]) (size := 8) (bytes := 64) (by kernel_rfl)
 have F_v := Lh (VBox.at w V 33 w.heap.size rfl)
 have HBW := Lh (show Below w.heap.size w (w.alloc (.cells V.ca 33)) from (Below.refl _ _).alloc (Nat.le_refl _) _)
 have HV := Lh hV
 have HR := Lh hr
 have H1 := Lh hV.h1.len
 have H2 := Lh hV.h2.len
 clear hV hr
 unfold Vt.v
 obtain ⟨-, v0, v1, v2, v3, v4, v5, v6, v7, v8, v9, v10, vf⟩ := id F_v.o
 go_enter Tryz.func118, Tryz.ntmps118
 by_cases h1 : 10 < V.n
 case pos =>
  have hr := HR.o
  rw [bytesF, if_pos (.inl h1)] at hr
  cases hr
  have d1 : decide ((10 : Int) < (V.n : Int)) = true := by simp; omega
  go_wp2_with fail
  go_ret2
  exact ⟨_, rfl, World.ownsRow_nil _ _ _ _, HBW.o⟩
 case neg =>
  have d1 : decide ((10 : Int) < (V.n : Int)) = false := by simp; omega
  by_cases h2 : 10 < V.m
  case pos =>
   have hr := HR.o
   rw [bytesF, if_pos (.inr h2)] at hr
   cases hr
   have d2 : decide ((10 : Int) < (V.m : Int)) = true := by simp; omega
   go_wp2_with fail
   go_ret2
   exact ⟨_, rfl, World.ownsRow_nil _ _ _ _, HBW.o⟩
  case neg =>
   have d2 : decide ((10 : Int) < (V.m : Int)) = false := by simp; omega
   have hr := HR.o
   rw [bytesF, if_neg (by omega)] at hr
   obtain ⟨rfl, rfl⟩ := Prod.mk.inj hr
   clear hr HR
   go_wp2_with fail
   clear d1 d2 v0 v1 v2 v3 v4 v5 v6 v7 v8 v9 v10 vf
   go_loopw [4, 25] (fun c4 c25 wr => ∃ i : Nat, i ≤ V.n ∧ c25 = .int .i64 i ∧ Hid (OwnPt wr (w.heap.size + 1) c4 ((V.bs.take i).map boxP)) ∧ Hid (VBox wr w.heap.size V) ∧ Hid (Below w.heap.size w wr)) (fun _ c25 _ => V.n - (intOf c25).toNat)
   case atStart => exact ⟨0, Nat.zero_le _, rfl, OwnPt.nil _ _, F_v.o, HBW.o⟩
   case round =>
    clear F_v HBW
    obtain ⟨i, hi1, rfl, HP, F_v, HBW⟩ := hrel
    have hi0 : (0 : Int) ≤ (i : Int) := by omega
    have hzv := F_v.o.lt
    by_cases hlt : i < V.n
    case pos =>
     have hi2 : (i : Int) < (V.n : Int) := by omega
     have hwi : IntKind.i64.wrap ((i : Int) + 1) = (i : Int) + 1 := IntWalk.i64_in _ (by omega)
     have cS : Tryz.prog.cellsOf 75 = 2 := by kernel_rfl
     obtain ⟨s, o, hsa, hsl, b0, b1⟩ := (HV.o.h1.keep HBW.o).at i hlt
     obtain ⟨x, y, hxy⟩ : ∃ x y, V.bs.getD i (0, 0) = (x, y) := ⟨_, _, rfl⟩
     rw [hxy] at b0 b1
     simp only at b0 b1
     have HST := Lh (show (V.bs.take (i + 1)).map boxP = (V.bs.take i).map boxP ++ [.box x y] by
      have hl : i < V.bs.length := by have := H1.o; omega
      rw [List.take_succ_eq_append_getElem hl, List.map_append]
      have e : V.bs[i] = (x, y) := by rw [← hxy, List.getD_eq_getElem?_getD, List.getElem?_eq_getElem hl]; rfl
      rw [e]; rfl)
     have HLN := Lh (show ((V.bs.take i).map boxP).length = i by rw [List.length_map, List.length_take]; have := H1.o; omega)
     have HP0 := Lh (show wr.ownsRow (w.heap.size + 1) 189 1 _ i (((V.bs.take i).map boxP).map Pt.v) by have h := HP.o; unfold OwnPt at h; rw [HLN.o] at h; exact h)
     clear hxy HP
     rw [hsa]
     go_wp2_with (at_builtin; refine wpList_append_own _ rfl _ _ 185 rfl (w.heap.size + 1) 189 i0 .nilIface 1 16 Tryz.underlying185 hi hz0 hz1 hz2 rfl (by decide) _ _ _ rfl (owns_alloc2 (owns_alloc2 HP0.o _) _) _ 1 1 [.iface 186 (.agg #[υ x, υ y])] rfl rfl (cell_list_at _ _ _ _ (by first | rfl | simp)) (fun z hz => by simp at hz; subst hz; rfl) (by unfold maxLen; omega) (by omega) (by first | omega | (simp; omega)) ?_; intro v' w9 hown hgr hnil; have HP9 := Lh hown; have HB9 := Lh (Below.rowT (n := w.heap.size + 1) hgr (fun k hk => by have := (World.ownsRow.lt HP0.o k hk).1; omega) (by first | omega | (simp; omega))); clear hown hgr hnil)
     go_roundw
     case rel => exact ⟨i + 1, by omega, by go_num, (by rw [HST.o]; exact OwnPt.snoc (by rw [HLN.o]; exact HP9.o)), ((F_v.o.alloc _).alloc _).keepN HB9.o (by omega), ((HBW.o.alloc HBW.o.size _).alloc (by first | exact Nat.le_trans HBW.o.size (by simp) | omega) _).trans (HB9.o.mono (by omega))⟩
     case measure => simp [intOf] <;> omega
    case neg =>
     have hin : i = V.n := by omega
     rw [List.take_of_length_le (by have := H1.o; omega)] at HP
     have hwn : w.heap.size + 1 ≤ wr.heap.size := by omega
     obtain ⟨-, v0, v1, v2, v3, v4, v5, v6, v7, v8, v9, v10, vf⟩ := id F_v.o
     obtain ⟨-, u0, u1, u2, u3, u4_, u5, u6, u7, u8, u9, u10, uf⟩ := id (F_v.o.alloc (.cells #[υ V.z.r0, υ V.z.r1, υ V.z.s0, υ V.z.s1, υ V.z.c0, υ V.z.c1, υ V.z.z0, υ V.z.z1] 31))
     have d3 : decide ((i : Int) < (V.n : Int)) = false := by simp; omega
     clear hin
     go_wp2_with fail
     go_cut [41, 42, 43] from 35 (fun c41 c42 c43 wx => ∃ (ab : Option Addr) (cb : Nat), c41 = .slice ab (V.m + 1) cb ∧ c42 = .int .i64 (((V.m + 1 : Nat)) : Int) ∧ c43 = .int .i64 0 ∧ Hid (wx.ownsRow (w.heap.size + 1) 31 8 c41 (V.m + 1) (flatB (V.ps ++ [V.z]))) ∧ Hid (Below wr.heap.size wr wx))
     case first =>
      go_region_law (first
       | (go_simp
          go_at_call 89
          refine (bitClone_any _ (HV.o.h2.keep (by first | exact HBW.o.drew | exact (HBW.o.alloc HBW.o.size _).drew)) HV.o.k2 (by omega)).mono ?_
          rintro e w7 ⟨v7, rfl, ho7, hb7⟩
          have HO7 := Lh (owns_mono ho7 (n₀ := wr.heap.size) (by first | omega | simp | (simp; omega)))
          have HB7 := Lh (show Below wr.heap.size wr w7 by first | exact (Below.refl _ _).drew.trans hb7 | exact (below_al (Below.refl _ _)).drew.trans (hb7.mono (by simp)))
          have HT7 := Lh hb7
          obtain ⟨-, t0, t1, t2, t3, t4, t5, t6, t7, t8, t9, t10, tf⟩ := id (F_v.o.keep HB7.o)
          clear ho7 hb7)
       | (refine wanted_wp rfl (wp_push_bit (.tmp 37) (.tmp 40) rfl wr.heap.size V.m w7.heap.size v7 (flatB V.ps) V.z ?jjv ?jjx ?jjo ?jjc ?jjm ?jjb ?_)
          case jjv => kernel_rfl
          case jjx => kernel_rfl
          case jjo => exact owns_alloc2 HO7.o _
          case jjc => exact cell_list_at _ _ _ _ rfl
          case jjm => omega
          case jjb => have := HB7.o.size; simp; omega
          intro v9 w9 hown hgr
          obtain ⟨ab, cb, rfl, -⟩ := ShB.of_owned (show w9.ownsRow wr.heap.size 31 8 v9 (V.m + 1) (flatB (V.ps ++ [V.z])) by rw [flatB_append]; simpa [flatB] using hown)
          have HO9 := Lh (show w9.ownsRow wr.heap.size 31 8 (.slice ab (V.m + 1) cb) (V.m + 1) (flatB (V.ps ++ [V.z])) by rw [flatB_append]; simpa [flatB] using hown)
          have HB9 := Lh (((HB7.o.alloc HB7.o.size _).mono (Nat.le_refl _)).trans (Below.rowT (n := wr.heap.size) hgr (fun k hk => by have := (World.ownsRow.lt HO7.o k hk).1; omega) (by have := HB7.o.size; simp; omega)))
          clear hown hgr)
       | (refine wanted_wp rfl (wp_push_bit (.tmp 37) (.tmp 40) rfl wr.heap.size V.m wr.heap.size v7 (flatB V.ps) V.z ?jjv ?jjx ?jjo ?jjc ?jjm ?jjb ?_)
          case jjv => kernel_rfl
          case jjx => kernel_rfl
          case jjo => exact HO7.o
          case jjc => exact fun j u hj => (HT7.o.cell (by rw [add_pl]; simp)).trans (cell_list_at wr _ _ _ rfl j u hj)
          case jjm => omega
          case jjb => exact HB7.o.size
          intro v9 w9 hown hgr
          obtain ⟨ab, cb, rfl, -⟩ := ShB.of_owned (show w9.ownsRow wr.heap.size 31 8 v9 (V.m + 1) (flatB (V.ps ++ [V.z])) by rw [flatB_append]; simpa [flatB] using hown)
          have HO9 := Lh (show w9.ownsRow wr.heap.size 31 8 (.slice ab (V.m + 1) cb) (V.m + 1) (flatB (V.ps ++ [V.z])) by rw [flatB_append]; simpa [flatB] using hown)
          have HB9 := Lh (HB7.o.trans (Below.rowT (n := wr.heap.size) hgr (fun k hk => by have := (World.ownsRow.lt HO7.o k hk).1; omega) HB7.o.size))
          clear hown hgr))
      all_goals (go_wp2_with fail; go_meet)
      all_goals exact ⟨ab, cb, rfl, rfl, rfl, owns_mono HO9.o hwn, HB9.o⟩
     case rest =>
      obtain ⟨ab, cb, rfl, rfl, rfl, HQ, HBx⟩ := hcut
      replace F_v := Lh (F_v.o.keep HBx.o)
      replace HP := Lh (HP.o.keep HBx.o)
      replace HBW := Lh (HBW.o.trans (HBx.o.mono HBW.o.size))
      clear HBx v0 v1 v2 v3 v4 v5 v6 v7 v8 v9 v10 vf u0 u1 u2 u3 u4_ u5 u6 u7 u8 u9 u10 uf d3
      go_wp2_with fail
      go_loopw [4, 43] (fun c4 c43 wq => ∃ j : Nat, j ≤ V.m + 1 ∧ c43 = .int .i64 j ∧ Hid (OwnPt wq (w.heap.size + 1) c4 (ptsTo V j)) ∧ Hid (wq.ownsRow (w.heap.size + 1) 31 8 (.slice ab (V.m + 1) cb) (V.m + 1) (flatB (V.ps ++ [V.z]))) ∧ Hid (VBox wq w.heap.size V) ∧ Hid (Below w.heap.size w wq)) (fun _ c43 _ => V.m + 1 - (intOf c43).toNat)
      case atStart => exact ⟨0, Nat.zero_le _, rfl, (show OwnPt _ _ _ (ptsTo V 0) by unfold ptsTo; simpa using HP.o), HQ.o, F_v.o, HBW.o⟩
      case round =>
       clear F_v HBW HP HQ
       obtain ⟨j, hj1, rfl, HP, HQ, F_v, HBW⟩ := hrel
       have hj0 : (0 : Int) ≤ (j : Int) := by omega
       have hzw := F_v.o.lt
       have HLZ := Lh (show (V.ps ++ [V.z]).length = V.m + 1 by rw [List.length_append, ← H2.o]; rfl)
       by_cases hjt : j < V.m + 1
       case pos =>
        have hj2 : (j : Int) < ((V.m + 1 : Nat) : Int) := by omega
        have hwj : IntKind.i64.wrap ((j : Int) + 1) = (j : Int) + 1 := IntWalk.i64_in _ (by omega)
        have cB : Tryz.prog.cellsOf 31 = 8 := by kernel_rfl
        obtain ⟨a1, c1, e1, hsb⟩ := ShB.of_owned HQ.o
        injection e1 with f1 f2 f3
        subst f1 f3
        obtain ⟨s, o, z, hsa, hz_, hbc⟩ := hsb.at j hjt
        obtain ⟨-, b0, b1, b2, b3, b4, b5, b6, b7⟩ := hbc
        have HST := Lh (show ptsTo V (j + 1) = ptsTo V j ++ [.bit z] by
         rw [ptsTo, ptsTo, List.take_add_one, hz_, List.map_append, List.append_assoc]; rfl)
        have HLN := Lh (show (ptsTo V j).length = V.n + j by rw [ptsTo, List.length_append, List.length_map, List.length_map, List.length_take, HLZ.o, ← H1.o]; omega)
        have HP0 := Lh (show wr.ownsRow (w.heap.size + 1) 189 1 _ (V.n + j) ((ptsTo V j).map Pt.v) by have h := HP.o; unfold OwnPt at h; rw [HLN.o] at h; exact h)
        subst hsa
        clear hsb hz_ HP
        go_wp2_with (at_builtin; refine wpList_append_own _ rfl _ _ 185 rfl (w.heap.size + 1) 189 i0 .nilIface 1 16 Tryz.underlying185 hi hz0 hz1 hz2 rfl (by decide) _ _ _ rfl (owns_alloc2 (owns_alloc2 HP0.o _) _) _ 1 1 [.iface 187 (.agg #[υ z.r0, υ z.r1, υ z.s0, υ z.s1, υ z.c0, υ z.c1, υ z.z0, υ z.z1])] rfl rfl (cell_list_at _ _ _ _ (by first | rfl | simp)) (fun z hz => by simp at hz; subst hz; rfl) (by unfold maxLen; omega) (by omega) (by first | omega | (simp; omega)) ?_; intro v' w9 hown hgr hnil; have HP9 := Lh hown; have HB9 := Lh (Below.rowT (n := w.heap.size + 1) hgr (fun k hk => by have := (World.ownsRow.lt HP0.o k hk).1; omega) (by first | omega | (simp; omega))); have HQ9 := Lh (World.ownsRow.kept (owns_alloc2 (owns_alloc2 HQ.o _) _) hgr (own_diffN HP0.o HQ.o (by decide))); clear hown hgr hnil)
        go_roundw
        case rel => first | exact ⟨_, _, _, ⟨j + 1, by omega, by go_num, (show OwnPt _ _ _ (ptsTo V (j + 1)) by rw [HST.o]; exact OwnPt.snoc (by rw [HLN.o]; exact HP9.o)), ((F_v.o.alloc _).alloc _).keepN HB9.o (by omega), ((HBW.o.alloc HBW.o.size _).alloc (by first | exact Nat.le_trans HBW.o.size (by simp) | omega) _).trans (HB9.o.mono (by omega))⟩, rfl, rfl, rfl⟩ | exact ⟨_, _, _, ⟨j + 1, by omega, by go_num, (show OwnPt _ _ _ (ptsTo V (j + 1)) by rw [HST.o]; exact OwnPt.snoc (by rw [HLN.o]; exact HP9.o)), HQ9.o, ((F_v.o.alloc _).alloc _).keepN HB9.o (by omega), ((HBW.o.alloc HBW.o.size _).alloc (by first | exact Nat.le_trans HBW.o.size (by simp) | omega) _).trans (HB9.o.mono (by omega))⟩, rfl, rfl, rfl⟩
        case measure => simp [intOf] <;> omega
       case neg =>
        have HP0 := Lh (show OwnPt wr (w.heap.size + 1) _ V.pts by have h := HP.o; rwa [ptsTo, List.take_of_length_le (by rw [HLZ.o]; omega)] at h)
        clear HP HQ
        have d4 : decide ((j : Int) < ((V.m + 1 : Nat) : Int)) = false := by simp; omega
        have n8 : IntKind.u8.wrap (V.n : Int) = (V.n : Int) := by rw [IntKind.wrap_u8]; omega
        have m8 : IntKind.u8.wrap (V.m : Int) = (V.m : Int) := by rw [IntKind.wrap_u8]; omega
        have HPL := Lh (show V.pts.length = V.n + V.m + 1 by simp [Vt.pts]; have := H1.o; have := H2.o; omega)
        obtain ⟨ap, cp, rfl⟩ := HP0.o.sl
        rw [HPL.o] at HP0 ⊢
        obtain ⟨-, v0, v1, v2, -⟩ := id F_v.o
        cases ho : V.one with
        | true =>
         rw [ho] at v2
         go_wp2_with fail
         obtain ⟨wb, rfl⟩ : ∃ wb : World, wb = wr := ⟨_, rfl⟩
         have HG := Lh (show GrewO wb (wb.alloc (.cells #[.int .u8 (V.n : Int), .int .u8 (V.m : Int), .int .u8 1] 5)) wb.heap.size (.slice (some ⟨wb.heap.size, 0, none⟩) 3 3) [(V.n : Int), (V.m : Int), 1] from GrewO.lit wb [(V.n : Int), (V.m : Int), 1] (by simp))
         have HP1 := Lh (HP0.o.keep ((Below.refl wb.heap.size wb).alloc (Nat.le_refl _) (.cells #[.int .u8 (V.n : Int), .int .u8 (V.m : Int), .int .u8 1] 5)))
         have HBY := Lh (show [(V.n : Int), (V.m : Int), 1] ++ flat8 V.nums = V.bytes by rw [Vt.bytes, ho]; rfl)
         clear HP0 v0 v1 v2 F_v n8 m8 d4
         go_loopw [9, 11, 68] (fun c9 c11 c68 wq => ∃ k : Nat, k ≤ V.n + V.m + 1 ∧ c68 = .int .i64 k ∧ Hid (GrewO wb wq wb.heap.size c9 ([(V.n : Int), (V.m : Int), 1] ++ flat8 ((V.pts.take k).flatMap Pt.ns))) ∧ Hid (OwnPt wq (w.heap.size + 1) (.slice ap (V.n + V.m + 1) cp) V.pts)) (fun _ _ c68 _ => V.n + V.m + 1 - (intOf c68).toNat)
         case atStart => exact ⟨0, Nat.zero_le _, rfl, (show GrewO _ _ _ _ ([(V.n : Int), (V.m : Int), 1] ++ flat8 ((V.pts.take 0).flatMap Pt.ns)) by simpa [flat8] using HG.o), HP1.o⟩
         case round =>
          clear HG HP1
          obtain ⟨k, hk, rfl, HG, HP1⟩ := hrel
          have hk0 : (0 : Int) ≤ (k : Int) := by omega
          by_cases hkt : k < V.n + V.m + 1
          case pos =>
           have hk1 : (k : Int) < ((V.n + V.m + 1 : Nat) : Int) := by omega
           have hk1' : (k : Int) < (V.n : Int) + (V.m : Int) + 1 := by omega
           have hwk : IntKind.i64.wrap ((k : Int) + 1) = (k : Int) + 1 := IntWalk.i64_in _ (by omega)
           obtain ⟨p, hp⟩ : ∃ p, V.pts[k]? = some p := ⟨_, List.getElem?_eq_getElem (by rw [HPL.o]; exact hkt)⟩
           obtain ⟨g, hag, hcell⟩ := HP1.o.at HPL.o.symm hp
           have HPU := Lh (Vt.us HV.o p (List.mem_of_getElem? hp))
           have HSN := Lh (nums_snoc hp)
           have HNL := Lh (show ([(V.n : Int), (V.m : Int), 1] ++ flat8 ((V.pts.take k).flatMap Pt.ns)).length ≤ 100000 by
            rw [List.length_append, flat8_len]
            have := nums_len (V.pts.take k)
            rw [List.length_take] at this
            show 3 + 8 * _ ≤ 100000
            omega)
           subst hag
           clear hp
           go_wp2_with fail
           clear hcell
           refine (write_any _ HG.o.own HG.o.le HPU.o HNL.o).mono ?_
           rintro e w8 ⟨v8, rfl, hg8⟩
           have HG8 := Lh (HG.o.trans hg8)
           have HP8 := Lh (HP1.o.others hg8.oth)
           clear hg8
           go_wp2_with fail
           go_roundw
           case rel => exact ⟨_, _, _, _, _, _, _, _, _, _, ⟨k + 1, by omega, by go_num, (show GrewO _ _ _ _ ([(V.n : Int), (V.m : Int), 1] ++ flat8 ((V.pts.take (k + 1)).flatMap Pt.ns)) by rw [← HSN.o, ← List.append_assoc]; exact HG8.o), HP8.o⟩, rfl⟩
           case measure => simp [intOf] <;> omega
          case neg =>
           have d4 : decide ((k : Int) < ((V.n + V.m + 1 : Nat) : Int)) = false := by simp; omega
           have HO := Lh (show OwnB wr wb.heap.size _ V.bytes by
            have h := HG.o.own
            rwa [List.take_of_length_le (by rw [HPL.o]; omega), show V.pts.flatMap Pt.ns = V.nums from rfl, HBY.o] at h)
           go_wp2_with fail
           go_ret2
           exact ⟨_, rfl, OwnB.mono HO.o HBW.o.size, HBW.o.trans (HG.o.bel.mono HBW.o.size)⟩
        | false =>
         rw [ho] at v2
         go_wp2_with fail
         obtain ⟨wb, rfl⟩ : ∃ wb : World, wb = wr := ⟨_, rfl⟩
         have HG := Lh (show GrewO wb (wb.alloc (.cells #[.int .u8 (V.n : Int), .int .u8 (V.m : Int), .int .u8 0] 5)) wb.heap.size (.slice (some ⟨wb.heap.size, 0, none⟩) 3 3) [(V.n : Int), (V.m : Int), 0] from GrewO.lit wb [(V.n : Int), (V.m : Int), 0] (by simp))
         have HP1 := Lh (HP0.o.keep ((Below.refl wb.heap.size wb).alloc (Nat.le_refl _) (.cells #[.int .u8 (V.n : Int), .int .u8 (V.m : Int), .int .u8 0] 5)))
         have HBY := Lh (show [(V.n : Int), (V.m : Int), 0] ++ flat8 V.nums = V.bytes by rw [Vt.bytes, ho]; rfl)
         clear HP0 v0 v1 v2 F_v n8 m8 d4
         go_loopw [9, 11, 68] (fun c9 c11 c68 wq => ∃ k : Nat, k ≤ V.n + V.m + 1 ∧ c68 = .int .i64 k ∧ Hid (GrewO wb wq wb.heap.size c9 ([(V.n : Int), (V.m : Int), 0] ++ flat8 ((V.pts.take k).flatMap Pt.ns))) ∧ Hid (OwnPt wq (w.heap.size + 1) (.slice ap (V.n + V.m + 1) cp) V.pts)) (fun _ _ c68 _ => V.n + V.m + 1 - (intOf c68).toNat)
         case atStart => exact ⟨0, Nat.zero_le _, rfl, (show GrewO _ _ _ _ ([(V.n : Int), (V.m : Int), 0] ++ flat8 ((V.pts.take 0).flatMap Pt.ns)) by simpa [flat8] using HG.o), HP1.o⟩
         case round =>
          clear HG HP1
          obtain ⟨k, hk, rfl, HG, HP1⟩ := hrel
          have hk0 : (0 : Int) ≤ (k : Int) := by omega
          by_cases hkt : k < V.n + V.m + 1
          case pos =>
           have hk1 : (k : Int) < ((V.n + V.m + 1 : Nat) : Int) := by omega
           have hk1' : (k : Int) < (V.n : Int) + (V.m : Int) + 1 := by omega
           have hwk : IntKind.i64.wrap ((k : Int) + 1) = (k : Int) + 1 := IntWalk.i64_in _ (by omega)
           obtain ⟨p, hp⟩ : ∃ p, V.pts[k]? = some p := ⟨_, List.getElem?_eq_getElem (by rw [HPL.o]; exact hkt)⟩
           obtain ⟨g, hag, hcell⟩ := HP1.o.at HPL.o.symm hp
           have HPU := Lh (Vt.us HV.o p (List.mem_of_getElem? hp))
           have HSN := Lh (nums_snoc hp)
           have HNL := Lh (show ([(V.n : Int), (V.m : Int), 0] ++ flat8 ((V.pts.take k).flatMap Pt.ns)).length ≤ 100000 by
            rw [List.length_append, flat8_len]
            have := nums_len (V.pts.take k)
            rw [List.length_take] at this
            show 3 + 8 * _ ≤ 100000
            omega)
           subst hag
           clear hp
           go_wp2_with fail
           clear hcell
           refine (write_any _ HG.o.own HG.o.le HPU.o HNL.o).mono ?_
           rintro e w8 ⟨v8, rfl, hg8⟩
           have HG8 := Lh (HG.o.trans hg8)
           have HP8 := Lh (HP1.o.others hg8.oth)
           clear hg8
           go_wp2_with fail
           go_roundw
           case rel => exact ⟨_, _, _, _, _, _, _, _, _, _, ⟨k + 1, by omega, by go_num, (show GrewO _ _ _ _ ([(V.n : Int), (V.m : Int), 0] ++ flat8 ((V.pts.take (k + 1)).flatMap Pt.ns)) by rw [← HSN.o, ← List.append_assoc]; exact HG8.o), HP8.o⟩, rfl⟩
           case measure => simp [intOf] <;> omega
          case neg =>
           have d4 : decide ((k : Int) < ((V.n + V.m + 1 : Nat) : Int)) = false := by simp; omega
           have HO := Lh (show OwnB wr wb.heap.size _ V.bytes by
            have h := HG.o.own
            rwa [List.take_of_length_le (by rw [HPL.o]; omega), show V.pts.flatMap Pt.ns = V.nums from rfl, HBY.o] at h)
           go_wp2_with fail
           go_ret2
           exact ⟨_, rfl, OwnB.mono HO.o HBW.o.size, HBW.o.trans (HG.o.bel.mono HBW.o.size)⟩
end Go.Proofs.YtlbldpkgnonbpaaGreatDoor
