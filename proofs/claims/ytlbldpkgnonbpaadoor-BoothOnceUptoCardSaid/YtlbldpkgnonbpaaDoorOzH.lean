/- booth.Bytes. -/
import Derived.Test.YtlbldpkgnonbpaaDoorOzG
import Derived.Deep.Cut
import Derived.Test.YtlbldpkgnonbpaaDoorOzB
set_option linter.unusedSimpArgs false
set_option linter.unusedVariables false
set_option maxRecDepth 100000
namespace Go.Proofs.YtlbldpkgnonbpaaDoor
open Go Go.RowKit Num Sha
theorem wanted_wp {P : Program} {ops : Array Oper} {o : Oper} {a : Act} {w : World} {K : Act → World → Prop} {Q : Exit → Act → World → Prop} {E : Prop} (hg : o.guard = none) (h : Oper.wp P o a w K Q) : if Region.wanted o (yielded ops a.tmps) = true then Oper.wp P o a w K Q else E := by
 have hw : Region.wanted o (yielded ops a.tmps) = true := by simp [Region.wanted, hg]
 rw [if_pos hw]
 exact h
theorem wp_push_bit {w : World} {o : Oper} {a : Act} {K : Act → World → Prop} {Q : Exit → Act → World → Prop} (s x : Operand) (ho : o.op = .call { callee := .builtin .append, args := #[s, x], argTypes := #[23, 23] })
    (base n b : Nat) (v : Value) (xs : List Value) (z : Bt) (hs : a.eval s = v) (hx : a.eval x = .slice (some ⟨b, 0, none⟩) 1 1) (hown : w.ownsRow base 27 8 v n xs) (hc : ∀ j u, z.vs[j]? = some u → w.cell? ((⟨b, 0, none⟩ : Addr).add j) = some u) (hn : n ≤ 1000000) (hb : base ≤ w.heap.size)
    (h : ∀ v' w', w'.ownsRow base 27 8 v' (n + 1) (xs ++ z.vs) → w.grownBy w' v.ownBlock → K (a.put o.dst v') w') : o.wp Tryd.prog a w K Q := by
  obtain ⟨j0, ji, jz0, jz1, jz2⟩ := info_parts (P := Tryd.prog) (e := 27) (z := .agg #[.int .u64 0, .int .u64 0, .int .u64 0, .int .u64 0, .int .u64 0, .int .u64 0, .int .u64 0, .int .u64 0]) (size := 8) (bytes := 64) (by kernel_rfl)
  exact wp_append_own w s x 23 ho base 27 j0 _ 8 64 Tryd.underlying23 ji jz0 jz1 jz2 rfl (by decide) v n xs hs hown ⟨b, 0, none⟩ 1 1 z.vs hx rfl hc (fun u hu => flatB_one [z] u (by simpa [flatB] using hu)) (by unfold maxLen; omega) (by omega) hb (fun v' w' h1 h2 _ => h v' w' h1 h2)
theorem GrewO.trans {w0 w1 w2 : World} {n₀ : Nat} {v v' : Value} {xs ys : List Int} (h : GrewO w0 w1 n₀ v xs) (k : GrewO w1 w2 n₀ v' ys) : GrewO w0 w2 n₀ v' ys := ⟨k.own, h.bel.trans k.bel, k.le, h.oth.trans k.oth⟩
theorem nums_len (l : List Pt) : (l.flatMap Pt.ns).length ≤ 8 * l.length := by
 induction l with
 | nil => simp
 | cons p l ih => rw [List.flatMap_cons, List.length_append, List.length_cons]; have := p.len; omega
theorem nums_snoc {l : List Pt} {k : Nat} {p : Pt} (h : l[k]? = some p) : flat8 ((l.take k).flatMap Pt.ns) ++ flat8 p.ns = flat8 ((l.take (k + 1)).flatMap Pt.ns) := by
 rw [List.take_add_one, h, List.flatMap_append]; simp [flat8, List.flatMap_append]
theorem GrewO.lit (w : World) (xs : List Int) (hx : xs.length ≤ 100) : GrewO w (w.alloc (.cells (xs.map (Value.int .u8)).toArray 5)) w.heap.size (.slice (some ⟨w.heap.size, 0, none⟩) xs.length xs.length) xs :=
  ⟨by
   have := World.ownsRow_lit (base := w.heap.size) (e := 5) (size := 1) w (xs.map (Value.int .u8)).toArray xs.length (Nat.le_refl _) (by unfold maxLen; omega) (by simp)
   unfold OwnB; simpa using this, (Below.refl _ _).alloc (Nat.le_refl _) _, by simp, Others.below ((Below.refl _ _).alloc (Nat.le_refl _) _)⟩
theorem below_al {w W : World} {o : Obj} (h : Below w.heap.size w W) : Below w.heap.size w (W.alloc o) := h.alloc h.size o
theorem owns_mono {W : World} {n₀ n₁ : Nat} {e : TypeId} {sz n : Nat} {v : Value} {xs : List Value} (h : W.ownsRow n₁ e sz v n xs) (hn : n₀ ≤ n₁) : W.ownsRow n₀ e sz v n xs := by
 refine ⟨h.1, ?_⟩
 rcases h.2 with h2 | ⟨g, cap, cur, a, b, c⟩
 · exact .inl h2
 · exact .inr ⟨g, cap, cur, a, Nat.le_trans hn b, c⟩
def boxP (q : Int × Int) : Pt := .box q.1 q.2
def Vt.pts (V : Vt) : List Pt := V.bs.map boxP ++ (V.ps ++ [V.z]).map Pt.bit
def Vt.nums (V : Vt) : List Int := V.pts.flatMap Pt.ns
def Vt.bytes (V : Vt) : List Int := [(V.n : Int), (V.m : Int), if V.one then 1 else 0] ++ flat8 V.nums
def bytesF (V : Vt) : Int × List Int := if 10 < V.n ∨ 10 < V.m then (4, []) else (0, V.bytes)
theorem Vt.us {w : World} {V : Vt} (h : VtIn w V) : ∀ p, p ∈ V.pts → p.u := by
 intro p hp
 rcases List.mem_append.1 hp with hp | hp
 · obtain ⟨q, hq, rfl⟩ := List.mem_map.1 hp
   exact h.u1 q hq
 · obtain ⟨z, hz, rfl⟩ := List.mem_map.1 hp
   rcases List.mem_append.1 hz with hz | hz
   · exact h.u2 z hz
   · simp at hz; subst hz; exact h.uz
def RetBy (w : World) (er : Int) (bs : List Int) (e : Ending) (w' : World) : Prop :=
  ∃ v, e = .returned (.tuple #[v, .int .i64 er]) ∧ OwnB w' w.heap.size v bs ∧ Below w.heap.size w w'
def ptsTo (V : Vt) (j : Nat) : List Pt := V.bs.map boxP ++ ((V.ps ++ [V.z]).take j).map Pt.bit
def OwnPt (w : World) (n₀ : Nat) (v : Value) (l : List Pt) : Prop := w.ownsRow n₀ 83 1 v l.length (l.map Pt.v)
theorem OwnPt.nil (w : World) (n₀ : Nat) : OwnPt w n₀ (.slice none 0 0) [] := World.ownsRow_nil _ _ _ _
theorem OwnPt.keep {w w' : World} {n₀ : Nat} {v : Value} {l : List Pt} (h : OwnPt w n₀ v l) (hb : Below w.heap.size w w') : OwnPt w' n₀ v l := owns_below2 h hb
theorem OwnPt.others {w w' : World} {n₀ : Nat} {v : Value} {l : List Pt} (h : OwnPt w n₀ v l) (ho : Others w w') : OwnPt w' n₀ v l := ho _ _ _ _ _ _ (by decide) h
theorem OwnPt.snoc {w : World} {n₀ : Nat} {v : Value} {l : List Pt} {p : Pt} (h : w.ownsRow n₀ 83 1 v (l.length + 1) (l.map Pt.v ++ [p.v])) : OwnPt w n₀ v (l ++ [p]) := by
 unfold OwnPt
 rw [List.length_append, List.map_append]; exact h
theorem OwnPt.sl {w : World} {n₀ : Nat} {v : Value} {l : List Pt} (h : OwnPt w n₀ v l) : ∃ a c, v = .slice a l.length c := by
 have hl := h.1
 rcases h.2 with ⟨rfl, h0⟩ | ⟨g, cap, cur, rfl, _⟩
 · exact ⟨none, 0, by rw [h0]⟩
 · exact ⟨_, _, rfl⟩
theorem OwnPt.at {w : World} {n₀ n k : Nat} {a : Option Addr} {c : Nat} {l : List Pt} {p : Pt} (h : OwnPt w n₀ (.slice a n c) l) (hn : n = l.length) (hp : l[k]? = some p) : ∃ g, a = some ⟨g, 0, none⟩ ∧ w.cell? ⟨g, k, none⟩ = some p.v := by
 have hk : k < l.length := (List.getElem?_eq_some_iff.1 hp).1
 subst hn
 rcases h.2 with ⟨h1, h0⟩ | ⟨g, cap, cur, h1, _⟩
 · omega
 · injection h1 with e1 e2 e3
   subst e1 e3
   refine ⟨g, rfl, ?_⟩
   rw [World.ownsRow.cellAt h k (by omega), List.getElem?_map, hp]; rfl
set_option maxHeartbeats 8000000 in
theorem bBytes_any {V : Vt} {er : Int} {bs : List Int} (w : World) (hV : VtIn w V) (hr : bytesF V = (er, bs)) :
    Calls Tryd.prog 10 #[V.v] w (RetBy w er bs) := by
  obtain ⟨i0, hi, hz0, hz1, hz2⟩ := info_parts (P := Tryd.prog) (e := 83) (z := .nilIface) (size := 1) (bytes := 16) (by kernel_rfl)
  obtain ⟨j0, ji, jz0, jz1, jz2⟩ := info_parts (P := Tryd.prog) (e := 27) (z := .agg #[.int .u64 0, .int .u64 0, .int .u64 0, .int .u64 0, .int .u64 0, .int .u64 0, .int .u64 0, .int .u64 0]) (size := 8) (bytes := 64) (by kernel_rfl)
  have F_v := Lh (VBox.at w V 29 w.heap.size rfl)
  have HBW := Lh (show Below w.heap.size w (w.alloc (.cells V.ca 29)) from (Below.refl _ _).alloc (Nat.le_refl _) _)
  have HV := Lh hV
  have HR := Lh hr
  have H1 := Lh hV.h1.len
  have H2 := Lh hV.h2.len
  clear hV hr
  unfold Vt.v
  obtain ⟨-, v0, v1, v2, v3, v4, v5, v6, v7, v8, v9, v10, vf⟩ := id F_v.o
  go_enter Tryd.func10, Tryd.ntmps10
  by_cases h1 : 10 < V.n
  case pos =>
   have hr := HR.o
   rw [bytesF, if_pos (.inl h1)] at hr
   cases hr
   have d1 : decide ((10 : Int) < (V.n : Int)) = true := by simp; omega
   go_wp2_with fail
   go_ret2
   exact ⟨_, rfl, World.ownsRow_nil _ _ _ _, HBW.o⟩
  case neg =>
   have d1 : decide ((10 : Int) < (V.n : Int)) = false := by simp; omega
   by_cases h2 : 10 < V.m
   case pos =>
    have hr := HR.o
    rw [bytesF, if_pos (.inr h2)] at hr
    cases hr
    have d2 : decide ((10 : Int) < (V.m : Int)) = true := by simp; omega
    go_wp2_with fail
    go_ret2
    exact ⟨_, rfl, World.ownsRow_nil _ _ _ _, HBW.o⟩
   case neg =>
    have d2 : decide ((10 : Int) < (V.m : Int)) = false := by simp; omega
    have hr := HR.o
    rw [bytesF, if_neg (by omega)] at hr
    obtain ⟨rfl, rfl⟩ := Prod.mk.inj hr
    clear hr HR
    go_wp2_with fail
    clear d1 d2 v0 v1 v2 v3 v4 v5 v6 v7 v8 v9 v10 vf
    go_loopw [4, 25] (fun c4 c25 wr => ∃ i : Nat, i ≤ V.n ∧ c25 = .int .i64 i ∧ Hid (OwnPt wr (w.heap.size + 1) c4 ((V.bs.take i).map boxP)) ∧ Hid (VBox wr w.heap.size V) ∧ Hid (Below w.heap.size w wr)) (fun _ c25 _ => V.n - (intOf c25).toNat)
    case atStart => exact ⟨0, Nat.zero_le _, rfl, OwnPt.nil _ _, F_v.o, HBW.o⟩
    case round =>
     clear F_v HBW
     obtain ⟨i, hi1, rfl, HP, F_v, HBW⟩ := hrel
     have hi0 : (0 : Int) ≤ (i : Int) := by omega
     have hzv := F_v.o.lt
     by_cases hlt : i < V.n
     case pos =>
      have hi2 : (i : Int) < (V.n : Int) := by omega
      have hwi : IntKind.i64.wrap ((i : Int) + 1) = (i : Int) + 1 := IntWalk.i64_in _ (by omega)
      have cS : Tryd.prog.cellsOf 78 = 2 := by kernel_rfl
      obtain ⟨s, o, hsa, hsl, b0, b1⟩ := (HV.o.h1.keep HBW.o).at i hlt
      obtain ⟨x, y, hxy⟩ : ∃ x y, V.bs.getD i (0, 0) = (x, y) := ⟨_, _, rfl⟩
      rw [hxy] at b0 b1
      simp only at b0 b1
      have HST := Lh (show (V.bs.take (i + 1)).map boxP = (V.bs.take i).map boxP ++ [.box x y] by
       have hl : i < V.bs.length := by have := H1.o; omega
       rw [List.take_succ_eq_append_getElem hl, List.map_append]
       have e : V.bs[i] = (x, y) := by rw [← hxy, List.getD_eq_getElem?_getD, List.getElem?_eq_getElem hl]; rfl
       rw [e]; rfl)
      have HLN := Lh (show ((V.bs.take i).map boxP).length = i by rw [List.length_map, List.length_take]; have := H1.o; omega)
      have HP0 := Lh (show wr.ownsRow (w.heap.size + 1) 83 1 _ i (((V.bs.take i).map boxP).map Pt.v) by have h := HP.o; unfold OwnPt at h; rw [HLN.o] at h; exact h)
      clear hxy HP
      rw [hsa]
      go_wp2_with (at_builtin; refine wpList_append_own _ rfl _ _ 76 rfl (w.heap.size + 1) 83 i0 .nilIface 1 16 Tryd.underlying76 hi hz0 hz1 hz2 rfl (by decide) _ _ _ rfl (owns_alloc2 (owns_alloc2 HP0.o _) _) _ 1 1 [.iface 79 (.agg #[.int .u64 x, .int .u64 y])] rfl rfl (cell_list_at _ _ _ _ (by first | rfl | simp)) (fun z hz => by simp at hz; subst hz; rfl) (by unfold maxLen; omega) (by omega) (by first | omega | (simp; omega)) ?_; intro v' w9 hown hgr hnil; have HP9 := Lh hown; have HB9 := Lh (Below.rowT (n := w.heap.size + 1) hgr (fun k hk => by have := (World.ownsRow.lt HP0.o k hk).1; omega) (by first | omega | (simp; omega))); clear hown hgr hnil)
      go_roundw
      case rel => exact ⟨i + 1, by omega, by go_num, (by rw [HST.o]; exact OwnPt.snoc (by rw [HLN.o]; exact HP9.o)), ((F_v.o.alloc _).alloc _).keepN HB9.o (by omega), ((HBW.o.alloc HBW.o.size _).alloc (by first | exact Nat.le_trans HBW.o.size (by simp) | omega) _).trans (HB9.o.mono (by omega))⟩
      case measure => simp [intOf] <;> omega
     case neg =>
      have hin : i = V.n := by omega
      rw [List.take_of_length_le (by have := H1.o; omega)] at HP
      have hwn : w.heap.size + 1 ≤ wr.heap.size := by omega
      obtain ⟨-, v0, v1, v2, v3, v4, v5, v6, v7, v8, v9, v10, vf⟩ := id F_v.o
      obtain ⟨-, u0, u1, u2, u3, u4_, u5, u6, u7, u8, u9, u10, uf⟩ := id (F_v.o.alloc (.cells #[.int .u64 V.z.r0, .int .u64 V.z.r1, .int .u64 V.z.s0, .int .u64 V.z.s1, .int .u64 V.z.c0, .int .u64 V.z.c1, .int .u64 V.z.z0, .int .u64 V.z.z1] 27))
      have d3 : decide ((i : Int) < (V.n : Int)) = false := by simp; omega
      clear hin
      go_wp2_with fail
      go_cut [41, 42, 43] from 35 (fun c41 c42 c43 wx => ∃ (ab : Option Addr) (cb : Nat), c41 = .slice ab (V.m + 1) cb ∧ c42 = .int .i64 (((V.m + 1 : Nat)) : Int) ∧ c43 = .int .i64 0 ∧ Hid (wx.ownsRow (w.heap.size + 1) 27 8 c41 (V.m + 1) (flatB (V.ps ++ [V.z]))) ∧ Hid (Below wr.heap.size wr wx))
      case first =>
       go_region_law (first
         | (go_simp
            go_at_call 29
            refine (bitClone_any _ (HV.o.h2.keep (by first | exact HBW.o.drew | exact (HBW.o.alloc HBW.o.size _).drew)) HV.o.k2 (by omega)).mono ?_
            rintro e w7 ⟨v7, rfl, ho7, hb7⟩
            have HO7 := Lh (owns_mono ho7 (n₀ := wr.heap.size) (by first | omega | simp | (simp; omega)))
            have HB7 := Lh (show Below wr.heap.size wr w7 by first | exact (Below.refl _ _).drew.trans hb7 | exact (below_al (Below.refl _ _)).drew.trans (hb7.mono (by simp)))
            have HT7 := Lh hb7
            obtain ⟨-, t0, t1, t2, t3, t4, t5, t6, t7, t8, t9, t10, tf⟩ := id (F_v.o.keep HB7.o)
            clear ho7 hb7)
         | (refine wanted_wp rfl (wp_push_bit (.tmp 37) (.tmp 40) rfl wr.heap.size V.m w7.heap.size v7 (flatB V.ps) V.z ?jjv ?jjx ?jjo ?jjc ?jjm ?jjb ?_)
            case jjv => kernel_rfl
            case jjx => kernel_rfl
            case jjo => exact owns_alloc2 HO7.o _
            case jjc => exact cell_list_at _ _ _ _ rfl
            case jjm => omega
            case jjb => have := HB7.o.size; simp; omega
            intro v9 w9 hown hgr
            obtain ⟨ab, cb, rfl, -⟩ := ShB.of_owned (show w9.ownsRow wr.heap.size 27 8 v9 (V.m + 1) (flatB (V.ps ++ [V.z])) by rw [flatB_append]; simpa [flatB] using hown)
            have HO9 := Lh (show w9.ownsRow wr.heap.size 27 8 (.slice ab (V.m + 1) cb) (V.m + 1) (flatB (V.ps ++ [V.z])) by rw [flatB_append]; simpa [flatB] using hown)
            have HB9 := Lh (((HB7.o.alloc HB7.o.size _).mono (Nat.le_refl _)).trans (Below.rowT (n := wr.heap.size) hgr (fun k hk => by have := (World.ownsRow.lt HO7.o k hk).1; omega) (by have := HB7.o.size; simp; omega)))
            clear hown hgr)
         | (refine wanted_wp rfl (wp_push_bit (.tmp 37) (.tmp 40) rfl wr.heap.size V.m wr.heap.size v7 (flatB V.ps) V.z ?jjv ?jjx ?jjo ?jjc ?jjm ?jjb ?_)
            case jjv => kernel_rfl
            case jjx => kernel_rfl
            case jjo => exact HO7.o
            case jjc => exact fun j u hj => (HT7.o.cell (by rw [add_pl]; simp)).trans (cell_list_at wr _ _ _ rfl j u hj)
            case jjm => omega
            case jjb => exact HB7.o.size
            intro v9 w9 hown hgr
            obtain ⟨ab, cb, rfl, -⟩ := ShB.of_owned (show w9.ownsRow wr.heap.size 27 8 v9 (V.m + 1) (flatB (V.ps ++ [V.z])) by rw [flatB_append]; simpa [flatB] using hown)
            have HO9 := Lh (show w9.ownsRow wr.heap.size 27 8 (.slice ab (V.m + 1) cb) (V.m + 1) (flatB (V.ps ++ [V.z])) by rw [flatB_append]; simpa [flatB] using hown)
            have HB9 := Lh (HB7.o.trans (Below.rowT (n := wr.heap.size) hgr (fun k hk => by have := (World.ownsRow.lt HO7.o k hk).1; omega) HB7.o.size))
            clear hown hgr))
       all_goals (go_wp2_with fail; go_meet)
       all_goals exact ⟨ab, cb, rfl, rfl, rfl, owns_mono HO9.o hwn, HB9.o⟩
      case rest =>
       obtain ⟨ab, cb, rfl, rfl, rfl, HQ, HBx⟩ := hcut
       replace F_v := Lh (F_v.o.keep HBx.o)
       replace HP := Lh (HP.o.keep HBx.o)
       replace HBW := Lh (HBW.o.trans (HBx.o.mono HBW.o.size))
       clear HBx v0 v1 v2 v3 v4 v5 v6 v7 v8 v9 v10 vf u0 u1 u2 u3 u4_ u5 u6 u7 u8 u9 u10 uf d3
       go_wp2_with fail
       go_loopw [4, 43] (fun c4 c43 wq => ∃ j : Nat, j ≤ V.m + 1 ∧ c43 = .int .i64 j ∧ Hid (OwnPt wq (w.heap.size + 1) c4 (ptsTo V j)) ∧ Hid (wq.ownsRow (w.heap.size + 1) 27 8 (.slice ab (V.m + 1) cb) (V.m + 1) (flatB (V.ps ++ [V.z]))) ∧ Hid (VBox wq w.heap.size V) ∧ Hid (Below w.heap.size w wq)) (fun _ c43 _ => V.m + 1 - (intOf c43).toNat)
       case atStart => exact ⟨0, Nat.zero_le _, rfl, (show OwnPt _ _ _ (ptsTo V 0) by unfold ptsTo; simpa using HP.o), HQ.o, F_v.o, HBW.o⟩
       case round =>
        clear F_v HBW HP HQ
        obtain ⟨j, hj1, rfl, HP, HQ, F_v, HBW⟩ := hrel
        have hj0 : (0 : Int) ≤ (j : Int) := by omega
        have hzw := F_v.o.lt
        have HLZ := Lh (show (V.ps ++ [V.z]).length = V.m + 1 by rw [List.length_append, ← H2.o]; rfl)
        by_cases hjt : j < V.m + 1
        case pos =>
         have hj2 : (j : Int) < ((V.m + 1 : Nat) : Int) := by omega
         have hwj : IntKind.i64.wrap ((j : Int) + 1) = (j : Int) + 1 := IntWalk.i64_in _ (by omega)
         have cB : Tryd.prog.cellsOf 27 = 8 := by kernel_rfl
         obtain ⟨a1, c1, e1, hsb⟩ := ShB.of_owned HQ.o
         injection e1 with f1 f2 f3
         subst f1 f3
         obtain ⟨s, o, z, hsa, hz_, hbc⟩ := hsb.at j hjt
         obtain ⟨-, b0, b1, b2, b3, b4, b5, b6, b7⟩ := hbc
         have HST := Lh (show ptsTo V (j + 1) = ptsTo V j ++ [.bit z] by
          rw [ptsTo, ptsTo, List.take_add_one, hz_, List.map_append, List.append_assoc]; rfl)
         have HLN := Lh (show (ptsTo V j).length = V.n + j by rw [ptsTo, List.length_append, List.length_map, List.length_map, List.length_take, HLZ.o, ← H1.o]; omega)
         have HP0 := Lh (show wr.ownsRow (w.heap.size + 1) 83 1 _ (V.n + j) ((ptsTo V j).map Pt.v) by have h := HP.o; unfold OwnPt at h; rw [HLN.o] at h; exact h)
         subst hsa
         clear hsb hz_ HP
         go_wp2_with (at_builtin; refine wpList_append_own _ rfl _ _ 76 rfl (w.heap.size + 1) 83 i0 .nilIface 1 16 Tryd.underlying76 hi hz0 hz1 hz2 rfl (by decide) _ _ _ rfl (owns_alloc2 (owns_alloc2 HP0.o _) _) _ 1 1 [.iface 81 (.agg #[.int .u64 z.r0, .int .u64 z.r1, .int .u64 z.s0, .int .u64 z.s1, .int .u64 z.c0, .int .u64 z.c1, .int .u64 z.z0, .int .u64 z.z1])] rfl rfl (cell_list_at _ _ _ _ (by first | rfl | simp)) (fun z hz => by simp at hz; subst hz; rfl) (by unfold maxLen; omega) (by omega) (by first | omega | (simp; omega)) ?_; intro v' w9 hown hgr hnil; have HP9 := Lh hown; have HB9 := Lh (Below.rowT (n := w.heap.size + 1) hgr (fun k hk => by have := (World.ownsRow.lt HP0.o k hk).1; omega) (by first | omega | (simp; omega))); have HQ9 := Lh (World.ownsRow.kept (owns_alloc2 (owns_alloc2 HQ.o _) _) hgr (own_diffN HP0.o HQ.o (by decide))); clear hown hgr hnil)
         go_roundw
         case rel => first | exact ⟨_, _, _, ⟨j + 1, by omega, by go_num, (show OwnPt _ _ _ (ptsTo V (j + 1)) by rw [HST.o]; exact OwnPt.snoc (by rw [HLN.o]; exact HP9.o)), ((F_v.o.alloc _).alloc _).keepN HB9.o (by omega), ((HBW.o.alloc HBW.o.size _).alloc (by first | exact Nat.le_trans HBW.o.size (by simp) | omega) _).trans (HB9.o.mono (by omega))⟩, rfl, rfl, rfl⟩ | exact ⟨_, _, _, ⟨j + 1, by omega, by go_num, (show OwnPt _ _ _ (ptsTo V (j + 1)) by rw [HST.o]; exact OwnPt.snoc (by rw [HLN.o]; exact HP9.o)), HQ9.o, ((F_v.o.alloc _).alloc _).keepN HB9.o (by omega), ((HBW.o.alloc HBW.o.size _).alloc (by first | exact Nat.le_trans HBW.o.size (by simp) | omega) _).trans (HB9.o.mono (by omega))⟩, rfl, rfl, rfl⟩
         case measure => simp [intOf] <;> omega
        case neg =>
         have HP0 := Lh (show OwnPt wr (w.heap.size + 1) _ V.pts by have h := HP.o; rwa [ptsTo, List.take_of_length_le (by rw [HLZ.o]; omega)] at h)
         clear HP HQ
         have d4 : decide ((j : Int) < ((V.m + 1 : Nat) : Int)) = false := by simp; omega
         have n8 : IntKind.u8.wrap (V.n : Int) = (V.n : Int) := by rw [IntKind.wrap_u8]; omega
         have m8 : IntKind.u8.wrap (V.m : Int) = (V.m : Int) := by rw [IntKind.wrap_u8]; omega
         have HPL := Lh (show V.pts.length = V.n + V.m + 1 by simp [Vt.pts]; have := H1.o; have := H2.o; omega)
         obtain ⟨ap, cp, rfl⟩ := HP0.o.sl
         rw [HPL.o] at HP0 ⊢
         obtain ⟨-, v0, v1, v2, -⟩ := id F_v.o
         cases ho : V.one with
         | true =>
          rw [ho] at v2
          go_wp2_with fail
          obtain ⟨wb, rfl⟩ : ∃ wb : World, wb = wr := ⟨_, rfl⟩
          have HG := Lh (show GrewO wb (wb.alloc (.cells #[.int .u8 (V.n : Int), .int .u8 (V.m : Int), .int .u8 1] 5)) wb.heap.size (.slice (some ⟨wb.heap.size, 0, none⟩) 3 3) [(V.n : Int), (V.m : Int), 1] from GrewO.lit wb [(V.n : Int), (V.m : Int), 1] (by simp))
          have HP1 := Lh (HP0.o.keep ((Below.refl wb.heap.size wb).alloc (Nat.le_refl _) (.cells #[.int .u8 (V.n : Int), .int .u8 (V.m : Int), .int .u8 1] 5)))
          have HBY := Lh (show [(V.n : Int), (V.m : Int), 1] ++ flat8 V.nums = V.bytes by rw [Vt.bytes, ho]; rfl)
          clear HP0 v0 v1 v2 F_v n8 m8 d4
          go_loopw [9, 11, 68] (fun c9 c11 c68 wq => ∃ k : Nat, k ≤ V.n + V.m + 1 ∧ c68 = .int .i64 k ∧ Hid (GrewO wb wq wb.heap.size c9 ([(V.n : Int), (V.m : Int), 1] ++ flat8 ((V.pts.take k).flatMap Pt.ns))) ∧ Hid (OwnPt wq (w.heap.size + 1) (.slice ap (V.n + V.m + 1) cp) V.pts)) (fun _ _ c68 _ => V.n + V.m + 1 - (intOf c68).toNat)
          case atStart => exact ⟨0, Nat.zero_le _, rfl, (show GrewO _ _ _ _ ([(V.n : Int), (V.m : Int), 1] ++ flat8 ((V.pts.take 0).flatMap Pt.ns)) by simpa [flat8] using HG.o), HP1.o⟩
          case round =>
           clear HG HP1
           obtain ⟨k, hk, rfl, HG, HP1⟩ := hrel
           have hk0 : (0 : Int) ≤ (k : Int) := by omega
           by_cases hkt : k < V.n + V.m + 1
           case pos =>
            have hk1 : (k : Int) < ((V.n + V.m + 1 : Nat) : Int) := by omega
            have hk1' : (k : Int) < (V.n : Int) + (V.m : Int) + 1 := by omega
            have hwk : IntKind.i64.wrap ((k : Int) + 1) = (k : Int) + 1 := IntWalk.i64_in _ (by omega)
            obtain ⟨p, hp⟩ : ∃ p, V.pts[k]? = some p := ⟨_, List.getElem?_eq_getElem (by rw [HPL.o]; exact hkt)⟩
            obtain ⟨g, hag, hcell⟩ := HP1.o.at HPL.o.symm hp
            have HPU := Lh (Vt.us HV.o p (List.mem_of_getElem? hp))
            have HSN := Lh (nums_snoc hp)
            have HNL := Lh (show ([(V.n : Int), (V.m : Int), 1] ++ flat8 ((V.pts.take k).flatMap Pt.ns)).length ≤ 100000 by
             rw [List.length_append, flat8_len]
             have := nums_len (V.pts.take k)
             rw [List.length_take] at this
             show 3 + 8 * _ ≤ 100000
             omega)
            subst hag
            clear hp
            go_wp2_with fail
            clear hcell
            refine (write_any _ HG.o.own HG.o.le HPU.o HNL.o).mono ?_
            rintro e w8 ⟨v8, rfl, hg8⟩
            have HG8 := Lh (HG.o.trans hg8)
            have HP8 := Lh (HP1.o.others hg8.oth)
            clear hg8
            go_wp2_with fail
            go_roundw
            case rel => exact ⟨_, _, _, _, _, _, _, _, _, _, ⟨k + 1, by omega, by go_num, (show GrewO _ _ _ _ ([(V.n : Int), (V.m : Int), 1] ++ flat8 ((V.pts.take (k + 1)).flatMap Pt.ns)) by rw [← HSN.o, ← List.append_assoc]; exact HG8.o), HP8.o⟩, rfl⟩
            case measure => simp [intOf] <;> omega
           case neg =>
            have d4 : decide ((k : Int) < ((V.n + V.m + 1 : Nat) : Int)) = false := by simp; omega
            have HO := Lh (show OwnB wr wb.heap.size _ V.bytes by
             have h := HG.o.own
             rwa [List.take_of_length_le (by rw [HPL.o]; omega), show V.pts.flatMap Pt.ns = V.nums from rfl, HBY.o] at h)
            go_wp2_with fail
            go_ret2
            exact ⟨_, rfl, OwnB.mono HO.o HBW.o.size, HBW.o.trans (HG.o.bel.mono HBW.o.size)⟩
         | false =>
          rw [ho] at v2
          go_wp2_with fail
          obtain ⟨wb, rfl⟩ : ∃ wb : World, wb = wr := ⟨_, rfl⟩
          have HG := Lh (show GrewO wb (wb.alloc (.cells #[.int .u8 (V.n : Int), .int .u8 (V.m : Int), .int .u8 0] 5)) wb.heap.size (.slice (some ⟨wb.heap.size, 0, none⟩) 3 3) [(V.n : Int), (V.m : Int), 0] from GrewO.lit wb [(V.n : Int), (V.m : Int), 0] (by simp))
          have HP1 := Lh (HP0.o.keep ((Below.refl wb.heap.size wb).alloc (Nat.le_refl _) (.cells #[.int .u8 (V.n : Int), .int .u8 (V.m : Int), .int .u8 0] 5)))
          have HBY := Lh (show [(V.n : Int), (V.m : Int), 0] ++ flat8 V.nums = V.bytes by rw [Vt.bytes, ho]; rfl)
          clear HP0 v0 v1 v2 F_v n8 m8 d4
          go_loopw [9, 11, 68] (fun c9 c11 c68 wq => ∃ k : Nat, k ≤ V.n + V.m + 1 ∧ c68 = .int .i64 k ∧ Hid (GrewO wb wq wb.heap.size c9 ([(V.n : Int), (V.m : Int), 0] ++ flat8 ((V.pts.take k).flatMap Pt.ns))) ∧ Hid (OwnPt wq (w.heap.size + 1) (.slice ap (V.n + V.m + 1) cp) V.pts)) (fun _ _ c68 _ => V.n + V.m + 1 - (intOf c68).toNat)
          case atStart => exact ⟨0, Nat.zero_le _, rfl, (show GrewO _ _ _ _ ([(V.n : Int), (V.m : Int), 0] ++ flat8 ((V.pts.take 0).flatMap Pt.ns)) by simpa [flat8] using HG.o), HP1.o⟩
          case round =>
           clear HG HP1
           obtain ⟨k, hk, rfl, HG, HP1⟩ := hrel
           have hk0 : (0 : Int) ≤ (k : Int) := by omega
           by_cases hkt : k < V.n + V.m + 1
           case pos =>
            have hk1 : (k : Int) < ((V.n + V.m + 1 : Nat) : Int) := by omega
            have hk1' : (k : Int) < (V.n : Int) + (V.m : Int) + 1 := by omega
            have hwk : IntKind.i64.wrap ((k : Int) + 1) = (k : Int) + 1 := IntWalk.i64_in _ (by omega)
            obtain ⟨p, hp⟩ : ∃ p, V.pts[k]? = some p := ⟨_, List.getElem?_eq_getElem (by rw [HPL.o]; exact hkt)⟩
            obtain ⟨g, hag, hcell⟩ := HP1.o.at HPL.o.symm hp
            have HPU := Lh (Vt.us HV.o p (List.mem_of_getElem? hp))
            have HSN := Lh (nums_snoc hp)
            have HNL := Lh (show ([(V.n : Int), (V.m : Int), 0] ++ flat8 ((V.pts.take k).flatMap Pt.ns)).length ≤ 100000 by
             rw [List.length_append, flat8_len]
             have := nums_len (V.pts.take k)
             rw [List.length_take] at this
             show 3 + 8 * _ ≤ 100000
             omega)
            subst hag
            clear hp
            go_wp2_with fail
            clear hcell
            refine (write_any _ HG.o.own HG.o.le HPU.o HNL.o).mono ?_
            rintro e w8 ⟨v8, rfl, hg8⟩
            have HG8 := Lh (HG.o.trans hg8)
            have HP8 := Lh (HP1.o.others hg8.oth)
            clear hg8
            go_wp2_with fail
            go_roundw
            case rel => exact ⟨_, _, _, _, _, _, _, _, _, _, ⟨k + 1, by omega, by go_num, (show GrewO _ _ _ _ ([(V.n : Int), (V.m : Int), 0] ++ flat8 ((V.pts.take (k + 1)).flatMap Pt.ns)) by rw [← HSN.o, ← List.append_assoc]; exact HG8.o), HP8.o⟩, rfl⟩
            case measure => simp [intOf] <;> omega
           case neg =>
            have d4 : decide ((k : Int) < ((V.n + V.m + 1 : Nat) : Int)) = false := by simp; omega
            have HO := Lh (show OwnB wr wb.heap.size _ V.bytes by
             have h := HG.o.own
             rwa [List.take_of_length_le (by rw [HPL.o]; omega), show V.pts.flatMap Pt.ns = V.nums from rfl, HBY.o] at h)
            go_wp2_with fail
            go_ret2
            exact ⟨_, rfl, OwnB.mono HO.o HBW.o.size, HBW.o.trans (HG.o.bel.mono HBW.o.size)⟩
open Go Go.RowKit Num Sha
def OwnU8 (w : World) (n₀ : Nat) (v : Value) (xs : List Int) : Prop := w.ownsRow n₀ 24 1 v xs.length (xs.map (Value.int .u64))
theorem OwnU8.keep {w w' : World} {n₀ : Nat} {v : Value} {xs : List Int} (h : OwnU8 w n₀ v xs) (hb : Below w.heap.size w w') : OwnU8 w' n₀ v xs := owns_below2 h hb
theorem OwnU8.nil (w : World) (n₀ : Nat) : OwnU8 w n₀ (.slice none 0 0) [] := World.ownsRow_nil _ _ _ _
theorem OwnU8.sl {w : World} {n₀ : Nat} {v : Value} {xs : List Int} (h : OwnU8 w n₀ v xs) : ∃ a c, v = .slice a xs.length c := by
 rcases h.2 with ⟨rfl, h0⟩ | ⟨g, cap, cur, rfl, _⟩
 · exact ⟨none, 0, by rw [h0]⟩
 · exact ⟨_, _, rfl⟩
theorem OwnU8.at {w : World} {n₀ n k : Nat} {a : Option Addr} {c : Nat} {xs : List Int} (h : OwnU8 w n₀ (.slice a n c) xs) (hn : n = xs.length) (hk : k < n) : ∃ g, a = some ⟨g, 0, none⟩ ∧ w.cell? ⟨g, k, none⟩ = some (.int .u64 (xs.getD k 0)) := by
 subst hn
 rcases h.2 with ⟨h1, h0⟩ | ⟨g, cap, cur, h1, _⟩
 · omega
 · injection h1 with e1 e2 e3
   subst e1 e3
   refine ⟨g, rfl, ?_⟩
   rw [World.ownsRow.cellAt h k (by omega), List.getElem?_map, List.getElem?_eq_getElem hk, List.getD_eq_getElem?_getD, List.getElem?_eq_getElem hk]; rfl
open Go Go.RowKit Num Sha
def zero32 : List Int := List.replicate 32 0
def codeF (V : Vt) : Int × List Int := if 10 < V.n ∨ 10 < V.m then (4, zero32) else (0, shaS V.bytes)
theorem bytes_len {w : World} {V : Vt} (h : VtIn w V) (hn : V.n ≤ 10) (hm : V.m ≤ 10) : V.bytes.length ≤ 8000 ∧ 3 ≤ V.bytes.length := by
 have h1 := h.h1.len
 have h2 := h.h2.len
 have h3 := nums_len V.pts
 have h4 : V.pts.length = V.n + V.m + 1 := by simp [Vt.pts]; omega
 rw [Vt.bytes, List.length_append, flat8_len]
 have h5 : V.nums.length ≤ 8 * (V.n + V.m + 1) := by rw [← h4]; exact h3
 have h6 : [(V.n : Int), (V.m : Int), if V.one then 1 else 0].length = 3 := rfl
 omega
theorem bytes_ok {w : World} {V : Vt} (h : VtIn w V) (hn : V.n ≤ 10) (hm : V.m ≤ 10) : ByteL V.bytes := by
 intro x hx
 rcases List.mem_append.1 hx with hx | hx
 · simp at hx
   rcases hx with rfl | rfl | rfl
   · omega
   · omega
   · split <;> omega
 · exact flat8_bytes _ x hx
set_option maxHeartbeats 8000000 in
theorem bCode_any {V : Vt} {er : Int} {cs : List Int} (w : World) (hT : Tabs w) (hV : VtIn w V) (hr : codeF V = (er, cs)) :
    Calls Tryd.prog 12 #[V.v] w fun e w' => e = .returned (.tuple #[.agg (valV .u8 cs), .int .i64 er]) ∧ Below w.heap.size w w' := by
  have hbu : ∀ w : World, (Instr.build 37 #[]).run Tryd.prog w = .ok (.agg (valV .u8 zero32)) w := fun w => by kernel_rfl
  have HT := Lh hT
  have HV := Lh hV
  have HR := Lh hr
  have F_v := Lh (VBox.at w V 29 w.heap.size rfl)
  have HBW := Lh (show Below w.heap.size w (w.alloc (.cells V.ca 29)) from (Below.refl _ _).alloc (Nat.le_refl _) _)
  clear hT hV hr
  have hvv : V.v = .agg V.ca := rfl
  rw [hvv]
  go_enter Tryd.func12, Tryd.ntmps12
  go_wp2_with (first
    | (refine wpL_allocArr rfl 37 .u8 32 rfl (by kernel_rfl) ?_; intro w1 h1; have F_o := Lh h1.arr; have HB1 := Lh (h1.below _ (Nat.le_refl _)); clear h1; simp only [Act.put, sZ]; replace F_v := Lh (F_v.o.keep HB1.o); replace HBW := Lh (HBW.o.trans (HB1.o.mono (by simp))); obtain ⟨-, v0, v1, v2, v3, v4, v5, v6, v7, v8, v9, v10, vf⟩ := id F_v.o))
  obtain ⟨Bo, hBo⟩ : ∃ Bo, (w.alloc (.cells V.ca 29)).heap.size = Bo := ⟨_, rfl⟩
  have hB1 : w.heap.size ≤ Bo := by rw [← hBo]; simp
  rw [hBo] at F_o ⊢
  clear v0 v1 v2 v3 v4 v5 v6 v7 v8 v9 v10 vf hBo
  by_cases hc : 10 < V.n ∨ 10 < V.m
  case pos =>
   have hr := HR.o
   rw [codeF, if_pos hc] at hr
   cases hr
   refine (bBytes_any _ (HV.o.keep HBW.o) (show bytesF V = (4, []) from if_pos hc)).mono ?_
   rintro e w2 ⟨v, rfl, -, hb2⟩
   replace F_o := Lh (F_o.o.keep hb2)
   replace HBW := Lh (HBW.o.trans (hb2.mono HBW.o.size))
   clear hb2
   go_wp2_with (refine wpL_storeArr rfl 37 .u8 _ _ Bo zero32 _ rfl rfl rfl rfl (by kernel_rfl) F_o.o rfl ?_; intro w9 h9; have H9 := Lh h9; clear h9)
   refine bodyPost_ret (res_arr2 .u8 Bo 0 zero32 32 5 rfl Tryd.underlying37 (by kernel_rfl) _ rfl rfl H9.o.row) rfl ?_
   exact ⟨rfl, HBW.o.trans (H9.o.below _ hB1)⟩
  case neg =>
   have hr := HR.o
   rw [codeF, if_neg hc] at hr
   obtain ⟨rfl, rfl⟩ := Prod.mk.inj hr
   clear hr
   refine (bBytes_any _ (HV.o.keep HBW.o) (show bytesF V = (0, V.bytes) from if_neg hc)).mono ?_
   rintro e w2 ⟨v, rfl, ho2, hb2⟩
   obtain ⟨hbl, hb3⟩ := bytes_len HV.o (by omega) (by omega)
   have HBY := Lh (bytes_ok HV.o (by omega) (by omega))
   obtain ⟨g, c2, rfl, hsh⟩ := ho2.shs (by omega)
   have HS2 := Lh hsh
   replace F_o := Lh (F_o.o.keep hb2)
   replace HBW := Lh (HBW.o.trans (hb2.mono HBW.o.size))
   obtain ⟨nl, hnl⟩ : ∃ nl, V.bytes.length = nl := ⟨_, rfl⟩
   rw [hnl] at HS2 hbl ⊢
   clear hb2 ho2 hsh hnl hb3
   go_wp2_with (first
     | (go_at_call 32; refine (dSum_any _ (HT.o.below HBW.o) HS2.o (by omega) HBY.o).mono ?_; rintro e w3 ⟨rfl, hb3⟩; replace F_o := Lh (F_o.o.keep hb3); replace HBW := Lh (HBW.o.trans (hb3.mono HBW.o.size)); clear hb3)
     | (refine wpL_storeArr rfl 37 .u8 _ _ Bo (shaS V.bytes) _ rfl rfl rfl rfl (by kernel_rfl) F_o.o rfl ?_; intro w9 h9; have H9 := Lh h9; clear h9))
   refine bodyPost_ret (res_arr2 .u8 Bo 0 (shaS V.bytes) 32 5 rfl Tryd.underlying37 (by kernel_rfl) _ rfl rfl H9.o.row) rfl ?_
   exact ⟨rfl, HBW.o.trans (H9.o.below _ hB1)⟩
open Go Go.RowKit Num Sha
structure RBox (W : World) (B : Nat) (v : Value) : Prop where
  c0 : W.cell? ⟨B, 0, none⟩ = some v
  f0 : W.frozen? ⟨B, 0, none⟩ = false
  lt : B < W.heap.size
theorem RBox.at (W : World) (v : Value) (T : TypeId) (b : Nat) (hb : b = W.heap.size) : RBox (W.alloc (.cells #[v] T)) b v := by
 subst hb
 refine ⟨?_, ?_, by simp⟩
 · rw [World.cell?_alloc_new]; rfl
 · simp
theorem RBox.keepN {W W' : World} {B n : Nat} {v : Value} (h : RBox W B v) (hb : Below n W W') (hn : B < n) : RBox W' B v :=
  ⟨(hb.cell (p := ⟨B, 0, none⟩) hn).trans h.c0, (hb.frozen (p := ⟨B, 0, none⟩) hn).trans h.f0, Nat.lt_of_lt_of_le h.lt hb.size⟩
theorem RBox.keep {W W' : World} {B : Nat} {v : Value} (h : RBox W B v) (hb : Below W.heap.size W W') : RBox W' B v := h.keepN hb h.lt
theorem RBox.drew {W : World} {B : Nat} {v : Value} (h : RBox W B v) : RBox W.drew B v := h.keep (Below.refl _ _).drew
theorem RBox.alloc {W : World} {B : Nat} {v : Value} (h : RBox W B v) (o : Obj) : RBox (W.alloc o) B v := h.keep ((Below.refl _ _).alloc (Nat.le_refl _) o)
theorem RBox.set {W : World} {B : Nat} {v : Value} (h : RBox W B v) (u : Value) : RBox (W.setCell ⟨B, 0, none⟩ u) B u := by
 refine ⟨World.cell?_setCell_same' _ _ _ (by rw [h.c0]; rfl), ?_, by simpa using h.lt⟩
 rw [World.frozen?_setCell]; exact h.f0
theorem RBox.other {W : World} {B : Nat} {v : Value} (h : RBox W B v) (p : Addr) (u : Value) (hp : p.block ≠ B) : RBox (W.setCell p u) B v := by
 refine ⟨?_, ?_, by simpa using h.lt⟩
 · rw [World.cell?_setCell_other _ _ _ _ (show p ≠ ⟨B, 0, none⟩ from fun e => hp (by rw [e]))]; exact h.c0
 · rw [World.frozen?_setCell]; exact h.f0
open Go Go.RowKit Num Sha
def be4 (x : Int) : List Int := (List.range 4).map fun i => x / 2 ^ (24 - 8 * i) % 256
theorem be4_len (x : Int) : (be4 x).length = 4 := by simp [be4]
theorem be4_snoc (x : Int) (j : Nat) (hj : j < 4) : (be4 x).take (j + 1) = (be4 x).take j ++ [x / 2 ^ (24 - 8 * j) % 256] := by
 have : j = 0 ∨ j = 1 ∨ j = 2 ∨ j = 3 := by omega
 rcases this with rfl | rfl | rfl | rfl <;> rfl
theorem be4_bytes (x : Int) : ∀ b, b ∈ be4 x → 0 ≤ b ∧ b < 256 := by
 intro b hb
 obtain ⟨i, -, rfl⟩ := List.mem_map.1 hb
 omega
set_option maxHeartbeats 8000000 in
theorem fits4_any {x : Int} (w : World) (h0 : 0 ≤ x) (h1 : x < 4294967296) :
    Calls Tryd.prog 123 #[.int .u64 x, .int .i64 4] w fun e w' => e = .returned (.bool true) ∧ w' = w := by
  have hx : x / 4294967296 = 0 := by omega
  go_enter Tryd.func123, Tryd.ntmps123
  go_wp2_with fail
  go_ret
  exact ⟨by simp [hx], rfl⟩
set_option maxHeartbeats 8000000 in
theorem put4_any {v : Value} {xs : List Int} {n₀ : Nat} {x : Int} (w : World) (hB : OwnB w n₀ v xs) (hn : n₀ ≤ w.heap.size) (h0 : 0 ≤ x) (h1 : x < 4294967296) (hx : xs.length ≤ 100000) :
    Calls Tryd.prog 124 #[v, .int .u64 x, .int .i64 4] w fun e w' => ∃ v', e = .returned v' ∧ GrewO w w' n₀ v' (xs ++ be4 x) := by
  obtain ⟨i0, hi, hz0, hz1, hz2⟩ := info_parts (P := Tryd.prog) (e := 5) (z := .int .u8 0) (size := 1) (bytes := 1) (by kernel_rfl)
  have HG := Lh (show GrewO w w n₀ v (xs ++ (be4 x).take 0) from by simpa using (⟨hB, Below.refl _ _, hn, Others.refl _⟩ : GrewO w w n₀ v xs))
  clear hB
  go_enter Tryd.func124, Tryd.ntmps124
  go_wp2_with fail
  go_loopw [0, 7, 9] (fun c0 _ c9 wr => ∃ j : Nat, j ≤ 4 ∧ c9 = .int .i64 j ∧ Hid (GrewO w wr n₀ c0 (xs ++ (be4 x).take j))) (fun _ _ c9 _ => 4 - (intOf c9).toNat)
  case atStart => exact ⟨0, by omega, rfl, HG.o⟩
  case round =>
   clear HG
   obtain ⟨j, hj, rfl, HG⟩ := hrel
   by_cases hlt : j < 4
   case neg =>
    obtain rfl : j = 4 := by omega
    rw [List.take_of_length_le (by rw [be4_len]; exact Nat.le_refl _)] at HG
    clear hlt
    simp only [Int.cast_ofNat_Int]
    go_wp2_with fail
    go_ret
    exact ⟨_, rfl, HG.o⟩
   case pos =>
    have hd : decide ((j : Int) < 4) = true := by simp; omega
    have w1 : IntKind.i64.wrap (3 - (j : Int)) = 3 - (j : Int) := IntWalk.i64_in _ (by omega)
    have w2 : IntKind.i64.wrap (8 * (3 - (j : Int))) = 8 * (3 - (j : Int)) := IntWalk.i64_in _ (by omega)
    have w3 : IntKind.i64.wrap ((j : Int) + 1) = (j : Int) + 1 := IntWalk.i64_in _ (by omega)
    have p0 : (0 : Int) ≤ 8 * (3 - (j : Int)) := by omega
    have p1 : ¬ (8 * (3 - (j : Int)) < 0) := by omega
    have e0 : (8 * (3 - (j : Int))).toNat = 24 - 8 * j := by omega
    have hm0 : min (24 - 8 * j) 64 = 24 - 8 * j := by omega
    have hpl : (xs ++ (be4 x).take j).length ≤ 100200 := by simp [be4_len]; omega
    have HXM := Lh (show (xs ++ (be4 x).take j).length + 1 ≤ maxLen by unfold maxLen; omega)
    have HXB := Lh (show ((xs ++ (be4 x).take j).length + 1) * 1 ≤ 140737488355328 by omega)
    clear hpl
    go_wp2_with (at_builtin; (refine wpList_append_own _ rfl _ _ 30 rfl n₀ 5 i0 (.int .u8 0) 1 1 Tryd.underlying30 hi hz0 hz1 hz2 rfl (by decide) _ (xs ++ (be4 x).take j).length ((xs ++ (be4 x).take j).map (Value.int .u8)) rfl (HG.o.own.keep ((Below.refl _ _).alloc (Nat.le_refl _) _)) _ 1 1 [.int .u8 (x / 2 ^ (24 - 8 * j) % 256)] rfl rfl (fun j u hj => by cases j with | zero => simp at hj; subst hj; simp [go_sem] | succ j => simp at hj) (fun u hu => by simp at hu; subst hu; rfl) HXM.o HXB.o (HG.o.leA _) ?_); intro v4 w4 hown hgr hnil; have HG4 := Lh (HG.o.snoc hown hgr); clear hown hgr hnil)
    go_roundw
    case rel => exact ⟨j + 1, by omega, by go_num, by rw [be4_snoc x j hlt, ← List.append_assoc]; exact HG4.o⟩
    case measure => simp [intOf]; omega
set_option maxHeartbeats 8000000 in
theorem put_any {a : Option Addr} {n c : Nat} {xs : List Int} {x : Int} (w : World) (hS : ShI .u8 w a n xs) (h0 : 0 ≤ x) (h1 : x < 4294967296) (hn : n ≤ 16000) :
    Calls Tryd.prog 120 #[.slice a n c, .int .u64 x, .int .i64 4] w fun e w' => ∃ v, e = .returned (.tuple #[v, .int .i64 0]) ∧ OwnB w' w.heap.size v (xs ++ be4 x) ∧ Below w.heap.size w w' := by
  have HS := Lh hS
  have HL := Lh hS.len
  have hd : decide ((16380 : Int) < (n : Int)) = false := decide_eq_false (by omega)
  clear hS
  go_enter Tryd.func120, Tryd.ntmps120
  go_wp2_with fail
  refine (fits4_any _ h0 h1).mono ?_
  rintro e w1 ⟨rfl, rfl⟩
  go_wp2_with fail
  refine (bclone_any _ HS.o (by omega)).mono ?_
  rintro e w2 ⟨v2, rfl, ho2, hb2⟩
  have HB := Lh hb2
  have HO := Lh ho2
  clear hb2 ho2
  go_wp2_with fail
  refine (put4_any _ HO.o HB.o.size h0 h1 (by rw [← HL.o]; omega)).mono ?_
  rintro e w3 ⟨v3, rfl, hg3⟩
  have HG := Lh hg3
  clear hg3
  go_wp2_with fail
  go_ret2
  exact ⟨_, rfl, HG.o.own, HB.o.trans HG.o.bel⟩
set_option maxHeartbeats 8000000 in
theorem take8_any {a : Option Addr} {n c : Nat} {xs : List Int} (w : World) (hS : ShI .u8 w a n xs) (hu : Bytes xs) (h8 : 8 ≤ n) (hn : n ≤ 16000) :
    Calls Tryd.prog 121 #[.slice a n c, .int .i64 0, .int .i64 8] w fun e w' => e = .returned (.tuple #[.int .u64 (beN (xs.take 8)), .int .i64 8, .int .i64 0]) ∧ w' = w := by
  have HL := Lh hS.len
  have HB := Lh hu
  obtain ⟨s, o, rfl, hs, HC⟩ : ∃ s o, a = some ⟨s, o, none⟩ ∧ s < w.heap.size ∧ Hid (∀ i, i < 8 → w.cell? ⟨s, o + i, none⟩ = some (.int .u8 (xs.getD i 0))) := by
   rcases hS with ⟨h1, _⟩ | ⟨s, o, h0, h1, h2, h3⟩
   · omega
   · exact ⟨s, o, h0, h2, fun i hi => h3 i (by omega)⟩
  have d1 : decide ((n : Int) < 0) = false := decide_eq_false (by omega)
  have d2 : decide ((n : Int) < 8) = false := decide_eq_false (by omega)
  have w0 : IntKind.i64.wrap (n : Int) = (n : Int) := IntWalk.i64_in _ (by omega)
  clear hS hu
  go_enter Tryd.func121, Tryd.ntmps121
  go_wp2_with fail
  clear d1 d2 w0
  go_loop [6, 9, 33] (fun c6 _ c33 => ∃ k : Nat, k ≤ 8 ∧ c33 = .int .i64 k ∧ c6 = .int .u64 (beN (xs.take k))) (fun _ _ i => 8 - (intOf i).toNat)
  case atStart => exact ⟨0, by omega, rfl, rfl⟩
  case round =>
   obtain ⟨k, hk, rfl, rfl⟩ := hrel
   by_cases hlt : k < 8
   · have hck := HC.o k hlt
     have HN := Lh (beN_snoc xs k (by have := HL.o; omega))
     obtain ⟨n0, n1⟩ := beN_bound HB.o k (by have := HL.o; omega)
     have n2 := pow256_le k hlt
     obtain ⟨c0, c1⟩ := HB.o.get k
     generalize xs.getD k 0 = b at hck HN c0 c1
     generalize beN (xs.take k) = m at HN n0 n1
     have n3 : m < 72057594037927936 := by omega
     clear n1 n2
     have hor := or_byte n0 n3 c0 c1
     have i1 : (k : Int) < (n : Int) := by omega
     have i2 : (k : Int) < 8 := by omega
     have i3 : (0 : Int) ≤ (k : Int) := by omega
     go_wp2_with fail
     go_round
     case rel => exact ⟨k + 1, by omega, by go_num, by rw [HN.o]⟩
     case measure => simp [intOf]; omega
   · obtain rfl : k = 8 := by omega
     go_wp2_with fail
     refine bodyPost_ret (v := .tuple #[.int .u64 (beN (xs.take 8)), .int .i64 8, .int .i64 0]) ?_ rfl ⟨rfl, rfl⟩
     simp [results, go_sem]
open Go Go.RowKit Go.Shelf Num Sha
attribute [local go_sem] Oper.semAt_some
section
variable {P : Program} {ops : Array Oper} {Q : Exit → Act → World → Prop} {n : Nat}
theorem oper_inW {o : Oper} (hd : Op.noDefer o.op = true) {a : Act} {w : World} {K : Act → World → Prop} (h : o.wp P a w K (OnlyN Q)) : o.wpIn Fence.wide n P a w K Q := by
 refine ⟨fun _ _ => trivial, ?_⟩
 rw [Oper.semAt_plain _ _ _ (fun c hc => by rw [hc] at hd; cases hd)]
 unfold Oper.wp at h
 generalize (execOp a.eval o).run P w = r at *
 cases r with
 | ok x w' =>
  cases x <;> simp only [Oper.upon, Oper.uponIn] at h ⊢ <;> first | exact h | skip
  case enter f args =>
   refine ⟨(fun hx => by cases hx), callsIn_wide.2 (Calls.mono h fun e w'' he => ?_)⟩
   cases e with
   | returned v => exact he
   | panicked c => exact he.elim
   | outgrown => exact (OnlyN.never he).elim
  case row row args =>
   refine ⟨(fun hx => by cases hx), fun c cs _ => ?_⟩
   obtain ⟨v, w', r, s⟩ := h c cs
   exact ⟨v, w', r, stepsIn_wide.2 s⟩
 | halt x w' => cases x <;> simp only [Oper.upon, Oper.uponIn] at h ⊢ <;> exact h.elim
end
theorem wpListIn_ofW {P : Program} {ops : Array Oper} {Q : Exit → Act → World → Prop} {n : Nat} : ∀ (os : List Oper) (a : Act) (w : World), (∀ o ∈ os, Op.noDefer o.op = true) → wpList P ops (OnlyN Q) os a w → wpListIn Fence.wide n P ops Q os a w
  | [], _, _, _, h => h
  | o :: rest, a, w, hd, h => by
   simp only [wpList] at h
   unfold wpListIn
   by_cases hw : Region.wanted o (yielded ops a.tmps) = true
   · rw [if_pos hw] at h
     rw [if_pos hw]
     rcases h with h | h
     · exact Oper.wpIn_mono (fun a' w' h' => wpListIn_ofW rest a' w' (fun x hx => hd x (List.mem_cons_of_mem _ hx)) h') (oper_inW (hd o (List.mem_cons_self ..)) h)
     · exact (OnlyN.never h.2).elim
   · rw [if_neg hw] at h
     rw [if_neg hw]
     exact ⟨fun _ _ => trivial, wpListIn_ofW rest _ _ (fun x hx => hd x (List.mem_cons_of_mem _ hx)) h⟩
def tryB (seed : List Int) (i : Int) (k : Nat) : List Int := seed ++ be4 i ++ be4 (k : Int)
def tryS (seed : List Int) (i : Int) (k : Nat) : Int := beN ((shaS (tryB seed i k)).take 8)
def Kc (W W' : World) : Prop := W.heap.size ≤ W'.heap.size ∧ ∀ p v, W.cell? p = some v → W'.cell? p = some v
theorem Kc.refl (W : World) : Kc W W := ⟨Nat.le_refl _, fun _ _ h => h⟩
theorem Kc.trans {A B C : World} (h : Kc A B) (k : Kc B C) : Kc A C := ⟨Nat.le_trans h.1 k.1, fun p v hv => k.2 p v (h.2 p v hv)⟩
theorem Kc.below {W W' : World} (h : Below W.heap.size W W') : Kc W W' := ⟨h.size, fun p v hv => (h.cell (World.block_lt_of_cell? W _ hv)).trans hv⟩
theorem Kc.put (W : World) (l : Nat) (o o' : Obj) (h : W.heap[l]? = some o) (ho : o.isCells = false) : Kc W (W.putObj l o') := by
 have hg := grownBy_putObj' W l o'
 refine ⟨hg.size, fun p v hv => ?_⟩
 have hb : p.block ≠ l := by
  intro e
  unfold World.cell? at hv
  rw [e, h] at hv
  cases o <;> simp [Obj.isCells] at ho hv
 exact (World.cell?_of_block (w := W) (a := p) (hg.block p.block (World.block_lt_of_cell? W _ hv) (fun e => hb (by cases e; rfl)))).trans hv
theorem ShI.kc {q : IntKind} {W W' : World} {a : Option Addr} {n : Nat} {xs : List Int} (h : ShI q W a n xs) (k : Kc W W') : ShI q W' a n xs := by
 rcases h with h | ⟨s, o, h0, h1, h2, h3⟩
 · exact .inl h
 · exact .inr ⟨s, o, h0, h1, Nat.lt_of_lt_of_le h2 k.1, fun i hi => k.2 _ _ (h3 i hi)⟩
theorem Tabs.kc {W W' : World} (h : Tabs W) (k : Kc W W') : Tabs W' :=
  ⟨fun t ht => k.2 _ _ (h.k t ht), fun i hi => k.2 _ _ (h.f i hi), Nat.lt_of_lt_of_le h.klt k.1, Nat.lt_of_lt_of_le h.flt k.1⟩
structure UrnB (W : World) (Bu Bi : Nat) (seed : List Int) (i : Int) : Prop where
  u : ∀ j, j < seed.length → W.cell? ⟨Bu, j, none⟩ = some (.int .u8 (seed.getD j 0))
  i : W.cell? ⟨Bi, 0, none⟩ = some (.int .u32 i)
theorem UrnB.kc {W W' : World} {Bu Bi : Nat} {seed : List Int} {i : Int} (h : UrnB W Bu Bi seed i) (k : Kc W W') : UrnB W' Bu Bi seed i := ⟨fun j hj => k.2 _ _ (h.u j hj), k.2 _ _ h.i⟩
theorem UrnB.sh {W : World} {Bu Bi : Nat} {seed : List Int} {i : Int} (h : UrnB W Bu Bi seed i) (hl : seed.length = 32) : ShI .u8 W (some ⟨Bu, 0, none⟩) 32 seed :=
  .inr ⟨Bu, 0, rfl, hl.symm, World.block_lt_of_cell? W _ (h.u 0 (by omega)), fun j hj => by rw [Nat.zero_add]; exact h.u j hj⟩
set_option maxHeartbeats 8000000 in
theorem tries1_in (n : Nat) (hn : 1 ≤ n) (l Bu Bi : Nat) {seed : List Int} {i : Int} (hi0 : 0 ≤ i) (hi1 : i < 4294967296) (hsl : seed.length = 32) (hby : ByteL seed) (J Jx : List Nat → World → Prop)
    (hY : ∀ pre x W, J pre W → pre.length < 16 → YieldAt Fence.wide (n - 1) Tryd.prog l #[.int .u64 (tryS seed i x)] W fun e W' =>
      (e = .returned (.bool true) ∧ J (pre ++ [x]) W' ∧ Kc W W') ∨ (e = .returned (.bool false) ∧ Jx (pre ++ [x]) W'))
    (hJg : ∀ pre A B, J pre A → Below A.heap.size A B → J pre B)
    (W : World) (hT : Tabs W) (hU : UrnB W Bu Bi seed i) (h0 : J [] W) :
    CallsIn Fence.wide n Tryd.prog 119 #[.func (.yield l) #[] #[], .pointer (some ⟨Bu, 0, none⟩), .pointer (some ⟨Bi, 0, none⟩)] W fun e W' => (∃ v, e = .returned v) ∧
      ((∃ ys, ys = List.range 16 ∧ J ys W') ∨ (∃ pre, (∃ k, k ≤ 16 ∧ pre = List.range k) ∧ Jx pre W')) := by
  have HT := Lh hT
  have HU := Lh hU
  have HJ := Lh hJg
  have HY := Lh hY
  have H0 := Lh h0
  have HBY := Lh hby
  have HSL := Lh hsl
  have ci := hU.i
  have wi : IntKind.u64.wrap i = i := IntWalk.u64_in _ (by omega)
  clear hT hU hJg hY h0 hby hsl
  refine callsIn_of_wp Tryd.func119 rfl trivial ?_ rfl
  simp only [Tryd.ntmps119, List.size_toArray, List.length_cons, List.length_nil, Nat.reduceAdd, Nat.reduceSub, Array.replicate_succ, Array.replicate_zero, List.push_toArray, List.append_toArray, List.nil_append, List.cons_append]
  gi_wp2_with fail
  refine wpIn_wide.2 ?_
  go_region_law (first
    | (go_simp
       go_at_call 120
       refine (put_any _ ((HU.o.sh HSL.o).kc (Kc.below (Below.refl _ _).drew)) hi0 hi1 (by decide)).mono ?_
       rintro e w1 ⟨v1, rfl, ho1, hb1⟩
       obtain ⟨a1, c1, rfl, hs1⟩ := ShI.of_owned (show w1.ownsRow _ _ 1 _ (seed ++ be4 i).length ((seed ++ be4 i).map (Value.int .u8)) from ho1)
       rw [show (seed ++ be4 i).length = 36 by rw [List.length_append, be4_len, HSL.o]] at hs1 ⊢
       have HH := Lh hs1
       have HB1 := Lh (show Below W.heap.size W w1 from (Below.refl _ _).drew.trans hb1)
       clear ho1 hb1 hs1))
  gi_wp2_with fail
  have HT1 := Lh (HT.o.kc (Kc.below HB1.o))
  have HJ1 := Lh (HJ.o _ _ _ H0.o HB1.o)
  clear ci wi HT HU H0
  gi_loopw [21] (fun c21 wr => ∃ k : Nat, k ≤ 16 ∧ c21 = .int .u64 k ∧ Hid (J (List.range k) wr) ∧ Hid (Kc w1 wr)) (fun c21 _ => 16 - (intOf c21).toNat)
  case atStart => exact ⟨0, by omega, rfl, HJ1.o, Kc.refl _⟩
  case round =>
   clear HJ1
   obtain ⟨k, hk, rfl, HJ1, HK⟩ := hrel
   by_cases hlt : k < 16
   case pos =>
    have hd : decide ((k : Int) < 16) = true := decide_eq_true (by omega)
    have HB := Lh (show ByteL (seed ++ be4 i ++ be4 (k : Int)) from fun x hx => by
     rcases List.mem_append.1 hx with hx | hx
     · rcases List.mem_append.1 hx with hx | hx
       · exact HBY.o x hx
       · exact be4_bytes _ x hx
     · exact be4_bytes _ x hx)
    have HLX := Lh (show (seed ++ be4 i ++ be4 (k : Int)).length = 40 by rw [List.length_append, List.length_append, be4_len, be4_len, HSL.o])
    have HTS := Lh (show tryS seed i k = beN ((shaS (seed ++ be4 i ++ be4 (k : Int))).take 8) from rfl)
    have HBB := Lh (show Bytes (shaS (seed ++ be4 i ++ be4 (k : Int))) from shaS_bytes _)
    have hwk : IntKind.u64.wrap ((k : Int) + 1) = (k : Int) + 1 := IntWalk.u64_in _ (by omega)
    have HPT := Lh (put_any (c := c1) wr (HH.o.kc HK.o) (x := (k : Int)) (by omega) (by omega) (by decide))
    gi_wp2_with fail
    refine ⟨trivial, ?_⟩
    refine (callsIn_wide.2 HPT.o).mono ?_
    rintro e w5 ⟨v5, rfl, ho5, hb5⟩
    obtain ⟨X, hX⟩ : ∃ X, seed ++ be4 i ++ be4 (k : Int) = X := ⟨_, rfl⟩
    rw [hX] at HB HLX HTS HBB ho5
    obtain ⟨a5, c5, rfl, hs5⟩ := ShI.of_owned (show w5.ownsRow _ _ 1 _ X.length (X.map (Value.int .u8)) from ho5)
    rw [HLX.o] at hs5 ⊢
    have H5 := Lh hs5
    have HB5 := Lh (show Below wr.heap.size wr w5 from hb5)
    have HT5 := Lh (HT1.o.kc (HK.o.trans (Kc.below hb5)))
    clear ho5 hb5 hs5 hX HPT
    gi_wp2_with (refine wpListIn_ofW _ _ _ (List.all_eq_true.1 (by kernel_rfl)) ?_)
    go_wp2_with fail
    unfold OnlyN
    gi_wp2_with (refine wpListIn_ofW _ _ _ (List.all_eq_true.1 (by kernel_rfl)) ?_)
    obtain ⟨wo, rfl⟩ : ∃ wo, wo = w5 := ⟨_, rfl⟩
    go_wp2_with (first
      | (go_at_call 32; refine (dSum_any wo HT5.o H5.o (by decide) HB.o).mono ?_; rintro e w6 ⟨rfl, hb6⟩; have HB6 := Lh (HB5.o.trans (hb6.mono HB5.o.size)); clear hb6)
      | (refine wpL_allocArr rfl 37 .u8 32 rfl (by kernel_rfl) ?_; intro wa h1; have F_a := Lh h1.arr; have HBA := Lh (HB6.o.trans (h1.below _ HB6.o.size)); clear h1; simp only [Act.put, sZ])
      | (refine wpL_storeArr rfl 37 .u8 _ _ w6.heap.size (shaS X) _ rfl rfl rfl rfl (by kernel_rfl) F_a.o rfl ?_; intro wb h9; have F_b := Lh (show ShI .u8 wb (some ⟨w6.heap.size, 0, none⟩) 32 (shaS X) from .inr ⟨_, _, rfl, rfl, by rw [h9.size]; exact F_a.o.lt, fun j hj => h9.row j hj⟩); have HB9 := Lh (HBA.o.trans (h9.below _ HB6.o.size)); clear h9))
    unfold OnlyN
    gi_wp2_with fail
    refine ⟨trivial, ?_⟩
    refine (callsIn_wide.2 (take8_any wb F_b.o HBB.o (by decide) (by decide))).mono ?_
    rintro e w7 ⟨rfl, rfl⟩
    rw [← HTS.o]
    obtain ⟨fn, tmps, assign, body, hy, hR⟩ := HY.o _ k w7 (HJ.o _ _ _ HJ1.o HB9.o) (by rw [List.length_range]; exact hlt)
    gi_wp2
    refine hR.mono ?_
    rintro e W3 (⟨rfl, hJ3, hk3⟩ | ⟨rfl, hJx3⟩)
    · gi_wp2
      go_roundw
      case rel => exact ⟨k + 1, by omega, by go_num, by rw [List.range_succ]; exact hJ3, HK.o.trans ((Kc.below HB9.o).trans hk3)⟩
      case measure => simp [intOf]; omega
    · gi_wp2
      refine bodyPost_ret (results_none rfl _ _ _) rfl ?_
      exact ⟨⟨_, rfl⟩, .inr ⟨_, ⟨k + 1, by omega, (List.range_succ).symm⟩, hJx3⟩⟩
   case neg =>
    obtain rfl : k = 16 := by omega
    gi_wp2
    go_end0
    first | exact ⟨⟨_, rfl⟩, .inl HJ1.o⟩ | exact ⟨⟨_, rfl⟩, .inl ⟨_, rfl, HJ1.o⟩⟩
set_option maxHeartbeats 8000000 in
theorem tries_in (n : Nat) {seed : List Int} {i : Int} (w : World) :
    CallsIn Fence.wide n Tryd.prog 111 #[.agg (valV .u8 seed), .int .u32 i] w fun e w' => e = .returned (.func (.func 119) #[] #[.pointer (some ⟨w.heap.size, 0, none⟩), .pointer (some ⟨w.heap.size + 1, 0, none⟩)]) ∧ w' = (w.alloc (.cells (valV .u8 seed) 163)).alloc (.cells #[.int .u32 i] 125) := by
  refine callsIn_of_wp Tryd.func111 rfl trivial ?_ rfl
  simp only [Tryd.ntmps111, List.size_toArray, List.length_cons, List.length_nil, Nat.reduceAdd, Nat.reduceSub, Array.replicate_succ, Array.replicate_zero, List.push_toArray, List.append_toArray, List.nil_append, List.cons_append]
  gi_wp2
  go_ret
  exact ⟨rfl, rfl⟩
theorem UrnB.new {seed : List Int} {i : Int} (w : World) (T T' : TypeId) : UrnB ((w.alloc (.cells (valV .u8 seed) T)).alloc (.cells #[.int .u32 i] T')) w.heap.size (w.heap.size + 1) seed i := by
 refine ⟨fun j hj => ?_, ?_⟩
 · have h := ((Arr.new .u8 w seed T _ rfl).alloc (.cells #[.int .u32 i] T')).c j hj
   exact h
 · simp
theorem tries_stops (n : Nat) (hn : 1 ≤ n) (Bu Bi : Nat) {seed : List Int} {i : Int} (hi0 : 0 ≤ i) (hi1 : i < 4294967296) (hsl : seed.length = 32) (hby : ByteL seed) (w : World) (hT : Tabs w) (hU : UrnB w Bu Bi seed i) :
    SeqStopsK Fence.wide n Tryd.prog 119 #[.pointer (some ⟨Bu, 0, none⟩), .pointer (some ⟨Bi, 0, none⟩)] (fun x : Nat => #[Value.int .u64 (tryS seed i x)]) Kc (fun ys => ys = List.range 16) (fun pre => ∃ k, k ≤ 16 ∧ pre = List.range k) 16 w := fun l J Jx W hW hJo _ hY h0 => by
  refine (tries1_in n hn l Bu Bi hi0 hi1 hsl hby J Jx hY (fun pre A B h hb => hJo pre A B none h ⟨hb.os, hb.tape, hb.output, hb.size, fun k hk _ => hb.block k hk⟩ (fun r e => by cases e)) W (hT.kc (Kc.below hW)) (hU.kc (Kc.below hW)) h0).mono ?_
  rintro e W' ⟨he, ⟨ys, rfl, hj⟩ | ⟨pre, hk, hj⟩⟩
  · exact ⟨he, .inl ⟨_, rfl, hj⟩⟩
  · exact ⟨he, .inr ⟨_, hk, hj⟩⟩
end Go.Proofs.YtlbldpkgnonbpaaDoor
