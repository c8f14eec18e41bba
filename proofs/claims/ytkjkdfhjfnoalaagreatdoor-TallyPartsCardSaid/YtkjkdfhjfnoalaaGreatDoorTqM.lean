/- A proof's context; parts compared. -/
import Derived.Test.YtkjkdfhjfnoalaaGreatDoorTqE
import Derived.Test.YtkjkdfhjfnoalaaGreatDoorTqJ
import Derived.Test.YtkjkdfhjfnoalaaGreatDoorTqL
set_option linter.unusedSimpArgs false
set_option linter.unusedVariables false
set_option maxRecDepth 100000
namespace Go.Proofs.YtkjkdfhjfnoalaaGreatDoor
open Go Go.RowKit Num Sha
set_option maxHeartbeats 2000000 in
theorem rform_any {P Q G : Int} (w : World) (hP : 0 ≤ P) (hQ : 0 ≤ Q) (hG : 0 ≤ G) :
    Calls Tryz.prog 19 #[.agg #[.int .u64 P, .int .u64 Q, .int .u64 G]] w fun e w' => e = .returned (.int .i64 (formS P Q G)) ∧ Below w.heap.size w w' := by
  have F_g := Lh (Boxed.new w P Q G 24)
  have HBW := Lh (show Below w.heap.size w (w.alloc (.cells #[.int .u64 P, .int .u64 Q, .int .u64 G] 24)) from (Below.refl _ _).alloc (Nat.le_refl _) _)
  have HR := Lh (show askS P Q G [] [] = formS P Q G by unfold askS formS; split <;> simp [okAll])
  go_enter Tryz.func19, Tryz.ntmps19
  obtain ⟨x0a, x0b, x0c, -⟩ := id F_g.o
  go_wp2_with fail
  refine (rAsked_any _ hP hQ hG (ShL.nil _) (ShL.nil _) (by simp) (by simp) HR.o).mono ?_
  rintro e w1 ⟨rfl, hb1⟩
  have HB := Lh (HBW.o.trans (hb1.mono HBW.o.size))
  clear hb1
  go_wp2_with fail
  go_ret
  exact ⟨rfl, HB.o⟩
set_option maxHeartbeats 8000000 in
theorem tctx_any {t j : Int} (w : World) (t0 : 0 ≤ t) (t1 : t < 256) (j0 : 0 ≤ j) (j1 : j < 256) :
    Calls Tryz.prog 18 #[.int .i64 t, .int .i64 j] w fun e w' => ∃ s, e = .returned (.slice (some ⟨s, 0, none⟩) 2 2) ∧ ShI .u8 w' (some ⟨s, 0, none⟩) 2 [t, j] ∧ Below w.heap.size w w' := by
  have h1 : IntKind.u8.wrap t = t := IntWalk.u8_in _ ⟨t0, by omega⟩
  have h2 : IntKind.u8.wrap j = j := IntWalk.u8_in _ ⟨j0, by omega⟩
  go_enter Tryz.func18, Tryz.ntmps18
  go_wp2_with fail
  go_ret
  exact ⟨_, rfl, .inr ⟨_, 0, rfl, rfl, by simp, fun i hi => by
   have hi' : i < 2 := by simpa using hi
   rw [World.cell?_alloc_new]
   match i, hi' with
   | 0, _ => rfl
   | 1, _ => rfl⟩, (Below.refl _ _).alloc (Nat.le_refl _) _⟩
set_option maxHeartbeats 8000000 in
theorem rctx_any {t j : Int} (w : World) (t0 : 0 ≤ t) (t1 : t < 256) (j0 : 0 ≤ j) (j1 : j < 256) :
    Calls Tryz.prog 44 #[.int .i64 t, .int .i64 j] w fun e w' => ∃ s, e = .returned (.slice (some ⟨s, 0, none⟩) 2 2) ∧ ShI .u8 w' (some ⟨s, 0, none⟩) 2 [t, j] ∧ Below w.heap.size w w' := by
  have h1 : IntKind.u8.wrap t = t := IntWalk.u8_in _ ⟨t0, by omega⟩
  have h2 : IntKind.u8.wrap j = j := IntWalk.u8_in _ ⟨j0, by omega⟩
  go_enter Tryz.func44, Tryz.ntmps44
  go_wp2_with fail
  go_ret
  exact ⟨_, rfl, .inr ⟨_, 0, rfl, rfl, by simp, fun i hi => by
   have hi' : i < 2 := by simpa using hi
   rw [World.cell?_alloc_new]
   match i, hi' with
   | 0, _ => rfl
   | 1, _ => rfl⟩, (Below.refl _ _).alloc (Nat.le_refl _) _⟩
set_option maxHeartbeats 8000000 in
theorem rGreatPart_any {p : Qt} (w : World) :
    Calls Tryz.prog 4 #[p.v] w fun e w' => e = .returned (.bool (decide (20 < p.n) || decide (20 < p.m))) ∧ Below w.heap.size w w' := by
  have hpv : p.v = .agg #[.int .i64 p.t, .slice p.a p.n p.c, .slice p.b p.m p.d] := rfl
  rw [hpv]
  have F_p := Lh (show Cl (w.alloc (.cells #[.int .i64 p.t, .slice p.a p.n p.c, .slice p.b p.m p.d] 29)) (w.heap.size) [.int .i64 p.t, .slice p.a p.n p.c, .slice p.b p.m p.d] from Cl.at w [.int .i64 p.t, .slice p.a p.n p.c, .slice p.b p.m p.d] 29 (w.heap.size) (by simp))
  have HBW := Lh (show Below w.heap.size w (w.alloc (.cells #[.int .i64 p.t, .slice p.a p.n p.c, .slice p.b p.m p.d] 29)) from (Below.refl _ _).alloc (by simp <;> omega) _)
  by_cases h1 : 20 < p.n
  case pos =>
   have d1 : decide ((20 : Int) < (p.n : Int)) = true := decide_eq_true (by omega)
   have e1 : (20 : Int) < (p.n : Int) := by omega
   go_enter Tryz.func4, Tryz.ntmps4
   have q_p_0 := F_p.o.c 0 _ rfl
   have q_p_1 := F_p.o.c 1 _ rfl
   have q_p_2 := F_p.o.c 2 _ rfl
   go_wp2_with fail
   clear q_p_0 q_p_1 q_p_2
   go_ret
   exact ⟨by simp [h1], HBW.o⟩
  case neg =>
   have d1 : decide ((20 : Int) < (p.n : Int)) = false := decide_eq_false (by omega)
   have e1 : ¬ ((20 : Int) < (p.n : Int)) := by omega
   by_cases h2 : 20 < p.m
   case pos =>
    have d2 : decide ((20 : Int) < (p.m : Int)) = true := decide_eq_true (by omega)
    have e2 : (20 : Int) < (p.m : Int) := by omega
    go_enter Tryz.func4, Tryz.ntmps4
    have q_p_0 := F_p.o.c 0 _ rfl
    have q_p_1 := F_p.o.c 1 _ rfl
    have q_p_2 := F_p.o.c 2 _ rfl
    go_wp2_with fail
    clear q_p_0 q_p_1 q_p_2
    go_ret
    exact ⟨by simp [h1, h2], HBW.o⟩
   case neg =>
    have d2 : decide ((20 : Int) < (p.m : Int)) = false := decide_eq_false (by omega)
    have e2 : ¬ ((20 : Int) < (p.m : Int)) := by omega
    go_enter Tryz.func4, Tryz.ntmps4
    have q_p_0 := F_p.o.c 0 _ rfl
    have q_p_1 := F_p.o.c 1 _ rfl
    have q_p_2 := F_p.o.c 2 _ rfl
    go_wp2_with fail
    clear q_p_0 q_p_1 q_p_2
    go_ret
    exact ⟨by simp [h1, h2], HBW.o⟩
set_option maxHeartbeats 8000000 in
theorem rSamePart_any {t : Int} {a1 a2 b1 b2 : Option Addr} {n m c1 c2 d1 d2 : Nat} {xs : List Int} {es : List Eq3} (w : World) (h1 : ShI .u64 w a1 n xs) (h2 : ShQ w b1 m es) (j1 : ShI .u64 w a2 n xs) (j2 : ShQ w b2 m es) (hn : n ≤ 10000) (hm : m ≤ 10000) :
    Calls Tryz.prog 10 #[.agg #[.int .i64 t, .slice a1 n c1, .slice b1 m d1], .agg #[.int .i64 t, .slice a2 n c2, .slice b2 m d2]] w fun e w' => e = .returned (.bool true) ∧ Below w.heap.size w w' := by
  have H1 := Lh h1
  have H2 := Lh h2
  have J1 := Lh j1
  have J2 := Lh j2
  clear h1 h2 j1 j2
  have F_p := Lh (show Cl ((w.alloc (.cells #[.int .i64 t, .slice a1 n c1, .slice b1 m d1] 29)).alloc (.cells #[.int .i64 t, .slice a2 n c2, .slice b2 m d2] 29)) (w.heap.size) [.int .i64 t, .slice a1 n c1, .slice b1 m d1] from (Cl.at w [.int .i64 t, .slice a1 n c1, .slice b1 m d1] 29 (w.heap.size) (by simp)).alloc _)
  have F_q := Lh (show Cl ((w.alloc (.cells #[.int .i64 t, .slice a1 n c1, .slice b1 m d1] 29)).alloc (.cells #[.int .i64 t, .slice a2 n c2, .slice b2 m d2] 29)) (w.heap.size + 1) [.int .i64 t, .slice a2 n c2, .slice b2 m d2] from Cl.at (w.alloc (.cells #[.int .i64 t, .slice a1 n c1, .slice b1 m d1] 29)) [.int .i64 t, .slice a2 n c2, .slice b2 m d2] 29 (w.heap.size + 1) (by simp))
  have HBW := Lh (show Below w.heap.size w ((w.alloc (.cells #[.int .i64 t, .slice a1 n c1, .slice b1 m d1] 29)).alloc (.cells #[.int .i64 t, .slice a2 n c2, .slice b2 m d2] 29)) from ((Below.refl _ _).alloc (by simp <;> omega) _).alloc (by simp <;> omega) _)
  go_enter Tryz.func10, Tryz.ntmps10
  have q_p_0 := F_p.o.c 0 _ rfl
  have q_p_1 := F_p.o.c 1 _ rfl
  have q_p_2 := F_p.o.c 2 _ rfl
  have q_q_0 := F_q.o.c 0 _ rfl
  have q_q_1 := F_q.o.c 1 _ rfl
  have q_q_2 := F_q.o.c 2 _ rfl
  go_wp2_with fail
  clear q_p_0 q_p_1 q_p_2 q_q_0 q_q_1 q_q_2
  refine (rsame64_any _ (H1.o.keep HBW.o) (J1.o.keep HBW.o) hn).mono ?_
  rintro e w1 ⟨rfl, hb1⟩
  replace F_p := Lh (F_p.o.keep hb1)
  replace F_q := Lh (F_q.o.keep hb1)
  replace HBW := Lh (HBW.o.trans (hb1.mono HBW.o.size))
  clear hb1
  have q_p_0 := F_p.o.c 0 _ rfl
  have q_p_1 := F_p.o.c 1 _ rfl
  have q_p_2 := F_p.o.c 2 _ rfl
  have q_q_0 := F_q.o.c 0 _ rfl
  have q_q_1 := F_q.o.c 1 _ rfl
  have q_q_2 := F_q.o.c 2 _ rfl
  go_wp2_with fail
  clear q_p_0 q_p_1 q_p_2 q_q_0 q_q_1 q_q_2
  go_loopw [5] (fun c5 wr => ∃ i : Nat, i ≤ m ∧ c5 = .int .i64 i ∧ Hid (Cl wr w.heap.size [.int .i64 t, .slice a1 n c1, .slice b1 m d1]) ∧ Hid (Cl wr (w.heap.size + 1) [.int .i64 t, .slice a2 n c2, .slice b2 m d2]) ∧ Hid (Below w.heap.size w wr)) (fun c5 _ => m - (intOf c5).toNat)
  case atStart => exact ⟨0, by omega, rfl, F_p.o, F_q.o, HBW.o⟩
  case round =>
   clear F_p F_q HBW
   obtain ⟨i, hi, rfl, F_p, F_q, HBW⟩ := hrel
   have hwi : IntKind.i64.wrap ((i : Int) + 1) = (i : Int) + 1 := IntWalk.i64_in _ (by omega)
   have hi0 : (0 : Int) ≤ (i : Int) := by omega
   by_cases hlt : i < m
   case pos =>
    have hi2 : (i : Int) < (m : Int) := by omega
    have cR : Tryz.prog.cellsOf 53 = 3 := by kernel_rfl
    obtain ⟨s1, o1, x, hsa, hx, hz1, r0, r1, r2⟩ := (H2.o.keep HBW.o).at i hlt
    obtain ⟨s2, o2, y, hsb, hy, hz2, u0, u1, u2⟩ := (J2.o.keep HBW.o).at i hlt
    rw [hx] at hy
    obtain rfl := Option.some.inj hy
    subst hsa hsb
    clear hx hy
    have q_p_2 := F_p.o.c 2 _ rfl
    have q_q_2 := F_q.o.c 2 _ rfl
    go_wp2_with fail
    go_region
    go_wp2_with fail
    clear q_p_2 q_q_2
    go_roundw
    case rel => exact ⟨i + 1, by omega, by go_num, F_p.o.drew, F_q.o.drew, HBW.o.drew⟩
    case measure => simp [intOf] <;> omega
   case neg =>
    have hi2 : ¬ ((i : Int) < (m : Int)) := by omega
    have q_p_2 := F_p.o.c 2 _ rfl
    go_wp2_with fail
    go_ret
    exact ⟨rfl, HBW.o⟩
open Go Go.RowKit Num Sha
theorem own_slice {w : World} {base : Nat} {e : TypeId} {sz n : Nat} {v : Value} {xs : List Value} (h : w.ownsRow base e sz v n xs) : ∃ a c, v = .slice a n c := by
 rcases h.2 with ⟨h1, h2⟩ | ⟨g, cap, cur, h1, -⟩
 · subst h2; exact ⟨_, _, h1⟩
 · exact ⟨_, _, h1⟩
def vcell (av bv : Value) (one : Bool) : List Value := [av, bv, .bool one, .int .u64 0, .int .u64 0, .int .u64 0, .int .u64 0, .int .u64 0, .int .u64 0, .int .u64 0, .int .u64 0]
structure SlB (wd wk wr : World) (one : Bool) (mv av bv rv : Value) : Prop where
  kd : Below wd.heap.size wd wr
  km : ∀ j, wd.heap.size < j → j < wk.heap.size → wr.heap[j]? = wk.heap[j]?
  zk : wd.heap.size < wk.heap.size
  zr : wk.heap.size < wr.heap.size
  v : Cl wr wd.heap.size (vcell av bv one)
  r : Cl wr wk.heap.size [mv, rv]
theorem SlB.under {wd wk wr w' : World} {one : Bool} {mv av bv rv : Value} (h : SlB wd wk wr one mv av bv rv) (hb : Below (wk.heap.size + 1) wr w') : SlB wd wk w' one mv av bv rv :=
  ⟨h.kd.trans (hb.mono (by have := h.zk; omega)), fun j h1 h2 => (hb.block j (by omega)).trans (h.km j h1 h2), h.zk, Nat.lt_of_lt_of_le h.zr hb.size, h.v.keepN hb (by have := h.zk; omega), h.r.keepN hb (by omega)⟩
theorem SlB.keep {wd wk wr w' : World} {one : Bool} {mv av bv rv : Value} (h : SlB wd wk wr one mv av bv rv) (hb : Below wr.heap.size wr w') : SlB wd wk w' one mv av bv rv := h.under (hb.mono h.zr)
theorem SlB.drew {wd wk wr : World} {one : Bool} {mv av bv rv : Value} (h : SlB wd wk wr one mv av bv rv) : SlB wd wk wr.drew one mv av bv rv := h.keep (Below.refl _ _).drew
theorem SlB.alloc {wd wk wr : World} {one : Bool} {mv av bv rv : Value} (h : SlB wd wk wr one mv av bv rv) (o : Obj) : SlB wd wk (wr.alloc o) one mv av bv rv := h.keep ((Below.refl _ _).alloc (Nat.le_refl _) o)
def Apt (av bv rv : Value) (B : Nat) : Prop := (∀ k, av.ownBlock = some k → k < B) ∧ (∀ k, bv.ownBlock = some k → k < B) ∧ (∀ k, rv.ownBlock = some k → k < B)
def Chn (Z : Nat) (e : TypeId) (sz : Nat) (w : World) (v0 : Value) (i : Nat) (xs us : List Value) (y3 y4 : Option Value) : Prop :=
  (y4 = none → w.ownsRow Z e sz v0 i xs) ∧ (∀ v, y3 = some v → ∃ B, v = .slice (some ⟨B, 0, none⟩) 1 1 ∧ (y4 = none → w.ownsRow Z e sz v 1 us)) ∧ (∀ v, y4 = some v → w.ownsRow Z e sz v (i + 1) (xs ++ us))
theorem Chn.kept {Z : Nat} {e : TypeId} {sz : Nat} {w w' : World} {v0 : Value} {i : Nat} {xs us : List Value} {y3 y4 : Option Value} (h : Chn Z e sz w v0 i xs us y3 y4) {Z' sz' k' : Nat} {e' : TypeId} {v' : Value} {xs' : List Value}
    (h' : w.ownsRow Z' e' sz' v' k' xs') (hne : e' ≠ e) (hg : w.grownBy w' v'.ownBlock) : Chn Z e sz w' v0 i xs us y3 y4 :=
  ⟨fun h4 => World.ownsRow.kept (h.1 h4) hg (own_diffN h' (h.1 h4) hne), fun v hv => by
   obtain ⟨B, rfl, hB⟩ := h.2.1 v hv
   exact ⟨B, rfl, fun h4 => World.ownsRow.kept (hB h4) hg (own_diffN h' (hB h4) hne)⟩, fun v hv => World.ownsRow.kept (h.2.2 v hv) hg (own_diffN h' (h.2.2 v hv) hne)⟩
theorem Chn.keep {Z : Nat} {e : TypeId} {sz : Nat} {w w' : World} {v0 : Value} {i : Nat} {xs us : List Value} {y3 y4 : Option Value} (h : Chn Z e sz w v0 i xs us y3 y4) (hb : Below w.heap.size w w') : Chn Z e sz w' v0 i xs us y3 y4 :=
  ⟨fun h4 => owns_below2 (h.1 h4) hb, fun v hv => by
   obtain ⟨B, rfl, hB⟩ := h.2.1 v hv
   exact ⟨B, rfl, fun h4 => owns_below2 (hB h4) hb⟩, fun v hv => owns_below2 (h.2.2 v hv) hb⟩
theorem Chn.lit {Z : Nat} {e : TypeId} {sz : Nat} {w : World} {v0 : Value} {i : Nat} {xs us : List Value} {y3 y4 : Option Value} (h : Chn Z e sz w v0 i xs us y3 y4) (hz : Z ≤ w.heap.size) (hs : us.length = sz) :
    Chn Z e sz (w.alloc (.cells us.toArray e)) v0 i xs us (some (.slice (some ⟨w.heap.size, 0, none⟩) 1 1)) y4 :=
  ⟨fun h4 => owns_alloc2 (h.1 h4) _, fun v hv => by
   cases hv
   refine ⟨_, rfl, fun _ => ?_⟩
   have := World.ownsRow_lit (base := Z) (e := e) (size := sz) w us.toArray 1 hz (by unfold maxLen; omega) (by simp [hs])
   simpa using this, fun v hv => owns_alloc2 (h.2.2 v hv) _⟩
theorem Chn.app {Z : Nat} {e : TypeId} {sz : Nat} {w w' : World} {v0 v' : Value} {i : Nat} {xs us : List Value} {y3 : Option Value} (h : Chn Z e sz w v0 i xs us y3 none) (hown : w'.ownsRow Z e sz v' (i + 1) (xs ++ us)) :
    Chn Z e sz w' v0 i xs us y3 (some v') :=
  ⟨fun h4 => (by cases h4), fun v hv => by
   obtain ⟨B, rfl, -⟩ := h.2.1 v hv
   exact ⟨B, rfl, fun h4 => by cases h4⟩, fun v hv => by cases hv; exact hown⟩
theorem Chn.start {Z : Nat} {e : TypeId} {sz : Nat} {w : World} {v0 : Value} {i : Nat} {xs us : List Value} (h : w.ownsRow Z e sz v0 i xs) : Chn Z e sz w v0 i xs us none none :=
  ⟨fun _ => h, fun v hv => (by cases hv), fun v hv => (by cases hv)⟩
theorem own_cells0 {w : World} {Z : Nat} {e : TypeId} {sz n B cap : Nat} {us : List Value} (h : w.ownsRow Z e sz (.slice (some ⟨B, 0, none⟩) n cap) n us) : ∀ j u, us[j]? = some u → w.cell? ((⟨B, 0, none⟩ : Addr).add j) = some u :=
  World.ownsRow.cells (g := B) h rfl
theorem ShI.blocks {q : IntKind} {w w' : World} {a : Option Addr} {n : Nat} {xs : List Int} (h : ShI q w a n xs) (hb : ∀ s o, a = some ⟨s, o, none⟩ → w'.heap[s]? = w.heap[s]? ∧ s < w'.heap.size) : ShI q w' a n xs := by
 rcases h with h | ⟨s, o, rfl, h1, h2, h3⟩
 · exact .inl h
 · exact .inr ⟨s, o, rfl, h1, (hb s o rfl).2, fun i hi => (World.cell?_of_block (w := w) (a := ⟨s, o + i, none⟩) (hb s o rfl).1).trans (h3 i hi)⟩
theorem wp_storeCl {P : Program} {w : World} {o : Oper} {a : Act} {K : Act → World → Prop} {Q : Exit → Act → World → Prop} (t : TypeId) (p v : Operand) (b k : Nat) (l vs m : List Value) (ho : o.op = .store t p v)
    (hp : a.eval p = .pointer (some ⟨b, k, none⟩)) (hv : a.eval v = .agg vs.toArray) (hi : (P.info? t).map (·.size) = some vs.length) (h1 : ∀ u, u ∈ vs → u.oneCell' = true) (hC : Cl w b l) (hk : k + vs.length ≤ l.length) (hm : l.take k ++ vs ++ l.drop (k + vs.length) = m)
    (h : ∀ w', Cl w' b m → Gro b w w' → w'.heap.size = w.heap.size → K (a.put o.dst undef) w') : o.wp P a w K Q := by
  refine wp_store_mid t p v ho b k vs.toArray hp hv (by simpa using hC.there k vs.length hk) (by simpa using hi) (all_oneCell_toArray h1) ?_
  exact h _ (hC.puts k vs hk hm) (Gro.puts k vs b (.inl rfl) w k (Gro.refl _ _)) (size_setCells b vs k w)
theorem Cl.grown {w w' : World} {B : Nat} {l : List Value} {v : Value} (h : Cl w B l) (hg : w.grownBy w' v.ownBlock) (ha : ∀ k, v.ownBlock = some k → k < B) : Cl w' B l := by
 have hb := hg.block B h.lt (fun e => by have := ha B e.symm; omega)
 exact ⟨fun i u hu => (World.cell?_of_block (w := w) (a := ⟨B, i, none⟩) hb).trans (h.c i u hu), fun i => (World.frozen?_of_block (w := w) (a := ⟨B, i, none⟩) hb).trans (h.f i), Nat.lt_of_lt_of_le h.lt hg.size⟩
/-! ### Single operations -/
section
variable (ρ : Operand → Value) (w : World)
theorem run_move (dst : Option Tmp) (ty : TypeId) (x : Operand) {v : Value} (h : ρ x = v) : (execOp ρ (bareOp dst (.move x) ty)).run Tryz.prog w = .ok (.value v) w := by
 subst h; rfl
theorem run_extract (dst : Option Tmp) (ty : TypeId) (x : Operand) (i : Nat) {vs : Array Value} {v : Value} (h : ρ x = .tuple vs) (hv : vs[i]? = some v) : (execOp ρ (bareOp dst (.extract x i) ty)).run Tryz.prog w = .ok (.value v) w := by
 unfold bareOp
 simp [execOp, Instr.extract, h, hv, Sem.run_bind, Sem.run]
theorem run_lit_u64 (dst : Option Tmp) (ty : TypeId) (x : Operand) (a : Int) (h : ρ x = .int .u64 a) : (execOp ρ (bareOp dst (.buildSlice 26 1 #[(0, x)]) ty)).run Tryz.prog w = .ok (.value (.slice (some ⟨w.heap.size, 0, none⟩) 1 1)) (w.alloc (.cells #[.int .u64 a] 22)) := by
 unfold bareOp
 go_simp
theorem run_call (dst : Option Tmp) (ty : TypeId) (f : FuncId) {fn : Func} (hf : Tryz.prog.funcs[f]? = some fn) {xs : Array Operand} {ts : Array TypeId} {vs : Array Value} (hv : xs.map ρ = vs) (hρ : ρ (.func f) = .func (.func f) #[] #[]) (hb : fn.body.isSome = true) (hn : (fn.name == "runtime.NumGoroutine") = false) :
    (execOp ρ (bareOp dst (.call { callee := .value (.func f), args := xs, argTypes := ts }) ty)).run Tryz.prog w = .ok (.enter f vs) w := by
  have hn' : ¬ fn.name = "runtime.NumGoroutine" := by simpa using hn
  have hb' : ¬ fn.body = none := by intro h; rw [h] at hb; cases hb
  subst hv
  unfold bareOp
  simp [execOp, resolve, Deferred.ofValue, invoke, callFunc, hρ, hf, hb', hn', Sem.run_bind, program, Sem.run]
end
theorem wp_push_u64 {w : World} {o : Oper} {a : Act} {K : Act → World → Prop} {Q : Exit → Act → World → Prop} (s x : Operand) (ho : o.op = .call { callee := .builtin .append, args := #[s, x], argTypes := #[26, 26] })
    (base n b : Nat) (v : Value) (xs : List Value) (z : Int) (hs : a.eval s = v) (hx : a.eval x = .slice (some ⟨b, 0, none⟩) 1 1) (hown : w.ownsRow base 22 1 v n xs) (hc : ∀ j u, ([.int .u64 z] : List Value)[j]? = some u → w.cell? ((⟨b, 0, none⟩ : Addr).add j) = some u) (hn : n ≤ 1000000) (hb : base ≤ w.heap.size)
    (h : ∀ v' w', w'.ownsRow base 22 1 v' (n + 1) (xs ++ [.int .u64 z]) → w.grownBy w' v.ownBlock → K (a.put o.dst v') w') : o.wp Tryz.prog a w K Q := by
  obtain ⟨j0, ji, jz0, jz1, jz2⟩ := info_parts (P := Tryz.prog) (e := 22) (z := .int .u64 0) (size := 1) (bytes := 8) (by kernel_rfl)
  exact wp_append_own w s x 26 ho base 22 j0 _ 1 8 Tryz.underlying26 ji jz0 jz1 jz2 rfl (by decide) v n xs hs hown ⟨b, 0, none⟩ 1 1 [.int .u64 z] hx rfl hc (fun u hu => by simp at hu; subst hu; rfl) (by unfold maxLen; omega) (by omega) hb (fun v' w' h1 h2 _ => h v' w' h1 h2)
end Go.Proofs.YtkjkdfhjfnoalaaGreatDoor
