/- What Seal seals is one thing. -/
import Derived.Test.YtlbldpkgnonbpaaGreatDoorQsU
import Derived.Test.YtlbldpkgnonbpaaGreatDoorQsT
import Derived.Test.YtlbldpkgnonbpaaGreatDoorQsS
import Derived.BigQuiet
import Derived.Lib.AppendZeros
set_option linter.unusedSimpArgs false
set_option linter.unusedVariables false
set_option maxRecDepth 100000
namespace Go.Proofs.YtlbldpkgnonbpaaGreatDoor
open Go Go.RowKit Num Sha
theorem BitZb.one {P Q G y m r k c z : Int} {T : List Int} {p q : Bt} (h : BitZb P Q G y m r k c z T p) (h' : BitZb P Q G y m r k c z T q) : p = q := by
 obtain ⟨p0, p1, p2, p3, p4, p5, p6, p7⟩ := p
 obtain ⟨q0, q1, q2, q3, q4, q5, q6, q7⟩ := q
 obtain ⟨a, b, nn, pp, t1, mi, g1, g2, Rj, h1, h2, Sj, Rm, Sm, tot, Cm, Zm, rfl, rfl, rfl, rfl, rfl, rfl, rfl, rfl, rfl, rfl, rfl, rfl, rfl, rfl, rfl, rfl, rfl, e⟩ := h
 obtain ⟨a, b, nn, pp, t1, mi, g1, g2, Rj, h1, h2, Sj, Rm, Sm, tot, Cm, Zm, rfl, rfl, rfl, rfl, rfl, rfl, rfl, rfl, rfl, rfl, rfl, rfl, rfl, rfl, rfl, rfl, rfl, e'⟩ := h'
 simp only at e e'
 by_cases hm : m = 0
 · rw [if_pos hm] at e e'
   simp only [Bt.mk.injEq]
   exact ⟨e.1.trans e'.1.symm, e.2.1.trans e'.2.1.symm, e.2.2.1.trans e'.2.2.1.symm, e.2.2.2.1.trans e'.2.2.2.1.symm, e.2.2.2.2.1.trans e'.2.2.2.2.1.symm, e.2.2.2.2.2.1.trans e'.2.2.2.2.2.1.symm, e.2.2.2.2.2.2.1.trans e'.2.2.2.2.2.2.1.symm, e.2.2.2.2.2.2.2.trans e'.2.2.2.2.2.2.2.symm⟩
 · rw [if_neg hm] at e e'
   simp only [Bt.mk.injEq]
   exact ⟨e.1.trans e'.1.symm, e.2.1.trans e'.2.1.symm, e.2.2.1.trans e'.2.2.1.symm, e.2.2.2.1.trans e'.2.2.2.1.symm, e.2.2.2.2.1.trans e'.2.2.2.2.1.symm, e.2.2.2.2.2.1.trans e'.2.2.2.2.2.1.symm, e.2.2.2.2.2.2.1.trans e'.2.2.2.2.2.2.1.symm, e.2.2.2.2.2.2.2.trans e'.2.2.2.2.2.2.2.symm⟩
theorem list_ext_getD {α : Type} {l l' : List α} (z : α) (h : l.length = l'.length) (he : ∀ i, i < l.length → l.getD i z = l'.getD i z) : l = l' := by
 refine List.ext_getElem h fun i h1 h2 => ?_
 have := he i h1
 rwa [List.getD_eq_getElem?_getD, List.getD_eq_getElem?_getD, List.getElem?_eq_getElem h1, List.getElem?_eq_getElem h2] at this
def Vt.none : Vt := ⟨Option.none, 0, 0, [], Option.none, 0, 0, [], false, Bt.zero⟩
def Rv.none : Rv := ⟨Option.none, 0, 0, [], Option.none, 0, 0, []⟩
theorem VtIn.none (w : World) : VtIn w Vt.none := ⟨.inl ⟨rfl, rfl⟩, (fun q h => by cases h), (fun _ => rfl), .inl ⟨rfl, rfl⟩, (fun q h => by cases h), (fun _ => rfl), by simp [Vt.none, Bt.zero, Bt.u, U64]⟩
theorem RvIn.none (w : World) : RvIn w Rv.none := ⟨.inl ⟨rfl, rfl⟩, (fun q h => by cases h), (fun _ => rfl), .inl ⟨rfl, rfl⟩, (fun q h => by cases h), (fun _ => rfl)⟩
def SealT (P Q G y n : Int) (ms : List Int) (one : Bool) (seed : List Int) (V : Vt) (R : Rv) (er : Int) : Prop :=
 (sealE P Q G y n ms one ≠ 0 ∧ er = sealE P Q G y n ms one ∧ V = Vt.none ∧ R = Rv.none) ∨ (sealE P Q G y n ms one = 0 ∧ ((sampS seed Q (manyS n one) = Option.none ∧ er = 6 ∧ V = Vt.none ∧ R = Rv.none) ∨ ∃ d, sampS seed Q (manyS n one) = some d ∧ er = 0 ∧ SealV P Q G y n.toNat ms one d V R))
theorem SealR.told {w w' : World} {P Q G y n : Int} {ms : List Int} {one : Bool} {seed : List Int} {e : Ending} (h : SealR w P Q G y n ms one seed e w') : Below w.heap.size w w' ∧ ∃ V R er, e = .returned (.tuple #[V.v, R.v, .int .i64 er]) ∧ VtIn w' V ∧ RvIn w' R ∧ SealT P Q G y n ms one seed V R er := by
 obtain ⟨hb, ⟨h0, rfl⟩ | ⟨h0, ⟨hs, rfl⟩ | ⟨d, V, R, hs, rfl, hv, h1, h2⟩⟩⟩ := h
 · exact ⟨hb, Vt.none, Rv.none, _, rfl, VtIn.none _, RvIn.none _, .inl ⟨h0, rfl, rfl, rfl⟩⟩
 · exact ⟨hb, Vt.none, Rv.none, _, rfl, VtIn.none _, RvIn.none _, .inr ⟨h0, .inl ⟨hs, rfl, rfl, rfl⟩⟩⟩
 · exact ⟨hb, V, R, _, rfl, h1, h2, .inr ⟨h0, .inr ⟨d, hs, rfl, hv⟩⟩⟩
theorem sealE_n {P Q G y n : Int} {ms : List Int} {one : Bool} (h : sealE P Q G y n ms one = 0) : n.toNat ≤ 10 := by
 by_cases hc : chkB P Q G y n = 0
 · have := (chkB_ok hc).2.2; omega
 · rw [sealE, if_pos hc] at h; exact absurd h hc
theorem SealT.few {P Q G y n : Int} {ms : List Int} {one : Bool} {seed : List Int} {V : Vt} {R : Rv} {er : Int} (h : SealT P Q G y n ms one seed V R er) (hm : ms.length ≤ 100) : V.n ≤ 100 ∧ V.m ≤ 100 ∧ R.n ≤ 100 ∧ R.m ≤ 100 := by
 rcases h with ⟨-, -, rfl, rfl⟩ | ⟨h0, ⟨-, -, rfl, rfl⟩ | ⟨d, -, -, hv⟩⟩
 · exact ⟨Nat.zero_le _, Nat.zero_le _, Nat.zero_le _, Nat.zero_le _⟩
 · exact ⟨Nat.zero_le _, Nat.zero_le _, Nat.zero_le _, Nat.zero_le _⟩
 · have := sealE_n h0
   have := hv.en; have := hv.em; have := hv.ern; have := hv.erm
   omega
theorem SealT.same {w w' : World} {P Q G y n : Int} {ms : List Int} {one : Bool} {seed : List Int} {V V' : Vt} {R R' : Rv} {er er' : Int} (h : SealT P Q G y n ms one seed V R er) (h' : SealT P Q G y n ms one seed V' R' er') (hV : VtIn w V) (hV' : VtIn w' V') :
 er = er' ∧ V.bs = V'.bs ∧ V.ps = V'.ps ∧ V.one = V'.one ∧ V.z = V'.z ∧ R.ms = R'.ms ∧ R.ns = R'.ns := by
 rcases h with ⟨h0, rfl, rfl, rfl⟩ | ⟨h0, ⟨hs, rfl, rfl, rfl⟩ | ⟨d, hs, rfl, hv⟩⟩ <;> rcases h' with ⟨k0, rfl, rfl, rfl⟩ | ⟨k0, ⟨ks, rfl, rfl, rfl⟩ | ⟨d', ks, rfl, kv⟩⟩ <;> first
  | exact ⟨rfl, rfl, rfl, rfl, rfl, rfl, rfl⟩
  | exact absurd k0 h0
  | exact absurd h0 k0
  | (rw [hs] at ks; cases ks; done)
  | skip
 · rw [hs] at ks
   cases ks
   refine ⟨rfl, list_ext_getD (0, 0) (hv.bl.trans kv.bl.symm) fun i hi => ?_, list_ext_getD Bt.zero ?_ fun i hi => ?_, hv.eo.trans kv.eo.symm, ?_, hv.erms.trans kv.erms.symm, hv.erns.trans kv.erns.symm⟩
   · rw [hv.bl] at hi
     rw [hv.eb i hi, kv.eb i hi]
   · rw [← hV.h2.len, ← hV'.h2.len, hv.em, kv.em]
   · rw [← hV.h2.len, hv.em] at hi
     exact (hv.ep i hi).one (kv.ep i hi)
   · rcases hv.ez with ⟨h1, h2⟩ | ⟨h1, h2⟩ <;> rcases kv.ez with ⟨k1, k2⟩ | ⟨k1, k2⟩
     · exact h2.one k2
     · rw [h1] at k1; cases k1
     · rw [h1] at k1; cases k1
     · rw [h2, k2]
theorem MatR.told {w w' : World} {P Q G y n : Int} {V : Vt} {R : Rv} {e : Ending} (h : MatR w P Q G y n V R e w') : Below w.heap.size w w' ∧ ∃ (b : Bool) (er : Int), e = .returned (.tuple #[.bool b, .int .i64 er]) ∧ (b = true ↔ chkB P Q G y n = 0 ∧ rangeP Q n.toNat R ∧ matchP P G y n.toNat V R) ∧ ((chkB P Q G y n ≠ 0 ∧ er = chkB P Q G y n) ∨ (chkB P Q G y n = 0 ∧ ((¬ rangeP Q n.toNat R ∧ er = 2) ∨ (rangeP Q n.toNat R ∧ er = 0)))) := by
 obtain ⟨hb, ⟨h0, rfl⟩ | ⟨h0, ⟨h1, rfl⟩ | ⟨h1, v, rfl, hv⟩⟩⟩ := h
 · exact ⟨hb, _, _, rfl, ⟨(fun h => by cases h), fun h => absurd h.1 h0⟩, .inl ⟨h0, rfl⟩⟩
 · exact ⟨hb, _, _, rfl, ⟨(fun h => by cases h), fun h => absurd h.2.1 h1⟩, .inr ⟨h0, .inl ⟨h1, rfl⟩⟩⟩
 · exact ⟨hb, _, _, rfl, ⟨fun h => ⟨h0, h1, hv.1 h⟩, fun h => hv.2 h.2.2⟩, .inr ⟨h0, .inr ⟨h1, rfl⟩⟩⟩
theorem MatR.same {w w' u u' : World} {P Q G y n : Int} {V : Vt} {R : Rv} {e e' : Ending} (h : MatR w P Q G y n V R e w') (h' : MatR u P Q G y n V R e' u') : e = e' := by
 obtain ⟨-, b, er, rfl, h1, h2⟩ := h.told
 obtain ⟨-, b', er', rfl, k1, k2⟩ := h'.told
 have hb : b = b' := by rw [Bool.eq_iff_iff, h1, k1]
 have he : er = er' := by
  rcases h2 with ⟨h2, rfl⟩ | ⟨h2, ⟨h3, rfl⟩ | ⟨h3, rfl⟩⟩ <;> rcases k2 with ⟨k2, rfl⟩ | ⟨k2, ⟨k3, rfl⟩ | ⟨k3, rfl⟩⟩ <;> first | rfl | exact absurd h2 k2 | exact absurd k2 h2 | exact absurd h3 k3 | exact absurd k3 h3
 rw [hb, he]
open Go Go.RowKit Num Sha
set_option maxHeartbeats 16000000 in
theorem eqI_any {a a' : Option Addr} {n c c' : Nat} {xs : List Int} (w : World) (h1 : ShI .i64 w a n xs) (h2 : ShI .i64 w a' n xs) (hn : n ≤ 2097152) :
 Calls Tryz.prog 94 #[.slice a n c, .slice a' n c'] w fun e w' => e = .returned (.bool true) ∧ Below w.heap.size w w' := by
 have H1 := Lh h1
 have H2 := Lh h2
 have HBW := Lh (Below.refl w.heap.size w)
 clear h1 h2
 go_enter Tryz.func94, Tryz.ntmps94
 go_wp2_with fail
 go_loopw [5, 13] (fun _ c13 wr => ∃ k : Nat, k ≤ n ∧ c13 = .int .i64 k ∧ Hid (Below w.heap.size w wr)) (fun _ c13 _ => n - (intOf c13).toNat)
 case atStart => exact ⟨0, by omega, rfl, HBW.o⟩
 case round =>
  clear HBW
  obtain ⟨k, hk, rfl, HBW⟩ := hrel
  by_cases hlt : k < n
  case neg =>
   obtain rfl : k = n := by omega
   have hd : decide ((k : Int) < (k : Int)) = false := decide_eq_false (by omega)
   go_wp2_with fail
   go_ret
   exact ⟨rfl, HBW.o⟩
  case pos =>
   have hd : decide ((k : Int) < (n : Int)) = true := decide_eq_true (by omega)
   have i0 : (0 : Int) ≤ (k : Int) := by omega
   have i1 : (k : Int) < (n : Int) := by omega
   have w1 : IntKind.i64.wrap ((k : Int) + 1) = (k : Int) + 1 := IntWalk.i64_in _ (by omega)
   obtain ⟨s1, o1, ha, -, e0, -⟩ := (H1.o.keep HBW.o).at k hlt
   obtain ⟨s2, o2, hb, -, d0, -⟩ := (H2.o.keep HBW.o).at k hlt
   subst ha hb
   generalize xs.getD k 0 = x at e0 d0
   go_wp2_with fail
   go_quiet (fail)
   go_wp2_with fail
   go_roundw
   case rel => exact ⟨k + 1, by omega, by go_num, below_drewN HBW.o _⟩
   case measure => simp [intOf] <;> omega
set_option maxHeartbeats 16000000 in
theorem eqU_any {a a' : Option Addr} {n c c' : Nat} {xs : List Int} (w : World) (h1 : ShI .u64 w a n xs) (h2 : ShI .u64 w a' n xs) (hn : n ≤ 2097152) :
 Calls Tryz.prog 95 #[.slice a n c, .slice a' n c'] w fun e w' => e = .returned (.bool true) ∧ Below w.heap.size w w' := by
 have H1 := Lh h1
 have H2 := Lh h2
 have HBW := Lh (Below.refl w.heap.size w)
 clear h1 h2
 go_enter Tryz.func95, Tryz.ntmps95
 go_wp2_with fail
 go_loopw [5, 13] (fun _ c13 wr => ∃ k : Nat, k ≤ n ∧ c13 = .int .i64 k ∧ Hid (Below w.heap.size w wr)) (fun _ c13 _ => n - (intOf c13).toNat)
 case atStart => exact ⟨0, by omega, rfl, HBW.o⟩
 case round =>
  clear HBW
  obtain ⟨k, hk, rfl, HBW⟩ := hrel
  by_cases hlt : k < n
  case neg =>
   obtain rfl : k = n := by omega
   have hd : decide ((k : Int) < (k : Int)) = false := decide_eq_false (by omega)
   go_wp2_with fail
   go_ret
   exact ⟨rfl, HBW.o⟩
  case pos =>
   have hd : decide ((k : Int) < (n : Int)) = true := decide_eq_true (by omega)
   have i0 : (0 : Int) ≤ (k : Int) := by omega
   have i1 : (k : Int) < (n : Int) := by omega
   have w1 : IntKind.i64.wrap ((k : Int) + 1) = (k : Int) + 1 := IntWalk.i64_in _ (by omega)
   obtain ⟨s1, o1, ha, -, e0, -⟩ := (H1.o.keep HBW.o).at k hlt
   obtain ⟨s2, o2, hb, -, d0, -⟩ := (H2.o.keep HBW.o).at k hlt
   subst ha hb
   generalize xs.getD k 0 = x at e0 d0
   go_wp2_with fail
   go_quiet (fail)
   go_wp2_with fail
   go_roundw
   case rel => exact ⟨k + 1, by omega, by go_num, below_drewN HBW.o _⟩
   case measure => simp [intOf] <;> omega
set_option maxHeartbeats 16000000 in
theorem eqS_any {a a' : Option Addr} {n c c' : Nat} {xs : List (Int × Int)} (w : World) (h1 : ShS w a n xs) (h2 : ShS w a' n xs) (hn : n ≤ 2097152) :
 Calls Tryz.prog 92 #[.slice a n c, .slice a' n c'] w fun e w' => e = .returned (.bool true) ∧ Below w.heap.size w w' := by
 have H1 := Lh h1
 have H2 := Lh h2
 have HBW := Lh (Below.refl w.heap.size w)
 clear h1 h2
 go_enter Tryz.func92, Tryz.ntmps92
 go_wp2_with fail
 go_loopw [5, 13] (fun _ c13 wr => ∃ k : Nat, k ≤ n ∧ c13 = .int .i64 k ∧ Hid (Below w.heap.size w wr)) (fun _ c13 _ => n - (intOf c13).toNat)
 case atStart => exact ⟨0, by omega, rfl, HBW.o⟩
 case round =>
  clear HBW
  obtain ⟨k, hk, rfl, HBW⟩ := hrel
  by_cases hlt : k < n
  case neg =>
   obtain rfl : k = n := by omega
   have hd : decide ((k : Int) < (k : Int)) = false := decide_eq_false (by omega)
   go_wp2_with fail
   go_ret
   exact ⟨rfl, HBW.o⟩
  case pos =>
   have hd : decide ((k : Int) < (n : Int)) = true := decide_eq_true (by omega)
   have i0 : (0 : Int) ≤ (k : Int) := by omega
   have i1 : (k : Int) < (n : Int) := by omega
   have w1 : IntKind.i64.wrap ((k : Int) + 1) = (k : Int) + 1 := IntWalk.i64_in _ (by omega)
   obtain ⟨s1, o1, ha, -, e0, e1⟩ := (H1.o.keep HBW.o).at k hlt
   obtain ⟨s2, o2, hb, -, d0, d1⟩ := (H2.o.keep HBW.o).at k hlt
   subst ha hb
   generalize xs.getD k (0, 0) = p at e0 e1 d0 d1
   obtain ⟨x, x2⟩ := p
   simp only at e0 e1 d0 d1
   have cS : Tryz.prog.cellsOf 75 = 2 := by kernel_rfl
   go_wp2_with fail
   go_quiet (fail)
   go_wp2_with fail
   go_roundw
   case rel => exact ⟨k + 1, by omega, by go_num, below_drewN HBW.o _⟩
   case measure => simp [intOf] <;> omega
set_option maxHeartbeats 16000000 in
theorem eqB_any {a a' : Option Addr} {n c c' : Nat} {xs : List Bt} (w : World) (h1 : ShB w a n xs) (h2 : ShB w a' n xs) (hn : n ≤ 2097152) :
 Calls Tryz.prog 93 #[.slice a n c, .slice a' n c'] w fun e w' => e = .returned (.bool true) ∧ Below w.heap.size w w' := by
 have H1 := Lh h1
 have H2 := Lh h2
 have HBW := Lh (Below.refl w.heap.size w)
 clear h1 h2
 go_enter Tryz.func93, Tryz.ntmps93
 go_wp2_with fail
 go_loopw [5, 13] (fun _ c13 wr => ∃ k : Nat, k ≤ n ∧ c13 = .int .i64 k ∧ Hid (Below w.heap.size w wr)) (fun _ c13 _ => n - (intOf c13).toNat)
 case atStart => exact ⟨0, by omega, rfl, HBW.o⟩
 case round =>
  clear HBW
  obtain ⟨k, hk, rfl, HBW⟩ := hrel
  by_cases hlt : k < n
  case neg =>
   obtain rfl : k = n := by omega
   have hd : decide ((k : Int) < (k : Int)) = false := decide_eq_false (by omega)
   go_wp2_with fail
   go_ret
   exact ⟨rfl, HBW.o⟩
  case pos =>
   have hd : decide ((k : Int) < (n : Int)) = true := decide_eq_true (by omega)
   have i0 : (0 : Int) ≤ (k : Int) := by omega
   have i1 : (k : Int) < (n : Int) := by omega
   have w1 : IntKind.i64.wrap ((k : Int) + 1) = (k : Int) + 1 := IntWalk.i64_in _ (by omega)
   obtain ⟨s1, o1, x, ha, hx, hbx⟩ := (H1.o.keep HBW.o).at k hlt
   obtain ⟨s2, o2, y, hb, hy, hby⟩ := (H2.o.keep HBW.o).at k hlt
   subst ha hb
   rw [hx] at hy
   obtain rfl := Option.some.inj hy
   clear hx hy
   have cB : Tryz.prog.cellsOf 31 = 8 := by kernel_rfl
   obtain ⟨-, b0, b1, b2, b3, b4, b5, b6, b7⟩ := hbx
   obtain ⟨-, d0, d1, d2, d3, d4, d5, d6, d7⟩ := hby
   go_wp2_with fail
   go_quiet (fail)
   go_wp2_with fail
   go_roundw
   case rel => exact ⟨k + 1, by omega, by go_num, below_drewN HBW.o _⟩
   case measure => simp [intOf] <;> omega
open Go Go.RowKit Num Sha
set_option maxHeartbeats 16000000 in
theorem bsv_aux {a1 a2 b1 b2 : Option Addr} {n m c1 c2 d1 d2 : Nat} {bs : List (Int × Int)} {ps : List Bt} {one : Bool} {z : Bt} (w : World) (hn : n ≤ 1000) (hm : m ≤ 1000) (h1 : ShS w a1 n bs) (h2 : ShS w a2 n bs) (h3 : ShB w b1 m ps) (h4 : ShB w b2 m ps) :
 Calls Tryz.prog 52 #[.agg #[.slice a1 n c1, .slice b1 m d1, .bool one, υ z.r0, υ z.r1, υ z.s0, υ z.s1, υ z.c0, υ z.c1, υ z.z0, υ z.z1], .agg #[.slice a2 n c2, .slice b2 m d2, .bool one, υ z.r0, υ z.r1, υ z.s0, υ z.s1, υ z.c0, υ z.c1, υ z.z0, υ z.z1]] w fun e w' => e = .returned (.bool true) ∧ Below w.heap.size w w' := by
 have H1 := Lh h1
 have H2 := Lh h2
 have H3 := Lh h3
 have H4 := Lh h4
 clear h1 h2 h3 h4
 obtain ⟨F_v, F_u, HBW⟩ := bx2 w [.slice a1 n c1, .slice b1 m d1, .bool one, υ z.r0, υ z.r1, υ z.s0, υ z.s1, υ z.c0, υ z.c1, υ z.z0, υ z.z1] 33 [.slice a2 n c2, .slice b2 m d2, .bool one, υ z.r0, υ z.r1, υ z.s0, υ z.s1, υ z.c0, υ z.c1, υ z.z0, υ z.z1] 33
 go_enter Tryz.func52, Tryz.ntmps52
 obtain ⟨⟨qv0, qv1, qv2, qv3, qv4, qv5, qv6, qv7, qv8, qv9, qva⟩, -⟩ := F_v.o.k11
 obtain ⟨⟨qu0, qu1, qu2, qu3, qu4, qu5, qu6, qu7, qu8, qu9, qua⟩, -⟩ := F_u.o.k11
 go_wp2_with fail
 clear qv0 qv1 qv2 qv3 qv4 qv5 qv6 qv7 qv8 qv9 qva qu0 qu1 qu2 qu3 qu4 qu5 qu6 qu7 qu8 qu9 qua
 refine (eqS_any _ (H1.o.keep HBW.o) (H2.o.keep HBW.o) (by omega)).mono ?_
 rintro e w4 ⟨rfl, hb7⟩
 replace F_v := Lh (F_v.o.keep hb7)
 replace F_u := Lh (F_u.o.keep hb7)
 replace HBW := Kt HBW hb7
 clear hb7
 obtain ⟨⟨qv0, qv1, qv2, qv3, qv4, qv5, qv6, qv7, qv8, qv9, qva⟩, -⟩ := F_v.o.k11
 obtain ⟨⟨qu0, qu1, qu2, qu3, qu4, qu5, qu6, qu7, qu8, qu9, qua⟩, -⟩ := F_u.o.k11
 go_wp2_with fail
 clear qv0 qv1 qv2 qv3 qv4 qv5 qv6 qv7 qv8 qv9 qva qu0 qu1 qu2 qu3 qu4 qu5 qu6 qu7 qu8 qu9 qua
 refine (eqB_any _ (H3.o.keep HBW.o) (H4.o.keep HBW.o) (by omega)).mono ?_
 rintro e w10 ⟨rfl, hb7⟩
 replace F_v := Lh (F_v.o.keep hb7)
 replace F_u := Lh (F_u.o.keep hb7)
 replace HBW := Kt HBW hb7
 clear hb7
 obtain ⟨⟨qv0, qv1, qv2, qv3, qv4, qv5, qv6, qv7, qv8, qv9, qva⟩, -⟩ := F_v.o.k11
 obtain ⟨⟨qu0, qu1, qu2, qu3, qu4, qu5, qu6, qu7, qu8, qu9, qua⟩, -⟩ := F_u.o.k11
 go_wp2_with fail
 clear qv0 qv1 qv2 qv3 qv4 qv5 qv6 qv7 qv8 qv9 qva qu0 qu1 qu2 qu3 qu4 qu5 qu6 qu7 qu8 qu9 qua
 go_ret
 exact ⟨rfl, HBW.o⟩
theorem bsv_any {V U : Vt} (w : World) (hV : VtIn w V) (hU : VtIn w U) (hb : V.bs = U.bs) (hp : V.ps = U.ps) (ho : V.one = U.one) (hz : V.z = U.z) (hn : V.n ≤ 1000) (hm : V.m ≤ 1000) :
 Calls Tryz.prog 52 #[V.v, U.v] w fun e w' => e = .returned (.bool true) ∧ Below w.heap.size w w' := by
 have e1 := hV.h1.len
 have e2 := hU.h1.len
 have e3 := hV.h2.len
 have e4 := hU.h2.len
 obtain ⟨a1, n, c1, bs, b1, m, d1, ps, one, z⟩ := V
 obtain ⟨a2, n', c2, bs', b2, m', d2, ps', one', z'⟩ := U
 simp only at *
 subst hb hp ho hz
 obtain rfl : n' = n := by omega
 obtain rfl : m' = m := by omega
 exact bsv_aux w hn hm hV.h1 hU.h1 hV.h2 hU.h2
set_option maxHeartbeats 16000000 in
theorem bsr_aux {a1 a2 b1 b2 : Option Addr} {n m c1 c2 d1 d2 : Nat} {ms ns : List Int} (w : World) (hn : n ≤ 1000) (hm : m ≤ 1000) (h1 : ShI .i64 w a1 n ms) (h2 : ShI .i64 w a2 n ms) (h3 : ShI .u64 w b1 m ns) (h4 : ShI .u64 w b2 m ns) :
 Calls Tryz.prog 54 #[.agg #[.slice a1 n c1, .slice b1 m d1], .agg #[.slice a2 n c2, .slice b2 m d2]] w fun e w' => e = .returned (.bool true) ∧ Below w.heap.size w w' := by
 have H1 := Lh h1
 have H2 := Lh h2
 have H3 := Lh h3
 have H4 := Lh h4
 clear h1 h2 h3 h4
 obtain ⟨F_v, F_u, HBW⟩ := bx2 w [.slice a1 n c1, .slice b1 m d1] 36 [.slice a2 n c2, .slice b2 m d2] 36
 go_enter Tryz.func54, Tryz.ntmps54
 obtain ⟨qv0, qv1⟩ := F_v.o.k2
 obtain ⟨qu0, qu1⟩ := F_u.o.k2
 go_wp2_with fail
 clear qv0 qv1 qu0 qu1
 refine (eqI_any _ (H1.o.keep HBW.o) (H2.o.keep HBW.o) (by omega)).mono ?_
 rintro e w4 ⟨rfl, hb7⟩
 replace F_v := Lh (F_v.o.keep hb7)
 replace F_u := Lh (F_u.o.keep hb7)
 replace HBW := Kt HBW hb7
 clear hb7
 obtain ⟨qv0, qv1⟩ := F_v.o.k2
 obtain ⟨qu0, qu1⟩ := F_u.o.k2
 go_wp2_with fail
 clear qv0 qv1 qu0 qu1
 refine (eqU_any _ (H3.o.keep HBW.o) (H4.o.keep HBW.o) (by omega)).mono ?_
 rintro e w10 ⟨rfl, hb7⟩
 replace F_v := Lh (F_v.o.keep hb7)
 replace F_u := Lh (F_u.o.keep hb7)
 replace HBW := Kt HBW hb7
 clear hb7
 obtain ⟨qv0, qv1⟩ := F_v.o.k2
 obtain ⟨qu0, qu1⟩ := F_u.o.k2
 go_wp2_with fail
 clear qv0 qv1 qu0 qu1
 go_ret
 exact ⟨rfl, HBW.o⟩
theorem bsr_any {R S : Rv} (w : World) (hR : RvIn w R) (hS : RvIn w S) (hb : R.ms = S.ms) (hp : R.ns = S.ns) (hn : R.n ≤ 1000) (hm : R.m ≤ 1000) :
 Calls Tryz.prog 54 #[R.v, S.v] w fun e w' => e = .returned (.bool true) ∧ Below w.heap.size w w' := by
 have e1 := hR.h1.len
 have e2 := hS.h1.len
 have e3 := hR.h2.len
 have e4 := hS.h2.len
 obtain ⟨a1, n, c1, ms, b1, m, d1, ns⟩ := R
 obtain ⟨a2, n', c2, ms', b2, m', d2, ns'⟩ := S
 simp only at *
 subst hb hp
 obtain rfl : n' = n := by omega
 obtain rfl : m' = m := by omega
 exact bsr_aux w hn hm hR.h1 hS.h1 hR.h2 hS.h2
open Go Go.RowKit Num Sha
theorem drop_beq {xs ys : List Int} {k : Nat} (hx : k < xs.length) (hy : k < ys.length) : (xs.drop k == ys.drop k) = (xs.getD k 0 == ys.getD k 0 && xs.drop (k + 1) == ys.drop (k + 1)) := by
 rw [List.drop_eq_getElem_cons hx, List.drop_eq_getElem_cons hy, List.cons_beq_cons]
 simp [List.getD, hx, hy]
theorem eq_arr32 (d : Nat) (xs ys : List Int) (hx : xs.length = 32) (hy : ys.length = 32) (w : World) : (Op.equalIn (d + 2) 26 (.agg (valV .u8 xs)) (.agg (valV .u8 ys))).run Tryz.prog w = .ok (xs == ys) w := by
 have u3 := Tryz.underlying5
 have hs : ∀ cs : List Int, cs.length = 32 → ∀ i, i < 32 → (part 5 (valV .u8 cs) (i * 1)).run Tryz.prog w = .ok (.int .u8 (cs.getD i 0)) w := by
  intro cs hl i hi
  have := Tryz.isAgg5 w
  have hg : (valV .u8 cs)[i]? = some (.int .u8 (cs.getD i 0)) := by
   unfold valV
   simp [List.getD_eq_getElem?_getD, List.getElem?_eq_getElem (show i < cs.length by omega)]
  simp [part, this, hg, Nat.mul_one, go_sem]
 rw [Op.equalIn]
 simp only [Sem.run_bind, run_underlying Tryz.underlying26, Result.andThen_ok, Tryz.sizeOf5]
 simp only [Std.Legacy.Range.forIn_eq_forIn_range', Std.Legacy.Range.size, Nat.sub_zero, Nat.add_sub_cancel, Nat.div_one]
 have key : ∀ n k, k + n = 32 → (forIn (List.range' k n) ((none, ()) : Option Bool × Unit) (fun i (__s : Option Bool × Unit) => do
  let __do_lift ← part 5 (valV IntKind.u8 xs) (i * 1)
  let __do_lift_1 ← part 5 (valV IntKind.u8 ys) (i * 1)
  let __do_lift ← Op.equalIn (d + 1) 5 __do_lift __do_lift_1
  if (!__do_lift) = true then pure (ForInStep.done (some false, ())) else pure (ForInStep.yield (none, ())))).run Tryz.prog w = .ok (if xs.drop k == ys.drop k then (none, ()) else (some false, ())) w := by
  intro n
  induction n with
  | zero =>
   intro k hk
   rw [List.drop_eq_nil_of_le (by omega), List.drop_eq_nil_of_le (by omega)]
   simp
  | succ n ih =>
   intro k hk
   rw [List.range'_succ, List.forIn_cons, drop_beq (by omega) (by omega)]
   simp only [Sem.run_bind, hs xs hx k (by omega), hs ys hy k (by omega), Result.andThen_ok, run_equalIn_int w d 5 .u8 .u8 _ _ u3, Sem.run_ite]
   by_cases he : xs.getD k 0 = ys.getD k 0
   · have hb : (xs.getD k 0 == ys.getD k 0) = true := by simpa using he
     rw [hb]
     simp only [Bool.not_true, Bool.false_eq_true, if_false, Sem.run_pure, Result.andThen_ok, Bool.true_and]
     exact ih (k + 1) (by omega)
   · have hb : (xs.getD k 0 == ys.getD k 0) = false := by simpa using he
     rw [hb]
     simp
 rw [key 32 0 rfl]
 simp only [List.drop_zero, Result.andThen_ok]
 cases h : xs == ys <;> simp
open Go Go.RowKit Num Sha
open BigFrame in
theorem wpQuiet_row {P : Program} {ops : Array Oper} {C : World → Prop} {Q : Act → Prop} {a : Act} {o : Oper} {rest : List Oper} (hw : Region.wanted o (yielded ops a.tmps) = true) (t : TypeId) (k : IntKind) (p : Operand) (b off : Nat) (xs : List Int) (n : Nat) (e : TypeId) (ho : o.op = .load t p) (hp : a.eval p = .pointer (some ⟨b, off, none⟩)) (hu : P.underlying t = some (.array n e))
 (hi : (P.info? t).map (·.size) = some xs.length) (hc : ∀ w, C w → ∀ i, i < xs.length → w.cell? ⟨b, off + i, none⟩ = some (.int k (xs.getD i 0))) (h : wpQuiet P ops C Q rest (a.put o.dst (.agg (valV k xs)))) : wpQuiet P ops C Q (o :: rest) a :=
 wpQuiet_want hw fun K hK => ⟨_, fun w hC => by
  have hrun := run_loadVarArr (P := P) (w := w) t k b off xs n e hu hi (hc w hC)
  have hr : (execOp a.eval o).run P w = .ok (.value (.agg (valV k xs))) w := by
   simp [execOp, ho, hp, Instr.loadAt, Instr.sureAddr, hrun, Result.andThen]
  unfold Oper.quietAt
  rw [hr]
  exact ⟨rfl, rfl⟩, hK _ h⟩
theorem wpQuiet_eqArr {P : Program} {ops : Array Oper} {C : World → Prop} {Q : Act → Prop} {a : Act} {o : Oper} {rest : List Oper} (hw : Region.wanted o (yielded ops a.tmps) = true) (t u : TypeId) (x y : Operand) (xs ys : Array Value) (r : Bool) (ho : o.op = .binOp .eql t x y u) (hx : a.eval x = .agg xs) (hy : a.eval y = .agg ys) (hm : P.eqGuardType P.depth t = false)
 (hr : ∀ w, (Op.equalIn 10000 t (.agg xs) (.agg ys)).run P w = .ok r w) (h : wpQuiet P ops C Q rest (a.put o.dst (.bool r))) : wpQuiet P ops C Q (o :: rest) a :=
 BigFrame.wpQuiet_want hw fun K hK => ⟨_, fun w hC => by
  have hr2 : (execOp a.eval o).run P w = .ok (.value (.bool r)) w := by
   have g1 := run_eqGuard_agg (P := P) w .eql t x y xs ys hm
   have g2 : (binOp .eql t (.agg xs) (.agg ys)).run P w = .ok (.bool r) w := by rw [run_eql_struct, hr]; rfl
   simp [execOp, ho, hx, hy, g1, g2, Result.andThen]
  unfold Oper.quietAt
  rw [hr2]
  exact ⟨rfl, rfl⟩, hK _ h⟩
def ShC (w : World) (a : Option Addr) (n : Nat) (l : List (List Int)) : Prop := (n = 0 ∧ l = []) ∨ ∃ s o, a = some ⟨s, o, none⟩ ∧ n = l.length ∧ s < w.heap.size ∧ ∀ i, i < l.length → (l.getD i []).length = 32 ∧ ∀ j, j < 32 → w.cell? ⟨s, o + i * 32 + j, none⟩ = some (.int .u8 ((l.getD i []).getD j 0))
theorem ShC.len {w : World} {a : Option Addr} {n : Nat} {l : List (List Int)} (h : ShC w a n l) : n = l.length := by
 rcases h with ⟨rfl, rfl⟩ | ⟨s, o, -, h, -⟩
 · rfl
 · exact h
theorem ShC.keep {w w' : World} {a : Option Addr} {n : Nat} {l : List (List Int)} (h : ShC w a n l) (hb : Below w.heap.size w w') : ShC w' a n l := by
 rcases h with h | ⟨s, o, h1, h2, h3, h4⟩
 · exact .inl h
 · exact .inr ⟨s, o, h1, h2, Nat.lt_of_lt_of_le h3 hb.size, fun i hi => ⟨(h4 i hi).1, fun j hj => (hb.cell (p := ⟨s, o + i * 32 + j, none⟩) h3).trans ((h4 i hi).2 j hj)⟩⟩
theorem ShC.nil (w : World) (a : Option Addr) : ShC w a 0 [] := .inl ⟨rfl, rfl⟩
theorem ShC.at {w : World} {a : Option Addr} {n : Nat} {l : List (List Int)} (h : ShC w a n l) (i : Nat) (hi : i < n) : ∃ s o, a = some ⟨s, o, none⟩ ∧ (l.getD i []).length = 32 ∧ ∀ j, j < 32 → w.cell? ⟨s, o + i * 32 + j, none⟩ = some (.int .u8 ((l.getD i []).getD j 0)) := by
 rcases h with ⟨rfl, rfl⟩ | ⟨s, o, h1, h2, h3, h4⟩
 · omega
 · exact ⟨s, o, h1, h4 i (by omega)⟩
set_option maxHeartbeats 8000000 in
theorem indexC_any {a : Option Addr} {n c : Nat} {l : List (List Int)} {cs : List Int} (w : World) (hl : cs.length = 32) (hS : ShC w a n l) (hn : n ≤ 10000) :
 Calls Tryz.prog 120 #[.slice a n c, .agg (valV .u8 cs)] w fun e w' => (∃ r : Int, e = .returned (.int .i64 r) ∧ (0 ≤ r ↔ cs ∈ l)) ∧ Below w.heap.size w w' := by
 have HL := Lh hl
 have HE := Lh hS.len
 have HS := Lh (hS.keep ((Below.refl _ _).alloc (Nat.le_refl _) (.cells (valV .u8 cs) 26)))
 have HBW := Lh (show Below w.heap.size w (w.alloc (.cells (valV .u8 cs) 26)) from (Below.refl _ _).alloc (Nat.le_refl _) _)
 have F_a := Lh (Arr.new .u8 w cs 26 w.heap.size rfl)
 clear hl hS
 go_enter Tryz.func120, Tryz.ntmps120
 go_wp2_with fail
 go_loopw [5, 8] (fun _ c8 wr => ∃ (k : Nat), k ≤ n ∧ c8 = .int .i64 k ∧ Hid (cs ∉ l.take k) ∧ Hid (Arr .u8 wr w.heap.size cs) ∧ Hid (ShC wr a n l) ∧ Hid (Below w.heap.size w wr)) (fun _ c8 _ => n - (intOf c8).toNat)
 case atStart => exact ⟨0, by omega, rfl, Lh (by rw [List.take_zero]; exact List.not_mem_nil), F_a, HS, HBW⟩
 case round =>
  clear F_a HS HBW
  obtain ⟨k, hk, rfl, HN, F_a, HS, HBW⟩ := hrel
  by_cases hlt : k < n
  case neg =>
   obtain rfl : k = n := by omega
   have hd : decide ((k : Int) < (k : Int)) = false := decide_eq_false (by omega)
   go_wp2_with fail
   go_ret
   exact ⟨⟨_, rfl, ⟨fun h => by omega, fun h => by
    have := HN.o
    rw [List.take_of_length_le (by rw [← HE.o]; exact Nat.le_refl _)] at this
    exact absurd h this⟩⟩, HBW.o⟩
  case pos =>
   have hd : decide ((k : Int) < (n : Int)) = true := decide_eq_true (by omega)
   have i0 : (0 : Int) ≤ (k : Int) := by omega
   have i1 : (k : Int) < (n : Int) := by omega
   have w1 : IntKind.i64.wrap ((k : Int) + 1) = (k : Int) + 1 := IntWalk.i64_in _ (by omega)
   have c32 : Tryz.prog.cellsOf 26 = 32 := by kernel_rfl
   obtain ⟨s, o, rfl, hxl, hxc⟩ := HS.o.at k hlt
   have hget : l.take (k + 1) = l.take k ++ [l.getD k []] := by
    have hkl : k < l.length := by rw [← HE.o]; exact hlt
    rw [List.take_succ_eq_append_getElem hkl]
    simp [List.getD, hkl]
   have HG := Lh (show l.getD k [] ∈ l by
    have hkl : k < l.length := by rw [← HE.o]; exact hlt
    simp [List.getD, hkl])
   have HT := Lh hget
   clear hget
   generalize l.getD k [] = xs at hxl hxc HT HG
   have HXL := Lh hxl
   have HXC := Lh hxc
   clear hxl hxc
   go_wp2_with fail
   refine wp_region_quiet_lit (by kernel_rfl) (by kernel_rfl) ?_
   refine wpQuiet_row rfl 26 .u8 (.tmp 3) w.heap.size 0 cs 32 5 rfl rfl Tryz.underlying26 (by rw [HL.o]; kernel_rfl) (fun w' hw' j hj => by obtain ⟨m, rfl⟩ := hw'; rw [World.cell?_drewN, Nat.zero_add]; exact F_a.o.c j hj) ?_
   simp only [sY]
   repeat (go_big_quiet_step (fail))
   refine wpQuiet_row rfl 26 .u8 (.tmp 14) s (o + k * 32) xs 32 5 rfl rfl Tryz.underlying26 (by rw [HXL.o]; kernel_rfl) (fun w' hw' j hj => by obtain ⟨m, rfl⟩ := hw'; rw [World.cell?_drewN]; exact HXC.o j (by rw [HXL.o] at hj; exact hj)) ?_
   simp only [sY]
   refine wpQuiet_eqArr rfl 26 26 (.tmp 11) (.tmp 15) _ _ (cs == xs) rfl rfl rfl (by kernel_rfl) (fun w' => eq_arr32 9998 cs xs HL.o HXL.o w') ?_
   simp only [sY]
   refine wpQuiet_nil ?_
   intro _ hw'
   obtain ⟨nq, rfl⟩ := hw'
   by_cases hcx : cs = xs
   case pos =>
    have hb : (cs == xs) = true := by simpa using hcx
    rw [hb]
    go_wp2_with fail
    go_ret
    exact ⟨⟨_, rfl, ⟨fun _ => by rw [hcx]; exact HG.o, fun _ => by omega⟩⟩, below_drewN HBW.o _⟩
   case neg =>
    have hb : (cs == xs) = false := by simpa using hcx
    rw [hb]
    have HX := Lh hcx
    clear hcx
    go_wp2_with fail
    go_roundw
    case rel => exact ⟨k + 1, by omega, by go_num, Lh (by rw [HT.o, List.mem_append, List.mem_singleton]; rintro (h | h); exact HN.o h; exact HX.o h), Lh (F_a.o.drewN _), Lh (HS.o.keep (below_drewN (Below.refl _ _) _)), Lh (below_drewN HBW.o _)⟩
    case measure => simp [intOf] <;> omega
set_option maxHeartbeats 8000000 in
theorem containsC_any {a : Option Addr} {n c : Nat} {l : List (List Int)} {cs : List Int} (w : World) (hl : cs.length = 32) (hS : ShC w a n l) (hn : n ≤ 10000) :
 Calls Tryz.prog 87 #[.slice a n c, .agg (valV .u8 cs)] w fun e w' => e = .returned (.bool (decide (cs ∈ l))) ∧ Below w.heap.size w w' := by
 have HL := Lh hl
 have HS := Lh hS
 have HBW := Lh (show Below w.heap.size w (w.alloc (.cells (valV .u8 cs) 26)) from (Below.refl _ _).alloc (Nat.le_refl _) _)
 have F_a := Lh (Arr.new .u8 w cs 26 w.heap.size rfl)
 clear hl hS
 go_enter Tryz.func87, Tryz.ntmps87
 go_wp2_with (refine wpL_loadArr rfl 26 .u8 (.tmp 3) w.heap.size cs 32 5 rfl rfl Tryz.underlying26 (by rw [HL.o]; kernel_rfl) F_a.o ?_; simp only [sY])
 refine (indexC_any _ HL.o (HS.o.keep HBW.o) hn).mono ?_
 rintro e w1 ⟨⟨r, rfl, hr⟩, hb1⟩
 replace HBW := Kt HBW hb1
 clear hb1
 by_cases h0 : 0 ≤ r
 case pos =>
  have HM := Lh (decide_eq_true (hr.1 h0))
  clear hr
  go_wp2_with fail
  go_ret
  exact ⟨by rw [HM.o]; first | rfl | (rw [decide_eq_false (by omega)]; rfl), HBW.o⟩
 case neg =>
  have HM := Lh (decide_eq_false (fun h => h0 (hr.2 h)))
  clear hr
  go_wp2_with fail
  go_ret
  exact ⟨by rw [HM.o]; first | rfl | (rw [decide_eq_false (by omega)]; rfl), HBW.o⟩
open Go Go.RowKit Num Sha
theorem flat_at {α : Type} (f : α → List Value) (k : Nat) (hk : ∀ x, (f x).length = k) : ∀ (l : List α) (i j : Nat) (hi : i < l.length), j < k → (l.flatMap f)[i * k + j]? = (f l[i])[j]?
 | [], i, j, hi, _ => by simp at hi
 | x :: l, 0, j, _, hj => by
  rw [Nat.zero_mul, Nat.zero_add, List.flatMap_cons, List.getElem?_append_left (by rw [hk]; exact hj)]
  rfl
 | x :: l, i + 1, j, hi, hj => by
  have h := flat_at f k hk l i j (by simpa using hi) hj
  rw [List.flatMap_cons, List.getElem?_append_right (by rw [hk, Nat.add_mul]; omega), hk, show (i + 1) * k + j - k = i * k + j by rw [Nat.add_mul]; omega, h]
  rfl
theorem flat_len {α : Type} (f : α → List Value) (k : Nat) (hk : ∀ x, (f x).length = k) : ∀ l : List α, (l.flatMap f).length = l.length * k
 | [] => by simp
 | x :: l => by rw [List.flatMap_cons, List.length_append, hk, flat_len f k hk l, List.length_cons, Nat.add_mul]; omega
def Rv.vs (R : Rv) : List Value := [.slice R.a R.n R.c, .slice R.b R.m R.d]
theorem Vt.vs_len (V : Vt) : V.vs.length = 11 := rfl
theorem Rv.vs_len (R : Rv) : R.vs.length = 2 := rfl
theorem Vt.vs_one (V : Vt) (u : Value) (h : u ∈ V.vs) : u.oneCell' = true := by
 simp only [Vt.vs, Bt.vs, List.mem_append, List.mem_cons, List.not_mem_nil, or_false] at h
 rcases h with (rfl | rfl | rfl) | (rfl | rfl | rfl | rfl | rfl | rfl | rfl | rfl) <;> rfl
theorem Rv.vs_one (R : Rv) (u : Value) (h : u ∈ R.vs) : u.oneCell' = true := by
 simp only [Rv.vs, List.mem_cons, List.not_mem_nil, or_false] at h
 rcases h with rfl | rfl <;> rfl
theorem flatV_one (l : List Vt) (u : Value) (h : u ∈ l.flatMap Vt.vs) : u.oneCell' = true := by
 obtain ⟨V, -, h⟩ := List.mem_flatMap.1 h
 exact V.vs_one u h
structure RRow (w : World) (s o : Nat) (l : List Rv) : Prop where
 lt : s < w.heap.size
 c : ∀ i (h : i < l.length), ∀ k u, l[i].vs[k]? = some u → w.cell? ⟨s, o + i * 2 + k, none⟩ = some u
 ok : ∀ V, V ∈ l → RvIn w V
theorem RRow.keep {w w' : World} {s o : Nat} {l : List Rv} (h : RRow w s o l) (hb : Below w.heap.size w w') : RRow w' s o l :=
 ⟨Nat.lt_of_lt_of_le h.lt hb.size, fun i hi k u hu => (hb.cell (p := ⟨s, o + i * 2 + k, none⟩) h.lt).trans (h.c i hi k u hu), fun V hV => (h.ok V hV).keep hb⟩
def ShR (w : World) (a : Option Addr) (n : Nat) (l : List Rv) : Prop := (n = 0 ∧ l = []) ∨ ∃ s o, a = some ⟨s, o, none⟩ ∧ n = l.length ∧ RRow w s o l
theorem ShR.len {w : World} {a : Option Addr} {n : Nat} {l : List Rv} (h : ShR w a n l) : n = l.length := by
 rcases h with ⟨h1, h2⟩ | ⟨s, o, _, h1, _⟩
 · rw [h1, h2]; rfl
 · exact h1
theorem ShR.keep {w w' : World} {a : Option Addr} {n : Nat} {l : List Rv} (h : ShR w a n l) (hb : Below w.heap.size w w') : ShR w' a n l := by
 rcases h with h | ⟨s, o, h0, h1, h2⟩
 · exact .inl h
 · exact .inr ⟨s, o, h0, h1, h2.keep hb⟩
theorem ShR.nil (w : World) (a : Option Addr) : ShR w a 0 [] := .inl ⟨rfl, rfl⟩
theorem ShR.at {w : World} {a : Option Addr} {n : Nat} {l : List Rv} (h : ShR w a n l) (k : Nat) (hk : k < n) : ∃ s o R, a = some ⟨s, o, none⟩ ∧ l[k]? = some R ∧ s < w.heap.size ∧ w.cell? ⟨s, o + k * 2, none⟩ = some (.slice R.a R.n R.c) ∧ w.cell? ⟨s, o + k * 2 + 1, none⟩ = some (.slice R.b R.m R.d) ∧ RvIn w R := by
 rcases h with ⟨h1, _⟩ | ⟨s, o, h0, h1, h2⟩
 · omega
 · have hl : k < l.length := by omega
   exact ⟨s, o, l[k], h0, List.getElem?_eq_getElem hl, h2.lt, h2.c k hl 0 _ rfl, h2.c k hl 1 _ rfl, h2.ok _ (List.getElem_mem hl)⟩
theorem ShV.cells {w : World} {ad : Addr} {n : Nat} {l : List Vt} (h : ShV w (some ad) n l) : ∀ j u, (l.flatMap Vt.vs)[j]? = some u → w.cell? (ad.add j) = some u := by
 rcases h with ⟨_, h⟩ | ⟨s, o, h0, h1, h2⟩
 · subst h; intro j u hj; simp at hj
 · cases h0
   intro j u hj
   have hlt : j < l.length * 11 := by
    rw [← flat_len Vt.vs 11 Vt.vs_len l]
    exact (List.getElem?_eq_some_iff.1 hj).1
   have hi : j / 11 < l.length := by omega
   have e := flat_at Vt.vs 11 Vt.vs_len l (j / 11) (j % 11) hi (Nat.mod_lt _ (by omega))
   have ej : j / 11 * 11 + j % 11 = j := by omega
   rw [ej] at e
   rw [e] at hj
   have := h2.c _ hi _ _ hj
   rw [add_pl]
   rwa [show o + j / 11 * 11 + j % 11 = o + j by omega] at this
theorem ShV.of_owned {w : World} {base : Nat} {e : TypeId} {v : Value} {n : Nat} {l : List Vt} (h : w.ownsRow base e 11 v n (l.flatMap Vt.vs)) (hok : ∀ V, V ∈ l → VtIn w V) : ∃ a c, v = .slice a n c ∧ ShV w a n l ∧ (a = none → c = 0) ∧ n ≤ c := by
 have hl := h.1
 rw [flat_len Vt.vs 11 Vt.vs_len] at hl
 rcases h.2 with ⟨rfl, h0⟩ | ⟨g, cap, cur, rfl, hb, hg, hn, _⟩
 · subst h0
   have : l = [] := List.eq_nil_of_length_eq_zero (by omega)
   subst this
   exact ⟨none, 0, rfl, ShV.nil w _, fun _ => rfl, Nat.le_refl _⟩
 · refine ⟨_, _, rfl, .inr ⟨g, 0, rfl, by omega, (h.lt g rfl).2, fun i hi k u hu => ?_, hok⟩, (fun h => by cases h), hn⟩
   have hk : k < 11 := by have := (List.getElem?_eq_some_iff.1 hu).1; rwa [Vt.vs_len] at this
   have hc := h.cells (g := g) rfl (i * 11 + k) u (by rw [flat_at Vt.vs 11 Vt.vs_len l i k hi hk]; exact hu)
   rw [add_pl] at hc
   rwa [show 0 + i * 11 + k = 0 + (i * 11 + k) by omega]
theorem ShR.cells {w : World} {ad : Addr} {n : Nat} {l : List Rv} (h : ShR w (some ad) n l) : ∀ j u, (l.flatMap Rv.vs)[j]? = some u → w.cell? (ad.add j) = some u := by
 rcases h with ⟨_, h⟩ | ⟨s, o, h0, h1, h2⟩
 · subst h; intro j u hj; simp at hj
 · cases h0
   intro j u hj
   have hlt : j < l.length * 2 := by
    rw [← flat_len Rv.vs 2 Rv.vs_len l]
    exact (List.getElem?_eq_some_iff.1 hj).1
   have hi : j / 2 < l.length := by omega
   have e := flat_at Rv.vs 2 Rv.vs_len l (j / 2) (j % 2) hi (Nat.mod_lt _ (by omega))
   have ej : j / 2 * 2 + j % 2 = j := by omega
   rw [ej] at e
   rw [e] at hj
   have := h2.c _ hi _ _ hj
   rw [add_pl]
   rwa [show o + j / 2 * 2 + j % 2 = o + j by omega] at this
theorem ShR.of_owned {w : World} {base : Nat} {e : TypeId} {v : Value} {n : Nat} {l : List Rv} (h : w.ownsRow base e 2 v n (l.flatMap Rv.vs)) (hok : ∀ V, V ∈ l → RvIn w V) : ∃ a c, v = .slice a n c ∧ ShR w a n l ∧ (a = none → c = 0) ∧ n ≤ c := by
 have hl := h.1
 rw [flat_len Rv.vs 2 Rv.vs_len] at hl
 rcases h.2 with ⟨rfl, h0⟩ | ⟨g, cap, cur, rfl, hb, hg, hn, _⟩
 · subst h0
   have : l = [] := List.eq_nil_of_length_eq_zero (by omega)
   subst this
   exact ⟨none, 0, rfl, ShR.nil w _, fun _ => rfl, Nat.le_refl _⟩
 · refine ⟨_, _, rfl, .inr ⟨g, 0, rfl, by omega, (h.lt g rfl).2, fun i hi k u hu => ?_, hok⟩, (fun h => by cases h), hn⟩
   have hk : k < 2 := by have := (List.getElem?_eq_some_iff.1 hu).1; rwa [Rv.vs_len] at this
   have hc := h.cells (g := g) rfl (i * 2 + k) u (by rw [flat_at Rv.vs 2 Rv.vs_len l i k hi hk]; exact hu)
   rw [add_pl] at hc
   rwa [show 0 + i * 2 + k = 0 + (i * 2 + k) by omega]
set_option maxHeartbeats 8000000 in
theorem growV_any {k : Nat} (w : World) (hk : k ≤ 1000) :
 Calls Tryz.prog 123 #[.slice none 0 0, .int .i64 (k : Int)] w fun e w' => ∃ v, e = .returned v ∧ w'.ownsRow w.heap.size 33 11 v 0 [] ∧ Below w.heap.size w w' := by
 obtain ⟨i0, hi, hz0, hz1, hz2⟩ := info_parts (P := Tryz.prog) (e := 33) (z := .agg #[.slice none 0 0, .slice none 0 0, .bool false, υ 0, υ 0, υ 0, υ 0, υ 0, υ 0, υ 0, υ 0]) (size := 11) (bytes := 120) (by kernel_rfl)
 by_cases h0 : k = 0
 case pos =>
  subst h0
  refine (grow_nil w).mono ?_
  rintro e w' ⟨rfl, rfl⟩
  exact ⟨_, rfl, World.ownsRow_nil _ _ _ _, Below.refl _ _⟩
 case neg =>
 have d0 : decide ((k : Int) < 0) = false := decide_eq_false (by omega)
 have d1 : decide ((0 : Int) < (k : Int)) = true := decide_eq_true (by omega)
 have i0' : (0 : Int) ≤ (k : Int) := by omega
 have wk : IntKind.i64.wrap ((k : Int) - 0) = (k : Int) := by rw [Int.sub_zero]; exact IntWalk.i64_in _ (by omega)
 have hrun := Lib.run_append_nil_zeros (P := Tryz.prog) w 52 3 52 33 i0 (.agg #[.slice none 0 0, .slice none 0 0, .bool false, υ 0, υ 0, υ 0, υ 0, υ 0, υ 0, υ 0, υ 0]) .i64 .i64 Tryz.underlying52 Tryz.underlying3 hi hz0 k (by omega) (by rw [hz1]; decide) (by omega) (by rw [hz2]; omega)
 go_enter Tryz.func123, Tryz.ntmps123
 go_wp2_with (at_builtin; refine Lib.wpList_append_run _ rfl _ _ _ _ rfl _ _ rfl rfl _ _ hrun ?_)
 go_ret
 have hge := grownCap_ge w k 0 33
 have hle := grownCap_le_maxLen w k 0 33 (by unfold maxLen; omega)
 refine ⟨_, rfl, ?_, ((Below.refl _ _).alloc (Nat.le_refl _) _).drew⟩
 refine (World.ownsRow_made w _ _ (Nat.le_refl _) hle ?_).drew
 rw [Array.size_append, size_zeroCells, size_zeroCells, ← Nat.add_mul, Nat.add_sub_cancel' hge]
 rfl
def pickV (j : Nat) (l l' : List Vt) : List Vt := if j = 0 then [] else if j = 1 then l else l ++ l'
set_option maxHeartbeats 8000000 in
theorem concatV_any {B n m c d : Nat} {a b : Option Addr} {l l' : List Vt} (w : World) (h0 : w.cell? ⟨B, 0, none⟩ = some (.slice a n c)) (h1 : w.cell? ⟨B, 1, none⟩ = some (.slice b m d)) (hl : ShV w a n l) (hl' : ShV w b m l') (hca : a = none → c = 0) (hcb : b = none → d = 0) (hn : n + m ≤ 1000) :
 Calls Tryz.prog 96 #[.slice (some ⟨B, 0, none⟩) 2 2] w fun e w' => (∃ v, e = .returned v ∧ w'.ownsRow w.heap.size 33 11 v (n + m) ((l ++ l').flatMap Vt.vs)) ∧ Below w.heap.size w w' := by
 obtain ⟨i0, hi, hz0, hz1, hz2⟩ := info_parts (P := Tryz.prog) (e := 33) (z := (.agg #[.slice none 0 0, .slice none 0 0, .bool false, υ 0, υ 0, υ 0, υ 0, υ 0, υ 0, υ 0, υ 0])) (size := 11) (bytes := 120) (by kernel_rfl)
 have Ha := Lh hl
 have Hb := Lh hl'
 have hB := World.block_lt_of_cell? w _ h0
 clear hl hl'
 have wn : IntKind.i64.wrap ((0 : Int) + (n : Int)) = (n : Int) := by rw [Int.zero_add]; exact IntWalk.i64_in _ (by omega)
 have wm : IntKind.i64.wrap ((n : Int) + (m : Int)) = (n : Int) + (m : Int) := IntWalk.i64_in _ (by omega)
 have n0 : decide ((n : Int) < 0) = false := decide_eq_false (by omega)
 have m0 : decide ((n : Int) + (m : Int) < 0) = false := decide_eq_false (by omega)
 go_enter Tryz.func96, Tryz.ntmps96
 go_wp2_with fail
 go_loop [3, 5, 11] (fun c3 _ c11 => (c3 = .int .i64 0 ∧ c11 = .int .i64 0) ∨ (c3 = .int .i64 n ∧ c11 = .int .i64 1) ∨ (c3 = .int .i64 ((n : Int) + (m : Int)) ∧ c11 = .int .i64 2)) (fun _ _ c11 => 2 - (intOf c11).toNat)
 case atStart => exact .inl ⟨rfl, rfl⟩
 case round =>
  obtain ⟨rfl, rfl⟩ | ⟨rfl, rfl⟩ | ⟨rfl, rfl⟩ := hrel
  · go_wp2_with fail
    go_round
    case rel => exact .inr (.inl ⟨by go_num, rfl⟩)
    case measure => simp [intOf]
  · go_wp2_with fail
    go_round
    case rel => exact .inr (.inr ⟨by go_num, rfl⟩)
    case measure => simp [intOf]
  · rw [← Int.natCast_add]
    go_wp2_with fail
    refine (growV_any (k := n + m) _ hn).mono ?_
    rintro e w1 ⟨v0, rfl, ho, hb1⟩
    have HO := Lh ho
    have HBW := Lh hb1
    clear ho hb1
    go_wp2_with fail
    go_loopw [6, 8, 27] (fun c6 _ c27 wr => ∃ (j : Nat), j ≤ 2 ∧ c27 = .int .i64 j ∧ Hid (wr.ownsRow w.heap.size 33 11 c6 (if j = 0 then 0 else if j = 1 then n else n + m) ((pickV j l l').flatMap Vt.vs)) ∧ Hid (Below w.heap.size w wr)) (fun _ _ c27 _ => 2 - (intOf c27).toNat)
    case atStart => exact ⟨0, by omega, rfl, HO.o, HBW.o⟩
    case round =>
     clear HO HBW
     obtain ⟨j, hj, rfl, HO, HBW⟩ := hrel
     have q0 := (HBW.o.cell (p := ⟨B, 0, none⟩) hB).trans h0
     have q1 := (HBW.o.cell (p := ⟨B, 1, none⟩) hB).trans h1
     obtain rfl | rfl | rfl : j = 0 ∨ j = 1 ∨ j = 2 := by omega
     · replace HO := Lh (show wr.ownsRow w.heap.size 33 11 _ 0 [] from by simpa [pickV] using HO.o)
       cases a with
       | none =>
        have hz : n = 0 ∧ l = [] := by
         rcases Ha.o with h | ⟨s, o, h0, -⟩
         · exact h
         · cases h0
        obtain ⟨rfl, rfl⟩ := hz
        obtain rfl := hca rfl
        go_wp2_with (at_builtin; refine wpList_append_own_none rfl _ _ 52 rfl w.heap.size 33 i0 11 Tryz.underlying52 hi _ _ _ rfl HO.o rfl ?_)
        go_roundw
        case rel => first | exact ⟨_, _, _, ⟨0 + 1, by omega, rfl, Lh (by simpa [pickV] using HO.o)⟩, rfl, rfl, rfl⟩ | exact ⟨_, _, _, ⟨0 + 1, by omega, rfl, Lh (by simpa [pickV] using HO.o), HBW⟩, rfl, rfl, rfl⟩
        case measure => simp [intOf]
       | some ad =>
        go_wp2_with (at_builtin; refine wpList_append_own _ rfl _ _ 52 rfl w.heap.size 33 i0 (.agg #[.slice none 0 0, .slice none 0 0, .bool false, υ 0, υ 0, υ 0, υ 0, υ 0, υ 0, υ 0, υ 0]) 11 120 Tryz.underlying52 hi hz0 hz1 hz2 rfl (by decide) _ _ _ rfl HO.o ad n _ (l.flatMap Vt.vs) rfl (by rw [flat_len Vt.vs 11 Vt.vs_len, ← Ha.o.len]) ((Ha.o.keep HBW.o).cells) (fun u hu => flatV_one _ u hu) (by unfold maxLen; omega) (by omega) HBW.o.size ?_; intro v5 w5 ho5 hg5 _; have HO5 := Lh ho5; have HB5 := Lh (HBW.o.grown hg5 HBW.o.size (fun k hk => (HO.o.lt k hk).1)); clear ho5 hg5)
        go_roundw
        case rel => first | exact ⟨_, _, _, ⟨0 + 1, by omega, rfl, Lh (by simpa [pickV, List.flatMap_append, Nat.add_comm] using HO5.o)⟩, rfl, rfl, rfl⟩ | exact ⟨_, _, _, ⟨0 + 1, by omega, rfl, Lh (by simpa [pickV, List.flatMap_append, Nat.add_comm] using HO5.o), HB5⟩, rfl, rfl, rfl⟩ | exact ⟨0 + 1, by omega, rfl, Lh (by simpa [pickV, List.flatMap_append, Nat.add_comm] using HO5.o), HB5⟩
        case measure => simp [intOf]
     · replace HO := Lh (show wr.ownsRow w.heap.size 33 11 _ n (l.flatMap Vt.vs) from by simpa [pickV] using HO.o)
       cases b with
       | none =>
        have hz : m = 0 ∧ l' = [] := by
         rcases Hb.o with h | ⟨s, o, h0, -⟩
         · exact h
         · cases h0
        obtain ⟨rfl, rfl⟩ := hz
        obtain rfl := hcb rfl
        go_wp2_with (at_builtin; refine wpList_append_own_none rfl _ _ 52 rfl w.heap.size 33 i0 11 Tryz.underlying52 hi _ _ _ rfl HO.o rfl ?_)
        go_roundw
        case rel => first | exact ⟨_, _, _, ⟨1 + 1, by omega, rfl, Lh (by simpa [pickV] using HO.o)⟩, rfl, rfl, rfl⟩ | exact ⟨_, _, _, ⟨1 + 1, by omega, rfl, Lh (by simpa [pickV] using HO.o), HBW⟩, rfl, rfl, rfl⟩
        case measure => simp [intOf]
       | some ad =>
        go_wp2_with (at_builtin; refine wpList_append_own _ rfl _ _ 52 rfl w.heap.size 33 i0 (.agg #[.slice none 0 0, .slice none 0 0, .bool false, υ 0, υ 0, υ 0, υ 0, υ 0, υ 0, υ 0, υ 0]) 11 120 Tryz.underlying52 hi hz0 hz1 hz2 rfl (by decide) _ _ _ rfl HO.o ad m _ (l'.flatMap Vt.vs) rfl (by rw [flat_len Vt.vs 11 Vt.vs_len, ← Hb.o.len]) ((Hb.o.keep HBW.o).cells) (fun u hu => flatV_one _ u hu) (by unfold maxLen; omega) (by omega) HBW.o.size ?_; intro v5 w5 ho5 hg5 _; have HO5 := Lh ho5; have HB5 := Lh (HBW.o.grown hg5 HBW.o.size (fun k hk => (HO.o.lt k hk).1)); clear ho5 hg5)
        go_roundw
        case rel => first | exact ⟨_, _, _, ⟨1 + 1, by omega, rfl, Lh (by simpa [pickV, List.flatMap_append, Nat.add_comm] using HO5.o)⟩, rfl, rfl, rfl⟩ | exact ⟨_, _, _, ⟨1 + 1, by omega, rfl, Lh (by simpa [pickV, List.flatMap_append, Nat.add_comm] using HO5.o), HB5⟩, rfl, rfl, rfl⟩ | exact ⟨1 + 1, by omega, rfl, Lh (by simpa [pickV, List.flatMap_append, Nat.add_comm] using HO5.o), HB5⟩
        case measure => simp [intOf]
     · replace HO := Lh (show wr.ownsRow w.heap.size 33 11 _ (n + m) ((l ++ l').flatMap Vt.vs) from by simpa [pickV] using HO.o)
       go_wp2_with fail
       go_ret
       exact ⟨⟨_, rfl, HO.o⟩, HBW.o⟩
end Go.Proofs.YtlbldpkgnonbpaaGreatDoor
