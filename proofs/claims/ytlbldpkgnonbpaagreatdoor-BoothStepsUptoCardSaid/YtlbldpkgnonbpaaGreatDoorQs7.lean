/- What Cast and Challenge answer is one thing. -/
import Derived.Test.YtlbldpkgnonbpaaGreatDoorQs6
import Derived.Test.YtlbldpkgnonbpaaGreatDoorQs1
set_option linter.unusedSimpArgs false
set_option linter.unusedVariables false
set_option maxRecDepth 100000
namespace Go.Proofs.YtlbldpkgnonbpaaGreatDoor
open Go Go.RowKit Num Sha
theorem small_of_keys {L M : List Vt} (h : L.map Vt.key = M.map Vt.key) (hs : ∀ V, V ∈ M → V.n ≤ 1000 ∧ V.m ≤ 1000) : ∀ V, V ∈ L → V.n ≤ 1000 ∧ V.m ≤ 1000 := by
 intro V hV
 obtain ⟨U, hU, e⟩ := keys_mem Vt.key h hV
 obtain ⟨e1, -, e3, -⟩ := Vt.same_of_key e
 have := hs U hU
 omega
theorem small_of_keysR {L M : List Rv} (h : L.map Rv.key = M.map Rv.key) (hs : ∀ V, V ∈ M → V.n ≤ 1000 ∧ V.m ≤ 1000) : ∀ V, V ∈ L → V.n ≤ 1000 ∧ V.m ≤ 1000 := by
 intro V hV
 obtain ⟨U, hU, e⟩ := keys_mem Rv.key h hV
 obtain ⟨e1, -, e3, -⟩ := Rv.same_of_key e
 have := hs U hU
 omega
def Bo.none : Bo := ⟨Option.none, 0, 0, [], Option.none, 0, 0, [], Option.none, 0, 0, []⟩
theorem BoIn.none (w : World) : BoIn w Bo.none := ⟨ShV.nil _ _, fun _ => rfl, ShV.nil _ _, fun _ => rfl, ShR.nil _ _, fun _ => rfl⟩
theorem TwR.bo {B : Bo} {n0 : Nat} {e : Ending} {w' : World} (h : TwR B n0 e w') : ∃ C : Bo, e = .returned C.v ∧ BoIn w' C ∧ C.n = B.n ∧ C.m = B.m ∧ C.k = B.k ∧ SameB C B.l B.l' B.rs := by
 obtain ⟨v1, v2, v3, N1, N2, N3, rfl, -, -, -, -, h1, h2, h3⟩ := h
 obtain ⟨C, e, g1, g2, g3, g4, g5, -, -⟩ := Bo.of_rows (h1.rp (fun _ => True) (fun _ _ _ => trivial)) (h2.rp (fun _ => True) (fun _ _ _ => trivial)) (h3.rp (fun _ => True) (fun _ _ _ => trivial))
 exact ⟨C, by rw [e], g1, g2, g3, g4, g5⟩
structure Like (C B : Bo) : Prop where
 n : C.n = B.n
 m : C.m = B.m
 k : C.k = B.k
 s : SameB C B.l B.l' B.rs
theorem booth_like {P Q G y : Int} {n : Nat} {one : Bool} {B C : Bo} (h : Like C B) (hb : boothP P Q G y n one C) : boothP P Q G y n one B := by
 have e1 := keys_append Vt.key h.s.k1 h.s.k2
 refine ⟨by rw [← h.k, ← h.m]; exact hb.lr, by rw [← h.n, ← h.m]; exact hb.few, fun V hV => ?_, ?_, fun i R V hR hV => ?_⟩
 · obtain ⟨U, hU, e⟩ := keys_mem Vt.key e1.symm hV
   exact (good_key e).2 (hb.good U hU)
 · have := hb.dist
   rwa [cds_keys e1] at this
 · obtain ⟨R', hR', e2⟩ := keys_get Rv.key h.s.k3.symm hR
   obtain ⟨V', hV', e3⟩ := keys_get Vt.key h.s.k2.symm hV
   obtain ⟨g1, g2⟩ := hb.mat i R' V' hR' hV'
   exact ⟨(range_key e2).2 g1, (match_key e3 e2).2 g2⟩
theorem Like.symm {C B : Bo} (h : Like C B) : Like B C := ⟨h.n.symm, h.m.symm, h.k.symm, h.s.k1.symm, h.s.k2.symm, h.s.k3.symm⟩
theorem booth_iff {P Q G y : Int} {n : Nat} {one : Bool} {B C : Bo} (h : Like C B) : boothP P Q G y n one C ↔ boothP P Q G y n one B := ⟨booth_like h, booth_like h.symm⟩
theorem AdmS.like {P Q G y n : Int} {one : Bool} {B C : Bo} {V : Vt} {k e : Int} (h : Like C B) (ha : AdmS P Q G y n one C V k e) : AdmS P Q G y n one B V k e := by
 unfold AdmS at ha ⊢
 rw [booth_iff h, cds_keys (keys_append Vt.key h.s.k1 h.s.k2), h.n, h.m] at ha
 exact ha
theorem BvS.like {P Q G y n : Int} {one : Bool} {B C : Bo} {e : Int} (h : Like C B) (ha : BvS P Q G y n one C e) : BvS P Q G y n one B e := by
 unfold BvS at ha ⊢
 rw [booth_iff h] at ha
 exact ha
def CasT (P Q G y n : Int) (one : Bool) (B : Bo) (V : Vt) (C : Bo) (er : Int) : Prop :=
 (C = Bo.none ∧ ∃ k e', AdmS P Q G y n one B V k e' ∧ ((e' ≠ 0 ∧ er = e') ∨ (e' = 0 ∧ k = 256 ∧ er = 9))) ∨
 (er = 0 ∧ ∃ k, AdmS P Q G y n one B V k 0 ∧ k ≠ 256 ∧ C.n = B.n + 1 ∧ C.m = B.m ∧ C.k = B.k ∧ SameB C (B.l ++ [V]) B.l' B.rs)
def ChaT (P Q G y n : Int) (one : Bool) (B : Bo) (V : Vt) (R : Rv) (C : Bo) (er : Int) : Prop :=
 (C = Bo.none ∧ ∃ k e', AdmS P Q G y n one B V k e' ∧ ((e' ≠ 0 ∧ er = e') ∨ (e' = 0 ∧ ¬ (rangeP Q n.toNat R ∧ matchP P G y n.toNat V R) ∧ er = 362) ∨ (e' = 0 ∧ (rangeP Q n.toNat R ∧ matchP P G y n.toNat V R) ∧ k = 256 ∧ er = 9))) ∨
 (er = 0 ∧ (rangeP Q n.toNat R ∧ matchP P G y n.toNat V R) ∧ ∃ k, AdmS P Q G y n one B V k 0 ∧ k ≠ 256 ∧ C.n = B.n ∧ C.m = B.m + 1 ∧ C.k = B.k + 1 ∧ SameB C B.l (B.l' ++ [V]) (B.rs ++ [R]))
theorem CasR.told {w w' : World} {P Q G y n : Int} {one : Bool} {B : Bo} {V : Vt} {e : Ending} (h : CasR w P Q G y n one B V e w') : Below w.heap.size w w' ∧ ∃ C er, e = .returned (.tuple #[C.v, .int .i64 er]) ∧ BoIn w' C ∧ CasT P Q G y n one B V C er := by
 obtain ⟨hb, k, e', ha, ⟨h1, rfl⟩ | ⟨rfl, ⟨h1, rfl⟩ | ⟨h1, C, rfl, g1, g2, g3, g4, g5, -, -⟩⟩⟩ := h
 · exact ⟨hb, Bo.none, _, rfl, BoIn.none _, .inl ⟨rfl, k, e', ha, .inl ⟨h1, rfl⟩⟩⟩
 · exact ⟨hb, Bo.none, _, rfl, BoIn.none _, .inl ⟨rfl, k, 0, ha, .inr ⟨rfl, h1, rfl⟩⟩⟩
 · exact ⟨hb, C, 0, rfl, g1, .inr ⟨rfl, k, ha, h1, g2, g3, g4, g5⟩⟩
theorem ChaR.told {w w' : World} {P Q G y n : Int} {one : Bool} {B : Bo} {V : Vt} {R : Rv} {e : Ending} (h : ChaR w P Q G y n one B V R e w') : Below w.heap.size w w' ∧ ∃ C er, e = .returned (.tuple #[C.v, .int .i64 er]) ∧ BoIn w' C ∧ ChaT P Q G y n one B V R C er := by
 obtain ⟨hb, k, e', ha, ⟨h1, rfl⟩ | ⟨rfl, ⟨h1, rfl⟩ | ⟨h0, ⟨h1, rfl⟩ | ⟨h1, C, rfl, g1, g2, g3, g4, g5, -, -⟩⟩⟩⟩ := h
 · exact ⟨hb, Bo.none, _, rfl, BoIn.none _, .inl ⟨rfl, k, e', ha, .inl ⟨h1, rfl⟩⟩⟩
 · exact ⟨hb, Bo.none, _, rfl, BoIn.none _, .inl ⟨rfl, k, 0, ha, .inr (.inl ⟨rfl, h1, rfl⟩)⟩⟩
 · exact ⟨hb, Bo.none, _, rfl, BoIn.none _, .inl ⟨rfl, k, 0, ha, .inr (.inr ⟨rfl, h0, h1, rfl⟩)⟩⟩
 · exact ⟨hb, C, 0, rfl, g1, .inr ⟨rfl, h0, k, ha, h1, g2, g3, g4, g5⟩⟩
theorem keys_trans {α β : Type} {f : α → β} {L M N : List α} (h : L.map f = M.map f) (h' : N.map f = M.map f) : L.map f = N.map f := h.trans h'.symm
theorem CasT.like {P Q G y n : Int} {one : Bool} {B B' : Bo} {V : Vt} {C : Bo} {er : Int} (h : Like B' B) (hc : CasT P Q G y n one B' V C er) : CasT P Q G y n one B V C er := by
 rcases hc with ⟨h1, k, e', ha, h2⟩ | ⟨h1, k, ha, h2, h3, h4, h5, h6⟩
 · exact .inl ⟨h1, k, e', ha.like h, h2⟩
 · exact .inr ⟨h1, k, ha.like h, h2, by rw [h3, h.n], by rw [h4, h.m], by rw [h5, h.k], h6.k1.trans (keys_append Vt.key h.s.k1 rfl), h6.k2.trans h.s.k2, h6.k3.trans h.s.k3⟩
theorem ChaT.like {P Q G y n : Int} {one : Bool} {B B' : Bo} {V : Vt} {R : Rv} {C : Bo} {er : Int} (h : Like B' B) (hc : ChaT P Q G y n one B' V R C er) : ChaT P Q G y n one B V R C er := by
 rcases hc with ⟨h1, k, e', ha, h2⟩ | ⟨h1, hm, k, ha, h2, h3, h4, h5, h6⟩
 · exact .inl ⟨h1, k, e', ha.like h, h2⟩
 · exact .inr ⟨h1, hm, k, ha.like h, h2, by rw [h3, h.n], by rw [h4, h.m], by rw [h5, h.k], h6.k1.trans h.s.k1, h6.k2.trans (keys_append Vt.key h.s.k2 rfl), h6.k3.trans (keys_append Rv.key h.s.k3 rfl)⟩
theorem CasT.same {P Q G y n : Int} {one : Bool} {B : Bo} {V : Vt} {C D : Bo} {er er' : Int} (h : CasT P Q G y n one B V C er) (h' : CasT P Q G y n one B V D er') : er = er' ∧ Like C D := by
 rcases h with ⟨rfl, k, e1, ha, h2⟩ | ⟨rfl, k, ha, h2, h3, h4, h5, h6⟩ <;> rcases h' with ⟨rfl, k', e2, ka, k2⟩ | ⟨rfl, k', ka, k2, k3, k4, k5, k6⟩ <;> obtain ⟨rfl, e⟩ := ha.same ka
 · subst e
   refine ⟨?_, rfl, rfl, rfl, rfl, rfl, rfl⟩
   rcases h2 with ⟨h2, rfl⟩ | ⟨h2, h3, rfl⟩ <;> rcases k2 with ⟨k2, rfl⟩ | ⟨k2, k3, rfl⟩ <;> first | rfl | exact absurd h2 k2 | exact absurd k2 h2
 · subst e
   rcases h2 with ⟨h2, -⟩ | ⟨-, h2, -⟩
   · exact absurd rfl h2
   · exact absurd h2 k2
 · subst e
   rcases k2 with ⟨k2, -⟩ | ⟨-, k2, -⟩
   · exact absurd rfl k2
   · exact absurd k2 h2
 · exact ⟨rfl, h3.trans k3.symm, h4.trans k4.symm, h5.trans k5.symm, keys_trans h6.k1 k6.k1, keys_trans h6.k2 k6.k2, keys_trans h6.k3 k6.k3⟩
theorem ChaT.same {P Q G y n : Int} {one : Bool} {B : Bo} {V : Vt} {R : Rv} {C D : Bo} {er er' : Int} (h : ChaT P Q G y n one B V R C er) (h' : ChaT P Q G y n one B V R D er') : er = er' ∧ Like C D := by
 rcases h with ⟨rfl, k, e1, ha, h2⟩ | ⟨rfl, hm, k, ha, h2, h3, h4, h5, h6⟩ <;> rcases h' with ⟨rfl, k', e2, ka, k2⟩ | ⟨rfl, km, k', ka, k2, k3, k4, k5, k6⟩ <;> obtain ⟨rfl, e⟩ := ha.same ka
 · subst e
   refine ⟨?_, rfl, rfl, rfl, rfl, rfl, rfl⟩
   rcases h2 with ⟨h2, rfl⟩ | ⟨h2, h3, rfl⟩ | ⟨h2, h3, h4, rfl⟩ <;> rcases k2 with ⟨k2, rfl⟩ | ⟨k2, k3, rfl⟩ | ⟨k2, k3, k4, rfl⟩ <;> first | rfl | exact absurd h2 k2 | exact absurd k2 h2 | exact absurd h3 k3 | exact absurd k3 h3
 · subst e
   rcases h2 with ⟨h2, -⟩ | ⟨-, h2, -⟩ | ⟨-, -, h2, -⟩
   · exact absurd rfl h2
   · exact absurd km h2
   · exact absurd h2 k2
 · subst e
   rcases k2 with ⟨k2, -⟩ | ⟨-, k2, -⟩ | ⟨-, -, k2, -⟩
   · exact absurd rfl k2
   · exact absurd hm k2
   · exact absurd k2 h2
 · exact ⟨rfl, h3.trans k3.symm, h4.trans k4.symm, h5.trans k5.symm, keys_trans h6.k1 k6.k1, keys_trans h6.k2 k6.k2, keys_trans h6.k3 k6.k3⟩
theorem nil_of {w : World} {a : Option Addr} {L : List Vt} (h : ShV w a 0 L) : L = [] := List.eq_nil_of_length_eq_zero h.len.symm
theorem nil_ofR {w : World} {a : Option Addr} {L : List Rv} (h : ShR w a 0 L) : L = [] := List.eq_nil_of_length_eq_zero h.len.symm
theorem SameF.none {B : Bo} {w : World} (h : BoIn w B) : SameF Bo.none B := by
 refine ⟨fun e => ?_, fun e => ?_, fun e => ?_⟩
 · have h1 := h.h1; rw [← e] at h1; rw [nil_of h1]; rfl
 · have h1 := h.h2; rw [← e] at h1; rw [nil_of h1]; rfl
 · have h1 := h.h3; rw [← e] at h1; rw [nil_ofR h1]; rfl
theorem SameF.none' {B : Bo} {w : World} (h : BoIn w B) : SameF B Bo.none := by
 refine ⟨fun e => ?_, fun e => ?_, fun e => ?_⟩
 · have h1 := h.h1; rw [e] at h1; rw [nil_of h1]; rfl
 · have h1 := h.h2; rw [e] at h1; rw [nil_of h1]; rfl
 · have h1 := h.h3; rw [e] at h1; rw [nil_ofR h1]; rfl
theorem Like.sameF {C B : Bo} (h : Like C B) : SameF C B := ⟨fun _ => h.s.k1, fun _ => h.s.k2, fun _ => h.s.k3⟩
theorem CasT.sameB {P Q G y n : Int} {one : Bool} {B : Bo} {V : Vt} {C : Bo} {er : Int} {w : World} (h : CasT P Q G y n one B V C er) (hB : BoIn w B) : SameF C B := by
 rcases h with ⟨rfl, -⟩ | ⟨-, k, -, -, h3, h4, h5, h6⟩
 · exact .none hB
 · exact ⟨fun e => by omega, fun _ => h6.k2, fun _ => h6.k3⟩
theorem ChaT.sameC {P Q G y n : Int} {one : Bool} {B : Bo} {V : Vt} {R : Rv} {H C : Bo} {er er' : Int} {w : World} (h : ChaT P Q G y n one B V R H er) (h' : CasT P Q G y n one B V C er') (hH : BoIn w H) (hC : BoIn w C) : SameF H C := by
 rcases h with ⟨rfl, -⟩ | ⟨-, -, k, -, -, h3, h4, h5, h6⟩
 · exact .none hC
 · rcases h' with ⟨rfl, -⟩ | ⟨-, k', -, -, k3, k4, k5, k6⟩
   · exact .none' hH
   · exact ⟨fun e => by omega, fun e => by omega, fun e => by omega⟩
theorem BoSm.none : BoSm Bo.none := ⟨by simp [Bo.none], by simp [Bo.none], by simp [Bo.none], by simp [Bo.none]⟩
theorem CasT.sm {P Q G y n : Int} {one : Bool} {B : Bo} {V : Vt} {C : Bo} {er : Int} (h : CasT P Q G y n one B V C er) (hf : BoFew B) (hv : V.n ≤ 20 ∧ V.m ≤ 20) : BoSm C := by
 rcases h with ⟨rfl, -⟩ | ⟨-, k, -, -, h3, h4, h5, h6⟩
 · exact .none
 · have f1 := hf.f1; have f2 := hf.f2
   refine ⟨by omega, by omega, small_of_keysR h6.k3 (fun X hX => by have := hf.f4 X hX; omega), small_of_keys (keys_append Vt.key h6.k1 h6.k2) (fun X hX => ?_)⟩
   rcases List.mem_append.1 hX with hX | hX
   · rcases List.mem_append.1 hX with hX | hX
     · have := hf.f3 X (List.mem_append.2 (.inl hX)); omega
     · rw [List.mem_singleton] at hX; rw [hX]; omega
   · have := hf.f3 X (List.mem_append.2 (.inr hX)); omega
theorem ChaT.sm {P Q G y n : Int} {one : Bool} {B : Bo} {V : Vt} {R : Rv} {C : Bo} {er : Int} (h : ChaT P Q G y n one B V R C er) (hf : BoFew B) (hv : V.n ≤ 20 ∧ V.m ≤ 20) (hr : R.n ≤ 20 ∧ R.m ≤ 20) : BoSm C := by
 rcases h with ⟨rfl, -⟩ | ⟨-, -, k, -, -, h3, h4, h5, h6⟩
 · exact .none
 · have f1 := hf.f1; have f2 := hf.f2
   refine ⟨by omega, by omega, small_of_keysR h6.k3 (fun X hX => ?_), small_of_keys (keys_append Vt.key h6.k1 h6.k2) (fun X hX => ?_)⟩
   · rcases List.mem_append.1 hX with hX | hX
     · have := hf.f4 X hX; omega
     · rw [List.mem_singleton] at hX; rw [hX]; omega
   · rcases List.mem_append.1 hX with hX | hX
     · have := hf.f3 X (List.mem_append.2 (.inl hX)); omega
     · rcases List.mem_append.1 hX with hX | hX
       · have := hf.f3 X (List.mem_append.2 (.inr hX)); omega
       · rw [List.mem_singleton] at hX; rw [hX]; omega
theorem Like.sm {C B : Bo} (h : Like C B) (hb : BoSm B) : BoSm C :=
 ⟨by rw [h.n, h.m]; exact hb.s1, by rw [h.k]; exact hb.s2, small_of_keysR h.s.k3 hb.s3, small_of_keys (keys_append Vt.key h.s.k1 h.s.k2) hb.s4⟩
theorem rSameL_any {B C : Bo} (w : World) (hC : BoIn w C) (hB : BoIn w B) (h : Like C B) (hs : BoSm C) :
 Calls Tryz.prog 21 #[C.v, B.v] w fun e w' => e = .returned (.bool true) ∧ Below w.heap.size w w' := by
 refine (rSameF_any w hC hB h.sameF hs).mono ?_
 rintro e w' ⟨rfl, hb⟩
 exact ⟨by rw [decide_eq_true (show C.n = B.n ∧ C.m = B.m ∧ C.k = B.k from ⟨h.n, h.m, h.k⟩)], hb⟩
theorem bSameL_any {B C : Bo} (w : World) (hC : BoIn w C) (hB : BoIn w B) (h : Like C B) (hs : BoSm C) :
 Calls Tryz.prog 20 #[C.v, B.v] w fun e w' => e = .returned (.bool true) ∧ Below w.heap.size w w' := by
 refine (bSame_any w hC hB h.sameF hs).mono ?_
 rintro e w' ⟨rfl, hb⟩
 exact ⟨by rw [decide_eq_true (show C.n = B.n ∧ C.m = B.m ∧ C.k = B.k from ⟨h.n, h.m, h.k⟩)], hb⟩
theorem bSameP_any {B C : Bo} {p : Bool} (w : World) (hC : BoIn w C) (hB : BoIn w B) (h : SameF C B) (hs : BoSm C) (hp : p = decide (C.n = B.n ∧ C.m = B.m ∧ C.k = B.k)) :
 Calls Tryz.prog 20 #[C.v, B.v] w fun e w' => e = .returned (.bool p) ∧ Below w.heap.size w w' := by
 rw [hp]; exact bSame_any w hC hB h hs
theorem rSameP_any {B C : Bo} {p : Bool} (w : World) (hC : BoIn w C) (hB : BoIn w B) (h : SameF C B) (hs : BoSm C) (hp : p = decide (C.n = B.n ∧ C.m = B.m ∧ C.k = B.k)) :
 Calls Tryz.prog 21 #[C.v, B.v] w fun e w' => e = .returned (.bool p) ∧ Below w.heap.size w w' := by
 rw [hp]; exact rSameF_any w hC hB h hs
theorem BvS.exists (P Q G y n : Int) (one : Bool) (B : Bo) : ∃ e, BvS P Q G y n one B e := by
 unfold BvS
 by_cases h1 : chkB P Q G y n = 0
 · by_cases h2 : boothP P Q G y n.toNat one B
   · exact ⟨_, .inr ⟨h1, .inr ⟨h2, rfl⟩⟩⟩
   · exact ⟨_, .inr ⟨h1, .inl ⟨h2, rfl⟩⟩⟩
 · exact ⟨_, .inl ⟨h1, rfl⟩⟩
theorem BvS.one {P Q G y n : Int} {one : Bool} {B : Bo} {e e' : Int} (h : BvS P Q G y n one B e) (h' : BvS P Q G y n one B e') : e = e' := by
 rcases h with ⟨h1, rfl⟩ | ⟨h1, ⟨h2, rfl⟩ | ⟨h2, rfl⟩⟩ <;> rcases h' with ⟨k1, rfl⟩ | ⟨k1, ⟨k2, rfl⟩ | ⟨k2, rfl⟩⟩ <;> first | rfl | exact absurd h1 k1 | exact absurd k1 h1 | exact absurd h2 k2 | exact absurd k2 h2
theorem bvalidL_any {P Q G y n : Int} {one : Bool} {B C : Bo} {e' : Int} (w : World) (hT : Tabs w) (hP : 0 ≤ P) (hQ : 0 ≤ Q) (hG : 0 ≤ G) (hy : 0 ≤ y) (hC : BoIn w C) (hs : BoSm C) (hl : Like C B) (hv : BvS P Q G y n one B e') :
 Calls Tryz.prog 22 #[.agg #[υ P, υ Q, υ G], υ y, .int .i64 n, .bool one, C.v] w fun e w' => e = .returned (.int .i64 e') ∧ Below w.heap.size w w' := by
 refine (bvalid_any w hT hP hQ hG hy hC hs).mono ?_
 rintro e w' ⟨⟨e2, rfl, h2⟩, hb⟩
 exact ⟨by rw [(h2.like hl).one hv], hb⟩
end Go.Proofs.YtlbldpkgnonbpaaGreatDoor
