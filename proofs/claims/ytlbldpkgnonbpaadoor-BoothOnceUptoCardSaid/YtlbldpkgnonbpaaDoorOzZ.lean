/- The reference's Same (for equal booths) and Great. -/
import Derived.Test.YtlbldpkgnonbpaaDoorOzY
import Derived.Test.YtlbldpkgnonbpaaDoorOzR
import Derived.Test.YtlbldpkgnonbpaaDoorOzB
import Derived.Test.YtlbldpkgnonbpaaDoorRows
import Derived.Test.YtlbldpkgnonbpaaDoorOzT
set_option linter.unusedSimpArgs false
set_option linter.unusedVariables false
set_option maxRecDepth 100000
namespace Go.Proofs.YtlbldpkgnonbpaaDoor
open Go Go.RowKit Num Sha
structure RCells (w : World) (s p : Nat) (R : Rv) : Prop where
  lt : s < w.heap.size
  c0 : w.cell? ⟨s, p, none⟩ = some (.slice R.a R.n R.c)
  c1 : w.cell? ⟨s, p + 1, none⟩ = some (.slice R.b R.m R.d)
theorem RCells.keep {w w' : World} {s p : Nat} {R : Rv} (h : RCells w s p R) (hb : Below w.heap.size w w') : RCells w' s p R :=
  ⟨Nat.lt_of_lt_of_le h.lt hb.size, (hb.cell (p := ⟨s, p, none⟩) h.lt).trans h.c0, (hb.cell (p := ⟨s, p + 1, none⟩) h.lt).trans h.c1⟩
set_option maxHeartbeats 16000000 in
theorem rSame_aux36 {a1 a2 b1 b2 e1 e2 : Option Addr} {n m k c1 c2 d1 d2 f1 f2 : Nat} {l l' g g' : List Vt} {rs ts : List Rv} (w : World) (h1 : ShV w a1 n l) (h2 : ShV w b1 m l') (h3 : ShR w e1 k rs) (j1 : ShV w a2 n g) (j2 : ShV w b2 m g') (j3 : ShR w e2 k ts)
    (k1 : l.map Vt.key = g.map Vt.key) (k2 : l'.map Vt.key = g'.map Vt.key) (k3 : rs.map Rv.key = ts.map Rv.key) (hn : n ≤ 2097152) (hm : m ≤ 2097152) (hk : k ≤ 2097152) (s1 : ∀ V, V ∈ l → V.n ≤ 1000 ∧ V.m ≤ 1000) (s2 : ∀ V, V ∈ l' → V.n ≤ 1000 ∧ V.m ≤ 1000) (s3 : ∀ R, R ∈ rs → R.n ≤ 1000 ∧ R.m ≤ 1000) :
    Calls Tryd.prog 22 #[.agg #[.slice a1 n c1, .slice b1 m d1, .slice e1 k f1], .agg #[.slice a2 n c2, .slice b2 m d2, .slice e2 k f2]] w fun e w' => e = .returned (.bool true) ∧ Below w.heap.size w w' := by
  have H1 := Lh h1
  have H2 := Lh h2
  have H3 := Lh h3
  have J1 := Lh j1
  have J2 := Lh j2
  have J3 := Lh j3
  have K1 := Lh k1
  have K2 := Lh k2
  have K3 := Lh k3
  have S1 := Lh s1
  have S2 := Lh s2
  have S3 := Lh s3
  clear h1 h2 h3 j1 j2 j3 k1 k2 k3 s1 s2 s3
  have F_a := Lh (show Cl ((w.alloc (.cells #[.slice a1 n c1, .slice b1 m d1, .slice e1 k f1] 53)).alloc (.cells #[.slice a2 n c2, .slice b2 m d2, .slice e2 k f2] 53)) (w.heap.size) [.slice a1 n c1, .slice b1 m d1, .slice e1 k f1] from (Cl.at w [.slice a1 n c1, .slice b1 m d1, .slice e1 k f1] 53 (w.heap.size) (by simp)).alloc _)
  have F_c := Lh (show Cl ((w.alloc (.cells #[.slice a1 n c1, .slice b1 m d1, .slice e1 k f1] 53)).alloc (.cells #[.slice a2 n c2, .slice b2 m d2, .slice e2 k f2] 53)) (w.heap.size + 1) [.slice a2 n c2, .slice b2 m d2, .slice e2 k f2] from Cl.at (w.alloc (.cells #[.slice a1 n c1, .slice b1 m d1, .slice e1 k f1] 53)) [.slice a2 n c2, .slice b2 m d2, .slice e2 k f2] 53 (w.heap.size + 1) (by simp))
  have HBW := Lh (show Below w.heap.size w ((w.alloc (.cells #[.slice a1 n c1, .slice b1 m d1, .slice e1 k f1] 53)).alloc (.cells #[.slice a2 n c2, .slice b2 m d2, .slice e2 k f2] 53)) from ((Below.refl _ _).alloc (by simp <;> omega) _).alloc (by simp <;> omega) _)
  go_enter Tryd.func22, Tryd.ntmps22
  have q_a_0 := F_a.o.c 0 _ rfl
  have q_a_1 := F_a.o.c 1 _ rfl
  have q_a_2 := F_a.o.c 2 _ rfl
  have q_c_0 := F_c.o.c 0 _ rfl
  have q_c_1 := F_c.o.c 1 _ rfl
  have q_c_2 := F_c.o.c 2 _ rfl
  go_wp2_with fail
  clear q_a_0 q_a_1 q_a_2 q_c_0 q_c_1 q_c_2
  refine (rSameVotes_any _ (H1.o.keep HBW.o) (J1.o.keep HBW.o) K1.o hn S1.o).mono ?_
  rintro e w1 ⟨rfl, hb1⟩
  replace F_a := Lh (F_a.o.keep hb1)
  replace F_c := Lh (F_c.o.keep hb1)
  replace HBW := Lh (HBW.o.trans (hb1.mono HBW.o.size))
  clear hb1
  have q_a_0 := F_a.o.c 0 _ rfl
  have q_a_1 := F_a.o.c 1 _ rfl
  have q_a_2 := F_a.o.c 2 _ rfl
  have q_c_0 := F_c.o.c 0 _ rfl
  have q_c_1 := F_c.o.c 1 _ rfl
  have q_c_2 := F_c.o.c 2 _ rfl
  go_wp2_with fail
  clear q_a_0 q_a_1 q_a_2 q_c_0 q_c_1 q_c_2
  refine (rSameVotes_any _ (H2.o.keep HBW.o) (J2.o.keep HBW.o) K2.o hm S2.o).mono ?_
  rintro e w2 ⟨rfl, hb2⟩
  replace F_a := Lh (F_a.o.keep hb2)
  replace F_c := Lh (F_c.o.keep hb2)
  replace HBW := Lh (HBW.o.trans (hb2.mono HBW.o.size))
  clear hb2
  have q_a_0 := F_a.o.c 0 _ rfl
  have q_a_1 := F_a.o.c 1 _ rfl
  have q_a_2 := F_a.o.c 2 _ rfl
  have q_c_0 := F_c.o.c 0 _ rfl
  have q_c_1 := F_c.o.c 1 _ rfl
  have q_c_2 := F_c.o.c 2 _ rfl
  go_wp2_with fail
  clear q_a_0 q_a_1 q_a_2 q_c_0 q_c_1 q_c_2
  go_loopw [5] (fun c5 wr => ∃ i : Nat, i ≤ k ∧ c5 = .int .i64 i ∧ Hid (Cl wr w.heap.size [.slice a1 n c1, .slice b1 m d1, .slice e1 k f1]) ∧ Hid (Cl wr (w.heap.size + 1) [.slice a2 n c2, .slice b2 m d2, .slice e2 k f2]) ∧ Hid (Below w.heap.size w wr)) (fun c5 _ => k - (intOf c5).toNat)
  case atStart => exact ⟨0, by omega, rfl, F_a.o, F_c.o, HBW.o⟩
  case round =>
   clear F_a F_c HBW
   obtain ⟨i, hi, rfl, F_a, F_c, HBW⟩ := hrel
   have hwi : IntKind.i64.wrap ((i : Int) + 1) = (i : Int) + 1 := IntWalk.i64_in _ (by omega)
   have hi0 : (0 : Int) ≤ (i : Int) := by omega
   by_cases hlt : i < k
   case pos =>
    have hi2 : (i : Int) < (k : Int) := by omega
    have cR : Tryd.prog.cellsOf 57 = 2 := by kernel_rfl
    obtain ⟨s1, o1, R, hsa, hRL, hz1, r0, r1, hRin⟩ := (H3.o.keep HBW.o).at i hlt
    obtain ⟨s2, o2, T, hsb, hTL, hz2, u0, u1, hTin⟩ := (J3.o.keep HBW.o).at i hlt
    obtain ⟨T0, hT0, hkT⟩ := keys_get Rv.key K3.o hRL
    rw [hTL] at hT0
    obtain rfl := Option.some.inj hT0
    obtain ⟨g1, g2, g3, g4⟩ := Rv.same_of_key hkT
    have HKT := Lh (And.intro g2 g4)
    have HRN := Lh (S3.o R (List.mem_of_getElem? hRL))
    have HRC := Lh (RCells.mk hz1 r0 r1)
    have HTC := Lh (RCells.mk hz2 u0 u1)
    have HR := Lh hRin
    have HT := Lh hTin
    clear hRL hTL hRin hTin hT0 hkT g1 g2 g3 g4 r0 r1 u0 u1 hz1 hz2
    subst hsa hsb
    have a2' := F_a.o.c 2 _ rfl
    have b2' := F_c.o.c 2 _ rfl
    go_wp2_with fail
    clear a2' b2'
    replace F_a := Lh (F_a.o.keep (Below.refl _ _).drew)
    replace F_c := Lh (F_c.o.keep (Below.refl _ _).drew)
    replace HRC := Lh (HRC.o.keep (Below.refl _ _).drew)
    replace HTC := Lh (HTC.o.keep (Below.refl _ _).drew)
    replace HR := Lh (HR.o.keep (Below.refl _ _).drew)
    replace HT := Lh (HT.o.keep (Below.refl _ _).drew)
    replace HBW := Lh HBW.o.drew
    have hS0 := And.intro F_a.o (And.intro F_c.o (And.intro HRC.o HTC.o))
    refine wp_region_stage 10 (fun w' => Cl w' w.heap.size [.slice a1 n c1, .slice b1 m d1, .slice (some ⟨s1, o1, none⟩) k f1] ∧ Cl w' (w.heap.size + 1) [.slice a2 n c2, .slice b2 m d2, .slice (some ⟨s2, o2, none⟩) k f2] ∧ RCells w' s1 (o1 + i * 2) R ∧ RCells w' s2 (o2 + i * 2) T) (by kernel_rfl) ?_
    refine tkP (i := 0) (some 36) (.fieldAddr 53 (.tmp 2) 2) 0 (fun _ => hS0) ?_
    simp only [Act.put, sZ]
    refine tkL (i := 1) (some 37) (.load 51 (.tmp 36)) 51 [3, 4, 10] (v := ?_) hS0 (fun w' hSw => ?_) ?_
    rotate_left
    · obtain ⟨t1, t2, t3, t4⟩ := hSw; have a2 := t1.c 2 _ rfl; have b2 := t2.c 2 _ rfl; obtain ⟨-, r0, r1⟩ := t3; obtain ⟨-, u0, u1⟩ := t4
      unfold bareOp; go_simp; try with_reducible rfl
    simp only [Act.put, sZ]
    refine tkP (i := 2) (some 38) (.move (.tmp 5)) 3 (fun _ => hS0) ?_
    simp only [Act.put, sZ]
    refine tkP (i := 3) (some 39) (.indexAddr 51 (.tmp 37) (.tmp 38)) 0 (fun _ => hS0) ?_
    simp only [Act.put, sZ]
    refine tkL (i := 4) (some 40) (.load 57 (.tmp 39)) 57 [10] (v := ?_) hS0 (fun w' hSw => ?_) ?_
    rotate_left
    · obtain ⟨t1, t2, t3, t4⟩ := hSw; have a2 := t1.c 2 _ rfl; have b2 := t2.c 2 _ rfl; obtain ⟨-, r0, r1⟩ := t3; obtain ⟨-, u0, u1⟩ := t4
      unfold bareOp; go_simp; try with_reducible rfl
    simp only [Act.put, sZ]
    refine tkP (i := 5) (some 41) (.fieldAddr 53 (.tmp 3) 2) 0 (fun _ => hS0) ?_
    simp only [Act.put, sZ]
    refine tkL (i := 6) (some 42) (.load 51 (.tmp 41)) 51 [8, 9, 10] (v := ?_) hS0 (fun w' hSw => ?_) ?_
    rotate_left
    · obtain ⟨t1, t2, t3, t4⟩ := hSw; have a2 := t1.c 2 _ rfl; have b2 := t2.c 2 _ rfl; obtain ⟨-, r0, r1⟩ := t3; obtain ⟨-, u0, u1⟩ := t4
      unfold bareOp; go_simp; try with_reducible rfl
    simp only [Act.put, sZ]
    refine tkP (i := 7) (some 43) (.move (.tmp 5)) 3 (fun _ => hS0) ?_
    simp only [Act.put, sZ]
    refine tkP (i := 8) (some 44) (.indexAddr 51 (.tmp 42) (.tmp 43)) 0 (fun _ => hS0) ?_
    simp only [Act.put, sZ]
    refine tkL (i := 9) (some 45) (.load 57 (.tmp 44)) 57 [10] (v := ?_) hS0 (fun w' hSw => ?_) ?_
    rotate_left
    · obtain ⟨t1, t2, t3, t4⟩ := hSw; have a2 := t1.c 2 _ rfl; have b2 := t2.c 2 _ rfl; obtain ⟨-, r0, r1⟩ := t3; obtain ⟨-, u0, u1⟩ := t4
      unfold bareOp; go_simp; try with_reducible rfl
    simp only [Act.put, sZ]
    refine onl (i := 10) (some 46) (.call { callee := .value (.func 23), args := #[.tmp 40, .tmp 45], argTypes := #[57, 57] }) 4 (fun K hK => ?_)
    unfold bareOp
    refine OpW.out (wp_of_enter (run_call _ _ _ _ 23 Tryd.func23 (vs := #[R.v, T.v]) (by simp only [List.map_toArray, List.map_cons, List.map_nil]; rfl) rfl (by kernel_rfl) (by kernel_rfl)) (rReveal_any (R := R) (S := T) _ HR.o HT.o HKT.o.1 HKT.o.2 HRN.o.1 HRN.o.2) ?_)
    rintro e w5 ⟨rfl, hb5⟩
    refine ⟨_, rfl, ?_⟩
    replace F_a := Lh (F_a.o.keep hb5)
    replace F_c := Lh (F_c.o.keep hb5)
    replace HRC := Lh (HRC.o.keep hb5)
    replace HTC := Lh (HTC.o.keep hb5)
    replace HR := Lh (HR.o.keep hb5)
    replace HT := Lh (HT.o.keep hb5)
    replace HBW := Lh (HBW.o.trans (hb5.mono HBW.o.size))
    clear hb5 hS0
    have hS0 := And.intro F_a.o (And.intro F_c.o (And.intro HRC.o HTC.o))
    refine hK.o _ _ lt8 ?_
    clear hK K
    try simp only [Act.put, sZ]
    refine tkP (i := 11) (some 47) (.unOp .not 4 (.tmp 46)) 4 lt8 ?_
    simp only [Act.put, sZ]
    refine wpAnyB_done (by kernel_rfl) ?_ _
    go_wp2_with fail
    go_roundw
    case rel => exact ⟨i + 1, by omega, by go_num, F_a.o, F_c.o, HBW.o⟩
    case measure => simp [intOf] <;> omega
   case neg =>
    have hd : decide ((i : Int) < (k : Int)) = false := decide_eq_false (by omega)
    have hdp : ¬ ((i : Int) < (k : Int)) := by omega
    have hd' : ¬ ((i : Int) < (k : Int)) := by omega
    have a2' := F_a.o.c 2 _ rfl
    have b2' := F_c.o.c 2 _ rfl
    go_wp2_with fail
    go_ret
    exact ⟨rfl, HBW.o⟩
theorem rSame36_any {B C : Bo} (w : World) (hB : BoIn w B) (hC : BoIn w C) (hS : SameB C B.l B.l' B.rs) (hn : B.n ≤ 2097152) (hm : B.m ≤ 2097152) (hk : B.k ≤ 2097152) (s1 : ∀ V, V ∈ C.l ++ C.l' → V.n ≤ 1000 ∧ V.m ≤ 1000) (s3 : ∀ R, R ∈ C.rs → R.n ≤ 1000 ∧ R.m ≤ 1000) :
    Calls Tryd.prog 22 #[C.v, B.v] w fun e w' => e = .returned (.bool true) ∧ Below w.heap.size w w' := by
  have e1 := hB.h1.len
  have e2 := hB.h2.len
  have e3 := hB.h3.len
  have g1 := hC.h1.len
  have g2 := hC.h2.len
  have g3 := hC.h3.len
  have q1 := congrArg List.length hS.k1
  have q2 := congrArg List.length hS.k2
  have q3 := congrArg List.length hS.k3
  simp only [List.length_map] at q1 q2 q3
  obtain ⟨a1, n, c1, l, b1, m, d1, l', x1, k, f1, rs⟩ := B
  obtain ⟨a2, n', c2, g, b2, m', d2, g', x2, k', f2, ts⟩ := C
  simp only at *
  obtain rfl : n' = n := by omega
  obtain rfl : m' = m := by omega
  obtain rfl : k' = k := by omega
  exact rSame_aux36 w hC.h1 hC.h2 hC.h3 hB.h1 hB.h2 hB.h3 hS.k1 hS.k2 hS.k3 hn hm hk (fun V h => s1 V (List.mem_append.2 (.inl h))) (fun V h => s1 V (List.mem_append.2 (.inr h))) s3
structure BoFew (B : Bo) : Prop where
  f1 : B.n + B.m ≤ 8
  f2 : B.k ≤ 8
  f3 : ∀ V, V ∈ B.l ++ B.l' → V.n ≤ 20 ∧ V.m ≤ 20
  f4 : ∀ R, R ∈ B.rs → R.n ≤ 20 ∧ R.m ≤ 20
def GreatR (B : Bo) (e : Ending) : Prop := ∃ r, e = .returned (.bool r) ∧ (r = false → BoFew B)
theorem take_step {α : Type} {L : List α} {i : Nat} {x : α} {p : α → Prop} (h : ∀ y, y ∈ L.take i → p y) (hx : L[i]? = some x) (hp : p x) : ∀ y, y ∈ L.take (i + 1) → p y := by
 intro y hy
 rw [take_snoc hx] at hy
 rcases List.mem_append.1 hy with hy | hy
 · exact h y hy
 · rw [List.mem_singleton] at hy; rw [hy]; exact hp
theorem greatV_no {V : Vt} (h : greatV V = false) : V.n ≤ 20 ∧ V.m ≤ 20 := by
 simp [greatV] at h
 omega
set_option maxHeartbeats 16000000 in
theorem rGreat_any {B : Bo} (w : World) (hB : BoIn w B) (hn : B.n + B.m ≤ 2097152) (hk : B.k ≤ 2097152) :
    Calls Tryd.prog 18 #[B.v] w fun e w' => GreatR B e ∧ Below w.heap.size w w' := by
  have HB := Lh hB
  clear hB
  unfold Bo.v
  have F_b := Lh (show Cl (w.alloc (.cells #[.slice B.a B.n B.c, .slice B.b B.m B.d, .slice B.e B.k B.f] 53)) (w.heap.size) [.slice B.a B.n B.c, .slice B.b B.m B.d, .slice B.e B.k B.f] from Cl.at w [.slice B.a B.n B.c, .slice B.b B.m B.d, .slice B.e B.k B.f] 53 (w.heap.size) (by simp))
  have HBW := Lh (show Below w.heap.size w (w.alloc (.cells #[.slice B.a B.n B.c, .slice B.b B.m B.d, .slice B.e B.k B.f] 53)) from (Below.refl _ _).alloc (by simp <;> omega) _)
  go_enter Tryd.func18, Tryd.ntmps18
  have q_b_0 := F_b.o.c 0 _ rfl
  have q_b_1 := F_b.o.c 1 _ rfl
  have q_b_2 := F_b.o.c 2 _ rfl
  go_wp2_with fail
  clear q_b_0 q_b_1 q_b_2
  refine (rAll_any (B := B) _ (HB.o.keep HBW.o) hn).mono ?_
  rintro e w1 ⟨⟨v1, rfl, ho1⟩, hb1⟩
  replace F_b := Lh (F_b.o.keep hb1)
  replace HBW := Lh (HBW.o.trans (hb1.mono HBW.o.size))
  clear hb1
  have HB1 := Lh (HB.o.keep HBW.o)
  obtain ⟨al, cl, rfl, hS1, -, -⟩ := ShV.of_owned ho1 (fun V hV => by
   rcases List.mem_append.1 hV with h | h
   · rcases HB1.o.h1 with ⟨-, h0⟩ | ⟨s, o, -, -, hr⟩
     · rw [h0] at h; cases h
     · exact hr.ok V h
   · rcases HB1.o.h2 with ⟨-, h0⟩ | ⟨s, o, -, -, hr⟩
     · rw [h0] at h; cases h
     · exact hr.ok V h)
  have HS1 := Lh hS1
  clear ho1 hS1
  obtain ⟨N, hN⟩ : ∃ N, B.n + B.m = N := ⟨_, rfl⟩
  obtain ⟨L, hL⟩ : ∃ L, B.l ++ B.l' = L := ⟨_, rfl⟩
  have HN := Lh hN
  have HL := Lh hL
  rw [hN] at HS1 hn ⊢
  rw [hL] at HS1
  clear hN hL
  go_wp2_with fail
  go_loopw [4] (fun c4 wr => ∃ i : Nat, i ≤ N ∧ i ≤ 20 ∧ c4 = .int .i64 i ∧ Hid (Cl wr w.heap.size [.slice B.a B.n B.c, .slice B.b B.m B.d, .slice B.e B.k B.f]) ∧ Hid (∀ V, V ∈ L.take i → greatV V = false) ∧ Hid (Below w1.heap.size w1 wr)) (fun c4 _ => N - (intOf c4).toNat)
  case atStart => exact ⟨0, by omega, by omega, rfl, F_b.o, (by rw [List.take_zero]; intro V hV; cases hV), Below.refl _ _⟩
  case round =>
   clear F_b
   obtain ⟨i, hi, hi20, rfl, F_b, HI, HB2⟩ := hrel
   have hwi : IntKind.i64.wrap ((i : Int) + 1) = (i : Int) + 1 := IntWalk.i64_in _ (by omega)
   have hi0 : (0 : Int) ≤ (i : Int) := by omega
   by_cases hlt : i < N ∧ i < 20
   case pos =>
    obtain ⟨hlt, hl20⟩ := hlt
    have hi2 : (i : Int) < (N : Int) := by omega
    have hi3 : (i : Int) < 20 := by omega
    have hd1 : decide ((i : Int) < (N : Int)) = true := decide_eq_true (by omega)
    have hd1p : (i : Int) < (N : Int) := by omega
    have hd2 : decide ((i : Int) < 20) = true := decide_eq_true (by omega)
    have hd2p : (i : Int) < 20 := by omega
    have cV : Tryd.prog.cellsOf 29 = 11 := by kernel_rfl
    obtain ⟨s, o, V, hsa, hVL, hvc, hVin⟩ := (HS1.o.keep HB2.o).at i hlt
    subst hsa
    have HVL := Lh hVL
    obtain ⟨-, e0, e1, e2, e3, e4, e5, e6, e7, e8, e9, e10⟩ := hvc
    clear hVL hVin
    go_wp2_with fail
    clear e0 e1 e2 e3 e4 e5 e6 e7 e8 e9 e10
    refine (greatV_any (V := V) _).mono ?_
    rintro e w3 ⟨rfl, hb3⟩
    replace F_b := Lh (F_b.o.keep hb3)
    replace HB2 := Lh (HB2.o.trans (hb3.mono HB2.o.size))
    clear hb3
    cases hg : greatV V with
    | true =>
     go_wp2_with fail
     go_ret
     exact ⟨⟨_, rfl, fun h => by cases h⟩, HBW.o.trans (HB2.o.mono HBW.o.size)⟩
    | false =>
     go_wp2_with fail
     go_roundw
     case rel => exact ⟨i + 1, by omega, by omega, by go_num, F_b.o, take_step HI.o HVL.o hg, HB2.o⟩
     case measure => simp [intOf] <;> omega
   case neg =>
    have HF := Lh (show N ≤ 8 → ∀ V, V ∈ L → greatV V = false from fun h8 => by
     have h := HI.o
     rw [List.take_of_length_le (by have := HS1.o.len; omega)] at h
     exact h)
    have hdd : (¬ ((i : Int) < (N : Int))) ∨ ((i : Int) < (N : Int) ∧ ¬ ((i : Int) < 20)) := by
     by_cases h : i < N
     · exact .inr ⟨by omega, by omega⟩
     · exact .inl (by omega)
    obtain ⟨w2, rfl⟩ : ∃ x, x = wr := ⟨_, rfl⟩
    have HBW2 := Lh (HBW.o.trans (HB2.o.mono HBW.o.size))
    clear HI HB2 HBW
    rcases hdd with hd1 | ⟨hd1, hd2⟩
    · go_wp2_with fail
      go_loopw [5] (fun c5 wr => ∃ j : Nat, j ≤ B.k ∧ j ≤ 20 ∧ c5 = .int .i64 j ∧ Hid (Cl wr w.heap.size [.slice B.a B.n B.c, .slice B.b B.m B.d, .slice B.e B.k B.f]) ∧ Hid (∀ R, R ∈ B.rs.take j → R.n ≤ 20 ∧ R.m ≤ 20) ∧ Hid (Below w.heap.size w wr)) (fun c5 _ => B.k - (intOf c5).toNat)
      case atStart => exact ⟨0, by omega, by omega, rfl, F_b.o, (by rw [List.take_zero]; intro V hV; cases hV), HBW2.o⟩
      case round =>
       clear F_b HBW2
       obtain ⟨j, hj, hj20, rfl, F_b, HJ, HBW⟩ := hrel
       have hwj : IntKind.i64.wrap ((j : Int) + 1) = (j : Int) + 1 := IntWalk.i64_in _ (by omega)
       have hj0 : (0 : Int) ≤ (j : Int) := by omega
       by_cases hjt : j < B.k ∧ j < 20
       case pos =>
        obtain ⟨hjt, hl20⟩ := hjt
        have hj2 : (j : Int) < (B.k : Int) := by omega
        have hj3 : (j : Int) < 20 := by omega
        have hd3 : decide ((j : Int) < (B.k : Int)) = true := decide_eq_true (by omega)
        have hd3p : (j : Int) < (B.k : Int) := by omega
        have hd4 : decide ((j : Int) < 20) = true := decide_eq_true (by omega)
        have hd4p : (j : Int) < 20 := by omega
        have cR : Tryd.prog.cellsOf 57 = 2 := by kernel_rfl
        obtain ⟨s, o, R, hsa, hRL, hz1, r0, r1, hRin⟩ := (HB.o.keep HBW.o).h3.at j hjt
        have HRL := Lh hRL
        have HSA := Lh hsa
        clear hRL hRin hz1
        have b2 := F_b.o.c 2 _ rfl
        rw [hsa] at b2
        clear hsa
        by_cases hg1 : 20 < R.n
        case pos =>
         have hd5 : decide ((20 : Int) < (R.n : Int)) = true := decide_eq_true (by omega)
         have hd5p : (20 : Int) < (R.n : Int) := by omega
         go_wp2_with fail
         go_ret
         exact ⟨⟨_, rfl, fun h => by cases h⟩, HBW.o⟩
        case neg =>
        have hd5 : decide ((20 : Int) < (R.n : Int)) = false := decide_eq_false (by omega)
        have hd5p : ¬ ((20 : Int) < (R.n : Int)) := by omega
        by_cases hg2 : 20 < R.m
        case pos =>
         have hd6 : decide ((20 : Int) < (R.m : Int)) = true := decide_eq_true (by omega)
         have hd6p : (20 : Int) < (R.m : Int) := by omega
         go_wp2_with fail
         go_ret
         exact ⟨⟨_, rfl, fun h => by cases h⟩, HBW.o⟩
        case neg =>
        have hd6 : decide ((20 : Int) < (R.m : Int)) = false := decide_eq_false (by omega)
        have hd6p : ¬ ((20 : Int) < (R.m : Int)) := by omega
        have HG := Lh (show R.n ≤ 20 ∧ R.m ≤ 20 by omega)
        clear hg1 hg2
        go_wp2_with fail
        go_roundw
        case rel => exact ⟨j + 1, by omega, by omega, by go_num, F_b.o, take_step HJ.o HRL.o HG.o, HBW.o⟩
        case measure => simp [intOf] <;> omega
       case neg =>
        have HF2 := Lh (show B.k ≤ 8 → ∀ R, R ∈ B.rs → R.n ≤ 20 ∧ R.m ≤ 20 from fun h8 => by
         have h := HJ.o
         rw [List.take_of_length_le (by have := HB.o.h3.len; omega)] at h
         exact h)
        have hdd : (¬ ((j : Int) < (B.k : Int))) ∨ ((j : Int) < (B.k : Int) ∧ ¬ ((j : Int) < 20)) := by
         by_cases h : j < B.k
         · exact .inr ⟨by omega, by omega⟩
         · exact .inl (by omega)
        have b2 := F_b.o.c 2 _ rfl
        have HFIN := Lh (show N ≤ 8 → B.k ≤ 8 → BoFew B from fun h1 h2 => ⟨by rw [HN.o]; exact h1, h2, fun V hV => greatV_no (HF.o h1 V (by rw [← HL.o]; exact hV)), HF2.o h2⟩)
        clear HJ
        by_cases h8 : 8 < N
        case pos =>
         have hd7 : decide ((8 : Int) < (N : Int)) = true := decide_eq_true (by omega)
         have hd7p : (8 : Int) < (N : Int) := by omega
         rcases hdd with hd3 | ⟨hd3, hd4⟩
         · first
           | (exfalso; omega)
           | (go_wp2_with fail; go_ret; exact ⟨⟨_, rfl, fun h => by cases h⟩, HBW.o⟩)
         · first
           | (exfalso; omega)
           | (go_wp2_with fail; go_ret; exact ⟨⟨_, rfl, fun h => by cases h⟩, HBW.o⟩)
        case neg =>
         have hd7 : decide ((8 : Int) < (N : Int)) = false := decide_eq_false (by omega)
         have hd7p : ¬ ((8 : Int) < (N : Int)) := by omega
         by_cases h9 : 8 < B.k
         case pos =>
          have hd8 : decide ((8 : Int) < (B.k : Int)) = true := decide_eq_true (by omega)
          have hd8p : (8 : Int) < (B.k : Int) := by omega
          rcases hdd with hd3 | ⟨hd3, hd4⟩
          · first
            | (exfalso; omega)
            | (go_wp2_with fail; go_ret; exact ⟨⟨_, rfl, fun h => by cases h⟩, HBW.o⟩)
          · first
            | (exfalso; omega)
            | (go_wp2_with fail; go_ret; exact ⟨⟨_, rfl, fun h => by cases h⟩, HBW.o⟩)
         case neg =>
          have hd8 : decide ((8 : Int) < (B.k : Int)) = false := decide_eq_false (by omega)
          have hd8p : ¬ ((8 : Int) < (B.k : Int)) := by omega
          rcases hdd with hd3 | ⟨hd3, hd4⟩
          · first
            | (exfalso; omega)
            | (go_wp2_with fail; go_ret; exact ⟨⟨_, rfl, fun _ => HFIN.o (by omega) (by omega)⟩, HBW.o⟩)
          · first
            | (exfalso; omega)
            | (go_wp2_with fail; go_ret; exact ⟨⟨_, rfl, fun _ => HFIN.o (by omega) (by omega)⟩, HBW.o⟩)
    · go_wp2_with fail
      go_loopw [5] (fun c5 wr => ∃ j : Nat, j ≤ B.k ∧ j ≤ 20 ∧ c5 = .int .i64 j ∧ Hid (Cl wr w.heap.size [.slice B.a B.n B.c, .slice B.b B.m B.d, .slice B.e B.k B.f]) ∧ Hid (∀ R, R ∈ B.rs.take j → R.n ≤ 20 ∧ R.m ≤ 20) ∧ Hid (Below w.heap.size w wr)) (fun c5 _ => B.k - (intOf c5).toNat)
      case atStart => exact ⟨0, by omega, by omega, rfl, F_b.o, (by rw [List.take_zero]; intro V hV; cases hV), HBW2.o⟩
      case round =>
       clear F_b HBW2
       obtain ⟨j, hj, hj20, rfl, F_b, HJ, HBW⟩ := hrel
       have hwj : IntKind.i64.wrap ((j : Int) + 1) = (j : Int) + 1 := IntWalk.i64_in _ (by omega)
       have hj0 : (0 : Int) ≤ (j : Int) := by omega
       by_cases hjt : j < B.k ∧ j < 20
       case pos =>
        obtain ⟨hjt, hl20⟩ := hjt
        have hj2 : (j : Int) < (B.k : Int) := by omega
        have hj3 : (j : Int) < 20 := by omega
        have hd3 : decide ((j : Int) < (B.k : Int)) = true := decide_eq_true (by omega)
        have hd3p : (j : Int) < (B.k : Int) := by omega
        have hd4 : decide ((j : Int) < 20) = true := decide_eq_true (by omega)
        have hd4p : (j : Int) < 20 := by omega
        have cR : Tryd.prog.cellsOf 57 = 2 := by kernel_rfl
        obtain ⟨s, o, R, hsa, hRL, hz1, r0, r1, hRin⟩ := (HB.o.keep HBW.o).h3.at j hjt
        have HRL := Lh hRL
        have HSA := Lh hsa
        clear hRL hRin hz1
        have b2 := F_b.o.c 2 _ rfl
        rw [hsa] at b2
        clear hsa
        by_cases hg1 : 20 < R.n
        case pos =>
         have hd5 : decide ((20 : Int) < (R.n : Int)) = true := decide_eq_true (by omega)
         have hd5p : (20 : Int) < (R.n : Int) := by omega
         go_wp2_with fail
         go_ret
         exact ⟨⟨_, rfl, fun h => by cases h⟩, HBW.o⟩
        case neg =>
        have hd5 : decide ((20 : Int) < (R.n : Int)) = false := decide_eq_false (by omega)
        have hd5p : ¬ ((20 : Int) < (R.n : Int)) := by omega
        by_cases hg2 : 20 < R.m
        case pos =>
         have hd6 : decide ((20 : Int) < (R.m : Int)) = true := decide_eq_true (by omega)
         have hd6p : (20 : Int) < (R.m : Int) := by omega
         go_wp2_with fail
         go_ret
         exact ⟨⟨_, rfl, fun h => by cases h⟩, HBW.o⟩
        case neg =>
        have hd6 : decide ((20 : Int) < (R.m : Int)) = false := decide_eq_false (by omega)
        have hd6p : ¬ ((20 : Int) < (R.m : Int)) := by omega
        have HG := Lh (show R.n ≤ 20 ∧ R.m ≤ 20 by omega)
        clear hg1 hg2
        go_wp2_with fail
        go_roundw
        case rel => exact ⟨j + 1, by omega, by omega, by go_num, F_b.o, take_step HJ.o HRL.o HG.o, HBW.o⟩
        case measure => simp [intOf] <;> omega
       case neg =>
        have HF2 := Lh (show B.k ≤ 8 → ∀ R, R ∈ B.rs → R.n ≤ 20 ∧ R.m ≤ 20 from fun h8 => by
         have h := HJ.o
         rw [List.take_of_length_le (by have := HB.o.h3.len; omega)] at h
         exact h)
        have hdd : (¬ ((j : Int) < (B.k : Int))) ∨ ((j : Int) < (B.k : Int) ∧ ¬ ((j : Int) < 20)) := by
         by_cases h : j < B.k
         · exact .inr ⟨by omega, by omega⟩
         · exact .inl (by omega)
        have b2 := F_b.o.c 2 _ rfl
        have HFIN := Lh (show N ≤ 8 → B.k ≤ 8 → BoFew B from fun h1 h2 => ⟨by rw [HN.o]; exact h1, h2, fun V hV => greatV_no (HF.o h1 V (by rw [← HL.o]; exact hV)), HF2.o h2⟩)
        clear HJ
        by_cases h8 : 8 < N
        case pos =>
         have hd7 : decide ((8 : Int) < (N : Int)) = true := decide_eq_true (by omega)
         have hd7p : (8 : Int) < (N : Int) := by omega
         rcases hdd with hd3 | ⟨hd3, hd4⟩
         · first
           | (exfalso; omega)
           | (go_wp2_with fail; go_ret; exact ⟨⟨_, rfl, fun h => by cases h⟩, HBW.o⟩)
         · first
           | (exfalso; omega)
           | (go_wp2_with fail; go_ret; exact ⟨⟨_, rfl, fun h => by cases h⟩, HBW.o⟩)
        case neg =>
         have hd7 : decide ((8 : Int) < (N : Int)) = false := decide_eq_false (by omega)
         have hd7p : ¬ ((8 : Int) < (N : Int)) := by omega
         by_cases h9 : 8 < B.k
         case pos =>
          have hd8 : decide ((8 : Int) < (B.k : Int)) = true := decide_eq_true (by omega)
          have hd8p : (8 : Int) < (B.k : Int) := by omega
          rcases hdd with hd3 | ⟨hd3, hd4⟩
          · first
            | (exfalso; omega)
            | (go_wp2_with fail; go_ret; exact ⟨⟨_, rfl, fun h => by cases h⟩, HBW.o⟩)
          · first
            | (exfalso; omega)
            | (go_wp2_with fail; go_ret; exact ⟨⟨_, rfl, fun h => by cases h⟩, HBW.o⟩)
         case neg =>
          have hd8 : decide ((8 : Int) < (B.k : Int)) = false := decide_eq_false (by omega)
          have hd8p : ¬ ((8 : Int) < (B.k : Int)) := by omega
          rcases hdd with hd3 | ⟨hd3, hd4⟩
          · first
            | (exfalso; omega)
            | (go_wp2_with fail; go_ret; exact ⟨⟨_, rfl, fun _ => HFIN.o (by omega) (by omega)⟩, HBW.o⟩)
          · first
            | (exfalso; omega)
            | (go_wp2_with fail; go_ret; exact ⟨⟨_, rfl, fun _ => HFIN.o (by omega) (by omega)⟩, HBW.o⟩)
open Go.ChangeShapes Go.WideShapes Go.ChangeAt Go.RowKit Num
theorem open_numsF {P : Program} {H : Type} {enc : TypeId × Value → H} {w : World} {base : Nat} {held : Bool} {t e : TypeId} {q : IntKind} {fuel : Nat} {v0 : Value} {y : DataW H × List MemPlace} (ht : P.underlying t = some (.slice e)) (he : P.underlying e = some (.int q)) (hc1 : P.cellsOf e = 1) (hf : DataW.trod enc P w base (fun _ => true) held fuel t [v0] = some y) :
    ∃ a n c xs, v0 = .slice a n c ∧ ShI q w a n xs ∧ (∀ x, x ∈ xs → (Lit.int q x).wf = true) ∧ (a = none → c = 0) ∧ n ≤ c ∧ c ≤ 9223372036854775807 := by
  rcases open_ints ht he hc1 hf with ⟨hcs, -⟩ | ⟨a, len, cap, zs, hcs, -, hl, hm, hz, -, hcell, hw⟩
  · simp at hcs
    exact ⟨none, 0, 0, [], hcs, .inl ⟨rfl, rfl⟩, (fun q hq => by cases hq), (fun _ => rfl), Nat.le_refl _, Nat.zero_le _⟩
  · simp at hcs
    subst hcs
    have hmc : zs.length = cap := by simpa using hz
    by_cases hl0 : len = 0
    · subst hl0
      exact ⟨_, _, _, [], rfl, .inl ⟨rfl, rfl⟩, (fun q hq => by cases hq), (fun h => by cases h), hl, by unfold maxLen at hm; omega⟩
    · obtain ⟨b, off, spot⟩ := a
      have g0 := hcell 0 (by omega)
      have hspot : spot = none := by simpa [Addr.add] using World.cell?_spot g0
      subst hspot
      have hlt : b < w.heap.size := by
       have := World.block_lt_of_cell? w _ g0
       simpa [add_plain'] using this
      refine ⟨_, _, _, zs.take len, rfl, .inr ⟨b, off, rfl, by simp; omega, hlt, fun i hi => ?_⟩, fun z hz => hw z (List.mem_of_mem_take hz), (fun h => by cases h), hl, by unfold maxLen at hm; omega⟩
      have hi' : i < len ∧ i < zs.length := by simp at hi; omega
      have e : (zs.take len).getD i 0 = zs.getD i 0 := by simp [List.getD_eq_getElem?_getD, List.getElem?_take, hi'.1]
      rw [e, ← add_plain']; exact hcell i hi'.2
theorem wf_i64 {x : Int} (h : (Lit.int .i64 x).wf = true) : -9223372036854775808 ≤ x ∧ x ≤ 9223372036854775807 := by
 have h := bounds_i64 h
 exact ⟨h.1, by have := h.2; omega⟩
theorem reveal_cells {H : Type} {enc : TypeId × Value → H} {w : World} {base : Nat} {held : Bool} {fuel : Nat} {cs : List Value} {x : DataW H × List MemPlace} (h2 : cs.length = 2) (hf : DataW.trod enc Tryd.prog w base (fun _ => true) held fuel 57 cs = some x) : ∃ R : Rv, cs = [.slice R.a R.n R.c, .slice R.b R.m R.d] ∧ RvIn w R := by
 obtain ⟨x0, x1, hl⟩ := list2 _ h2
 rw [hl] at hf
 obtain ⟨xs, k, hk, hxy, _, hxl, hff⟩ := DataW.trod_struct Tryd.underlying57 hf
 match xs, hxl with
 | [y0, y1], _ =>
  have c1 : Tryd.prog.cellsOf 54 = 1 := by kernel_rfl
  have c2 : Tryd.prog.cellsOf 55 = 1 := by kernel_rfl
  have g0 := hff 0 _ rfl
  have g1 := hff 1 _ rfl
  simp [c1, c2] at g0 g1
  obtain ⟨a, n, c, ms, rfl, q1, q2, q3, -⟩ := open_numsF Tryd.underlying54 Tryd.underlying3 (by kernel_rfl) g0
  obtain ⟨b, m, d, ns, rfl, q4, q5, q6, -⟩ := open_numsF Tryd.underlying55 Tryd.underlying24 (by kernel_rfl) g1
  exact ⟨⟨a, n, c, ms, b, m, d, ns⟩, hl, q1, fun x hx => wf_i64 (q2 x hx), q3, q4, fun x hx => U64.wf (q5 x hx), q6⟩
theorem open_reveal {H : Type} {enc : TypeId × Value → H} {w : World} {base : Nat} {held : Bool} {r : Reach} {b0 : Nat} {v : Value} {d : DataW H} {p : List MemPlace} (hv : Value.okWide Tryd.prog w r b0 57 v) (h : DataW.Trod enc Tryd.prog w base (fun _ => true) held 57 v d p) :
    ∃ R : Rv, v = R.v ∧ RvIn w R := by
  obtain ⟨cs, rfl, hsz⟩ := okWide_struct Tryd.underlying57 hv
  obtain ⟨fuel, hf⟩ := h
  simp only [Value.cells] at hf
  have h2 : cs.toList.length = 2 := by rw [Array.length_toList, hsz]; kernel_rfl
  obtain ⟨R, hl, hR⟩ := reveal_cells h2 hf
  refine ⟨R, ?_, hR⟩
  unfold Rv.v
  congr 1
  exact Array.toList_inj.1 hl
open Go.ChangeShapes Go.WideShapes Go.ChangeAt Go.RowKit
section
variable {H : Type} {enc : TypeId × Value → H} {w : World} {base : Nat} {spare : Nat → Bool} {held : Bool} {r : Reach} {b0 : Nat} {v : Value} {d : DataW H} {p : List MemPlace}
end
theorem open_boolT {H : Type} {enc : TypeId × Value → H} {w : World} {base : Nat} {spare : Nat → Bool} {held : Bool} {r : Reach} {b0 : Nat} {v : Value} {d : DataW H} {p : List MemPlace} (hv : Value.okWide Tryd.prog w r b0 4 v) (h : DataW.Trod enc Tryd.prog w base spare held 4 v d p) : ∃ b, v = .bool b ∧ True := by
 obtain ⟨x, e, -⟩ := open_bool Tryd.underlying4 hv h
 exact ⟨x, e, trivial⟩
open Go Go.ChangeShapes Go.WideShapes Go.ChangeAt Go.RowKit Num Sha
theorem bulk_length {H : Type} (l : List (DataW H)) : l.length ≤ Rows.uptoBulkAll l := by
 induction l with
 | nil => simp [Rows.uptoBulkAll]
 | cons x r ih =>
  have h1 : 1 ≤ Rows.uptoBulk x := by
   cases x with
   | lit l => cases l <;> simp [Rows.uptoBulk]
   | nil => simp [Rows.uptoBulk]
   | ptr d => simp [Rows.uptoBulk]
   | slice elems spare => simp [Rows.uptoBulk]
   | agg parts => simp [Rows.uptoBulk]
   | iface t d => simp [Rows.uptoBulk]
   | map entries => simp [Rows.uptoBulk]
   | held h => simp [Rows.uptoBulk]
  simp only [Rows.uptoBulkAll, List.length_cons]
  omega
theorem slice_bulk {H : Type} {enc : TypeId × Value → H} {w : World} {base : Nat} {held : Bool} {t e : TypeId} {fuel n c : Nat} {a : Option Addr} {y : DataW H × List MemPlace} (ht : Tryd.prog.underlying t = some (.slice e)) (hf : DataW.trod enc Tryd.prog w base (fun _ => true) held fuel t [.slice a n c] = some y) : n ≤ Rows.uptoBulk y.1 := by
 rcases Deep.open_slice ht hf with ⟨hcs, -⟩ | ⟨ad, len, cap, m, k, D, Pl, hcs, -, hl, hm, hmm, hx, -⟩
 · simp at hcs; omega
 · simp at hcs
   obtain ⟨-, rfl, -⟩ := hcs
   rw [hx]
   have := bulk_length ((List.range n).map D)
   simp only [Rows.uptoBulk]
   rw [List.length_map, List.length_range] at this
   omega
theorem reveals_cells {H : Type} {enc : TypeId × Value → H} {w : World} {base : Nat} {held : Bool} {fuel : Nat} {v0 : Value} {y : DataW H × List MemPlace} (hf : DataW.trod enc Tryd.prog w base (fun _ => true) held fuel 51 [v0] = some y) :
    ∃ a n c l, v0 = .slice a n c ∧ ShR w a n l ∧ (a = none → c = 0) ∧ n ≤ c := by
  have c2 : Tryd.prog.cellsOf 57 = 2 := by kernel_rfl
  rcases Deep.open_slice Tryd.underlying51 hf with ⟨hcs, -⟩ | ⟨a, l0, c0, m, n, D, Pl, hcs, -, hl, hm, hmm, -, hx⟩
  · simp at hcs
    exact ⟨none, 0, 0, [], hcs, ShR.nil _ _, (fun _ => rfl), Nat.le_refl _⟩
  · simp at hcs
    subst hcs
    have hmc : m = c0 := by simpa using hmm
    have each : ∀ i, i < l0 → ∃ V : Rv, (∀ k u, V.vs[k]? = some u → w.cell? (a.add (i * 2 + k)) = some u) ∧ RvIn w V := by
     intro i hi
     obtain ⟨cs', h1, h2⟩ := hx i (by omega)
     rw [c2] at h1
     obtain ⟨_, hlen, hcell⟩ := World.cells?_some h1
     obtain ⟨V, rfl, hz⟩ := reveal_cells hlen h2
     refine ⟨V, fun k u hu => ?_, hz⟩
     have hk : k < 2 := by have := (List.getElem?_eq_some_iff.1 hu).1; simpa [Rv.vs] using this
     have := hcell k hk
     rw [Deep.add_add] at this
     rw [this]; exact hu
    haveI : Inhabited Rv := ⟨⟨none, 0, 0, [], none, 0, 0, []⟩⟩
    obtain ⟨q, hq⟩ := Deep.choose_lt each
    by_cases hl0 : l0 = 0
    · subst hl0
      exact ⟨_, _, _, [], rfl, ShR.nil _ _, (fun h => by cases h), hl⟩
    · obtain ⟨b, off, spot⟩ := a
      have g0 := (hq 0 (by omega)).1 0 _ rfl
      have hspot : spot = none := by simpa [Addr.add] using World.cell?_spot g0
      subst hspot
      have hlt : b < w.heap.size := by have := World.block_lt_of_cell? w _ g0; simpa [add_pl] using this
      refine ⟨_, _, _, (List.range l0).map q, rfl, .inr ⟨b, off, rfl, by simp, hlt, fun i hi k u hu => ?_, fun V hV => ?_⟩, (fun h => by cases h), hl⟩
      · have hi' : i < l0 := by simpa using hi
        have e : ((List.range l0).map q)[i] = q i := by simp
        rw [e] at hu
        have := (hq i hi').1 k u hu
        rwa [add_pl, ← Nat.add_assoc] at this
      · obtain ⟨i, hi, rfl⟩ := List.mem_map.1 hV
        exact (hq i (by simpa using hi)).2
theorem open_booth {H : Type} {enc : TypeId × Value → H} {w : World} {base : Nat} {held : Bool} {r : Reach} {b0 : Nat} {v : Value} {d : DataW H} {p : List MemPlace} (hv : Value.okWide Tryd.prog w r b0 53 v) (h : DataW.Trod enc Tryd.prog w base (fun _ => true) held 53 v d p) :
    ∃ B : Bo, v = B.v ∧ BoIn w B ∧ B.n + B.m + B.k ≤ Rows.uptoBulk d := by
  obtain ⟨cs, rfl, hsz⟩ := okWide_struct Tryd.underlying53 hv
  obtain ⟨fuel, hf⟩ := h
  simp only [Value.cells] at hf
  have h2 : cs.toList.length = 3 := by rw [Array.length_toList, hsz]; kernel_rfl
  obtain ⟨x0, x1, x2, hl⟩ : ∃ x0 x1 x2, cs.toList = [x0, x1, x2] := by
   match h : cs.toList, h2 with
   | [x0, x1, x2], _ => exact ⟨x0, x1, x2, rfl⟩
  rw [hl] at hf
  obtain ⟨xs, k, hk, hxy, _, hxl, hff⟩ := DataW.trod_struct Tryd.underlying53 hf
  match xs, hxl with
  | [y0, y1, y2], _ =>
   have c1 : Tryd.prog.cellsOf 50 = 1 := by kernel_rfl
   have c2 : Tryd.prog.cellsOf 51 = 1 := by kernel_rfl
   have g0 := hff 0 _ rfl
   have g1 := hff 1 _ rfl
   have g2 := hff 2 _ rfl
   simp [c1, c2] at g0 g1 g2
   obtain ⟨a, n, c, l, rfl, q1, q2, -⟩ := votes_cells g0
   obtain ⟨b, m, d', l', rfl, q3, q4, -⟩ := votes_cells g1
   obtain ⟨e, j, f, rs, rfl, q5, q6, -⟩ := reveals_cells g2
   have b0 := slice_bulk Tryd.underlying50 g0
   have b1 := slice_bulk Tryd.underlying50 g1
   have b2 := slice_bulk Tryd.underlying51 g2
   refine ⟨⟨a, n, c, l, b, m, d', l', e, j, f, rs⟩, ?_, ⟨q1, q2, q3, q4, q5, q6⟩, ?_⟩
   · unfold Bo.v
     congr 1
     exact Array.toList_inj.1 hl
   · simp only [Prod.mk.injEq] at hxy
     rw [hxy.1]
     simp only [List.map_cons, List.map_nil, Rows.uptoBulk, Rows.uptoBulkAll]
     show n + m + j ≤ _
     omega
open Go Go.RowKit Num Sha
def sealE (P Q G y n : Int) (ms : List Int) (one : Bool) : Int := if chkB P Q G y n ≠ 0 then chkB P Q G y n else if markedS n ms = true ∧ (one = true → ms.length ≤ 1) then 0 else 2
def manyS (n : Int) (one : Bool) : Nat := 4 * n.toNat + if one then 3 else 0
def SealR (w : World) (P Q G y n : Int) (ms : List Int) (one : Bool) (seed : List Int) (e : Ending) (w' : World) : Prop := Below w.heap.size w w' ∧
  ((sealE P Q G y n ms one ≠ 0 ∧ e = .returned (.tuple #[.agg #[.slice none 0 0, .slice none 0 0, .bool false, .int .u64 0, .int .u64 0, .int .u64 0, .int .u64 0, .int .u64 0, .int .u64 0, .int .u64 0, .int .u64 0], .agg #[.slice none 0 0, .slice none 0 0], .int .i64 (sealE P Q G y n ms one)])) ∨ (sealE P Q G y n ms one = 0 ∧
    ((sampS seed Q (manyS n one) = none ∧ e = .returned (.tuple #[.agg #[.slice none 0 0, .slice none 0 0, .bool false, .int .u64 0, .int .u64 0, .int .u64 0, .int .u64 0, .int .u64 0, .int .u64 0, .int .u64 0, .int .u64 0], .agg #[.slice none 0 0, .slice none 0 0], .int .i64 6])) ∨
      ∃ d V R, sampS seed Q (manyS n one) = some d ∧ e = .returned (.tuple #[V.v, R.v, .int .i64 0]) ∧ SealV P Q G y n.toNat ms one d V R ∧ VtIn w' V ∧ RvIn w' R)))
theorem markedFrom_len {n : Int} : ∀ (l : List Int) (last : Int), last < n → markedFrom n last l = true → (l.length : Int) ≤ n - 1 - last
  | [], last, h, _ => by simp; omega
  | i :: l, last, h, hm => by
   unfold markedFrom at hm
   split at hm
   · cases hm
   · have := markedFrom_len l i (by omega) hm
     rw [List.length_cons]; omega
theorem markedS_len {n : Int} {l : List Int} (h0 : 0 ≤ n) (h : markedS n l = true) : (l.length : Int) ≤ n := by
 have := markedFrom_len l (-1) (by omega) h; omega
theorem res_seal {w : World} {fn : Func} {c d t : Tmp} {b b' : Nat} {a0 a1 a2 a3 : Option Addr} {n0 n1 c0 c1 n2 n3 c2 c3 : Nat} {o2 : Bool} {i3 i4 i5 i6 i7 i8 i9 i10 : Int} {v : Value} (h : fn.results = #[.cell c 29, .cell d 57, .tmp t])
    (hp : Cl w b [.slice a0 n0 c0, .slice a1 n1 c1, .bool o2, .int .u64 i3, .int .u64 i4, .int .u64 i5, .int .u64 i6, .int .u64 i7, .int .u64 i8, .int .u64 i9, .int .u64 i10]) (hq : Cl w b' [.slice a2 n2 c2, .slice a3 n3 c3]) (tmps : Array Value)
    (hc : tmps[c]?.getD undef = .pointer (some ⟨b, 0, none⟩)) (hd : tmps[d]?.getD undef = .pointer (some ⟨b', 0, none⟩)) (ht : tmps[t]?.getD undef = v) : (results fn tmps).run Tryd.prog w = .ok (.tuple #[.agg #[.slice a0 n0 c0, .slice a1 n1 c1, .bool o2, .int .u64 i3, .int .u64 i4, .int .u64 i5, .int .u64 i6, .int .u64 i7, .int .u64 i8, .int .u64 i9, .int .u64 i10], .agg #[.slice a2 n2 c2, .slice a3 n3 c3], v]) w := by
  obtain ⟨⟨q0, q1, q2, q3, q4, q5, q6, q7, q8, q9, q10⟩, -⟩ := hp.k11
  have r0 := hq.c 0 _ rfl
  have r1 := hq.c 1 _ rfl
  simp [results, h, hc, hd, ht, go_sem, q0, q1, q2, q3, q4, q5, q6, q7, q8, q9, q10, r0, r1]
set_option maxHeartbeats 8000000 in
theorem seal_bad {P Q G y n : Int} {a : Option Addr} {m c : Nat} {ms seed : List Int} {one : Bool} (w : World) (hT : Tabs w) (hP : 0 ≤ P) (hQ : 0 ≤ Q) (hG : 0 ≤ G) (hy : 0 ≤ y) (hS : ShI .i64 w a m ms) (hkc : a = none → c = 0) (hu : ∀ x, x ∈ ms → -9223372036854775808 ≤ x ∧ x ≤ 9223372036854775807) (hm : m ≤ 9223372036854775807) (hsl : seed.length = 32) (hby : ByteL seed) (hE : sealE P Q G y n ms one ≠ 0) :
    Calls Tryd.prog 24 #[.agg #[.int .u64 P, .int .u64 Q, .int .u64 G], .int .u64 y, .int .i64 n, .slice a m c, .bool one, .agg (valV .u8 seed)] w (SealR w P Q G y n ms one seed) := by
  have HE := Lh hE
  clear hE
  have HT := Lh hT
  have HS := Lh hS
  have HU := Lh hu
  have HLM := Lh hS.len
  have HSL := Lh hsl
  have HBY := Lh hby
  have F_g := Lh (show Cl ((((w.alloc (.cells #[.int .u64 P, .int .u64 Q, .int .u64 G] 49)).alloc (.cells (valV .u8 seed) 37)).alloc (.cells #[.slice none 0 0, .slice none 0 0, .bool false, .int .u64 0, .int .u64 0, .int .u64 0, .int .u64 0, .int .u64 0, .int .u64 0, .int .u64 0, .int .u64 0] 29)).alloc (.cells #[.slice none 0 0, .slice none 0 0] 57)) w.heap.size [.int .u64 P, .int .u64 Q, .int .u64 G] from (((Cl.at w [.int .u64 P, .int .u64 Q, .int .u64 G] _ w.heap.size rfl).alloc _).alloc _).alloc _)
  have F_s := Lh (show Arr .u8 ((((w.alloc (.cells #[.int .u64 P, .int .u64 Q, .int .u64 G] 49)).alloc (.cells (valV .u8 seed) 37)).alloc (.cells #[.slice none 0 0, .slice none 0 0, .bool false, .int .u64 0, .int .u64 0, .int .u64 0, .int .u64 0, .int .u64 0, .int .u64 0, .int .u64 0, .int .u64 0] 29)).alloc (.cells #[.slice none 0 0, .slice none 0 0] 57)) (w.heap.size + 1) seed from (((Arr.new .u8 (w.alloc (.cells #[.int .u64 P, .int .u64 Q, .int .u64 G] 49)) seed 37 (w.heap.size + 1) (by simp)).keep ((Below.refl _ _).alloc (Nat.le_refl _) _)).keep ((Below.refl _ _).alloc (Nat.le_refl _) _)))
  have F_o := Lh (show Cl ((((w.alloc (.cells #[.int .u64 P, .int .u64 Q, .int .u64 G] 49)).alloc (.cells (valV .u8 seed) 37)).alloc (.cells #[.slice none 0 0, .slice none 0 0, .bool false, .int .u64 0, .int .u64 0, .int .u64 0, .int .u64 0, .int .u64 0, .int .u64 0, .int .u64 0, .int .u64 0] 29)).alloc (.cells #[.slice none 0 0, .slice none 0 0] 57)) (w.heap.size + 1 + 1) [.slice none 0 0, .slice none 0 0, .bool false, .int .u64 0, .int .u64 0, .int .u64 0, .int .u64 0, .int .u64 0, .int .u64 0, .int .u64 0, .int .u64 0] from (Cl.at ((w.alloc (.cells #[.int .u64 P, .int .u64 Q, .int .u64 G] 49)).alloc (.cells (valV .u8 seed) 37)) [.slice none 0 0, .slice none 0 0, .bool false, .int .u64 0, .int .u64 0, .int .u64 0, .int .u64 0, .int .u64 0, .int .u64 0, .int .u64 0, .int .u64 0] _ (w.heap.size + 1 + 1) (by simp)).alloc _)
  have F_q := Lh (show Cl ((((w.alloc (.cells #[.int .u64 P, .int .u64 Q, .int .u64 G] 49)).alloc (.cells (valV .u8 seed) 37)).alloc (.cells #[.slice none 0 0, .slice none 0 0, .bool false, .int .u64 0, .int .u64 0, .int .u64 0, .int .u64 0, .int .u64 0, .int .u64 0, .int .u64 0, .int .u64 0] 29)).alloc (.cells #[.slice none 0 0, .slice none 0 0] 57)) (w.heap.size + 1 + 1 + 1) [.slice none 0 0, .slice none 0 0] from Cl.at (((w.alloc (.cells #[.int .u64 P, .int .u64 Q, .int .u64 G] 49)).alloc (.cells (valV .u8 seed) 37)).alloc (.cells #[.slice none 0 0, .slice none 0 0, .bool false, .int .u64 0, .int .u64 0, .int .u64 0, .int .u64 0, .int .u64 0, .int .u64 0, .int .u64 0, .int .u64 0] 29)) [.slice none 0 0, .slice none 0 0] _ (w.heap.size + 1 + 1 + 1) (by simp))
  have HBW := Lh (show Below w.heap.size w ((((w.alloc (.cells #[.int .u64 P, .int .u64 Q, .int .u64 G] 49)).alloc (.cells (valV .u8 seed) 37)).alloc (.cells #[.slice none 0 0, .slice none 0 0, .bool false, .int .u64 0, .int .u64 0, .int .u64 0, .int .u64 0, .int .u64 0, .int .u64 0, .int .u64 0, .int .u64 0] 29)).alloc (.cells #[.slice none 0 0, .slice none 0 0] 57)) from ((((Below.refl _ _).alloc (Nat.le_refl _) _).alloc (by simp) _).alloc (by simp <;> omega) _).alloc (by simp <;> omega) _)
  have g0 := F_g.o.c 0 _ rfl
  have g1 := F_g.o.c 1 _ rfl
  have g2 := F_g.o.c 2 _ rfl
  clear hT hS hu hsl hby
  go_enter Tryd.func24, Tryd.ntmps24
  go_wp2_with fail
  clear g0 g1 g2
  refine (bcheck_any _ hP hQ hG hy).mono ?_
  rintro e w1 ⟨rfl, hb1⟩
  replace F_g := Lh (F_g.o.keep hb1)
  replace F_s := Lh (F_s.o.keep hb1)
  replace F_o := Lh (F_o.o.keep hb1)
  replace F_q := Lh (F_q.o.keep hb1)
  replace HBW := Lh (HBW.o.trans (hb1.mono HBW.o.size))
  clear hb1
  by_cases hk : chkB P Q G y n = 0
  case neg =>
   have HK := Lh (show sealE P Q G y n ms one = chkB P Q G y n by rw [sealE, if_pos hk])
   go_wp2_with (first
     | (refine wpL_storeCl rfl 29 (.tmp 12) (.tmp 36) (w.heap.size + 1 + 1) 0 _ [.slice none 0 0, .slice none 0 0, .bool false, .int .u64 0, .int .u64 0, .int .u64 0, .int .u64 0, .int .u64 0, .int .u64 0, .int .u64 0, .int .u64 0] [.slice none 0 0, .slice none 0 0, .bool false, .int .u64 0, .int .u64 0, .int .u64 0, .int .u64 0, .int .u64 0, .int .u64 0, .int .u64 0, .int .u64 0] rfl rfl rfl rfl (by kernel_rfl) (by intro u hu; simp at hu; rcases hu with rfl | rfl | rfl | rfl | rfl | rfl | rfl | rfl | rfl | rfl | rfl <;> rfl) F_o.o (by simp) rfl ?_
        intro wx hc8 hg8 hz8
        have F_x := Lh hc8
        have HGx := Lh hg8
        have hz_wx := hz8
        clear hc8 hg8 hz8)
     | (refine wpL_storeCl rfl 57 (.tmp 13) (.tmp 37) (w.heap.size + 1 + 1 + 1) 0 _ [.slice none 0 0, .slice none 0 0] [.slice none 0 0, .slice none 0 0] rfl rfl rfl rfl (by kernel_rfl) (by intro u hu; simp at hu; rcases hu with rfl | rfl <;> rfl) (F_q.o.gro HGx.o (by omega)) (by simp) rfl ?_
        intro wz hc8 hg8 hz8
        have F_z := Lh hc8
        have HGz := Lh hg8
        have hz_wz := hz8
        clear hc8 hg8 hz8))
   refine bodyPost_ret (res_seal rfl (F_x.o.gro HGz.o (by omega)) F_z.o _ rfl rfl rfl) rfl ?_
   exact ⟨(HBW.o.trans (HGx.o.blw (n := w.heap.size) (by omega) HBW.o.size)).trans (HGz.o.blw (n := w.heap.size) (by omega) (by have := HBW.o.size; omega)), .inl ⟨HE.o, by rw [HK.o]; rfl⟩⟩
  case pos =>
   have HK := Lh hk
   rw [hk]
   clear hk
   go_wp2_with fail
   refine (marked_any _ (HS.o.keep HBW.o) (by omega)).mono ?_
   rintro e w3 ⟨rfl, rfl⟩
   obtain ⟨mk, hmk⟩ : ∃ mk, markedS n ms = mk := ⟨_, rfl⟩
   have HMK := Lh hmk
   rw [hmk]
   clear hmk
   cases mk with
   | false =>
    have HR := Lh (show sealE P Q G y n ms one = 2 by rw [sealE, if_neg (by rw [HK.o]; simp), if_neg (by rw [HMK.o]; simp)])
    go_wp2_with (first
      | (refine wpL_storeCl rfl 29 (.tmp 12) (.tmp 51) (w.heap.size + 1 + 1) 0 _ [.slice none 0 0, .slice none 0 0, .bool false, .int .u64 0, .int .u64 0, .int .u64 0, .int .u64 0, .int .u64 0, .int .u64 0, .int .u64 0, .int .u64 0] [.slice none 0 0, .slice none 0 0, .bool false, .int .u64 0, .int .u64 0, .int .u64 0, .int .u64 0, .int .u64 0, .int .u64 0, .int .u64 0, .int .u64 0] rfl rfl rfl rfl (by kernel_rfl) (by intro u hu; simp at hu; rcases hu with rfl | rfl | rfl | rfl | rfl | rfl | rfl | rfl | rfl | rfl | rfl <;> rfl) F_o.o (by simp) rfl ?_
         intro wx hc8 hg8 hz8
         have F_x := Lh hc8
         have HGx := Lh hg8
         have hz_wx := hz8
         clear hc8 hg8 hz8)
      | (refine wpL_storeCl rfl 57 (.tmp 13) (.tmp 52) (w.heap.size + 1 + 1 + 1) 0 _ [.slice none 0 0, .slice none 0 0] [.slice none 0 0, .slice none 0 0] rfl rfl rfl rfl (by kernel_rfl) (by intro u hu; simp at hu; rcases hu with rfl | rfl <;> rfl) (F_q.o.gro HGx.o (by omega)) (by simp) rfl ?_
         intro wz hc8 hg8 hz8
         have F_z := Lh hc8
         have HGz := Lh hg8
         have hz_wz := hz8
         clear hc8 hg8 hz8))
    refine bodyPost_ret (res_seal rfl (F_x.o.gro HGz.o (by omega)) F_z.o _ rfl rfl rfl) rfl ?_
    exact ⟨(HBW.o.trans (HGx.o.blw (n := w.heap.size) (by omega) HBW.o.size)).trans (HGz.o.blw (n := w.heap.size) (by omega) (by have := HBW.o.size; omega)), .inl ⟨HE.o, by rw [HR.o]; rfl⟩⟩
   | true =>
    cases one with
    | false => exact absurd (by rw [sealE, if_neg (by rw [HK.o]; simp), if_pos ⟨HMK.o, by simp⟩]) HE.o
    | true =>
     by_cases hl : m ≤ 1
     · exact absurd (by rw [sealE, if_neg (by rw [HK.o]; simp), if_pos ⟨HMK.o, fun _ => by rw [← HLM.o]; exact hl⟩]) HE.o
     · have d1 : decide ((1 : Int) < (m : Int)) = true := decide_eq_true (by omega)
       have d2 : decide ((m : Int) > 1) = true := decide_eq_true (by omega)
       have HR := Lh (show sealE P Q G y n ms true = 2 by rw [sealE, if_neg (by rw [HK.o]; simp), if_neg (by rintro ⟨-, h⟩; have := h rfl; rw [← HLM.o] at this; exact hl this)])
       clear hl
       go_wp2_with (first
         | (refine wpL_storeCl rfl 29 (.tmp 12) (.tmp 51) (w.heap.size + 1 + 1) 0 _ [.slice none 0 0, .slice none 0 0, .bool false, .int .u64 0, .int .u64 0, .int .u64 0, .int .u64 0, .int .u64 0, .int .u64 0, .int .u64 0, .int .u64 0] [.slice none 0 0, .slice none 0 0, .bool false, .int .u64 0, .int .u64 0, .int .u64 0, .int .u64 0, .int .u64 0, .int .u64 0, .int .u64 0, .int .u64 0] rfl rfl rfl rfl (by kernel_rfl) (by intro u hu; simp at hu; rcases hu with rfl | rfl | rfl | rfl | rfl | rfl | rfl | rfl | rfl | rfl | rfl <;> rfl) F_o.o (by simp) rfl ?_
            intro wx hc8 hg8 hz8
            have F_x := Lh hc8
            have HGx := Lh hg8
            have hz_wx := hz8
            clear hc8 hg8 hz8)
         | (refine wpL_storeCl rfl 57 (.tmp 13) (.tmp 52) (w.heap.size + 1 + 1 + 1) 0 _ [.slice none 0 0, .slice none 0 0] [.slice none 0 0, .slice none 0 0] rfl rfl rfl rfl (by kernel_rfl) (by intro u hu; simp at hu; rcases hu with rfl | rfl <;> rfl) (F_q.o.gro HGx.o (by omega)) (by simp) rfl ?_
            intro wz hc8 hg8 hz8
            have F_z := Lh hc8
            have HGz := Lh hg8
            have hz_wz := hz8
            clear hc8 hg8 hz8))
       refine bodyPost_ret (res_seal rfl (F_x.o.gro HGz.o (by omega)) F_z.o _ rfl rfl rfl) rfl ?_
       exact ⟨(HBW.o.trans (HGx.o.blw (n := w.heap.size) (by omega) HBW.o.size)).trans (HGz.o.blw (n := w.heap.size) (by omega) (by have := HBW.o.size; omega)), .inl ⟨HE.o, by rw [HR.o]; rfl⟩⟩
end Go.Proofs.YtlbldpkgnonbpaaDoor
