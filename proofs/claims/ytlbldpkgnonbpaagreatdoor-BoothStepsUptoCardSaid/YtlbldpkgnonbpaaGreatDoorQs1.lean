/- The reference's Same (for equal booths) and Great. -/
import Derived.Test.YtlbldpkgnonbpaaGreatDoorQs0
import Derived.Test.YtlbldpkgnonbpaaGreatDoorQsV
set_option linter.unusedSimpArgs false
set_option linter.unusedVariables false
set_option maxRecDepth 100000
namespace Go.Proofs.YtlbldpkgnonbpaaGreatDoor
open Go Go.RowKit Num Sha
structure RCells (w : World) (s p : Nat) (R : Rv) : Prop where
 lt : s < w.heap.size
 c0 : w.cell? ⟨s, p, none⟩ = some (.slice R.a R.n R.c)
 c1 : w.cell? ⟨s, p + 1, none⟩ = some (.slice R.b R.m R.d)
theorem RCells.keep {w w' : World} {s p : Nat} {R : Rv} (h : RCells w s p R) (hb : Below w.heap.size w w') : RCells w' s p R :=
 ⟨Nat.lt_of_lt_of_le h.lt hb.size, (hb.cell (p := ⟨s, p, none⟩) h.lt).trans h.c0, (hb.cell (p := ⟨s, p + 1, none⟩) h.lt).trans h.c1⟩
set_option maxHeartbeats 16000000 in
theorem rSame_aux36 {a1 a2 b1 b2 e1 e2 : Option Addr} {n m k c1 c2 d1 d2 f1 f2 : Nat} {l l' g g' : List Vt} {rs ts : List Rv} (w : World) (h1 : ShV w a1 n l) (h2 : ShV w b1 m l') (h3 : ShR w e1 k rs) (j1 : ShV w a2 n g) (j2 : ShV w b2 m g') (j3 : ShR w e2 k ts)
 (k1 : l.map Vt.key = g.map Vt.key) (k2 : l'.map Vt.key = g'.map Vt.key) (k3 : rs.map Rv.key = ts.map Rv.key) (hn : n ≤ 2097152) (hm : m ≤ 2097152) (hk : k ≤ 2097152) (s1 : ∀ V, V ∈ l → V.n ≤ 1000 ∧ V.m ≤ 1000) (s2 : ∀ V, V ∈ l' → V.n ≤ 1000 ∧ V.m ≤ 1000) (s3 : ∀ R, R ∈ rs → R.n ≤ 1000 ∧ R.m ≤ 1000) :
 Calls Tryz.prog 21 #[.agg #[.slice a1 n c1, .slice b1 m d1, .slice e1 k f1], .agg #[.slice a2 n c2, .slice b2 m d2, .slice e2 k f2]] w fun e w' => e = .returned (.bool true) ∧ Below w.heap.size w w' := by
 have H1 := Lh h1
 have H2 := Lh h2
 have H3 := Lh h3
 have J1 := Lh j1
 have J2 := Lh j2
 have J3 := Lh j3
 have K1 := Lh k1
 have K2 := Lh k2
 have K3 := Lh k3
 have S1 := Lh s1
 have S2 := Lh s2
 have S3 := Lh s3
 clear h1 h2 h3 j1 j2 j3 k1 k2 k3 s1 s2 s3
 obtain ⟨F_a, F_c, HBW⟩ := bx2 w [.slice a1 n c1, .slice b1 m d1, .slice e1 k f1] 55 [.slice a2 n c2, .slice b2 m d2, .slice e2 k f2] 55
 go_enter Tryz.func21, Tryz.ntmps21
 obtain ⟨qa0, qa1, qa2⟩ := F_a.o.k3
 obtain ⟨qc0, qc1, qc2⟩ := F_c.o.k3
 go_wp2_with fail
 clear qa0 qa1 qa2 qc0 qc1 qc2
 refine (rSameVotes_any _ (H1.o.keep HBW.o) (J1.o.keep HBW.o) K1.o hn S1.o).mono ?_
 rintro e w1 ⟨rfl, hb1⟩
 replace F_a := Lh (F_a.o.keep hb1)
 replace F_c := Lh (F_c.o.keep hb1)
 replace HBW := Kt HBW hb1
 clear hb1
 obtain ⟨qa0, qa1, qa2⟩ := F_a.o.k3
 obtain ⟨qc0, qc1, qc2⟩ := F_c.o.k3
 go_wp2_with fail
 clear qa0 qa1 qa2 qc0 qc1 qc2
 refine (rSameVotes_any _ (H2.o.keep HBW.o) (J2.o.keep HBW.o) K2.o hm S2.o).mono ?_
 rintro e w2 ⟨rfl, hb2⟩
 replace F_a := Lh (F_a.o.keep hb2)
 replace F_c := Lh (F_c.o.keep hb2)
 replace HBW := Kt HBW hb2
 clear hb2
 obtain ⟨qa0, qa1, qa2⟩ := F_a.o.k3
 obtain ⟨qc0, qc1, qc2⟩ := F_c.o.k3
 go_wp2_with fail
 clear qa0 qa1 qa2 qc0 qc1 qc2
 go_loopw [5] (fun c5 wr => ∃ i : Nat, i ≤ k ∧ c5 = .int .i64 i ∧ Hid (Cl wr w.heap.size [.slice a1 n c1, .slice b1 m d1, .slice e1 k f1]) ∧ Hid (Cl wr (w.heap.size + 1) [.slice a2 n c2, .slice b2 m d2, .slice e2 k f2]) ∧ Hid (Below w.heap.size w wr)) (fun c5 _ => k - (intOf c5).toNat)
 case atStart => exact ⟨0, by omega, rfl, F_a.o, F_c.o, HBW.o⟩
 case round =>
  clear F_a F_c HBW
  obtain ⟨i, hi, rfl, F_a, F_c, HBW⟩ := hrel
  have hwi : IntKind.i64.wrap ((i : Int) + 1) = (i : Int) + 1 := IntWalk.i64_in _ (by omega)
  have hi0 : (0 : Int) ≤ (i : Int) := by omega
  by_cases hlt : i < k
  case pos =>
   have hi2 : (i : Int) < (k : Int) := by omega
   have cR : Tryz.prog.cellsOf 36 = 2 := by kernel_rfl
   obtain ⟨s1, o1, R, hsa, hRL, hz1, r0, r1, hRin⟩ := (H3.o.keep HBW.o).at i hlt
   obtain ⟨s2, o2, T, hsb, hTL, hz2, u0, u1, hTin⟩ := (J3.o.keep HBW.o).at i hlt
   obtain ⟨T0, hT0, hkT⟩ := keys_get Rv.key K3.o hRL
   rw [hTL] at hT0
   obtain rfl := Option.some.inj hT0
   obtain ⟨g1, g2, g3, g4⟩ := Rv.same_of_key hkT
   have HKT := Lh (And.intro g2 g4)
   have HRN := Lh (S3.o R (List.mem_of_getElem? hRL))
   have HRC := Lh (RCells.mk hz1 r0 r1)
   have HTC := Lh (RCells.mk hz2 u0 u1)
   have HR := Lh hRin
   have HT := Lh hTin
   clear hRL hTL hRin hTin hT0 hkT g1 g2 g3 g4 r0 r1 u0 u1 hz1 hz2
   subst hsa hsb
   have a2' := F_a.o.c 2 _ rfl
   have b2' := F_c.o.c 2 _ rfl
   go_wp2_with fail
   clear a2' b2'
   replace F_a := Lh (F_a.o.keep (Below.refl _ _).drew)
   replace F_c := Lh (F_c.o.keep (Below.refl _ _).drew)
   replace HRC := Lh (HRC.o.keep (Below.refl _ _).drew)
   replace HTC := Lh (HTC.o.keep (Below.refl _ _).drew)
   replace HR := Lh (HR.o.keep (Below.refl _ _).drew)
   replace HT := Lh (HT.o.keep (Below.refl _ _).drew)
   replace HBW := Lh HBW.o.drew
   have hS0 := And.intro F_a.o (And.intro F_c.o (And.intro HRC.o HTC.o))
   refine wp_region_stage 10 (fun w' => Cl w' w.heap.size [.slice a1 n c1, .slice b1 m d1, .slice (some ⟨s1, o1, none⟩) k f1] ∧ Cl w' (w.heap.size + 1) [.slice a2 n c2, .slice b2 m d2, .slice (some ⟨s2, o2, none⟩) k f2] ∧ RCells w' s1 (o1 + i * 2) R ∧ RCells w' s2 (o2 + i * 2) T) (by kernel_rfl) ?_
   refine tkP (i := 0) (some 36) (.fieldAddr 55 (.tmp 2) 2) 0 (fun _ => hS0) ?_
   simp only [sY]
   refine tkL (i := 1) (some 37) (.load 53 (.tmp 36)) 53 [3, 4, 10] (v := ?_) hS0 (fun w' hSw => ?_) ?_
   rotate_left
   · obtain ⟨t1, t2, t3, t4⟩ := hSw; have a2 := t1.c 2 _ rfl; have b2 := t2.c 2 _ rfl; obtain ⟨-, r0, r1⟩ := t3; obtain ⟨-, u0, u1⟩ := t4
     unfold bareOp; go_simp; try with_reducible rfl
   simp only [sY]
   refine tkP (i := 2) (some 38) (.move (.tmp 5)) 3 (fun _ => hS0) ?_
   simp only [sY]
   refine tkP (i := 3) (some 39) (.indexAddr 53 (.tmp 37) (.tmp 38)) 0 (fun _ => hS0) ?_
   simp only [sY]
   refine tkL (i := 4) (some 40) (.load 36 (.tmp 39)) 36 [10] (v := ?_) hS0 (fun w' hSw => ?_) ?_
   rotate_left
   · obtain ⟨t1, t2, t3, t4⟩ := hSw; have a2 := t1.c 2 _ rfl; have b2 := t2.c 2 _ rfl; obtain ⟨-, r0, r1⟩ := t3; obtain ⟨-, u0, u1⟩ := t4
     unfold bareOp; go_simp; try with_reducible rfl
   simp only [sY]
   refine tkP (i := 5) (some 41) (.fieldAddr 55 (.tmp 3) 2) 0 (fun _ => hS0) ?_
   simp only [sY]
   refine tkL (i := 6) (some 42) (.load 53 (.tmp 41)) 53 [8, 9, 10] (v := ?_) hS0 (fun w' hSw => ?_) ?_
   rotate_left
   · obtain ⟨t1, t2, t3, t4⟩ := hSw; have a2 := t1.c 2 _ rfl; have b2 := t2.c 2 _ rfl; obtain ⟨-, r0, r1⟩ := t3; obtain ⟨-, u0, u1⟩ := t4
     unfold bareOp; go_simp; try with_reducible rfl
   simp only [sY]
   refine tkP (i := 7) (some 43) (.move (.tmp 5)) 3 (fun _ => hS0) ?_
   simp only [sY]
   refine tkP (i := 8) (some 44) (.indexAddr 53 (.tmp 42) (.tmp 43)) 0 (fun _ => hS0) ?_
   simp only [sY]
   refine tkL (i := 9) (some 45) (.load 36 (.tmp 44)) 36 [10] (v := ?_) hS0 (fun w' hSw => ?_) ?_
   rotate_left
   · obtain ⟨t1, t2, t3, t4⟩ := hSw; have a2 := t1.c 2 _ rfl; have b2 := t2.c 2 _ rfl; obtain ⟨-, r0, r1⟩ := t3; obtain ⟨-, u0, u1⟩ := t4
     unfold bareOp; go_simp; try with_reducible rfl
   simp only [sY]
   refine onl (i := 10) (some 46) (.call { callee := .value (.func 11), args := #[.tmp 40, .tmp 45], argTypes := #[36, 36] }) 4 (fun K hK => ?_)
   unfold bareOp
   refine OpW.out (wp_of_enter (run_call _ _ _ _ 11 Tryz.func11 (vs := #[R.v, T.v]) (by simp only [List.map_toArray, List.map_cons, List.map_nil]; rfl) rfl (by kernel_rfl) (by kernel_rfl)) (rReveal_any (R := R) (S := T) _ HR.o HT.o HKT.o.1 HKT.o.2 HRN.o.1 HRN.o.2) ?_)
   rintro e w5 ⟨rfl, hb5⟩
   refine ⟨_, rfl, ?_⟩
   replace F_a := Lh (F_a.o.keep hb5)
   replace F_c := Lh (F_c.o.keep hb5)
   replace HRC := Lh (HRC.o.keep hb5)
   replace HTC := Lh (HTC.o.keep hb5)
   replace HR := Lh (HR.o.keep hb5)
   replace HT := Lh (HT.o.keep hb5)
   replace HBW := Kt HBW hb5
   clear hb5 hS0
   have hS0 := And.intro F_a.o (And.intro F_c.o (And.intro HRC.o HTC.o))
   refine hK.o _ _ lt8 ?_
   clear hK K
   try simp only [sY]
   refine tkP (i := 11) (some 47) (.unOp .not 4 (.tmp 46)) 4 lt8 ?_
   simp only [sY]
   refine wpAnyB_done (by kernel_rfl) ?_ _
   go_wp2_with fail
   go_roundw
   case rel => exact ⟨i + 1, by omega, by go_num, F_a.o, F_c.o, HBW.o⟩
   case measure => simp [intOf] <;> omega
  case neg =>
   have hd : decide ((i : Int) < (k : Int)) = false := decide_eq_false (by omega)
   have hdp : ¬ ((i : Int) < (k : Int)) := by omega
   have hd' : ¬ ((i : Int) < (k : Int)) := by omega
   have a2' := F_a.o.c 2 _ rfl
   have b2' := F_c.o.c 2 _ rfl
   go_wp2_with fail
   go_ret
   exact ⟨rfl, HBW.o⟩
theorem rSame36_any {B C : Bo} (w : World) (hB : BoIn w B) (hC : BoIn w C) (hS : SameB C B.l B.l' B.rs) (hn : B.n ≤ 2097152) (hm : B.m ≤ 2097152) (hk : B.k ≤ 2097152) (s1 : ∀ V, V ∈ C.l ++ C.l' → V.n ≤ 1000 ∧ V.m ≤ 1000) (s3 : ∀ R, R ∈ C.rs → R.n ≤ 1000 ∧ R.m ≤ 1000) :
 Calls Tryz.prog 21 #[C.v, B.v] w fun e w' => e = .returned (.bool true) ∧ Below w.heap.size w w' := by
 have e1 := hB.h1.len
 have e2 := hB.h2.len
 have e3 := hB.h3.len
 have g1 := hC.h1.len
 have g2 := hC.h2.len
 have g3 := hC.h3.len
 have q1 := congrArg List.length hS.k1
 have q2 := congrArg List.length hS.k2
 have q3 := congrArg List.length hS.k3
 simp only [List.length_map] at q1 q2 q3
 obtain ⟨a1, n, c1, l, b1, m, d1, l', x1, k, f1, rs⟩ := B
 obtain ⟨a2, n', c2, g, b2, m', d2, g', x2, k', f2, ts⟩ := C
 simp only at *
 obtain rfl : n' = n := by omega
 obtain rfl : m' = m := by omega
 obtain rfl : k' = k := by omega
 exact rSame_aux36 w hC.h1 hC.h2 hC.h3 hB.h1 hB.h2 hB.h3 hS.k1 hS.k2 hS.k3 hn hm hk (fun V h => s1 V (List.mem_append.2 (.inl h))) (fun V h => s1 V (List.mem_append.2 (.inr h))) s3
structure BoFew (B : Bo) : Prop where
 f1 : B.n + B.m ≤ 8
 f2 : B.k ≤ 8
 f3 : ∀ V, V ∈ B.l ++ B.l' → V.n ≤ 20 ∧ V.m ≤ 20
 f4 : ∀ R, R ∈ B.rs → R.n ≤ 20 ∧ R.m ≤ 20
def GreatR (B : Bo) (e : Ending) : Prop := ∃ r, e = .returned (.bool r) ∧ (r = false → BoFew B)
theorem take_step {α : Type} {L : List α} {i : Nat} {x : α} {p : α → Prop} (h : ∀ y, y ∈ L.take i → p y) (hx : L[i]? = some x) (hp : p x) : ∀ y, y ∈ L.take (i + 1) → p y := by
 intro y hy
 rw [take_snoc hx] at hy
 rcases List.mem_append.1 hy with hy | hy
 · exact h y hy
 · rw [List.mem_singleton] at hy; rw [hy]; exact hp
theorem greatV_no {V : Vt} (h : greatV V = false) : V.n ≤ 20 ∧ V.m ≤ 20 := by
 simp [greatV] at h
 omega
set_option maxHeartbeats 16000000 in
theorem rGreat_any {B : Bo} (w : World) (hB : BoIn w B) (hn : B.n + B.m ≤ 2097152) (hk : B.k ≤ 2097152) :
 Calls Tryz.prog 14 #[B.v] w fun e w' => GreatR B e ∧ Below w.heap.size w w' := by
 have HB := Lh hB
 clear hB
 unfold Bo.v
 obtain ⟨F_b, HBW⟩ := bx1 w [.slice B.a B.n B.c, .slice B.b B.m B.d, .slice B.e B.k B.f] 55
 go_enter Tryz.func14, Tryz.ntmps14
 obtain ⟨qb0, qb1, qb2⟩ := F_b.o.k3
 go_wp2_with fail
 clear qb0 qb1 qb2
 refine (rAll_any (B := B) _ (HB.o.keep HBW.o) hn).mono ?_
 rintro e w1 ⟨⟨v1, rfl, ho1⟩, hb1⟩
 replace F_b := Lh (F_b.o.keep hb1)
 replace HBW := Kt HBW hb1
 clear hb1
 have HB1 := Lh (HB.o.keep HBW.o)
 obtain ⟨al, cl, rfl, hS1, -, -⟩ := ShV.of_owned ho1 (fun V hV => by
  rcases List.mem_append.1 hV with h | h
  · rcases HB1.o.h1 with ⟨-, h0⟩ | ⟨s, o, -, -, hr⟩
    · rw [h0] at h; cases h
    · exact hr.ok V h
  · rcases HB1.o.h2 with ⟨-, h0⟩ | ⟨s, o, -, -, hr⟩
    · rw [h0] at h; cases h
    · exact hr.ok V h)
 have HS1 := Lh hS1
 clear ho1 hS1
 obtain ⟨N, hN⟩ : ∃ N, B.n + B.m = N := ⟨_, rfl⟩
 obtain ⟨L, hL⟩ : ∃ L, B.l ++ B.l' = L := ⟨_, rfl⟩
 have HN := Lh hN
 have HL := Lh hL
 rw [hN] at HS1 hn ⊢
 rw [hL] at HS1
 clear hN hL
 go_wp2_with fail
 go_loopw [4] (fun c4 wr => ∃ i : Nat, i ≤ N ∧ i ≤ 20 ∧ c4 = .int .i64 i ∧ Hid (Cl wr w.heap.size [.slice B.a B.n B.c, .slice B.b B.m B.d, .slice B.e B.k B.f]) ∧ Hid (∀ V, V ∈ L.take i → greatV V = false) ∧ Hid (Below w1.heap.size w1 wr)) (fun c4 _ => N - (intOf c4).toNat)
 case atStart => exact ⟨0, by omega, by omega, rfl, F_b.o, (by rw [List.take_zero]; intro V hV; cases hV), Below.refl _ _⟩
 case round =>
  clear F_b
  obtain ⟨i, hi, hi20, rfl, F_b, HI, HB2⟩ := hrel
  have hwi : IntKind.i64.wrap ((i : Int) + 1) = (i : Int) + 1 := IntWalk.i64_in _ (by omega)
  have hi0 : (0 : Int) ≤ (i : Int) := by omega
  by_cases hlt : i < N ∧ i < 20
  case pos =>
   obtain ⟨hlt, hl20⟩ := hlt
   have hi2 : (i : Int) < (N : Int) := by omega
   have hi3 : (i : Int) < 20 := by omega
   have hd1 : decide ((i : Int) < (N : Int)) = true := decide_eq_true (by omega)
   have hd1p : (i : Int) < (N : Int) := by omega
   have hd2 : decide ((i : Int) < 20) = true := decide_eq_true (by omega)
   have hd2p : (i : Int) < 20 := by omega
   have cV : Tryz.prog.cellsOf 33 = 11 := by kernel_rfl
   obtain ⟨s, o, V, hsa, hVL, hvc, hVin⟩ := (HS1.o.keep HB2.o).at i hlt
   subst hsa
   have HVL := Lh hVL
   obtain ⟨-, e0, e1, e2, e3, e4, e5, e6, e7, e8, e9, e10⟩ := hvc
   clear hVL hVin
   go_wp2_with fail
   clear e0 e1 e2 e3 e4 e5 e6 e7 e8 e9 e10
   refine (greatV_any (V := V) _).mono ?_
   rintro e w3 ⟨rfl, hb3⟩
   replace F_b := Lh (F_b.o.keep hb3)
   replace HB2 := Lh (HB2.o.trans (hb3.mono HB2.o.size))
   clear hb3
   cases hg : greatV V with
   | true =>
    go_wp2_with fail
    go_ret
    exact ⟨⟨_, rfl, fun h => by cases h⟩, HBW.o.trans (HB2.o.mono HBW.o.size)⟩
   | false =>
    go_wp2_with fail
    go_roundw
    case rel => exact ⟨i + 1, by omega, by omega, by go_num, F_b.o, take_step HI.o HVL.o hg, HB2.o⟩
    case measure => simp [intOf] <;> omega
  case neg =>
   have HF := Lh (show N ≤ 8 → ∀ V, V ∈ L → greatV V = false from fun h8 => by
    have h := HI.o
    rw [List.take_of_length_le (by have := HS1.o.len; omega)] at h
    exact h)
   have hdd : (¬ ((i : Int) < (N : Int))) ∨ ((i : Int) < (N : Int) ∧ ¬ ((i : Int) < 20)) := by
    by_cases h : i < N
    · exact .inr ⟨by omega, by omega⟩
    · exact .inl (by omega)
   obtain ⟨w2, rfl⟩ : ∃ x, x = wr := ⟨_, rfl⟩
   have HBW2 := Lh (HBW.o.trans (HB2.o.mono HBW.o.size))
   clear HI HB2 HBW
   rcases hdd with hd1 | ⟨hd1, hd2⟩
   · go_wp2_with fail
     go_loopw [5] (fun c5 wr => ∃ j : Nat, j ≤ B.k ∧ j ≤ 20 ∧ c5 = .int .i64 j ∧ Hid (Cl wr w.heap.size [.slice B.a B.n B.c, .slice B.b B.m B.d, .slice B.e B.k B.f]) ∧ Hid (∀ R, R ∈ B.rs.take j → R.n ≤ 20 ∧ R.m ≤ 20) ∧ Hid (Below w.heap.size w wr)) (fun c5 _ => B.k - (intOf c5).toNat)
     case atStart => exact ⟨0, by omega, by omega, rfl, F_b.o, (by rw [List.take_zero]; intro V hV; cases hV), HBW2.o⟩
     case round =>
      clear F_b HBW2
      obtain ⟨j, hj, hj20, rfl, F_b, HJ, HBW⟩ := hrel
      have hwj : IntKind.i64.wrap ((j : Int) + 1) = (j : Int) + 1 := IntWalk.i64_in _ (by omega)
      have hj0 : (0 : Int) ≤ (j : Int) := by omega
      by_cases hjt : j < B.k ∧ j < 20
      case pos =>
       obtain ⟨hjt, hl20⟩ := hjt
       have hj2 : (j : Int) < (B.k : Int) := by omega
       have hj3 : (j : Int) < 20 := by omega
       have hd3 : decide ((j : Int) < (B.k : Int)) = true := decide_eq_true (by omega)
       have hd3p : (j : Int) < (B.k : Int) := by omega
       have hd4 : decide ((j : Int) < 20) = true := decide_eq_true (by omega)
       have hd4p : (j : Int) < 20 := by omega
       have cR : Tryz.prog.cellsOf 36 = 2 := by kernel_rfl
       obtain ⟨s, o, R, hsa, hRL, hz1, r0, r1, hRin⟩ := (HB.o.keep HBW.o).h3.at j hjt
       have HRL := Lh hRL
       have HSA := Lh hsa
       clear hRL hRin hz1
       have b2 := F_b.o.c 2 _ rfl
       rw [hsa] at b2
       clear hsa
       by_cases hg1 : 20 < R.n
       case pos =>
        have hd5 : decide ((20 : Int) < (R.n : Int)) = true := decide_eq_true (by omega)
        have hd5p : (20 : Int) < (R.n : Int) := by omega
        go_wp2_with fail
        go_ret
        exact ⟨⟨_, rfl, fun h => by cases h⟩, HBW.o⟩
       case neg =>
       have hd5 : decide ((20 : Int) < (R.n : Int)) = false := decide_eq_false (by omega)
       have hd5p : ¬ ((20 : Int) < (R.n : Int)) := by omega
       by_cases hg2 : 20 < R.m
       case pos =>
        have hd6 : decide ((20 : Int) < (R.m : Int)) = true := decide_eq_true (by omega)
        have hd6p : (20 : Int) < (R.m : Int) := by omega
        go_wp2_with fail
        go_ret
        exact ⟨⟨_, rfl, fun h => by cases h⟩, HBW.o⟩
       case neg =>
       have hd6 : decide ((20 : Int) < (R.m : Int)) = false := decide_eq_false (by omega)
       have hd6p : ¬ ((20 : Int) < (R.m : Int)) := by omega
       have HG := Lh (show R.n ≤ 20 ∧ R.m ≤ 20 by omega)
       clear hg1 hg2
       go_wp2_with fail
       go_roundw
       case rel => exact ⟨j + 1, by omega, by omega, by go_num, F_b.o, take_step HJ.o HRL.o HG.o, HBW.o⟩
       case measure => simp [intOf] <;> omega
      case neg =>
       have HF2 := Lh (show B.k ≤ 8 → ∀ R, R ∈ B.rs → R.n ≤ 20 ∧ R.m ≤ 20 from fun h8 => by
        have h := HJ.o
        rw [List.take_of_length_le (by have := HB.o.h3.len; omega)] at h
        exact h)
       have hdd : (¬ ((j : Int) < (B.k : Int))) ∨ ((j : Int) < (B.k : Int) ∧ ¬ ((j : Int) < 20)) := by
        by_cases h : j < B.k
        · exact .inr ⟨by omega, by omega⟩
        · exact .inl (by omega)
       have b2 := F_b.o.c 2 _ rfl
       have HFIN := Lh (show N ≤ 8 → B.k ≤ 8 → BoFew B from fun h1 h2 => ⟨by rw [HN.o]; exact h1, h2, fun V hV => greatV_no (HF.o h1 V (by rw [← HL.o]; exact hV)), HF2.o h2⟩)
       clear HJ
       by_cases h8 : 8 < N
       case pos =>
        have hd7 : decide ((8 : Int) < (N : Int)) = true := decide_eq_true (by omega)
        have hd7p : (8 : Int) < (N : Int) := by omega
        rcases hdd with hd3 | ⟨hd3, hd4⟩
        · first
          | (exfalso; omega)
          | (go_wp2_with fail; go_ret; exact ⟨⟨_, rfl, fun h => by cases h⟩, HBW.o⟩)
        · first
          | (exfalso; omega)
          | (go_wp2_with fail; go_ret; exact ⟨⟨_, rfl, fun h => by cases h⟩, HBW.o⟩)
       case neg =>
        have hd7 : decide ((8 : Int) < (N : Int)) = false := decide_eq_false (by omega)
        have hd7p : ¬ ((8 : Int) < (N : Int)) := by omega
        by_cases h9 : 8 < B.k
        case pos =>
         have hd8 : decide ((8 : Int) < (B.k : Int)) = true := decide_eq_true (by omega)
         have hd8p : (8 : Int) < (B.k : Int) := by omega
         rcases hdd with hd3 | ⟨hd3, hd4⟩
         · first
           | (exfalso; omega)
           | (go_wp2_with fail; go_ret; exact ⟨⟨_, rfl, fun h => by cases h⟩, HBW.o⟩)
         · first
           | (exfalso; omega)
           | (go_wp2_with fail; go_ret; exact ⟨⟨_, rfl, fun h => by cases h⟩, HBW.o⟩)
        case neg =>
         have hd8 : decide ((8 : Int) < (B.k : Int)) = false := decide_eq_false (by omega)
         have hd8p : ¬ ((8 : Int) < (B.k : Int)) := by omega
         rcases hdd with hd3 | ⟨hd3, hd4⟩
         · first
           | (exfalso; omega)
           | (go_wp2_with fail; go_ret; exact ⟨⟨_, rfl, fun _ => HFIN.o (by omega) (by omega)⟩, HBW.o⟩)
         · first
           | (exfalso; omega)
           | (go_wp2_with fail; go_ret; exact ⟨⟨_, rfl, fun _ => HFIN.o (by omega) (by omega)⟩, HBW.o⟩)
   · go_wp2_with fail
     go_loopw [5] (fun c5 wr => ∃ j : Nat, j ≤ B.k ∧ j ≤ 20 ∧ c5 = .int .i64 j ∧ Hid (Cl wr w.heap.size [.slice B.a B.n B.c, .slice B.b B.m B.d, .slice B.e B.k B.f]) ∧ Hid (∀ R, R ∈ B.rs.take j → R.n ≤ 20 ∧ R.m ≤ 20) ∧ Hid (Below w.heap.size w wr)) (fun c5 _ => B.k - (intOf c5).toNat)
     case atStart => exact ⟨0, by omega, by omega, rfl, F_b.o, (by rw [List.take_zero]; intro V hV; cases hV), HBW2.o⟩
     case round =>
      clear F_b HBW2
      obtain ⟨j, hj, hj20, rfl, F_b, HJ, HBW⟩ := hrel
      have hwj : IntKind.i64.wrap ((j : Int) + 1) = (j : Int) + 1 := IntWalk.i64_in _ (by omega)
      have hj0 : (0 : Int) ≤ (j : Int) := by omega
      by_cases hjt : j < B.k ∧ j < 20
      case pos =>
       obtain ⟨hjt, hl20⟩ := hjt
       have hj2 : (j : Int) < (B.k : Int) := by omega
       have hj3 : (j : Int) < 20 := by omega
       have hd3 : decide ((j : Int) < (B.k : Int)) = true := decide_eq_true (by omega)
       have hd3p : (j : Int) < (B.k : Int) := by omega
       have hd4 : decide ((j : Int) < 20) = true := decide_eq_true (by omega)
       have hd4p : (j : Int) < 20 := by omega
       have cR : Tryz.prog.cellsOf 36 = 2 := by kernel_rfl
       obtain ⟨s, o, R, hsa, hRL, hz1, r0, r1, hRin⟩ := (HB.o.keep HBW.o).h3.at j hjt
       have HRL := Lh hRL
       have HSA := Lh hsa
       clear hRL hRin hz1
       have b2 := F_b.o.c 2 _ rfl
       rw [hsa] at b2
       clear hsa
       by_cases hg1 : 20 < R.n
       case pos =>
        have hd5 : decide ((20 : Int) < (R.n : Int)) = true := decide_eq_true (by omega)
        have hd5p : (20 : Int) < (R.n : Int) := by omega
        go_wp2_with fail
        go_ret
        exact ⟨⟨_, rfl, fun h => by cases h⟩, HBW.o⟩
       case neg =>
       have hd5 : decide ((20 : Int) < (R.n : Int)) = false := decide_eq_false (by omega)
       have hd5p : ¬ ((20 : Int) < (R.n : Int)) := by omega
       by_cases hg2 : 20 < R.m
       case pos =>
        have hd6 : decide ((20 : Int) < (R.m : Int)) = true := decide_eq_true (by omega)
        have hd6p : (20 : Int) < (R.m : Int) := by omega
        go_wp2_with fail
        go_ret
        exact ⟨⟨_, rfl, fun h => by cases h⟩, HBW.o⟩
       case neg =>
       have hd6 : decide ((20 : Int) < (R.m : Int)) = false := decide_eq_false (by omega)
       have hd6p : ¬ ((20 : Int) < (R.m : Int)) := by omega
       have HG := Lh (show R.n ≤ 20 ∧ R.m ≤ 20 by omega)
       clear hg1 hg2
       go_wp2_with fail
       go_roundw
       case rel => exact ⟨j + 1, by omega, by omega, by go_num, F_b.o, take_step HJ.o HRL.o HG.o, HBW.o⟩
       case measure => simp [intOf] <;> omega
      case neg =>
       have HF2 := Lh (show B.k ≤ 8 → ∀ R, R ∈ B.rs → R.n ≤ 20 ∧ R.m ≤ 20 from fun h8 => by
        have h := HJ.o
        rw [List.take_of_length_le (by have := HB.o.h3.len; omega)] at h
        exact h)
       have hdd : (¬ ((j : Int) < (B.k : Int))) ∨ ((j : Int) < (B.k : Int) ∧ ¬ ((j : Int) < 20)) := by
        by_cases h : j < B.k
        · exact .inr ⟨by omega, by omega⟩
        · exact .inl (by omega)
       have b2 := F_b.o.c 2 _ rfl
       have HFIN := Lh (show N ≤ 8 → B.k ≤ 8 → BoFew B from fun h1 h2 => ⟨by rw [HN.o]; exact h1, h2, fun V hV => greatV_no (HF.o h1 V (by rw [← HL.o]; exact hV)), HF2.o h2⟩)
       clear HJ
       by_cases h8 : 8 < N
       case pos =>
        have hd7 : decide ((8 : Int) < (N : Int)) = true := decide_eq_true (by omega)
        have hd7p : (8 : Int) < (N : Int) := by omega
        rcases hdd with hd3 | ⟨hd3, hd4⟩
        · first
          | (exfalso; omega)
          | (go_wp2_with fail; go_ret; exact ⟨⟨_, rfl, fun h => by cases h⟩, HBW.o⟩)
        · first
          | (exfalso; omega)
          | (go_wp2_with fail; go_ret; exact ⟨⟨_, rfl, fun h => by cases h⟩, HBW.o⟩)
       case neg =>
        have hd7 : decide ((8 : Int) < (N : Int)) = false := decide_eq_false (by omega)
        have hd7p : ¬ ((8 : Int) < (N : Int)) := by omega
        by_cases h9 : 8 < B.k
        case pos =>
         have hd8 : decide ((8 : Int) < (B.k : Int)) = true := decide_eq_true (by omega)
         have hd8p : (8 : Int) < (B.k : Int) := by omega
         rcases hdd with hd3 | ⟨hd3, hd4⟩
         · first
           | (exfalso; omega)
           | (go_wp2_with fail; go_ret; exact ⟨⟨_, rfl, fun h => by cases h⟩, HBW.o⟩)
         · first
           | (exfalso; omega)
           | (go_wp2_with fail; go_ret; exact ⟨⟨_, rfl, fun h => by cases h⟩, HBW.o⟩)
        case neg =>
         have hd8 : decide ((8 : Int) < (B.k : Int)) = false := decide_eq_false (by omega)
         have hd8p : ¬ ((8 : Int) < (B.k : Int)) := by omega
         rcases hdd with hd3 | ⟨hd3, hd4⟩
         · first
           | (exfalso; omega)
           | (go_wp2_with fail; go_ret; exact ⟨⟨_, rfl, fun _ => HFIN.o (by omega) (by omega)⟩, HBW.o⟩)
         · first
           | (exfalso; omega)
           | (go_wp2_with fail; go_ret; exact ⟨⟨_, rfl, fun _ => HFIN.o (by omega) (by omega)⟩, HBW.o⟩)
open Go Go.RowKit Num Sha
theorem eqfV_len {a a' : Option Addr} {n n' c c' : Nat} {f : Value} (w : World) (hn : n ≠ n') :
 Calls Tryz.prog 51 #[.slice a n c, .slice a' n' c', f] w fun e w' => e = .returned (.bool false) ∧ Below w.heap.size w w' := by
 have hd : ((n : Int) == (n' : Int)) = false := beq_eq_false_iff_ne.2 (by omega)
 have HBW := Lh (Below.refl w.heap.size w)
 go_enter Tryz.func51, Tryz.ntmps51
 go_wp2_with fail
 go_ret
 exact ⟨rfl, HBW.o⟩
set_option maxHeartbeats 16000000 in
theorem eqfV_any {a a' : Option Addr} {n n' c c' : Nat} {L L' : List Vt} (w : World) (hnn : n = n') (h1 : ShV w a n L) (h2 : ShV w a' n' L') (hk : L.map Vt.key = L'.map Vt.key) (hn : n ≤ 2097152) (hs : ∀ V, V ∈ L → V.n ≤ 1000 ∧ V.m ≤ 1000) :
 Calls Tryz.prog 51 #[.slice a n c, .slice a' n' c', .func (.func 52) #[] #[]] w fun e w' => e = .returned (.bool true) ∧ Below w.heap.size w w' := by
 subst hnn
 have H1 := Lh h1
 have H2 := Lh h2
 have HK := Lh hk
 have HS := Lh hs
 have HBW := Lh (Below.refl w.heap.size w)
 clear h1 h2 hk hs
 go_enter Tryz.func51, Tryz.ntmps51
 go_wp2_with fail
 go_loopw [7, 17] (fun _ c17 wr => ∃ i : Nat, i ≤ n ∧ c17 = .int .i64 i ∧ Hid (Below w.heap.size w wr)) (fun _ c17 _ => n - (intOf c17).toNat)
 case atStart => exact ⟨0, by omega, rfl, HBW.o⟩
 case round =>
  clear HBW
  obtain ⟨i, hi, rfl, HBW⟩ := hrel
  by_cases hlt : i < n
  case neg =>
   obtain rfl : i = n := by omega
   have hd : decide ((i : Int) < (i : Int)) = false := decide_eq_false (by omega)
   go_wp2_with fail
   go_ret
   exact ⟨rfl, HBW.o⟩
  case pos =>
   have hd : decide ((i : Int) < (n : Int)) = true := decide_eq_true (by omega)
   have hi0 : (0 : Int) ≤ (i : Int) := by omega
   have hi2 : (i : Int) < (n : Int) := by omega
   have hwi : IntKind.i64.wrap ((i : Int) + 1) = (i : Int) + 1 := IntWalk.i64_in _ (by omega)
   have cV : Tryz.prog.cellsOf 33 = 11 := by kernel_rfl
   obtain ⟨s1, o1, V, hsa, hVL, hvc, hVin⟩ := (H1.o.keep HBW.o).at i hlt
   obtain ⟨s2, o2, U, hsb, hUL, huc, hUin⟩ := (H2.o.keep HBW.o).at i hlt
   obtain ⟨U0, hU0, hkU⟩ := keys_get Vt.key HK.o hVL
   rw [hUL] at hU0
   obtain rfl := Option.some.inj hU0
   have HKU := Lh hkU
   have HVN := Lh (HS.o V (List.mem_of_getElem? hVL))
   have HV := Lh hVin
   have HU := Lh hUin
   clear hVL hUL hVin hUin hU0 hkU
   subst hsa hsb
   have hy1 : Below wr.heap.size wr (wr.alloc (.cells V.ca 33)) := (Below.refl _ _).alloc (Nat.le_refl _) _
   have HY2 := Lh (show Below wr.heap.size wr ((wr.alloc (.cells V.ca 33)).alloc (.cells U.ca 33)) from hy1.alloc (by simp) _)
   have F_x := Lh (show Cl ((wr.alloc (.cells V.ca 33)).alloc (.cells U.ca 33)) wr.heap.size V.cl from (Cl.at wr V.cl 33 wr.heap.size rfl).alloc _)
   have F_y := Lh (show Cl ((wr.alloc (.cells V.ca 33)).alloc (.cells U.ca 33)) (wr.heap.size + 1) U.cl from Cl.at (wr.alloc (.cells V.ca 33)) U.cl 33 (wr.heap.size + 1) (by simp))
   obtain ⟨-, e0, e1, e2, e3, e4, e5, e6, e7, e8, e9, e10⟩ := hvc
   obtain ⟨-, d0, d1, d2, d3, d4, d5, d6, d7, d8, d9, d10⟩ := huc.keep hy1
   obtain ⟨⟨q0, q1, q2, q3, q4, q5, q6, q7, q8, q9, q10⟩, -⟩ := F_x.o.k11
   obtain ⟨⟨p0, p1, p2, p3, p4, p5, p6, p7, p8, p9, p10⟩, -⟩ := F_y.o.k11
   clear hy1
   go_wp2_with fail
   refine (bsv_any (V := V) (U := U) _ (HV.o.keep HY2.o) (HU.o.keep HY2.o) (by obtain ⟨-, k2, -, k4, k5, k6⟩ := Vt.same_of_key HKU.o; exact k2) (by obtain ⟨-, k2, -, k4, k5, k6⟩ := Vt.same_of_key HKU.o; exact k4) (by obtain ⟨-, k2, -, k4, k5, k6⟩ := Vt.same_of_key HKU.o; exact k5) (by obtain ⟨-, k2, -, k4, k5, k6⟩ := Vt.same_of_key HKU.o; exact k6) HVN.o.1 HVN.o.2).mono ?_
   rintro e w8 ⟨rfl, hb8⟩
   replace HBW := Lh (HBW.o.trans ((HY2.o.trans (hb8.mono HY2.o.size)).mono HBW.o.size))
   clear hb8 HY2 F_x F_y e0 e1 e2 e3 e4 e5 e6 e7 e8 e9 e10 d0 d1 d2 d3 d4 d5 d6 d7 d8 d9 d10 q0 q1 q2 q3 q4 q5 q6 q7 q8 q9 q10 p0 p1 p2 p3 p4 p5 p6 p7 p8 p9 p10
   go_wp2_with fail
   go_roundw
   case rel => exact ⟨i + 1, by omega, by go_num, HBW.o⟩
   case measure => simp [intOf] <;> omega
theorem eqfR_len {a a' : Option Addr} {n n' c c' : Nat} {f : Value} (w : World) (hn : n ≠ n') :
 Calls Tryz.prog 53 #[.slice a n c, .slice a' n' c', f] w fun e w' => e = .returned (.bool false) ∧ Below w.heap.size w w' := by
 have hd : ((n : Int) == (n' : Int)) = false := beq_eq_false_iff_ne.2 (by omega)
 have HBW := Lh (Below.refl w.heap.size w)
 go_enter Tryz.func53, Tryz.ntmps53
 go_wp2_with fail
 go_ret
 exact ⟨rfl, HBW.o⟩
set_option maxHeartbeats 16000000 in
theorem eqfR_any {a a' : Option Addr} {n n' c c' : Nat} {L L' : List Rv} (w : World) (hnn : n = n') (h1 : ShR w a n L) (h2 : ShR w a' n' L') (hk : L.map Rv.key = L'.map Rv.key) (hn : n ≤ 2097152) (hs : ∀ V, V ∈ L → V.n ≤ 1000 ∧ V.m ≤ 1000) :
 Calls Tryz.prog 53 #[.slice a n c, .slice a' n' c', .func (.func 54) #[] #[]] w fun e w' => e = .returned (.bool true) ∧ Below w.heap.size w w' := by
 subst hnn
 have H1 := Lh h1
 have H2 := Lh h2
 have HK := Lh hk
 have HS := Lh hs
 have HBW := Lh (Below.refl w.heap.size w)
 clear h1 h2 hk hs
 go_enter Tryz.func53, Tryz.ntmps53
 go_wp2_with fail
 go_loopw [7, 17] (fun _ c17 wr => ∃ i : Nat, i ≤ n ∧ c17 = .int .i64 i ∧ Hid (Below w.heap.size w wr)) (fun _ c17 _ => n - (intOf c17).toNat)
 case atStart => exact ⟨0, by omega, rfl, HBW.o⟩
 case round =>
  clear HBW
  obtain ⟨i, hi, rfl, HBW⟩ := hrel
  by_cases hlt : i < n
  case neg =>
   obtain rfl : i = n := by omega
   have hd : decide ((i : Int) < (i : Int)) = false := decide_eq_false (by omega)
   go_wp2_with fail
   go_ret
   exact ⟨rfl, HBW.o⟩
  case pos =>
   have hd : decide ((i : Int) < (n : Int)) = true := decide_eq_true (by omega)
   have hi0 : (0 : Int) ≤ (i : Int) := by omega
   have hi2 : (i : Int) < (n : Int) := by omega
   have hwi : IntKind.i64.wrap ((i : Int) + 1) = (i : Int) + 1 := IntWalk.i64_in _ (by omega)
   have cV : Tryz.prog.cellsOf 36 = 2 := by kernel_rfl
   obtain ⟨s1, o1, V, hsa, hVL, hs1, e0, e1, hVin⟩ := (H1.o.keep HBW.o).at i hlt
   obtain ⟨s2, o2, U, hsb, hUL, hs2, u0, u1, hUin⟩ := (H2.o.keep HBW.o).at i hlt
   obtain ⟨U0, hU0, hkU⟩ := keys_get Rv.key HK.o hVL
   rw [hUL] at hU0
   obtain rfl := Option.some.inj hU0
   have HKU := Lh hkU
   have HVN := Lh (HS.o V (List.mem_of_getElem? hVL))
   have HV := Lh hVin
   have HU := Lh hUin
   clear hVL hUL hVin hUin hU0 hkU
   subst hsa hsb
   have hy1 : Below wr.heap.size wr (wr.alloc (.cells #[.slice V.a V.n V.c, .slice V.b V.m V.d] 36)) := (Below.refl _ _).alloc (Nat.le_refl _) _
   have HY2 := Lh (show Below wr.heap.size wr ((wr.alloc (.cells #[.slice V.a V.n V.c, .slice V.b V.m V.d] 36)).alloc (.cells #[.slice U.a U.n U.c, .slice U.b U.m U.d] 36)) from hy1.alloc (by simp) _)
   have F_x := Lh (show Cl ((wr.alloc (.cells #[.slice V.a V.n V.c, .slice V.b V.m V.d] 36)).alloc (.cells #[.slice U.a U.n U.c, .slice U.b U.m U.d] 36)) wr.heap.size [.slice V.a V.n V.c, .slice V.b V.m V.d] from (Cl.at wr [.slice V.a V.n V.c, .slice V.b V.m V.d] 36 wr.heap.size rfl).alloc _)
   have F_y := Lh (show Cl ((wr.alloc (.cells #[.slice V.a V.n V.c, .slice V.b V.m V.d] 36)).alloc (.cells #[.slice U.a U.n U.c, .slice U.b U.m U.d] 36)) (wr.heap.size + 1) [.slice U.a U.n U.c, .slice U.b U.m U.d] from Cl.at (wr.alloc (.cells #[.slice V.a V.n V.c, .slice V.b V.m V.d] 36)) [.slice U.a U.n U.c, .slice U.b U.m U.d] 36 (wr.heap.size + 1) (by simp))
   have d0 := (hy1.cell (p := ⟨s2, o2 + i * 2, none⟩) hs2).trans u0
   have d1 := (hy1.cell (p := ⟨s2, o2 + i * 2 + 1, none⟩) hs2).trans u1
   have q0 := F_x.o.c 0 _ rfl
   have q1 := F_x.o.c 1 _ rfl
   have p0 := F_y.o.c 0 _ rfl
   have p1 := F_y.o.c 1 _ rfl
   clear hs1 hs2 u0 u1
   clear hy1
   go_wp2_with fail
   refine (bsr_any (R := V) (S := U) _ (HV.o.keep HY2.o) (HU.o.keep HY2.o) (congrArg (fun q => q.2.1) HKU.o) (congrArg (fun q => q.2.2.2) HKU.o) HVN.o.1 HVN.o.2).mono ?_
   rintro e w8 ⟨rfl, hb8⟩
   replace HBW := Lh (HBW.o.trans ((HY2.o.trans (hb8.mono HY2.o.size)).mono HBW.o.size))
   clear hb8 HY2 F_x F_y e0 e1 d0 d1 q0 q1 p0 p1
   go_wp2_with fail
   go_roundw
   case rel => exact ⟨i + 1, by omega, by go_num, HBW.o⟩
   case measure => simp [intOf] <;> omega
open Go Go.RowKit Num Sha
structure SameF (C B : Bo) : Prop where
 e1 : C.n = B.n → C.l.map Vt.key = B.l.map Vt.key
 e2 : C.m = B.m → C.l'.map Vt.key = B.l'.map Vt.key
 e3 : C.k = B.k → C.rs.map Rv.key = B.rs.map Rv.key
theorem BoSm.d1 {B : Bo} (h : BoSm B) : B.n ≤ 2097152 := by have := h.s1; omega
theorem BoSm.d2 {B : Bo} (h : BoSm B) : B.m ≤ 2097152 := by have := h.s1; omega
theorem BoSm.d3 {B : Bo} (h : BoSm B) : B.k ≤ 2097152 := by have := h.s2; omega
theorem BoSm.v1 {B : Bo} (h : BoSm B) : ∀ V, V ∈ B.l → V.n ≤ 1000 ∧ V.m ≤ 1000 := fun V hv => h.s4 V (List.mem_append.2 (.inl hv))
theorem BoSm.v2 {B : Bo} (h : BoSm B) : ∀ V, V ∈ B.l' → V.n ≤ 1000 ∧ V.m ≤ 1000 := fun V hv => h.s4 V (List.mem_append.2 (.inr hv))
theorem decide_not {p : Prop} [Decidable p] (h : ¬ p) : Value.bool (decide p) = .bool false := by rw [decide_eq_false h]
set_option maxHeartbeats 16000000 in
theorem bSame_any {B C : Bo} (w : World) (hC : BoIn w C) (hB : BoIn w B) (hS : SameF C B) (hs : BoSm C) :
 Calls Tryz.prog 20 #[C.v, B.v] w fun e w' => e = .returned (.bool (decide (C.n = B.n ∧ C.m = B.m ∧ C.k = B.k))) ∧ Below w.heap.size w w' := by
 have HC := Lh hC
 have HB := Lh hB
 have HF := Lh hS
 have HS := Lh hs
 clear hC hB hS hs
 unfold Bo.v
 obtain ⟨F_c, F_b, HBW⟩ := bx2 w [.slice C.a C.n C.c, .slice C.b C.m C.d, .slice C.e C.k C.f] 55 [.slice B.a B.n B.c, .slice B.b B.m B.d, .slice B.e B.k B.f] 55
 go_enter Tryz.func20, Tryz.ntmps20
 obtain ⟨qc0, qc1, qc2⟩ := F_c.o.k3
 obtain ⟨qb0, qb1, qb2⟩ := F_b.o.k3
 go_wp2_with fail
 clear qc0 qc1 qc2 qb0 qb1 qb2
 by_cases h1 : C.n = B.n
 case neg =>
  refine (eqfV_len _ h1).mono ?_
  rintro e w1 ⟨rfl, hb1⟩
  replace F_c := Lh (F_c.o.keep hb1)
  replace F_b := Lh (F_b.o.keep hb1)
  replace HBW := Kt HBW hb1
  clear hb1
  obtain ⟨qc0, qc1, qc2⟩ := F_c.o.k3
  obtain ⟨qb0, qb1, qb2⟩ := F_b.o.k3
  go_wp2_with fail
  clear qc0 qc1 qc2 qb0 qb1 qb2
  go_ret
  exact ⟨by rw [decide_not (fun h => h1 h.1)]; rfl, HBW.o⟩
 case pos =>
  refine (eqfV_any _ h1 (HC.o.keep HBW.o).h1 (HB.o.keep HBW.o).h1 (HF.o.e1 h1) HS.o.d1 HS.o.v1).mono ?_
  rintro e w1 ⟨rfl, hb1⟩
  replace F_c := Lh (F_c.o.keep hb1)
  replace F_b := Lh (F_b.o.keep hb1)
  replace HBW := Kt HBW hb1
  clear hb1
  obtain ⟨qc0, qc1, qc2⟩ := F_c.o.k3
  obtain ⟨qb0, qb1, qb2⟩ := F_b.o.k3
  go_wp2_with fail
  clear qc0 qc1 qc2 qb0 qb1 qb2
  by_cases h2 : C.m = B.m
  case neg =>
   refine (eqfV_len _ h2).mono ?_
   rintro e w1 ⟨rfl, hb1⟩
   replace F_c := Lh (F_c.o.keep hb1)
   replace F_b := Lh (F_b.o.keep hb1)
   replace HBW := Kt HBW hb1
   clear hb1
   obtain ⟨qc0, qc1, qc2⟩ := F_c.o.k3
   obtain ⟨qb0, qb1, qb2⟩ := F_b.o.k3
   go_wp2_with fail
   clear qc0 qc1 qc2 qb0 qb1 qb2
   go_ret
   exact ⟨by rw [decide_not (fun h => h2 h.2.1)]; rfl, HBW.o⟩
  case pos =>
   refine (eqfV_any _ h2 (HC.o.keep HBW.o).h2 (HB.o.keep HBW.o).h2 (HF.o.e2 h2) HS.o.d2 HS.o.v2).mono ?_
   rintro e w1 ⟨rfl, hb1⟩
   replace F_c := Lh (F_c.o.keep hb1)
   replace F_b := Lh (F_b.o.keep hb1)
   replace HBW := Kt HBW hb1
   clear hb1
   obtain ⟨qc0, qc1, qc2⟩ := F_c.o.k3
   obtain ⟨qb0, qb1, qb2⟩ := F_b.o.k3
   go_wp2_with fail
   clear qc0 qc1 qc2 qb0 qb1 qb2
   by_cases h3 : C.k = B.k
   case neg =>
    refine (eqfR_len _ h3).mono ?_
    rintro e w1 ⟨rfl, hb1⟩
    replace F_c := Lh (F_c.o.keep hb1)
    replace F_b := Lh (F_b.o.keep hb1)
    replace HBW := Kt HBW hb1
    clear hb1
    obtain ⟨qc0, qc1, qc2⟩ := F_c.o.k3
    obtain ⟨qb0, qb1, qb2⟩ := F_b.o.k3
    go_wp2_with fail
    clear qc0 qc1 qc2 qb0 qb1 qb2
    go_ret
    exact ⟨by rw [decide_not (fun h => h3 h.2.2)]; rfl, HBW.o⟩
   case pos =>
    refine (eqfR_any _ h3 (HC.o.keep HBW.o).h3 (HB.o.keep HBW.o).h3 (HF.o.e3 h3) HS.o.d3 HS.o.s3).mono ?_
    rintro e w1 ⟨rfl, hb1⟩
    replace F_c := Lh (F_c.o.keep hb1)
    replace F_b := Lh (F_b.o.keep hb1)
    replace HBW := Kt HBW hb1
    clear hb1
    obtain ⟨qc0, qc1, qc2⟩ := F_c.o.k3
    obtain ⟨qb0, qb1, qb2⟩ := F_b.o.k3
    go_wp2_with fail
    clear qc0 qc1 qc2 qb0 qb1 qb2
    go_ret
    exact ⟨by rw [decide_eq_true ⟨h1, h2, h3⟩]; rfl, HBW.o⟩
theorem rSameVotes_len {a a' : Option Addr} {n n' c c' : Nat} (w : World) (hn : n ≠ n') :
 Calls Tryz.prog 55 #[.slice a n c, .slice a' n' c'] w fun e w' => e = .returned (.bool false) ∧ Below w.heap.size w w' := by
 have hd : ((n : Int) == (n' : Int)) = false := beq_eq_false_iff_ne.2 (by omega)
 have HBW := Lh (Below.refl w.heap.size w)
 go_enter Tryz.func55, Tryz.ntmps55
 go_wp2_with fail
 go_ret
 exact ⟨rfl, HBW.o⟩
theorem rSameVotes_any2 {a a' : Option Addr} {n n' c c' : Nat} {L L' : List Vt} (w : World) (hnn : n = n') (h1 : ShV w a n L) (h2 : ShV w a' n' L') (hk : L.map Vt.key = L'.map Vt.key) (hn : n ≤ 2097152) (hs : ∀ V, V ∈ L → V.n ≤ 1000 ∧ V.m ≤ 1000) :
 Calls Tryz.prog 55 #[.slice a n c, .slice a' n' c'] w fun e w' => e = .returned (.bool true) ∧ Below w.heap.size w w' := by
 subst hnn
 exact rSameVotes_any w h1 h2 hk hn hs
set_option maxHeartbeats 16000000 in
theorem rSameNo_any {B C : Bo} (w : World) (hC : BoIn w C) (hB : BoIn w B) (hS : SameF C B) (hs : BoSm C) (hno : ¬ (C.n = B.n ∧ C.m = B.m ∧ C.k = B.k)) :
 Calls Tryz.prog 21 #[C.v, B.v] w fun e w' => e = .returned (.bool false) ∧ Below w.heap.size w w' := by
 have HC := Lh hC
 have HB := Lh hB
 have HF := Lh hS
 have HS := Lh hs
 clear hC hB hS hs
 unfold Bo.v
 obtain ⟨F_c, F_b, HBW⟩ := bx2 w [.slice C.a C.n C.c, .slice C.b C.m C.d, .slice C.e C.k C.f] 55 [.slice B.a B.n B.c, .slice B.b B.m B.d, .slice B.e B.k B.f] 55
 go_enter Tryz.func21, Tryz.ntmps21
 obtain ⟨qc0, qc1, qc2⟩ := F_c.o.k3
 obtain ⟨qb0, qb1, qb2⟩ := F_b.o.k3
 go_wp2_with fail
 clear qc0 qc1 qc2 qb0 qb1 qb2
 by_cases h1 : C.n = B.n
 case neg =>
  refine (rSameVotes_len _ h1).mono ?_
  rintro e w1 ⟨rfl, hb1⟩
  replace F_c := Lh (F_c.o.keep hb1)
  replace F_b := Lh (F_b.o.keep hb1)
  replace HBW := Kt HBW hb1
  clear hb1
  obtain ⟨qc0, qc1, qc2⟩ := F_c.o.k3
  obtain ⟨qb0, qb1, qb2⟩ := F_b.o.k3
  go_wp2_with fail
  clear qc0 qc1 qc2 qb0 qb1 qb2
  go_ret
  exact ⟨rfl, HBW.o⟩
 case pos =>
  refine (rSameVotes_any2 _ h1 (HC.o.keep HBW.o).h1 (HB.o.keep HBW.o).h1 (HF.o.e1 h1) HS.o.d1 HS.o.v1).mono ?_
  rintro e w1 ⟨rfl, hb1⟩
  replace F_c := Lh (F_c.o.keep hb1)
  replace F_b := Lh (F_b.o.keep hb1)
  replace HBW := Kt HBW hb1
  clear hb1
  obtain ⟨qc0, qc1, qc2⟩ := F_c.o.k3
  obtain ⟨qb0, qb1, qb2⟩ := F_b.o.k3
  go_wp2_with fail
  clear qc0 qc1 qc2 qb0 qb1 qb2
  by_cases h2 : C.m = B.m
  case neg =>
   refine (rSameVotes_len _ h2).mono ?_
   rintro e w2 ⟨rfl, hb2⟩
   replace F_c := Lh (F_c.o.keep hb2)
   replace F_b := Lh (F_b.o.keep hb2)
   replace HBW := Kt HBW hb2
   clear hb2
   obtain ⟨qc0, qc1, qc2⟩ := F_c.o.k3
   obtain ⟨qb0, qb1, qb2⟩ := F_b.o.k3
   go_wp2_with fail
   clear qc0 qc1 qc2 qb0 qb1 qb2
   go_ret
   exact ⟨rfl, HBW.o⟩
  case pos =>
   refine (rSameVotes_any2 _ h2 (HC.o.keep HBW.o).h2 (HB.o.keep HBW.o).h2 (HF.o.e2 h2) HS.o.d2 HS.o.v2).mono ?_
   rintro e w2 ⟨rfl, hb2⟩
   replace F_c := Lh (F_c.o.keep hb2)
   replace F_b := Lh (F_b.o.keep hb2)
   replace HBW := Kt HBW hb2
   clear hb2
   have hd3 : ((C.k : Int) == (B.k : Int)) = false := beq_eq_false_iff_ne.2 (fun h => hno ⟨h1, h2, by omega⟩)
   obtain ⟨qc0, qc1, qc2⟩ := F_c.o.k3
   obtain ⟨qb0, qb1, qb2⟩ := F_b.o.k3
   go_wp2_with fail
   clear qc0 qc1 qc2 qb0 qb1 qb2
   go_ret
   exact ⟨rfl, HBW.o⟩
theorem rSameF_any {B C : Bo} (w : World) (hC : BoIn w C) (hB : BoIn w B) (hS : SameF C B) (hs : BoSm C) :
 Calls Tryz.prog 21 #[C.v, B.v] w fun e w' => e = .returned (.bool (decide (C.n = B.n ∧ C.m = B.m ∧ C.k = B.k))) ∧ Below w.heap.size w w' := by
 by_cases h : C.n = B.n ∧ C.m = B.m ∧ C.k = B.k
 · rw [decide_eq_true h]
   exact rSame36_any w hB hC ⟨hS.e1 h.1, hS.e2 h.2.1, hS.e3 h.2.2⟩ (by have := hs.d1; omega) (by have := hs.d2; omega) (by have := hs.d3; omega) hs.s4 hs.s3
 · rw [decide_eq_false h]
   exact rSameNo_any w hC hB hS hs h
end Go.Proofs.YtlbldpkgnonbpaaGreatDoor
