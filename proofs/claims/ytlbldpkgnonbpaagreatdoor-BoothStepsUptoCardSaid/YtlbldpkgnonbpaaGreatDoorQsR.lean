/- The reference's proved. -/
import Derived.Test.YtlbldpkgnonbpaaGreatDoorQsP
import Derived.Test.YtlbldpkgnonbpaaGreatDoorQsQ
import Derived.Deep.Cut
import Derived.Test.YtlbldpkgnonbpaaGreatDoorQsN
set_option linter.unusedSimpArgs false
set_option linter.unusedVariables false
set_option maxRecDepth 100000
namespace Go.Proofs.YtlbldpkgnonbpaaGreatDoor
open Go Go.RowKit Num Sha
set_option maxHeartbeats 8000000 in
theorem rproved_any {P Q G y a b x : Int} {z : Bt} {v : Bool} (w : World) (hT : Tabs w) (hP : 0 ≤ P) (hQ : 0 ≤ Q) (hG : 0 ≤ G) (hy : 0 ≤ y) (ha : 0 ≤ a) (hb : 0 ≤ b) (hz : z.u) (hx0 : 0 ≤ x) (hx1 : x < 256) (hv : v = true ↔ provB P Q G y a b z x) :
 Calls Tryz.prog 84 #[.agg #[υ P, υ Q, υ G], υ y, .agg #[υ a, υ b], .agg #[υ z.r0, υ z.r1, υ z.s0, υ z.s1, υ z.c0, υ z.c1, υ z.z0, υ z.z1], .int .u8 x] w fun e w' => e = .returned (.bool v) ∧ Below w.heap.size w w' := by
 have HT := Lh hT
 obtain ⟨n0, n1, n2, n3, n4, n5, n6, n7⟩ := hz.nn
 have HV := Lh hv
 obtain ⟨F_g, F_s, F_z, HBW⟩ := bx3 w [υ P, υ Q, υ G] 24 [υ a, υ b] 75 [υ z.r0, υ z.r1, υ z.s0, υ z.s1, υ z.c0, υ z.c1, υ z.z0, υ z.z1] 31
 have HX := Lh (show Txt ((((w.alloc (.cells #[υ P, υ Q, υ G] 24)).alloc (.cells #[υ a, υ b] 75)).alloc (.cells #[υ z.r0, υ z.r1, υ z.s0, υ z.s1, υ z.c0, υ z.c1, υ z.z0, υ z.z1] 31)).alloc (.cells #[.int .u8 x] 5)) (some ⟨w.heap.size + 1 + 1 + 1, 0, none⟩) 1 [x] from
  ⟨(HT.o.below HBW.o).below ((Below.refl _ _).alloc (Nat.le_refl _) _), ShI.lit1 .u8 _ x _ _ (by simp), fun u hu => by simp at hu; subst hu; exact ⟨hx0, hx1⟩⟩)
 obtain ⟨v', e', hR⟩ := RetB.exists (lgS (askS P Q G [z.c0, z.c1, z.z0, z.z1] [y, a, b, z.r0, z.r1, z.s0, z.s1]) 1) (bvP P Q G y a b z.r0 z.r1 z.s0 z.s1 z.c0 z.c1 z.z0 z.z1 [x])
 have HR := Lh hR
 clear hT hz hv hR
 have g0 := F_g.o.c 0 _ rfl
 have g1 := F_g.o.c 1 _ rfl
 have g2 := F_g.o.c 2 _ rfl
 have s0 := F_s.o.c 0 _ rfl
 have s1 := F_s.o.c 1 _ rfl
 have z0 := F_z.o.c 0 _ rfl
 have z1 := F_z.o.c 1 _ rfl
 have z2 := F_z.o.c 2 _ rfl
 have z3 := F_z.o.c 3 _ rfl
 have z4 := F_z.o.c 4 _ rfl
 have z5 := F_z.o.c 5 _ rfl
 have z6 := F_z.o.c 6 _ rfl
 have z7 := F_z.o.c 7 _ rfl
 go_enter Tryz.func84, Tryz.ntmps84
 go_wp2_with fail
 clear g0 g1 g2 s0 s1 z0 z1 z2 z3 z4 z5 z6 z7
 refine (rbitVerify_any _ HX.o hP hQ hG hy ha hb n0 n1 n2 n3 n4 n5 n6 n7 (by decide) HR.o).mono ?_
 rintro e w5 ⟨rfl, hb5⟩
 have HB5 := Lh ((HBW.o.alloc HBW.o.size (.cells #[.int .u8 x] 5)).trans (hb5.mono (by simp; omega)))
 clear hb5
 rcases HR.o with ⟨h1, h2, rfl⟩ | ⟨h1, rfl, rfl⟩
 · have HE := Lh (show v' = v by
    have h3 : provB P Q G y a b z x ↔ v' = true := ⟨fun h => h2.2 h.2, fun h => ⟨(lgS_zero h1).1, h2.1 h⟩⟩
    have h4 := HV.o.trans h3
    cases v <;> cases v' <;> simp_all)
   clear h1 h2
   go_wp2_with fail
   go_ret
   exact ⟨by rw [HE.o]; rfl, HB5.o⟩
 · have HE := Lh (show v = false by
    cases v with
    | false => rfl
    | true => exact absurd (show lgS (askS P Q G [z.c0, z.c1, z.z0, z.z1] [y, a, b, z.r0, z.r1, z.s0, z.s1]) 1 = 0 by unfold lgS; rw [if_pos (HV.o.1 rfl).1]; rfl) h1)
   go_wp2_with fail
   go_ret
   exact ⟨by rw [HE.o]; rfl, HB5.o⟩
open Go Go.RowKit Num Sha
theorem fields_bit : (Tryz.prog.fieldsOf 31).toList.map (fun f => (f.name, f.type, f.offset)) = [("R", 29, 0), ("S", 29, 2), ("C", 29, 4), ("Z", 29, 6)] := by kernel_rfl
set_option maxHeartbeats 4000000 in
theorem eq_bit2 (z x : Bt) (b : Bool) (hb : b = true ↔ z = x) (w : World) : (Op.equalIn 10000 31 (.agg #[υ z.r0, υ z.r1, υ z.s0, υ z.s1, υ z.c0, υ z.c1, υ z.z0, υ z.z1]) (.agg #[υ x.r0, υ x.r1, υ x.s0, υ x.s1, υ x.c0, υ x.c1, υ x.z0, υ x.z1])).run Tryz.prog w = .ok b w := by
 have hu : Tryz.prog.underlying 31 = some (.struct (Tryz.prog.fieldsOf 31)) := by kernel_rfl
 rw [show (10000 : Nat) = 9999 + 1 from rfl, run_equalIn_struct w 9999 31 _ _ hu (by kernel_rfl)]
 have hf := fields_bit
 have ua := Tryz.isAgg29
 have za := Tryz.sizeOf29
 have hq : ∀ a b c d : Int, (Op.equalIn 9999 29 (.agg #[υ a, υ b]) (.agg #[υ c, υ d])).run Tryz.prog w = .ok (a == c && b == d) w := fun a b c d => eq_p64d 9997 a b c d w
 generalize (Tryz.prog.fieldsOf 31).toList = FF at hf ⊢
 have hl : FF.length = 4 := by have := congrArg List.length hf; simpa using this
 obtain ⟨f0, f1, f2, f3, rfl⟩ : ∃ f0 f1 f2 f3, FF = [f0, f1, f2, f3] := by
  match FF, hl with
  | [a, b, c, d], _ => exact ⟨a, b, c, d, rfl⟩
 simp only [List.map_cons, List.map_nil, List.cons.injEq, Prod.mk.injEq, and_true] at hf
 obtain ⟨⟨e0, e1, e2⟩, ⟨e3, e4, e5⟩, ⟨e6, e7, e8⟩, e9, e10, e11⟩ := hf
 have p0 : ∀ s : Bt, (part 29 #[υ s.r0, υ s.r1, υ s.s0, υ s.s1, υ s.c0, υ s.c1, υ s.z0, υ s.z1] 0).run Tryz.prog w = .ok (.agg #[υ s.r0, υ s.r1]) w := fun s => by go_simp
 have p2 : ∀ s : Bt, (part 29 #[υ s.r0, υ s.r1, υ s.s0, υ s.s1, υ s.c0, υ s.c1, υ s.z0, υ s.z1] 2).run Tryz.prog w = .ok (.agg #[υ s.s0, υ s.s1]) w := fun s => by go_simp
 have p4 : ∀ s : Bt, (part 29 #[υ s.r0, υ s.r1, υ s.s0, υ s.s1, υ s.c0, υ s.c1, υ s.z0, υ s.z1] 4).run Tryz.prog w = .ok (.agg #[υ s.c0, υ s.c1]) w := fun s => by go_simp
 have p6 : ∀ s : Bt, (part 29 #[υ s.r0, υ s.r1, υ s.s0, υ s.s1, υ s.c0, υ s.c1, υ s.z0, υ s.z1] 6).run Tryz.prog w = .ok (.agg #[υ s.z0, υ s.z1]) w := fun s => by go_simp
 have hb' : b = (((z.r0 == x.r0 && z.r1 == x.r1) && (z.s0 == x.s0 && z.s1 == x.s1)) && ((z.c0 == x.c0 && z.c1 == x.c1) && (z.z0 == x.z0 && z.z1 == x.z1))) := by
  rw [Bool.eq_iff_iff, hb]
  obtain ⟨z0, z1, z2, z3, z4, z5, z6, z7⟩ := z
  obtain ⟨x0, x1, x2, x3, x4, x5, x6, x7⟩ := x
  simp only [Bt.mk.injEq, Bool.and_eq_true, beq_iff_eq]
  constructor
  · rintro ⟨h0, h1, h2, h3, h4, h5, h6, h7⟩; exact ⟨⟨⟨h0, h1⟩, h2, h3⟩, ⟨h4, h5⟩, h6, h7⟩
  · rintro ⟨⟨⟨h0, h1⟩, h2, h3⟩, ⟨h4, h5⟩, h6, h7⟩; exact ⟨h0, h1, h2, h3, h4, h5, h6, h7⟩
 subst hb'
 simp only [Op.eqFields, e0, e1, e2, e3, e4, e5, e6, e7, e8, e9, e10, e11]
 rw [if_pos (by decide), if_pos (by decide), if_pos (by decide), if_pos (by decide)]
 simp only [Sem.run_bind, Sem.run_ite, Sem.run_pure, p0, p2, p4, p6, hq, Result.andThen_ok]
 generalize (z.r0 == x.r0 && z.r1 == x.r1) = b0
 generalize (z.s0 == x.s0 && z.s1 == x.s1) = b1
 generalize (z.c0 == x.c0 && z.c1 == x.c1) = b2
 generalize (z.z0 == x.z0 && z.z1 == x.z1) = b3
 cases b0 <;> cases b1 <;> cases b2 <;> cases b3 <;> simp
def validP (P Q G y : Int) (n : Nat) (V : Vt) : Prop := V.n = n ∧ V.m = n ∧ (∀ i, i < n → provB P Q G y (V.bs.getD i (0, 0)).1 (V.bs.getD i (0, 0)).2 (V.ps.getD i Bt.zero) (i : Int)) ∧
 ((V.one = true ∧ okS P V.bs = true ∧ provB P Q G y (allP P V.bs).1 (allP P V.bs).2 V.z 255) ∨ (V.one = false ∧ V.z = Bt.zero))
theorem boolP {v : Bool} {p : Prop} (hv : v = true ↔ p) (h : ¬ p) : v = false := by
 cases v with
 | false => rfl
 | true => exact absurd (hv.1 rfl) h
theorem Prop.bool (p : Prop) : ∃ v : Bool, v = true ↔ p := by
 by_cases h : p
 · exact ⟨true, by simp [h]⟩
 · exact ⟨false, by simp [h]⟩
theorem emod_nn {a P : Int} (ha : 0 ≤ a) (hP : 0 ≤ P) : 0 ≤ a % P := by
 by_cases h : P = 0
 · subst h; simpa using ha
 · exact Int.emod_nonneg _ h
theorem allP_nn {P : Int} (hP : 0 ≤ P) (ps : List (Int × Int)) (h : ∀ p, p ∈ ps → 0 ≤ p.1 ∧ 0 ≤ p.2) : 0 ≤ (allP P ps).1 ∧ 0 ≤ (allP P ps).2 := by
 suffices hs : ∀ (l : List (Int × Int)) (x : Int × Int), 0 ≤ x.1 → 0 ≤ x.2 → (∀ p, p ∈ l → 0 ≤ p.1 ∧ 0 ≤ p.2) → 0 ≤ (l.foldl (plusP P) x).1 ∧ 0 ≤ (l.foldl (plusP P) x).2 from hs ps (1, 1) (by decide) (by decide) h
 intro l
 induction l with
 | nil => intro x h1 h2 _; exact ⟨h1, h2⟩
 | cons p l ih =>
  intro x h1 h2 h3
  rw [List.foldl_cons]
  have h4 := h3 p (by simp)
  have e1 : 0 ≤ x.1 * p.1 := Int.mul_nonneg h1 h4.1
  have e2 : 0 ≤ x.2 * p.2 := Int.mul_nonneg h2 h4.2
  exact ih _ (by unfold plusP; exact emod_nn e1 hP) (by unfold plusP; exact emod_nn e2 hP) (fun q hq => h3 q (by simp [hq]))
set_option maxHeartbeats 8000000 in
theorem valid_aux {P Q G y : Int} {a b : Option Addr} {n c d : Nat} {bs : List (Int × Int)} {ps : List Bt} {one : Bool} {z : Bt} {v : Bool} (w : World) (hT : Tabs w) (hH : Has P Q G) (hy : 0 ≤ y) (hn : n ≤ 10) (hn1 : 1 ≤ n)
 (h1 : ShS w a n bs) (u1 : ∀ q, q ∈ bs → U64 q.1 ∧ U64 q.2) (h2 : ShB w b n ps) (u2 : ∀ q, q ∈ ps → q.u) (uz : z.u)
 (hv : v = true ↔ (∀ i, i < n → provB P Q G y (bs.getD i (0, 0)).1 (bs.getD i (0, 0)).2 (ps.getD i Bt.zero) (i : Int)) ∧ ((one = true ∧ okS P bs = true ∧ provB P Q G y (allP P bs).1 (allP P bs).2 z 255) ∨ (one = false ∧ z = Bt.zero))) :
 Calls Tryz.prog 41 #[.agg #[υ P, υ Q, υ G], υ y, .int .i64 (n : Int), .agg #[.slice a n c, .slice b n d, .bool one, υ z.r0, υ z.r1, υ z.s0, υ z.s1, υ z.c0, υ z.c1, υ z.z0, υ z.z1]] w fun e w' => e = .returned (.bool v) ∧ Below w.heap.size w w' := by
 have hP : 0 ≤ P := by obtain ⟨p5, p3, hQ, pq, g2, gP⟩ := id hH; omega
 have hG : 0 ≤ G := by obtain ⟨p5, p3, hQ, pq, g2, gP⟩ := id hH; omega
 have hQ : 0 ≤ Q := by obtain ⟨p5, p3, hQ, pq, g2, gP⟩ := id hH; omega
 obtain ⟨s, o, hsa, -⟩ := h1.at 0 (by omega)
 obtain ⟨s', o', -, hsb, -⟩ := h2.at 0 (by omega)
 subst hsa hsb
 have HH := Lh hH
 have HT := Lh hT
 have H1 := Lh h1
 have H2 := Lh h2
 have U1 := Lh u1
 have U2 := Lh u2
 have UZ := Lh uz
 have HV := Lh hv
 obtain ⟨F_g, F_v, HBW⟩ := bx2 w [υ P, υ Q, υ G] 24 [.slice (some ⟨s, o, none⟩) n c, .slice (some ⟨s', o', none⟩) n d, .bool one, υ z.r0, υ z.r1, υ z.s0, υ z.s1, υ z.c0, υ z.c1, υ z.z0, υ z.z1] 33
 clear hT h1 h2 u1 u2 uz hv hH
 go_enter Tryz.func41, Tryz.ntmps41
 obtain ⟨⟨q0, q1, q2, q3, q4, q5, q6, q7, q8, q9, q10⟩, -⟩ := F_v.o.k11
 go_wp2_with fail
 clear q0 q1 q2 q3 q4 q5 q6 q7 q8 q9 q10
 go_loopw [28] (fun c28 wr => ∃ i : Nat, i ≤ n ∧ c28 = .int .i64 i ∧ Hid (∀ j, j < i → provB P Q G y (bs.getD j (0, 0)).1 (bs.getD j (0, 0)).2 (ps.getD j Bt.zero) (j : Int)) ∧ Hid (Cl wr w.heap.size [υ P, υ Q, υ G]) ∧ Hid (Cl wr (w.heap.size + 1) [.slice (some ⟨s, o, none⟩) n c, .slice (some ⟨s', o', none⟩) n d, .bool one, υ z.r0, υ z.r1, υ z.s0, υ z.s1, υ z.c0, υ z.c1, υ z.z0, υ z.z1]) ∧ Hid (Below w.heap.size w wr)) (fun c28 _ => n - (intOf c28).toNat)
 case atStart => exact ⟨0, by omega, rfl, Lh (fun j hj => by omega), F_g.o, F_v.o, HBW.o⟩
 case round =>
  clear F_g F_v HBW
  obtain ⟨i, hi, rfl, HPR, F_g, F_v, HBW⟩ := hrel
  by_cases hlt : i < n
  case pos =>
   have hd : decide ((i : Int) < (n : Int)) = true := decide_eq_true (by omega)
   have hi0 : (0 : Int) ≤ (i : Int) := by omega
   have hi2 : (i : Int) < (n : Int) := by omega
   have hwi : IntKind.i64.wrap ((i : Int) + 1) = (i : Int) + 1 := IntWalk.i64_in _ (by omega)
   have hw8 : IntKind.u8.wrap (i : Int) = (i : Int) := by simp [IntKind.wrap, IntKind.bits, IntKind.signed]; omega
   have cS : Tryz.prog.cellsOf 75 = 2 := by kernel_rfl
   have cB : Tryz.prog.cellsOf 31 = 8 := by kernel_rfl
   obtain ⟨s1, o1, hsa, hsl, e0, e1⟩ := (H1.o.keep HBW.o).at i hlt
   injection hsa with hsa; injection hsa with ea eb _; subst ea eb
   obtain ⟨x, x2, hxy⟩ : ∃ x y, bs.getD i (0, 0) = (x, y) := ⟨_, _, rfl⟩
   rw [hxy] at e0 e1
   simp only at e0 e1
   have hxm : (x, x2) ∈ bs := by
    have hl : i < bs.length := by rw [← H1.o.len]; exact hlt
    rw [← hxy, List.getD_eq_getElem?_getD, List.getElem?_eq_getElem hl]; exact List.getElem_mem hl
   have x0 := (U1.o _ hxm).1.1
   have y0 := (U1.o _ hxm).2.1
   have HBW6 := Lh (HBW.o.alloc HBW.o.size (.cells #[υ x, υ x2] 75))
   obtain ⟨s2, o2, zi, hsb, hz_, hbc⟩ := (H2.o.keep HBW6.o).at i hlt
   injection hsb with hsb; injection hsb with ea eb _; subst ea eb
   have HZI := Lh (show zi.u from U2.o zi (List.mem_of_getElem? hz_))
   obtain ⟨-, b0, b1, b2, b3, b4, b5, b6, b7⟩ := hbc
   have HPI := Lh (show provB P Q G y (bs.getD i (0, 0)).1 (bs.getD i (0, 0)).2 (ps.getD i Bt.zero) (i : Int) ↔ provB P Q G y x x2 zi (i : Int) by rw [hxy, List.getD_eq_getElem?_getD, hz_]; rfl)
   clear hxy hxm hsl hz_
   have F_s := Lh (Cl.at wr [υ x, υ x2] 75 wr.heap.size rfl)
   have F_g6 := Lh (F_g.o.alloc (.cells #[υ x, υ x2] 75))
   have F_v6 := Lh (F_v.o.alloc (.cells #[υ x, υ x2] 75))
   obtain ⟨v', hv'⟩ := Prop.bool (provB P Q G y x x2 zi (i : Int))
   have HV' := Lh hv'
   clear hv'
   go_wp2_with fail
   have g0 := F_g6.o.c 0 _ rfl
   have g1 := F_g6.o.c 1 _ rfl
   have g2' := F_g6.o.c 2 _ rfl
   have s0 := F_s.o.c 0 _ rfl
   have s1 := F_s.o.c 1 _ rfl
   have v1 := F_v6.o.c 1 _ rfl
   go_cut [28, 44] from 28 to 45 (fun c28 c44 wx => c28 = .int .i64 i ∧ c44 = .bool (!v') ∧ Hid (Cl wx w.heap.size [υ P, υ Q, υ G]) ∧ Hid (Cl wx (w.heap.size + 1) [.slice (some ⟨s, o, none⟩) n c, .slice (some ⟨s', o', none⟩) n d, .bool one, υ z.r0, υ z.r1, υ z.s0, υ z.s1, υ z.c0, υ z.c1, υ z.z0, υ z.z1]) ∧ Hid (Below w.heap.size w wx))
   case first =>
    go_region_law (first
     | (go_simp
        go_at_call 82
        refine (proved_any (v := v') _ ((HT.o.below HBW6.o).below (Below.refl _ _).drew) hP hQ hG hy x0 y0 HZI.o hi0 (by omega) HV'.o).mono ?_
        rintro e w5 ⟨rfl, hb5⟩
        have HB5 := Lh ((Below.refl _ _).drew.trans hb5)
        clear hb5))
    all_goals (go_wp2_with fail; go_meet)
    all_goals exact ⟨rfl, by simp, F_g6.o.keep HB5.o, F_v6.o.keep HB5.o, HBW6.o.trans (HB5.o.mono HBW6.o.size)⟩
   case rest =>
    clear F_g F_v HBW F_g6 F_v6 F_s HBW6 g0 g1 g2' s0 s1 v1 b0 b1 b2 b3 b4 b5 b6 b7 e0 e1
    obtain ⟨rfl, rfl, F_g, F_v, HBW⟩ := hcut
    cases v' with
    | true =>
     simp only [Bool.not_true]
     go_wp2_with fail
     go_roundw
     case rel => exact ⟨i + 1, by omega, by go_num, Lh (fun j hj => by
      by_cases hj' : j < i
      · exact HPR.o j hj'
      · obtain rfl : j = i := by omega
        exact HPI.o.2 (HV'.o.1 rfl)), F_g.o, F_v.o, HBW.o⟩
     case measure => simp [intOf] <;> omega
    | false =>
     have HVF := Lh (show v = false from boolP HV.o (fun h => by have := HV'.o.2 (HPI.o.1 (h.1 i hlt)); cases this))
     simp only [Bool.not_false]
     go_wp2_with fail
     go_ret
     exact ⟨by rw [HVF.o]; rfl, HBW.o⟩
  case neg =>
   obtain rfl : i = n := by omega
   have hd : decide ((i : Int) < (i : Int)) = false := decide_eq_false (by omega)
   obtain ⟨⟨q0, q1, q2, q3, q4, q5, q6, q7, q8, q9, q10⟩, -⟩ := F_v.o.k11
   cases one with
   | false =>
    obtain ⟨e, he⟩ := Prop.bool (z = Bt.zero)
    have HE := Lh (show v = e by
     have h1 : v = true ↔ z = Bt.zero := HV.o.trans ⟨fun h => by rcases h.2 with ⟨h2, -⟩ | ⟨-, h2⟩; cases h2; exact h2, fun h => ⟨HPR.o, .inr ⟨rfl, h⟩⟩⟩
     rw [Bool.eq_iff_iff, h1, he])
    have heq := eq_bit2 z Bt.zero e he
    simp only [Bt.zero] at heq
    clear he
    go_wp2_with fail
    go_ret
    exact ⟨by rw [HE.o]; rfl, HBW.o⟩
   | true =>
    obtain ⟨sx, sy, se, hS⟩ := SumS.exists P Q G bs
    have HS := Lh hS
    clear hS
    have HNN := Lh (show ∀ p, p ∈ bs → 0 ≤ p.1 ∧ 0 ≤ p.2 from fun p hp => ⟨(U1.o p hp).1.1, (U1.o p hp).2.1⟩)
    have g0 := F_g.o.c 0 _ rfl
    have g1 := F_g.o.c 1 _ rfl
    have g2' := F_g.o.c 2 _ rfl
    have HEB := Lh (show v = true ↔ okS P bs = true ∧ provB P Q G y (allP P bs).1 (allP P bs).2 z 255 from
     HV.o.trans ⟨fun h => (h.2.resolve_right (fun h3 => by cases h3.1)).2, fun h => ⟨HPR.o, .inl ⟨rfl, h⟩⟩⟩)
    go_wp2_with fail
    clear g0 g1 g2' q0 q1 q2 q3 q4 q5 q6 q7 q8 q9 q10
    refine (esum_any _ hP hQ hG (H1.o.keep HBW.o) HNN.o HS.o).mono ?_
    rintro e w6 ⟨rfl, hb6⟩
    have F_g6 := Lh ((F_g.o.keep hb6).alloc (.cells #[υ sx, υ sy] 75))
    have F_v6 := Lh ((F_v.o.keep hb6).alloc (.cells #[υ sx, υ sy] 75))
    have HB6' := HBW.o.trans (hb6.mono HBW.o.size)
    have HB6 := Lh (HB6'.alloc HB6'.size (.cells #[υ sx, υ sy] 75))
    have F_s := Lh (Cl.at w6 [υ sx, υ sy] 75 w6.heap.size rfl)
    clear hb6 HB6'
    have g0 := F_g6.o.c 0 _ rfl
    have g1 := F_g6.o.c 1 _ rfl
    have g2' := F_g6.o.c 2 _ rfl
    have s0 := F_s.o.c 0 _ rfl
    have s1 := F_s.o.c 1 _ rfl
    obtain ⟨⟨q0, q1, q2, q3, q4, q5, q6, q7, q8, q9, q10⟩, -⟩ := F_v6.o.k11
    have hlen : bs.length ≤ 4096 := by rw [← H1.o.len]; omega
    rcases HS.o with ⟨h, -⟩ | ⟨-, h, -⟩ | ⟨-, -, h, rfl, rfl, rfl⟩ | ⟨-, -, h, h2, rfl⟩
    · exact absurd HH.o h
    · omega
    · have HVF := Lh (show v = false from boolP HEB.o (fun hh => by rw [h] at hh; cases hh.1))
      clear hlen h
      go_wp2_with fail
      go_ret
      exact ⟨by rw [HVF.o]; rfl, HB6.o⟩
    · have hnn := allP_nn hP bs HNN.o
      rw [h2] at hnn
      have sx0 : 0 ≤ sx := hnn.1
      have sy0 : 0 ≤ sy := hnn.2
      have HE := Lh (show v = true ↔ provB P Q G y sx sy z 255 by rw [HEB.o, h2]; exact ⟨fun hh => hh.2, fun hh => ⟨h, hh⟩⟩)
      clear hlen h h2 hnn
      go_wp2_with fail
      refine (proved_any (v := v) _ (HT.o.below HB6.o) hP hQ hG hy sx0 sy0 UZ.o (by decide) (by decide) HE.o).mono ?_
      rintro e w7 ⟨rfl, hb7⟩
      have HB7 := Lh (HB6.o.trans (hb7.mono HB6.o.size))
      clear hb7 g0 g1 g2' s0 s1 q0 q1 q2 q3 q4 q5 q6 q7 q8 q9 q10
      go_wp2_with fail
      go_ret
      exact ⟨rfl, HB7.o⟩
open Go Go.RowKit Num Sha
set_option maxHeartbeats 8000000 in
theorem valid_any {P Q G y : Int} {n : Nat} {V : Vt} {v : Bool} (w : World) (hT : Tabs w) (hH : Has P Q G) (hy : 0 ≤ y) (hn : n ≤ 10) (hn1 : 1 ≤ n) (hV : VtIn w V) (hv : v = true ↔ validP P Q G y n V) :
 Calls Tryz.prog 41 #[.agg #[υ P, υ Q, υ G], υ y, .int .i64 (n : Int), V.v] w fun e w' => e = .returned (.bool v) ∧ Below w.heap.size w w' := by
 by_cases h1 : V.n = n
 case neg =>
  have HVF := Lh (show v = false from boolP hv (fun h => h1 h.1))
  have hne : ¬ ((V.n : Int) = (n : Int)) := by omega
  have F_v := Lh (VBox.at (w.alloc (.cells #[υ P, υ Q, υ G] 24)) V 33 (w.heap.size + 1) (by simp))
  have HBW := Lh (show Below w.heap.size w ((w.alloc (.cells #[υ P, υ Q, υ G] 24)).alloc (.cells V.ca 33)) from ((Below.refl _ _).alloc (Nat.le_refl _) _).alloc (by simp) _)
  clear hT hH hV hv h1
  obtain ⟨-, v0, v1, -⟩ := id F_v.o
  unfold Vt.v
  go_enter Tryz.func41, Tryz.ntmps41
  go_wp2_with fail
  go_ret
  exact ⟨by rw [HVF.o]; rfl, HBW.o⟩
 case pos =>
 by_cases h2 : V.m = n
 case neg =>
  have HVF := Lh (show v = false from boolP hv (fun h => h2 h.2.1))
  have hne : ¬ ((V.m : Int) = (n : Int)) := by omega
  have F_v := Lh (VBox.at (w.alloc (.cells #[υ P, υ Q, υ G] 24)) V 33 (w.heap.size + 1) (by simp))
  have HBW := Lh (show Below w.heap.size w ((w.alloc (.cells #[υ P, υ Q, υ G] 24)).alloc (.cells V.ca 33)) from ((Below.refl _ _).alloc (Nat.le_refl _) _).alloc (by simp) _)
  subst h1
  clear hT hH hV hv h2
  obtain ⟨-, v0, v1, -⟩ := id F_v.o
  unfold Vt.v
  go_enter Tryz.func41, Tryz.ntmps41
  go_wp2_with fail
  go_ret
  exact ⟨by rw [HVF.o]; rfl, HBW.o⟩
 case pos =>
 obtain ⟨g1, g2, g3, g4, g5, g6, g7⟩ := hV
 obtain ⟨a, k, c, bs, b, m, d, ps, one, z⟩ := V
 simp only at *
 subst h1 h2
 exact valid_aux w hT hH hy hn hn1 g1 g2 g4 g5 g7 (hv.trans ⟨fun h => ⟨h.2.2.1, h.2.2.2⟩, fun h => ⟨rfl, rfl, h.1, h.2⟩⟩)
def checkP (P Q G y n : Int) (V : Vt) (e : Int) : Prop := (chkB P Q G y n ≠ 0 ∧ e = chkB P Q G y n) ∨ (chkB P Q G y n = 0 ∧ ((validP P Q G y n.toNat V ∧ e = 0) ∨ (¬ validP P Q G y n.toNat V ∧ e = 360)))
theorem checkP.exists (P Q G y n : Int) (V : Vt) : ∃ e, checkP P Q G y n V e := by
 by_cases h : chkB P Q G y n = 0
 · by_cases hp : validP P Q G y n.toNat V
   · exact ⟨0, .inr ⟨h, .inl ⟨hp, rfl⟩⟩⟩
   · exact ⟨360, .inr ⟨h, .inr ⟨hp, rfl⟩⟩⟩
 · exact ⟨_, .inl ⟨h, rfl⟩⟩
open Go Go.RowKit Num Sha
set_option maxHeartbeats 4000000 in
theorem rPlus_any {P Q G a b c d x y : Int} (w : World) (PM : P < 2147483648) (a0 : 0 ≤ a) (aP : a < P) (b0 : 0 ≤ b) (bP : b < P) (c0 : 0 ≤ c) (cP : c < P) (d0 : 0 ≤ d) (dP : d < P) (hx : a * c % P = x) (hy : b * d % P = y) :
 Calls Tryz.prog 117 #[.agg #[υ P, υ Q, υ G], .agg #[υ a, υ b], .agg #[υ c, υ d]] w fun e w' => e = .returned (.agg #[υ x, υ y]) ∧ Below w.heap.size w w' := by
 obtain ⟨k1, k2⟩ := mul_bound a0 (by omega) c0 (by omega)
 obtain ⟨l1, l2⟩ := mul_bound b0 (by omega) d0 (by omega)
 have k3 := wrap_u k1 (by omega)
 have l3 := wrap_u l1 (by omega)
 have k4 : (a * c).tmod P = x := (tmod_u k1).trans hx
 have l4 : (b * d).tmod P = y := (tmod_u l1).trans hy
 have k5 : 0 ≤ x := hx ▸ Int.emod_nonneg _ (by omega)
 have k6 : x < P := hx ▸ Int.emod_lt_of_pos _ (by omega)
 have l5 : 0 ≤ y := hy ▸ Int.emod_nonneg _ (by omega)
 have l6 : y < P := hy ▸ Int.emod_lt_of_pos _ (by omega)
 have k7 := wrap_u k5 (by omega)
 have l7 := wrap_u l5 (by omega)
 have k8 : ¬ P = 0 := by omega
 clear hx hy
 have F_g := Lh (show Boxed ((((w.alloc (.cells #[υ P, υ Q, υ G] 24)).alloc (.cells #[υ a, υ b] 75)).alloc (.cells #[υ c, υ d] 75)).alloc (.cells #[υ 0, υ 0] 75)) (w.heap.size) P Q G from (((Boxed.at _ P Q G _ (w.heap.size) (by simp)).alloc _).alloc _).alloc _)
 have F_u := Lh (show Pair ((((w.alloc (.cells #[υ P, υ Q, υ G] 24)).alloc (.cells #[υ a, υ b] 75)).alloc (.cells #[υ c, υ d] 75)).alloc (.cells #[υ 0, υ 0] 75)) (w.heap.size + 1) a b from ((Pair.at _ a b _ (w.heap.size + 1) (by simp)).alloc _).alloc _)
 have F_v := Lh (show Pair ((((w.alloc (.cells #[υ P, υ Q, υ G] 24)).alloc (.cells #[υ a, υ b] 75)).alloc (.cells #[υ c, υ d] 75)).alloc (.cells #[υ 0, υ 0] 75)) (w.heap.size + 1 + 1) c d from (Pair.at _ c d _ (w.heap.size + 1 + 1) (by simp)).alloc _)
 have F_r := Lh (show Pair ((((w.alloc (.cells #[υ P, υ Q, υ G] 24)).alloc (.cells #[υ a, υ b] 75)).alloc (.cells #[υ c, υ d] 75)).alloc (.cells #[υ 0, υ 0] 75)) (w.heap.size + 1 + 1 + 1) 0 0 from Pair.at _ 0 0 _ (w.heap.size + 1 + 1 + 1) (by simp))
 have HBW := Lh (show Below w.heap.size w ((((w.alloc (.cells #[υ P, υ Q, υ G] 24)).alloc (.cells #[υ a, υ b] 75)).alloc (.cells #[υ c, υ d] 75)).alloc (.cells #[υ 0, υ 0] 75)) from ((((Below.refl _ _).alloc (by simp <;> omega) _).alloc (by simp <;> omega) _).alloc (by simp <;> omega) _).alloc (by simp <;> omega) _)
 go_enter Tryz.func117, Tryz.ntmps117
 go_wp2_with fail
 replace F_g := Lh F_g.o.drew
 replace F_u := Lh F_u.o.drew
 replace F_v := Lh F_v.o.drew
 replace F_r := Lh F_r.o.drew
 replace HBW := Lh HBW.o.drew
 have hS := And.intro F_g.o.s (And.intro F_u.o.s F_v.o.s)
 obtain ⟨za, zb, zc, zd, -⟩ := id F_r.o
 refine wp_region_stage 17 (fun w' => SBox w' w.heap.size P Q G ∧ SPair w' (w.heap.size + 1) a b ∧ SPair w' (w.heap.size + 1 + 1) c d) (by kernel_rfl) ?_
 refine tkQ 0 (some 7) (.fieldAddr 75 (.tmp 4) 0) 0 ?_
 simp only [sY]
 refine tkL (i := 1) (some 8) (.load 22 (.tmp 7)) 22 [4, 7, 16, 17] (v := ?_) hS (fun w' hSw => ?_) ?_
 rotate_left
 · obtain ⟨⟨s0, s1, s2⟩, ⟨s3, s4⟩, ⟨s5, s6⟩⟩ := hSw
   unfold bareOp; go_simp; try with_reducible rfl
 simp only [sY]
 refine tkQ 2 (some 9) (.fieldAddr 75 (.tmp 5) 0) 0 ?_
 simp only [sY]
 refine tkL (i := 3) (some 10) (.load 22 (.tmp 9)) 22 [4, 7, 16, 17] (v := ?_) hS (fun w' hSw => ?_) ?_
 rotate_left
 · obtain ⟨⟨s0, s1, s2⟩, ⟨s3, s4⟩, ⟨s5, s6⟩⟩ := hSw
   unfold bareOp; go_simp; try with_reducible rfl
 simp only [sY]
 refine tkQ 4 (some 11) (.binOp .mul 22 (.tmp 8) (.tmp 10) 22) 22 ?_
 simp only [sY]
 refine tkQ 5 (some 12) (.fieldAddr 24 (.tmp 3) 0) 0 ?_
 simp only [sY]
 refine tkL (i := 6) (some 13) (.load 22 (.tmp 12)) 22 [7, 16, 17] (v := ?_) hS (fun w' hSw => ?_) ?_
 rotate_left
 · obtain ⟨⟨s0, s1, s2⟩, ⟨s3, s4⟩, ⟨s5, s6⟩⟩ := hSw
   unfold bareOp; go_simp; try with_reducible rfl
 simp only [sY]
 refine tkQ 7 (some 14) (.binOp .rem 22 (.tmp 11) (.tmp 13) 22) 22 ?_
 simp only [sY]
 refine tkQ 8 (some 15) (.fieldAddr 75 (.tmp 4) 1) 0 ?_
 simp only [sY]
 refine tkL (i := 9) (some 16) (.load 22 (.tmp 15)) 22 [12, 15, 16, 17] (v := ?_) hS (fun w' hSw => ?_) ?_
 rotate_left
 · obtain ⟨⟨s0, s1, s2⟩, ⟨s3, s4⟩, ⟨s5, s6⟩⟩ := hSw
   unfold bareOp; go_simp; try with_reducible rfl
 simp only [sY]
 refine tkQ 10 (some 17) (.fieldAddr 75 (.tmp 5) 1) 0 ?_
 simp only [sY]
 refine tkL (i := 11) (some 18) (.load 22 (.tmp 17)) 22 [12, 15, 16, 17] (v := ?_) hS (fun w' hSw => ?_) ?_
 rotate_left
 · obtain ⟨⟨s0, s1, s2⟩, ⟨s3, s4⟩, ⟨s5, s6⟩⟩ := hSw
   unfold bareOp; go_simp; try with_reducible rfl
 simp only [sY]
 refine tkQ 12 (some 19) (.binOp .mul 22 (.tmp 16) (.tmp 18) 22) 22 ?_
 simp only [sY]
 refine tkQ 13 (some 20) (.fieldAddr 24 (.tmp 3) 0) 0 ?_
 simp only [sY]
 refine tkL (i := 14) (some 21) (.load 22 (.tmp 20)) 22 [15, 16, 17] (v := ?_) hS (fun w' hSw => ?_) ?_
 rotate_left
 · obtain ⟨⟨s0, s1, s2⟩, ⟨s3, s4⟩, ⟨s5, s6⟩⟩ := hSw
   unfold bareOp; go_simp; try with_reducible rfl
 simp only [sY]
 refine tkQ 15 (some 22) (.binOp .rem 22 (.tmp 19) (.tmp 21) 22) 22 ?_
 simp only [sY]
 refine tkQ 16 (some 23) (.build 75 #[(0, .tmp 14), (1, .tmp 22)]) 75 ?_
 simp only [sY]
 refine onl (i := 17) none (.store 75 (.tmp 6) (.tmp 23)) 0 (fun K hK => ?_)
 unfold bareOp
 go_wp2_with fail
 refine hK.o _ _ lt8 ?_
 clear hK K
 try simp only [sY]
 refine wpAnyB_done (by kernel_rfl) ?_ _
 go_wp2_with fail
 exact bodyPost_ret (res_alone (b := w.heap.size + 1 + 1 + 1) (x := x) (y := y) rfl (by repeat (first | exact Pair.at _ x y _ _ (by simp) | apply Pair.drew)) _ rfl) rfl ⟨rfl, by repeat (first | exact Below.refl _ _ | apply Below.drew | (refine Below.alloc ?_ (by simp <;> omega) _))⟩
structure AllIn (w wr : World) (g R X : Nat) (P Q G : Int) (ps : List (Int × Int)) (k : Nat) : Prop where
 sum : ∃ p q, allP P (ps.take k) = (p, q) ∧ 0 ≤ p ∧ p < P ∧ 0 ≤ q ∧ q < P ∧ Pair wr X p q
 box : Boxed wr g P Q G
 res : Pair wr R 0 0
 bel : Below w.heap.size w wr
def SCells (w : World) (s o k : Nat) (u v : Int) : Prop := w.cell? ⟨s, o + k * 2, none⟩ = some (.int .u64 u) ∧ w.cell? ⟨s, o + k * 2 + 1, none⟩ = some (.int .u64 v)
theorem SCells.keep {w w' : World} {s o k : Nat} {u v : Int} (h : SCells w s o k u v) (hs : s < w.heap.size) (hb : Below w.heap.size w w') : SCells w' s o k u v :=
 ⟨(hb.cell (p := ⟨s, o + k * 2, none⟩) hs).trans h.1, (hb.cell (p := ⟨s, o + k * 2 + 1, none⟩) hs).trans h.2⟩
theorem okS_mem {P : Int} {ps : List (Int × Int)} (h : okS P ps = true) {p : Int × Int} (hm : p ∈ ps) : p.1 < P ∧ p.2 < P := by
 have := List.all_eq_true.1 h _ hm
 simpa using this
set_option maxHeartbeats 1600000 in
theorem rall_any {P Q G x y : Int} {a : Option Addr} {n c : Nat} {ps : List (Int × Int)} (w : World) (hH : Has P Q G) (hS : ShS w a n ps) (hN : ∀ p, p ∈ ps → 0 ≤ p.1 ∧ 0 ≤ p.2) (ho : okS P ps = true) (hn : n ≤ 10000) (hv : allP P ps = (x, y)) :
 Calls Tryz.prog 85 #[.agg #[υ P, υ Q, υ G], .slice a n c] w fun e w' => e = .returned (.agg #[υ x, υ y]) ∧ Below w.heap.size w w' := by
 have HS := Lh hS
 have HN := Lh hN
 have HO := Lh ho
 have HV := Lh hv
 have PM := hH.2.1
 have hP1 : 1 < P := by have := hH.1; omega
 clear hS hN ho hv hH
 have F_g := Lh (show Boxed (((w.alloc (.cells #[υ P, υ Q, υ G] 24)).alloc (.cells #[υ 0, υ 0] 75)).alloc (.cells #[υ 1, υ 1] 75)) (w.heap.size) P Q G from ((Boxed.at _ P Q G _ (w.heap.size) (by simp)).alloc _).alloc _)
 have F_r := Lh (show Pair (((w.alloc (.cells #[υ P, υ Q, υ G] 24)).alloc (.cells #[υ 0, υ 0] 75)).alloc (.cells #[υ 1, υ 1] 75)) (w.heap.size + 1) 0 0 from (Pair.at _ 0 0 _ (w.heap.size + 1) (by simp)).alloc _)
 have F_x := Lh (show Pair (((w.alloc (.cells #[υ P, υ Q, υ G] 24)).alloc (.cells #[υ 0, υ 0] 75)).alloc (.cells #[υ 1, υ 1] 75)) (w.heap.size + 1 + 1) 1 1 from Pair.at _ 1 1 _ (w.heap.size + 1 + 1) (by simp))
 have HBW := Lh (show Below w.heap.size w (((w.alloc (.cells #[υ P, υ Q, υ G] 24)).alloc (.cells #[υ 0, υ 0] 75)).alloc (.cells #[υ 1, υ 1] 75)) from (((Below.refl _ _).alloc (by simp <;> omega) _).alloc (by simp <;> omega) _).alloc (by simp <;> omega) _)
 go_enter Tryz.func85, Tryz.ntmps85
 go_wp2_with fail
 go_loopw [6] (fun c6 wr => ∃ k : Nat, k ≤ n ∧ c6 = .int .i64 k ∧ Hid (AllIn w wr w.heap.size (w.heap.size + 1) (w.heap.size + 1 + 1) P Q G ps k)) (fun c6 _ => n - (intOf c6).toNat)
 case atStart => exact ⟨0, Nat.zero_le _, rfl, ⟨⟨1, 1, rfl, by omega, hP1, by omega, hP1, F_x.o⟩, F_g.o, F_r.o, HBW.o⟩⟩
 case round =>
  clear F_g F_r HBW F_x
  obtain ⟨k, hk, rfl, HK⟩ := hrel
  have hln := HS.o.len
  by_cases hlt : k < n
  case neg =>
   have hkn : k = n := by omega
   obtain ⟨p, q, hpq, p0, pP, q0, qP, hX⟩ := HK.o.sum
   have htk : ps.take k = ps := by rw [hkn, hln, List.take_length]
   obtain ⟨rfl, rfl⟩ : p = x ∧ q = y := by rw [htk, HV.o] at hpq; cases hpq; exact ⟨rfl, rfl⟩
   have F_r := Lh HK.o.res
   have HBW := Lh HK.o.bel
   obtain ⟨e0, e1, -, -, -⟩ := id hX
   clear hpq htk HK
   have hzr := HBW.o.size
   obtain ⟨r0, r1, r2, r3, -⟩ := id F_r.o
   go_wp2_with fail
   exact bodyPost_ret (res_alone rfl (F_r.o.stored p q) _ rfl) rfl ⟨rfl, (HBW.o.setCell (by simp <;> omega) _).setCell (by simp <;> omega) _⟩
  case pos =>
   obtain ⟨s, o, hsa, hsl, d0, d1⟩ := (HS.o.keep HK.o.bel).at k hlt
   obtain ⟨u, v, huv⟩ : ∃ u v, ps.getD k (0, 0) = (u, v) := ⟨_, _, rfl⟩
   rw [huv] at d0 d1
   have hkl : k < ps.length := by omega
   have hsw : s < w.heap.size := by
    rcases HS.o with ⟨h, -⟩ | ⟨s', o', h0, -, h2, -⟩
    · omega
    · rw [h0] at hsa; cases hsa; exact h2
   have hmem := HN.o _ (mem_getD hkl huv)
   have hlim := okS_mem HO.o (mem_getD hkl huv)
   have hu0 : 0 ≤ u := hmem.1
   have hv0 : 0 ≤ v := hmem.2
   have hu : u < P := hlim.1
   have hv : v < P := hlim.2
   have HA := Lh (allP_snoc P ps k u v hkl huv)
   clear huv hmem hlim hln
   obtain ⟨p, q, hpq, p0, pP, q0, qP, hX⟩ := HK.o.sum
   have HPQ := Lh hpq
   clear hpq
   have hk0 : (0 : Int) ≤ (k : Int) := by omega
   have hk1 : (k : Int) < (n : Int) := by omega
   have hzr := HK.o.bel.size
   have hzR := HK.o.res.lt
   have hzX := hX.lt
   subst hsa
   go_wp2_with fail
   have F_b := Lh HK.o.box.drew
   have F_r := Lh HK.o.res.drew
   have F_x := Lh hX.drew
   have HBW := Lh HK.o.bel.drew
   clear HK hX
   have hS := And.intro F_b.o.s (And.intro F_x.o.s (show SCells wr.drew s o k u v from ⟨d0, d1⟩))
   clear d0 d1
   have c26 : Tryz.prog.cellsOf 75 = 2 := by kernel_rfl
   refine wp_region_stage 7 (fun w' => SBox w' w.heap.size P Q G ∧ SPair w' (w.heap.size + 1 + 1) p q ∧ SCells w' s o k u v) (by kernel_rfl) ?_
   refine tkL (i := 0) (some 14) (.load 24 (.tmp 2)) 24 [6, 7] (v := ?_) hS (fun w' hSw => ?_) ?_
   rotate_left
   · obtain ⟨⟨s0, s1, s2⟩, ⟨s3, s4⟩, ⟨s5, s6⟩⟩ := hSw
     unfold bareOp; go_simp; try with_reducible rfl
   simp only [sY]
   refine tkL (i := 1) (some 15) (.load 75 (.tmp 5)) 75 [6, 7] (v := ?_) hS (fun w' hSw => ?_) ?_
   rotate_left
   · obtain ⟨⟨s0, s1, s2⟩, ⟨s3, s4⟩, ⟨s5, s6⟩⟩ := hSw
     unfold bareOp; go_simp; try with_reducible rfl
   simp only [sY]
   refine tkQ 2 (some 16) (.move (.tmp 1)) 27 ?_
   simp only [sY]
   refine tkQ 3 (some 17) (.move (.tmp 6)) 3 ?_
   simp only [sY]
   refine tkQ 4 (some 18) (.indexAddr 27 (.tmp 16) (.tmp 17)) 0 ?_
   simp only [sY]
   refine tkL (i := 5) (some 19) (.load 75 (.tmp 18)) 75 [6, 7] (v := ?_) hS (fun w' hSw => ?_) ?_
   rotate_left
   · obtain ⟨⟨s0, s1, s2⟩, ⟨s3, s4⟩, ⟨s5, s6⟩⟩ := hSw
     unfold bareOp; go_simp; try with_reducible rfl
   simp only [sY]
   refine onl (i := 6) (some 20) (.call { callee := .value (.func 117), args := #[.tmp 14, .tmp 15, .tmp 19], argTypes := #[24, 75, 75] }) 75 (fun K hK => ?_)
   unfold bareOp
   go_wp2_with (go_at_call 117; refine (rPlus_any _ PM p0 pP q0 qP hu0 hu hv0 hv rfl rfl).mono ?_; rintro e w3 ⟨rfl, hb3⟩)
   replace F_b := Lh (F_b.o.keep hb3)
   replace F_r := Lh (F_r.o.keep hb3)
   replace F_x := Lh (F_x.o.keep hb3)
   replace HBW := Kt HBW hb3
   have hd3 : SCells w3 s o k u v := ⟨(hb3.cell (p := ⟨s, o + k * 2, none⟩) (by simp; omega)).trans hS.2.2.1, (hb3.cell (p := ⟨s, o + k * 2 + 1, none⟩) (by simp; omega)).trans hS.2.2.2⟩
   replace hS := And.intro F_b.o.s (And.intro F_x.o.s hd3)
   clear hb3 hd3
   obtain ⟨za, zb, zc, zd, -⟩ := id F_x.o
   refine hK.o _ _ (fun _ => hS) ?_
   clear hK K
   try simp only [sY]
   refine onl (i := 7) none (.store 75 (.tmp 5) (.tmp 20)) 0 (fun K hK => ?_)
   unfold bareOp
   go_wp2_with fail
   refine hK.o _ _ lt8 ?_
   clear hK K
   try simp only [sY]
   refine wpAnyB_done (by kernel_rfl) ?_ _
   go_wp2_with fail
   go_roundw
   case rel =>
    refine ⟨k + 1, by omega, by go_num, ⟨⟨_, _, ?_, Int.emod_nonneg _ (by omega), Int.emod_lt_of_pos _ (by omega), Int.emod_nonneg _ (by omega), Int.emod_lt_of_pos _ (by omega), F_x.o.stored _ _⟩, (F_b.o.far (by omega) _).far (by omega) _, (F_r.o.far (by omega) _).far (by omega) _, (HBW.o.setCell (by simp <;> omega) _).setCell (by simp <;> omega) _⟩⟩
    rw [HA.o, HPQ.o]; rfl
   case measure => simp [intOf]; omega
open Go Go.RowKit Num Sha
structure Rv where
 a : Option Addr
 n : Nat
 c : Nat
 ms : List Int
 b : Option Addr
 m : Nat
 d : Nat
 ns : List Int
def Rv.v (R : Rv) : Value := .agg #[.slice R.a R.n R.c, .slice R.b R.m R.d]
structure RvIn (w : World) (R : Rv) : Prop where
 h1 : ShI .i64 w R.a R.n R.ms
 u1 : ∀ x, x ∈ R.ms → -9223372036854775808 ≤ x ∧ x ≤ 9223372036854775807
 k1 : R.a = none → R.c = 0
 h2 : ShI .u64 w R.b R.m R.ns
 u2 : ∀ x, x ∈ R.ns → U64 x
 k2 : R.b = none → R.d = 0
theorem RvIn.keep {w w' : World} {R : Rv} (h : RvIn w R) (hb : Below w.heap.size w w') : RvIn w' R := ⟨h.h1.keep hb, h.u1, h.k1, h.h2.keep hb, h.u2, h.k2⟩
set_option maxHeartbeats 8000000 in
theorem great_any {Q x : Int} {Bg : Nat} (w : World) (hc : w.cell? ⟨Bg, 1, none⟩ = some (υ Q)) :
 Calls Tryz.prog 37 #[υ x, .pointer (some ⟨Bg, 0, none⟩)] w fun e w' => e = .returned (.bool (decide (Q ≤ x))) ∧ w' = w := by
 go_enter Tryz.func37, Tryz.ntmps37
 go_wp2_with fail
 go_ret
 exact ⟨rfl, rfl⟩
theorem indexF_any {Q : Int} {Bg : Nat} {a : Option Addr} {m c : Nat} {l : List Int} (w : World) (hc : w.cell? ⟨Bg, 1, none⟩ = some (υ Q)) (hS : ShI .u64 w a m l) (hm : m ≤ 100000) :
 Calls Tryz.prog 81 #[.slice a m c, .func (.func 37) #[] #[.pointer (some ⟨Bg, 0, none⟩)]] w fun e w' => (∃ r : Int, e = .returned (.int .i64 r) ∧ (0 ≤ r ↔ ∃ x, x ∈ l ∧ Q ≤ x)) ∧ w' = w := by
 have HL := Lh hS.len
 have HS := Lh hS
 have HC := Lh hc
 clear hS hc
 go_enter Tryz.func81, Tryz.ntmps81
 go_wp2_with fail
 go_loop [5, 8] (fun _ c8 => ∃ (k : Nat), k ≤ m ∧ c8 = .int .i64 k ∧ Hid (∀ x, x ∈ l.take k → x < Q)) (fun _ c8 => m - (intOf c8).toNat)
 case atStart => exact ⟨0, by omega, rfl, Lh (by rw [List.take_zero]; intro x hx; cases hx)⟩
 case round =>
  obtain ⟨k, hk, rfl, HR⟩ := hrel
  by_cases hlt : k < m
  case neg =>
   obtain rfl : k = m := by omega
   have hd : decide ((k : Int) < (k : Int)) = false := decide_eq_false (by omega)
   go_wp2_with fail
   go_ret
   have h := HR.o
   rw [List.take_of_length_le (by rw [← HL.o]; exact Nat.le_refl _)] at h
   exact ⟨⟨_, rfl, fun h' => absurd h' (by simp), fun ⟨x, h1, h2⟩ => absurd h2 (Int.not_le.2 (h x h1))⟩, rfl⟩
  case pos =>
   have hd : decide ((k : Int) < (m : Int)) = true := decide_eq_true (by omega)
   have i0 : (0 : Int) ≤ (k : Int) := by omega
   have i1 : (k : Int) < (m : Int) := by omega
   have w1 : IntKind.i64.wrap ((k : Int) + 1) = (k : Int) + 1 := IntWalk.i64_in _ (by omega)
   obtain ⟨s, o, rfl, hcc⟩ : ∃ s o, a = some ⟨s, o, none⟩ ∧ w.cell? ⟨s, o + k, none⟩ = some (υ (l.getD k 0)) := by
    rcases HS.o with ⟨h1, _⟩ | ⟨s, o, h0, h1, h2, h3⟩
    · omega
    · exact ⟨s, o, h0, h3 k (by omega)⟩
   have HD := Lh (show l.take (k + 1) = l.take k ++ [l.getD k 0] ∧ l.getD k 0 ∈ l by
    have hl : k < l.length := by rw [← HL.o]; exact hlt
    rw [List.take_succ_eq_append_getElem hl, List.getD_eq_getElem?_getD, List.getElem?_eq_getElem hl]; exact ⟨rfl, List.getElem_mem hl⟩)
   generalize l.getD k 0 = x at hcc HD
   go_wp2_with fail
   refine (great_any _ HC.o).mono ?_
   rintro e w1 ⟨rfl, rfl⟩
   by_cases h1 : Q ≤ x
   case pos =>
    rw [decide_eq_true h1]
    go_wp2_with fail
    go_ret
    exact ⟨⟨_, rfl, fun _ => ⟨x, HD.o.2, h1⟩, fun _ => by simp⟩, rfl⟩
   case neg =>
    rw [decide_eq_false h1]
    go_wp2_with fail
    go_round
    case rel => exact ⟨k + 1, by omega, by go_num, Lh (by rw [HD.o.1]; intro z h; rcases List.mem_append.1 h with h | h; exact HR.o z h; simp at h; subst h; omega)⟩
    case measure => simp [intOf]; omega
theorem containsF_any {Q : Int} {Bg : Nat} {a : Option Addr} {m c : Nat} {l : List Int} {v : Bool} (w : World) (hc : w.cell? ⟨Bg, 1, none⟩ = some (υ Q)) (hS : ShI .u64 w a m l) (hm : m ≤ 100000) (hv : v = true ↔ ∃ x, x ∈ l ∧ Q ≤ x) :
 Calls Tryz.prog 38 #[.slice a m c, .func (.func 37) #[] #[.pointer (some ⟨Bg, 0, none⟩)]] w fun e w' => e = .returned (.bool v) ∧ w' = w := by
 have HS := Lh hS
 have HC := Lh hc
 have HV := Lh hv
 clear hS hc hv
 go_enter Tryz.func38, Tryz.ntmps38
 go_wp2_with fail
 refine (indexF_any _ HC.o HS.o hm).mono ?_
 rintro e w1 ⟨⟨r, rfl, hr⟩, rfl⟩
 have HR := Lh (show decide (0 ≤ r) = v by rw [Bool.eq_iff_iff, decide_eq_true_iff, hr, HV.o])
 clear hr
 go_wp2_with fail
 go_ret
 exact ⟨by rw [← HR.o]; rfl, rfl⟩
end Go.Proofs.YtlbldpkgnonbpaaGreatDoor
