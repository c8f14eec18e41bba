/- Seal, where it seals. -/
import Derived.Test.YtlbldpkgnonbpaaGreatDoorZqU
set_option linter.unusedSimpArgs false
set_option linter.unusedVariables false
set_option maxRecDepth 100000
namespace Go.Proofs.YtlbldpkgnonbpaaGreatDoor
open Go Go.RowKit Num Sha
def nsI (d : List Int) (i : Nat) : List Int := (List.range i).map fun t => d.getD (4 * t) 0
theorem nsI_succ (d : List Int) (i : Nat) : nsI d (i + 1) = nsI d i ++ [d.getD (4 * i) 0] := by simp [nsI, List.range_succ]
structure SlF (P Q G y : Int) (ms d : List Int) (i : Nat) (bs : List (Int × Int)) (ps : List Bt) : Prop where
  lb : bs.length = i
  lp : ps.length = i
  b : ∀ t, t < i → bs.getD t (0, 0) = encP P G y (msgS ms (t : Int)) (d.getD (4 * t) 0)
  p : ∀ t, t < i → BitZb P Q G y (msgS ms (t : Int)) (d.getD (4 * t) 0) (d.getD (4 * t + 1) 0) (d.getD (4 * t + 2) 0) (d.getD (4 * t + 3) 0) [(t : Int)] (ps.getD t Bt.zero)
theorem getD_snoc_lt {α : Type} {l : List α} {x z : α} {t : Nat} (h : t < l.length) : (l ++ [x]).getD t z = l.getD t z := by
 rw [List.getD_eq_getElem?_getD, List.getD_eq_getElem?_getD, List.getElem?_append_left h]
theorem getD_snoc_eq {α : Type} {l : List α} {x z : α} {t : Nat} (h : l.length = t) : (l ++ [x]).getD t z = x := by
 subst h; simp [List.getD_eq_getElem?_getD]
theorem SlF.snoc {P Q G y : Int} {ms d : List Int} {i : Nat} {bs : List (Int × Int)} {ps : List Bt} {ea eb : Int} {z : Bt} (h : SlF P Q G y ms d i bs ps) (he : encP P G y (msgS ms (i : Int)) (d.getD (4 * i) 0) = (ea, eb))
    (hz : BitZb P Q G y (msgS ms (i : Int)) (d.getD (4 * i) 0) (d.getD (4 * i + 1) 0) (d.getD (4 * i + 2) 0) (d.getD (4 * i + 3) 0) [(i : Int)] z) : SlF P Q G y ms d (i + 1) (bs ++ [(ea, eb)]) (ps ++ [z]) := by
  refine ⟨by rw [List.length_append, h.lb]; rfl, by rw [List.length_append, h.lp]; rfl, fun t ht => ?_, fun t ht => ?_⟩
  · by_cases e : t = i
    · subst e; rw [getD_snoc_eq h.lb, he]
    · rw [getD_snoc_lt (by rw [h.lb]; omega)]; exact h.b t (by omega)
  · by_cases e : t = i
    · subst e; rw [getD_snoc_eq h.lp]; exact hz
    · rw [getD_snoc_lt (by rw [h.lp]; omega)]; exact h.p t (by omega)
theorem SlF.nil (P Q G y : Int) (ms d : List Int) : SlF P Q G y ms d 0 [] [] := ⟨rfl, rfl, fun t ht => by omega, fun t ht => by omega⟩
structure SlD (w wd : World) (P Q G : Int) (sd nd : Nat) (d : List Int) : Prop where
  lt : w.heap.size + 1 + 1 + 1 < wd.heap.size
  g : Cl wd w.heap.size [.int .u64 P, .int .u64 Q, .int .u64 G]
  o : Cl wd (w.heap.size + 1 + 1) [.slice none 0 0, .slice none 0 0, .bool false, .int .u64 0, .int .u64 0, .int .u64 0, .int .u64 0, .int .u64 0, .int .u64 0, .int .u64 0, .int .u64 0]
  q : Cl wd (w.heap.size + 1 + 1 + 1) [.slice none 0 0, .slice none 0 0]
  s : sd < wd.heap.size
  l : nd = d.length
  c : ∀ k, k < d.length → wd.cell? ⟨sd, k, none⟩ = some (.int .u64 (d.getD k 0))
theorem OwnU8.lit {w : World} {base : Nat} {v : Value} {xs : List Int} (h : OwnU8 w base v xs) (h0 : 0 < xs.length) : ∃ g cap, v = .slice (some ⟨g, 0, none⟩) xs.length cap ∧ base ≤ g ∧ g < w.heap.size ∧ xs.length ≤ cap ∧ cap ≤ maxLen ∧ ∀ k, k < xs.length → w.cell? ⟨g, k, none⟩ = some (.int .u64 (xs.getD k 0)) := by
 have hlt := World.ownsRow.lt h
 rcases h.2 with ⟨rfl, hn⟩ | ⟨g, cap, cur, rfl, hb, hg, hc, hm, _⟩
 · omega
 · refine ⟨g, cap, rfl, hb, (hlt g rfl).2, hc, hm, fun k hk => ?_⟩
   have hcc := World.ownsRow.cells (g := g) h rfl k (.int .u64 (xs.getD k 0)) (by
    rw [List.getElem?_map, List.getElem?_eq_getElem hk, List.getD_eq_getElem?_getD, List.getElem?_eq_getElem hk]; rfl)
   rw [add_plain', Nat.zero_add] at hcc
   exact hcc
theorem sampS_d {seed : List Int} {q : Int} {k : Nat} {d : List Int} (hq : 0 < q) (h : sampS seed q k = some d) : ∀ t, 0 ≤ d.getD t 0 ∧ d.getD t 0 < q := by
 intro t
 by_cases ht : t < d.length
 · rw [List.getD_eq_getElem?_getD, List.getElem?_eq_getElem ht]
   exact sampS_bound hq h _ (List.getElem_mem ht)
 · rw [List.getD_eq_getElem?_getD, List.getElem?_eq_none (by omega)]
   exact ⟨Int.le_refl _, hq⟩
theorem SlD.of {w wd : World} {P Q G : Int} {sd nd : Nat} {d : List Int} (h : SlD w wd P Q G sd nd d) : True := trivial
def sealZ (P Q G y : Int) (j : Nat) (ms d : List Int) (one : Bool) (z : Bt) : Prop := (one = true ∧ BitZb P Q G y (ms.length : Int) (sumE Q d j) (d.getD (4 * j) 0) (d.getD (4 * j + 1) 0) (d.getD (4 * j + 2) 0) [255] z) ∨ (one = false ∧ z = Bt.zero)
theorem seal_fin {P Q G y : Int} {w : World} {j m c1 c2 c3 mc : Nat} {a1 a2 a3 ma : Option Addr} {ms d : List Int} {bs : List (Int × Int)} {ps : List Bt} {one : Bool} {z : Bt} (hF : SlF P Q G y ms d j bs ps) (hH : Has P Q G) (y0 : 0 ≤ y) (yP : y < P) (hd : ∀ t, 0 ≤ d.getD t 0 ∧ d.getD t 0 < Q)
    (h1 : ShS w a1 j bs) (k1 : a1 = none → c1 = 0) (h2 : ShB w a2 j ps) (k2 : a2 = none → c2 = 0) (h3 : ShI .i64 w ma m ms) (k3 : ma = none → mc = 0) (u3 : ∀ x, x ∈ ms → -9223372036854775808 ≤ x ∧ x ≤ 9223372036854775807) (hlm : m = ms.length) (h4 : ShI .u64 w a3 j (nsI d j)) (k4 : a3 = none → c3 = 0)
    (hz : sealZ P Q G y j ms d one z) :
    SealV P Q G y j ms one d ⟨a1, j, c1, bs, a2, j, c2, ps, one, z⟩ ⟨ma, m, mc, ms, a3, j, c3, nsI d j⟩ ∧ VtIn w ⟨a1, j, c1, bs, a2, j, c2, ps, one, z⟩ ∧ RvIn w ⟨ma, m, mc, ms, a3, j, c3, nsI d j⟩ := by
  obtain ⟨p5, p3, hQ', pq, g2, gP⟩ := id hH
  have hu : ∀ m r k c z' T (p : Bt), BitZb P Q G y m r k c z' T p → 0 ≤ c → c < Q → 0 ≤ z' → z' < Q → p.u := by
   intro m r k c z' T p hp c0 cQ z0 zQ
   obtain ⟨⟨p00, p01⟩, ⟨p10, p11⟩, ⟨p20, p21⟩, ⟨p30, p31⟩, ⟨p40, p41⟩, ⟨p50, p51⟩, ⟨p60, p61⟩, ⟨p70, p71⟩⟩ := BitZ.rng hp (by omega) (by omega) c0 cQ z0 zQ
   unfold Bt.u U64
   omega
  refine ⟨⟨rfl, rfl, rfl, hF.lb, hF.b, hF.p, hz, hlm, rfl, rfl, rfl⟩, ⟨h1, ?_, k1, h2, ?_, k2, ?_⟩, ⟨h3, u3, k3, h4, ?_, k4⟩⟩
  · intro q hq
    obtain ⟨t, ht, rfl⟩ := List.getElem_of_mem hq
    have hb := hF.b t (by rw [← hF.lb]; exact ht)
    rw [List.getD_eq_getElem?_getD, List.getElem?_eq_getElem ht] at hb
    have hb' : bs[t] = encP P G y (msgS ms (t : Int)) (d.getD (4 * t) 0) := hb
    rw [hb']
    have e1 : 0 ≤ powm G (d.getD (4 * t) 0) P ∧ powm G (d.getD (4 * t) 0) P < P := ⟨powm_nonneg (by omega), powm_lt (by omega)⟩
    have e2 : 0 ≤ (encP P G y (msgS ms (t : Int)) (d.getD (4 * t) 0)).2 ∧ (encP P G y (msgS ms (t : Int)) (d.getD (4 * t) 0)).2 < P := ⟨Int.emod_nonneg _ (by omega), Int.emod_lt_of_pos _ (by omega)⟩
    unfold U64
    exact ⟨⟨e1.1, by show powm G (d.getD (4 * t) 0) P ≤ _; omega⟩, by omega⟩
  · intro p hp
    obtain ⟨t, ht, rfl⟩ := List.getElem_of_mem hp
    have hb := hF.p t (by rw [← hF.lp]; exact ht)
    rw [List.getD_eq_getElem?_getD (l := ps), List.getElem?_eq_getElem ht] at hb
    exact hu _ _ _ _ _ _ _ hb (hd _).1 (hd _).2 (hd _).1 (hd _).2
  · show z.u
    rcases hz with ⟨-, hz⟩ | ⟨-, rfl⟩
    · exact hu _ _ _ _ _ _ _ hz (hd _).1 (hd _).2 (hd _).1 (hd _).2
    · simp [Bt.zero, Bt.u, U64]
  · intro x hx
    obtain ⟨t, _, rfl⟩ := List.mem_map.1 (show x ∈ (List.range j).map fun t => d.getD (4 * t) 0 from hx)
    have := hd (4 * t)
    unfold U64
    omega
set_option maxHeartbeats 8000000 in
theorem seal_ok {P Q G yk : Int} {a : Option Addr} {j m c : Nat} {ms seed : List Int} {one : Bool} (w : World) (hT : Tabs w) (hP : 0 ≤ P) (hQ : 0 ≤ Q) (hG : 0 ≤ G) (hyk : 0 ≤ yk) (hS : ShI .i64 w a m ms) (hkc : a = none → c = 0) (hu : ∀ x, x ∈ ms → -9223372036854775808 ≤ x ∧ x ≤ 9223372036854775807) (hm : m ≤ 9223372036854775807) (hsl : seed.length = 32) (hby : ByteL seed) (hj1 : 1 ≤ j) (hj : j ≤ 10) (hck : chkB P Q G yk (j : Int) = 0) (hmk : markedS (j : Int) ms = true) (hle : one = true → m ≤ 1) :
    Calls Tryz.prog 6 #[.agg #[.int .u64 P, .int .u64 Q, .int .u64 G], .int .u64 yk, .int .i64 (j : Int), .slice a m c, .bool one, .agg (valV .u8 seed)] w (SealR w P Q G yk (j : Int) ms one seed) := by
  have HCK := Lh hck
  have HMK := Lh hmk
  have HLE := Lh hle
  clear hck hmk hle
  have HT := Lh hT
  have HS := Lh hS
  have HU := Lh hu
  have HLM := Lh hS.len
  have HSL := Lh hsl
  have HBY := Lh hby
  have F_g := Lh (show Cl ((((w.alloc (.cells #[.int .u64 P, .int .u64 Q, .int .u64 G] 24)).alloc (.cells (valV .u8 seed) 26)).alloc (.cells #[.slice none 0 0, .slice none 0 0, .bool false, .int .u64 0, .int .u64 0, .int .u64 0, .int .u64 0, .int .u64 0, .int .u64 0, .int .u64 0, .int .u64 0] 33)).alloc (.cells #[.slice none 0 0, .slice none 0 0] 36)) w.heap.size [.int .u64 P, .int .u64 Q, .int .u64 G] from (((Cl.at w [.int .u64 P, .int .u64 Q, .int .u64 G] _ w.heap.size rfl).alloc _).alloc _).alloc _)
  have F_s := Lh (show Arr .u8 ((((w.alloc (.cells #[.int .u64 P, .int .u64 Q, .int .u64 G] 24)).alloc (.cells (valV .u8 seed) 26)).alloc (.cells #[.slice none 0 0, .slice none 0 0, .bool false, .int .u64 0, .int .u64 0, .int .u64 0, .int .u64 0, .int .u64 0, .int .u64 0, .int .u64 0, .int .u64 0] 33)).alloc (.cells #[.slice none 0 0, .slice none 0 0] 36)) (w.heap.size + 1) seed from (((Arr.new .u8 (w.alloc (.cells #[.int .u64 P, .int .u64 Q, .int .u64 G] 24)) seed 26 (w.heap.size + 1) (by simp)).keep ((Below.refl _ _).alloc (Nat.le_refl _) _)).keep ((Below.refl _ _).alloc (Nat.le_refl _) _)))
  have F_o := Lh (show Cl ((((w.alloc (.cells #[.int .u64 P, .int .u64 Q, .int .u64 G] 24)).alloc (.cells (valV .u8 seed) 26)).alloc (.cells #[.slice none 0 0, .slice none 0 0, .bool false, .int .u64 0, .int .u64 0, .int .u64 0, .int .u64 0, .int .u64 0, .int .u64 0, .int .u64 0, .int .u64 0] 33)).alloc (.cells #[.slice none 0 0, .slice none 0 0] 36)) (w.heap.size + 1 + 1) [.slice none 0 0, .slice none 0 0, .bool false, .int .u64 0, .int .u64 0, .int .u64 0, .int .u64 0, .int .u64 0, .int .u64 0, .int .u64 0, .int .u64 0] from (Cl.at ((w.alloc (.cells #[.int .u64 P, .int .u64 Q, .int .u64 G] 24)).alloc (.cells (valV .u8 seed) 26)) [.slice none 0 0, .slice none 0 0, .bool false, .int .u64 0, .int .u64 0, .int .u64 0, .int .u64 0, .int .u64 0, .int .u64 0, .int .u64 0, .int .u64 0] _ (w.heap.size + 1 + 1) (by simp)).alloc _)
  have F_q := Lh (show Cl ((((w.alloc (.cells #[.int .u64 P, .int .u64 Q, .int .u64 G] 24)).alloc (.cells (valV .u8 seed) 26)).alloc (.cells #[.slice none 0 0, .slice none 0 0, .bool false, .int .u64 0, .int .u64 0, .int .u64 0, .int .u64 0, .int .u64 0, .int .u64 0, .int .u64 0, .int .u64 0] 33)).alloc (.cells #[.slice none 0 0, .slice none 0 0] 36)) (w.heap.size + 1 + 1 + 1) [.slice none 0 0, .slice none 0 0] from Cl.at (((w.alloc (.cells #[.int .u64 P, .int .u64 Q, .int .u64 G] 24)).alloc (.cells (valV .u8 seed) 26)).alloc (.cells #[.slice none 0 0, .slice none 0 0, .bool false, .int .u64 0, .int .u64 0, .int .u64 0, .int .u64 0, .int .u64 0, .int .u64 0, .int .u64 0, .int .u64 0] 33)) [.slice none 0 0, .slice none 0 0] _ (w.heap.size + 1 + 1 + 1) (by simp))
  have HBW := Lh (show Below w.heap.size w ((((w.alloc (.cells #[.int .u64 P, .int .u64 Q, .int .u64 G] 24)).alloc (.cells (valV .u8 seed) 26)).alloc (.cells #[.slice none 0 0, .slice none 0 0, .bool false, .int .u64 0, .int .u64 0, .int .u64 0, .int .u64 0, .int .u64 0, .int .u64 0, .int .u64 0, .int .u64 0] 33)).alloc (.cells #[.slice none 0 0, .slice none 0 0] 36)) from ((((Below.refl _ _).alloc (Nat.le_refl _) _).alloc (by simp) _).alloc (by simp <;> omega) _).alloc (by simp <;> omega) _)
  have g0 := F_g.o.c 0 _ rfl
  have g1 := F_g.o.c 1 _ rfl
  have g2 := F_g.o.c 2 _ rfl
  clear hT hS hu hsl hby
  go_enter Tryz.func6, Tryz.ntmps6
  go_wp2_with fail
  clear g0 g1 g2
  refine (bcheck_any _ hP hQ hG hyk).mono ?_
  rintro e w1 ⟨rfl, hb1⟩
  replace F_g := Lh (F_g.o.keep hb1)
  replace F_s := Lh (F_s.o.keep hb1)
  replace F_o := Lh (F_o.o.keep hb1)
  replace F_q := Lh (F_q.o.keep hb1)
  replace HBW := Lh (HBW.o.trans (hb1.mono HBW.o.size))
  clear hb1
  rw [HCK.o]
  obtain ⟨many, hmany⟩ : ∃ many, manyS (j : Int) one = many := ⟨_, rfl⟩
  have HMN := Lh hmany
  have hmj : many = 4 * j + if one then 3 else 0 := by rw [← hmany, manyS, Int.toNat_natCast]
  clear hmany
  have hw4 : IntKind.i64.wrap (4 * (j : Int)) = 4 * (j : Int) := IntWalk.i64_in _ (by omega)
  have hw5 : IntKind.i64.wrap (4 * (j : Int) + 3) = 4 * (j : Int) + 3 := IntWalk.i64_in _ (by omega)
  have hlen : one = true → decide ((1 : Int) < (m : Int)) = false := fun h => decide_eq_false (by have := HLE.o h; omega)
  have HSE := Lh (show sealE P Q G yk (j : Int) ms one = 0 by rw [sealE, if_neg (by rw [HCK.o]; simp), if_pos ⟨HMK.o, fun h => by rw [← HLM.o]; exact HLE.o h⟩])
  go_upto_region 4 with fail
  go_cut [50] from 39 to 49 (fun c50 wx => c50 = .bool false ∧ wx = w1)
  case first =>
   go_wp2_with fail
   refine (marked_any _ (HS.o.keep HBW.o) (by omega)).mono ?_
   rintro e w3 ⟨rfl, rfl⟩
   rw [HMK.o]
   cases one with
   | false =>
    go_wp2_with fail
    go_meet
    exact ⟨rfl, rfl⟩
   | true =>
    have hl2 := hlen rfl
    go_wp2_with fail
    go_meet
    exact ⟨rfl, rfl⟩
  case rest =>
  obtain ⟨rfl, rfl⟩ := hcut
  obtain ⟨w1, rfl⟩ : ∃ x, x = wc := ⟨_, rfl⟩
  go_upto_if 55 with fail
  go_cut [16] from 56 to 57 (fun c16 wx => c16 = .int .i64 (many : Int) ∧ wx = w1)
  case first =>
   cases one with
   | false =>
    go_wp2_with fail
    go_meet
    exact ⟨by rw [hmj]; rfl, rfl⟩
   | true =>
    go_wp2_with fail
    go_meet
    exact ⟨by rw [hmj]; rfl, rfl⟩
  case rest =>
  obtain ⟨rfl, rfl⟩ := hcut
  obtain ⟨w1, rfl⟩ : ∃ x, x = wc := ⟨_, rfl⟩
  clear hw5 hlen
  have hmle : many ≤ 43 := by rw [hmj]; split <;> omega
  have hmge : 4 * j ≤ many := by rw [hmj]; split <;> omega
  clear hmj
  obtain ⟨hH, hyP, -, -⟩ := chkB_ok HCK.o
  have HH := Lh hH
  have HYP := Lh hyP
  have HPQ := Lh (show 2 ≤ Q ∧ Q ≤ 4294967296 by obtain ⟨p5, p3, hQ, pq, g2, gP⟩ := id hH; omega)
  clear hH hyP
  have g0 := F_g.o.c 0 _ rfl
  have g1 := F_g.o.c 1 _ rfl
  have g2 := F_g.o.c 2 _ rfl
  go_wp2_with (refine wpL_loadArr rfl 26 .u8 (.tmp 11) (w.heap.size + 1) seed 32 5 rfl rfl Tryz.underlying26 (by rw [HSL.o]; kernel_rfl) F_s.o ?_; simp only [sY])
  clear g0 g1 g2
  refine (nonces_any (P := P) (G := G) _ (HT.o.below HBW.o) HSL.o HBY.o (by have := HPQ.o; omega) HPQ.o.2 (by omega)).mono ?_
  rintro e wd ⟨hbd, hr⟩
  replace F_g := Lh (F_g.o.keep hbd)
  replace F_o := Lh (F_o.o.keep hbd)
  replace F_q := Lh (F_q.o.keep hbd)
  replace HBW := Lh (HBW.o.trans (hbd.mono HBW.o.size))
  clear hbd F_s
  obtain ⟨so, hso⟩ : ∃ so, sampS seed Q many = so := ⟨_, rfl⟩
  rw [hso] at hr
  have HSO := Lh hso
  clear hso
  cases so with
  | none =>
   obtain rfl := hr
   go_wp2_with (first
     | (refine wpL_storeCl rfl 33 (.tmp 12) (.tmp 67) (w.heap.size + 1 + 1) 0 _ [.slice none 0 0, .slice none 0 0, .bool false, .int .u64 0, .int .u64 0, .int .u64 0, .int .u64 0, .int .u64 0, .int .u64 0, .int .u64 0, .int .u64 0] [.slice none 0 0, .slice none 0 0, .bool false, .int .u64 0, .int .u64 0, .int .u64 0, .int .u64 0, .int .u64 0, .int .u64 0, .int .u64 0, .int .u64 0] rfl rfl rfl rfl (by kernel_rfl) (by intro u hu; simp at hu; rcases hu with rfl | rfl | rfl | rfl | rfl | rfl | rfl | rfl | rfl | rfl | rfl <;> rfl) F_o.o (by simp) rfl ?_
        intro wx hc8 hg8 hz8
        have F_x := Lh hc8
        have HGx := Lh hg8
        have hz_wx := hz8
        clear hc8 hg8 hz8)
     | (refine wpL_storeCl rfl 36 (.tmp 13) (.tmp 68) (w.heap.size + 1 + 1 + 1) 0 _ [.slice none 0 0, .slice none 0 0] [.slice none 0 0, .slice none 0 0] rfl rfl rfl rfl (by kernel_rfl) (by intro u hu; simp at hu; rcases hu with rfl | rfl <;> rfl) (F_q.o.gro HGx.o (by omega)) (by simp) rfl ?_
        intro wz hc8 hg8 hz8
        have F_z := Lh hc8
        have HGz := Lh hg8
        have hz_wz := hz8
        clear hc8 hg8 hz8))
   refine bodyPost_ret (res_seal rfl (F_x.o.gro HGz.o (by omega)) F_z.o _ rfl rfl rfl) rfl ?_
   exact ⟨(HBW.o.trans (HGx.o.blw (n := w.heap.size) (by omega) HBW.o.size)).trans (HGz.o.blw (n := w.heap.size) (by omega) (by have := HBW.o.size; omega)), .inr ⟨HSE.o, .inl ⟨by rw [HMN.o]; exact HSO.o, rfl⟩⟩⟩
  | some d =>
  obtain ⟨vd, rfl, hvd⟩ := hr
  have hdl := sampS_len HSO.o
  obtain ⟨sd, cd, rfl, hsd0, hsd, hcd, hcm, hdc⟩ := hvd.lit (by omega)
  have hcm' : cd ≤ 9223372036854775807 := by unfold maxLen at hcm; omega
  have HD := Lh (show SlD w wd P Q G sd many d from ⟨F_q.o.lt, F_g.o, F_o.o, F_q.o, hsd, hdl.symm, hdc⟩)
  have HDB := Lh (sampS_d (by have := HPQ.o; omega) HSO.o)
  rw [hdl] at hcd ⊢
  have HDL := Lh hdl
  have hm10 : m ≤ 10 := by have := markedS_len (by omega) HMK.o; rw [← HLM.o] at this; omega
  clear hvd hdl hdc hcm hsd0 hsd F_g F_o F_q
  go_wp2_with fail
  refine (intClone_any _ (HS.o.keep (HBW.o.alloc HBW.o.size _)) hkc (by omega)).mono ?_
  rintro e wk ⟨vm, rfl, hom, hbk⟩
  obtain ⟨ma, mc, rfl, hms, hmk0⟩ := ShI.of_owned2 hom
  have HMC := Lh (show ShI .i64 wk ma m ms ∧ (ma = none → mc = 0) ∧ ∀ s o, ma = some ⟨s, o, none⟩ → wd.heap.size < s ∧ s < wk.heap.size from ⟨hms, hmk0, fun s o h => by
   have := World.ownsRow.lt hom s (by rw [h]; rfl)
   simp at this
   omega⟩)
  have hzk : wd.heap.size < wk.heap.size := by have := hbk.size; simp at this; omega
  have F_V := Lh ((Cl.at wd (vcell (.slice none 0 0) (.slice none 0 0) one) 33 wd.heap.size rfl).keep hbk)
  have HBK := Lh (show Below wd.heap.size wd wk from ((Below.refl _ _).alloc (Nat.le_refl _) _).trans (hbk.mono (by simp)))
  clear hom hms hmk0 hbk
  go_wp2_with fail
  go_loopw [21, 76] (fun c21 c76 wr => ∃ (i : Nat) (av bv rv : Value) (bs : List (Int × Int)) (ps : List Bt), i ≤ j ∧ c76 = .int .i64 i ∧ c21 = .int .u64 (sumE Q d i) ∧ Hid (SlB wd wk wr one (.slice ma m mc) av bv rv) ∧ Hid (SlR wk wr av bv rv i bs ps (nsI d i)) ∧ Hid (SlF P Q G yk ms d i bs ps)) (fun _ c76 _ => j - (intOf c76).toNat)
  case atStart =>
   exact ⟨0, _, _, _, [], [], by omega, rfl, rfl, ⟨HBK.o.alloc HBK.o.size _, fun k h1 h2 => heap_alloc_old wk _ h2, hzk, by simp, F_V.o.alloc _, Cl.at wk [.slice ma m mc, .slice none 0 0] _ _ rfl⟩, SlR.nil _ _, SlF.nil _ _ _ _ _ _⟩
  case round =>
   obtain ⟨i, av, bv, rv, bs, ps, hi, rfl, rfl, HB, HR, HF⟩ := hrel
   by_cases hlt : i < j
   case pos =>
    have hd : decide ((i : Int) < (j : Int)) = true := decide_eq_true (by omega)
    have hi0 : (0 : Int) ≤ (i : Int) := by omega
    have hwi : IntKind.i64.wrap ((i : Int) + 1) = (i : Int) + 1 := IntWalk.i64_in _ (by omega)
    have hwq : IntKind.i64.wrap (4 * (i : Int)) = 4 * (i : Int) := IntWalk.i64_in _ (by omega)
    have hwq4 : IntKind.i64.wrap (4 * (i : Int) + 4) = 4 * (i : Int) + 4 := IntWalk.i64_in _ (by omega)
    have hq0 : 0 ≤ 4 * (i : Int) := by omega
    have hq1 : 4 * (i : Int) ≤ 4 * (i : Int) + 4 := by omega
    have hq2 : 4 * (i : Int) + 4 ≤ (cd : Int) := by omega
    have hq3 : 4 * (i : Int) < (cd : Int) := by omega
    have HNZ := Lh (show w.heap.size < wd.heap.size by have := HD.o.lt; omega)
    obtain ⟨x0, hx0⟩ : ∃ x, d.getD (4 * i) 0 = x := ⟨_, rfl⟩
    obtain ⟨x1, hx1⟩ : ∃ x, d.getD (4 * i + 1) 0 = x := ⟨_, rfl⟩
    obtain ⟨x2, hx2⟩ : ∃ x, d.getD (4 * i + 2) 0 = x := ⟨_, rfl⟩
    obtain ⟨x3, hx3⟩ : ∃ x, d.getD (4 * i + 3) 0 = x := ⟨_, rfl⟩
    have HX := Lh (show (0 ≤ x0 ∧ x0 < Q) ∧ (0 ≤ x1 ∧ x1 < Q) ∧ (0 ≤ x2 ∧ x2 < Q) ∧ (0 ≤ x3 ∧ x3 < Q) by rw [← hx0, ← hx1, ← hx2, ← hx3]; exact ⟨HDB.o _, HDB.o _, HDB.o _, HDB.o _⟩)
    have HC := Lh (show wd.cell? ⟨sd, 4 * i, none⟩ = some (.int .u64 x0) ∧ wd.cell? ⟨sd, 4 * i + 1, none⟩ = some (.int .u64 x1) ∧ wd.cell? ⟨sd, 4 * i + 2, none⟩ = some (.int .u64 x2) ∧ wd.cell? ⟨sd, 4 * i + 3, none⟩ = some (.int .u64 x3) by
     rw [← hx0, ← hx1, ← hx2, ← hx3]
     have := HDL.o
     exact ⟨HD.o.c _ (by omega), HD.o.c _ (by omega), HD.o.c _ (by omega), HD.o.c _ (by omega)⟩)
    have HXX := Lh (And.intro hx0 (And.intro hx1 (And.intro hx2 hx3)))
    clear hx0 hx1 hx2 hx3
    go_wp2_with fail
    refine (message_any _ (HS.o.keep (HBW.o.trans (HB.o.kd.mono HBW.o.size))) (by omega)).mono ?_
    rintro e w2 ⟨rfl, rfl⟩
    obtain ⟨wr, rfl⟩ : ∃ x, x = w2 := ⟨_, rfl⟩
    rw [show 4 * i + 4 - 4 * i = 4 by omega]
    obtain ⟨mi, hmi⟩ : ∃ mi, msgS ms (i : Int) = mi := ⟨_, rfl⟩
    have hm01 : mi = 0 ∨ mi = 1 := by rw [← hmi]; exact msgS_01 _ _
    have hm0 : 0 ≤ mi := by omega
    have HMQ := Lh (show mi < Q by have := HPQ.o; omega)
    have hwm : IntKind.u64.wrap mi = mi := IntWalk.u64_in _ (by omega)
    have hw8 : IntKind.u8.wrap (i : Int) = (i : Int) := IntWalk.u8_in _ (by omega)
    have HMI := Lh hmi
    rw [hmi]
    clear hmi hwq hwq4 hq0 hq1 hq2
    obtain ⟨ea, hea⟩ : ∃ ea, powm G x0 P = ea := ⟨_, rfl⟩
    obtain ⟨eb, heb⟩ : ∃ eb, powm G mi P * powm yk x0 P % P = eb := ⟨_, rfl⟩
    have HEN := Lh (fun (W : World) => encrypt_ok W HH.o hyk HYP.o hm0 HMQ.o HX.o.1.1 HX.o.1.2 hea heb)
    have HEA := Lh (show encP P G yk (msgS ms (i : Int)) (d.getD (4 * i) 0) = (ea, eb) by rw [HMI.o, HXX.o.1, encP, hea, heb])
    obtain ⟨z, hz⟩ : ∃ z : Bt, BitZb P Q G yk mi x0 x1 x2 x3 [(i : Int)] z := by
     obtain ⟨a0, a1, a2, a3, a4, a5, a6, a7, h⟩ := BitZ.exists P Q G yk mi x0 x1 x2 x3 [(i : Int)]
     exact ⟨⟨a0, a1, a2, a3, a4, a5, a6, a7⟩, h⟩
    have HBZ := Lh (show RetBit (lgS (bitChk P Q G yk mi x0 x1 x2 x3) 1) P Q G yk mi x0 x1 x2 x3 [(i : Int)] z.r0 z.r1 z.s0 z.s1 z.c0 z.c1 z.z0 z.z1 0 from .inl ⟨lgS_ok (by rw [bitChk, if_pos (askS_ok HH.o (by have := HX.o; simp; omega) (by have := HYP.o; simp; omega)), if_pos hm01]) (by omega), hz, rfl⟩)
    have HBZZ := Lh (show BitZb P Q G yk (msgS ms (i : Int)) (d.getD (4 * i) 0) (d.getD (4 * i + 1) 0) (d.getD (4 * i + 2) 0) (d.getD (4 * i + 3) 0) [(i : Int)] z by rw [HMI.o, HXX.o.1, HXX.o.2.1, HXX.o.2.2.1, HXX.o.2.2.2]; exact hz)
    have HBYI := Lh (show ByteL [(i : Int)] by intro x hx; simp at hx; omega)
    clear hea heb hz
    go_wp2_with fail
    replace HB := Lh HB.o.drew
    replace HR := Lh (HR.o.keep (Below.refl _ _).drew)
    have hS0 := HB.o.kd
    refine wp_region_stage 12 (fun w' => Below wd.heap.size wd w') (by kernel_rfl) ?_
    refine tkL (i := 0) (some 90) (.load 24 (.tmp 6)) 24 [7, 8, 9, 12] (v := ?_) hS0 (fun w' hSw => ?_) ?_
    rotate_left
    · have s0 := (HD.o.g.keepN hSw HNZ.o).c 0 _ rfl; have s1 := (HD.o.g.keepN hSw HNZ.o).c 1 _ rfl; have s2 := (HD.o.g.keepN hSw HNZ.o).c 2 _ rfl
      unfold bareOp; go_simp; try with_reducible rfl
    simp only [sY]
    refine tkP (i := 1) (some 91) (.move (.tmp 1)) 22 (fun _ => hS0) ?_
    simp only [sY]
    refine tkP (i := 2) (some 92) (.move (.tmp 24)) 3 (fun _ => hS0) ?_
    simp only [sY]
    refine tkP (i := 3) (some 93) (.convert 3 22 (.tmp 92)) 22 (fun _ => hS0) ?_
    simp only [sY]
    refine tkP (i := 4) (some 94) (.move (.tmp 23)) 34 (fun _ => hS0) ?_
    simp only [sY]
    refine tkP (i := 5) (some 95) (.indexAddr 34 (.tmp 94) (.const (.int .i64 0))) 0 (fun _ => hS0) ?_
    simp only [sY]
    refine tkL (i := 6) (some 96) (.load 22 (.tmp 95)) 22 [7, 8, 9, 12] (v := ?_) hS0 (fun w' hSw => ?_) ?_
    rotate_left
    · have n0 := (Below.cell hSw (p := ⟨sd, 4 * i, none⟩) HD.o.s).trans HC.o.1
      unfold bareOp; go_simp; try with_reducible rfl
    simp only [sY]
    refine wpAnyB_cloud0 (fuel := 2) [(7, 97), (8, 89), (9, 98), (10, 99), (11, 25)] [8, 9, 10] (fun y w' => SlB wd wk w' one (.slice ma m mc) av bv rv ∧ SlR wk w' av bv rv i bs ps (nsI d i) ∧ (∀ v, y 7 = some v → v = .tuple #[.agg #[.int .u64 ea, .int .u64 eb], .int .i64 0]) ∧ (∀ v, y 8 = some v → v = .tuple #[.agg #[.int .u64 ea, .int .u64 eb], .int .i64 0]) ∧ (∀ v, y 9 = some v → v = .agg #[.int .u64 ea, .int .u64 eb]) ∧ (∀ v, y 10 = some v → v = .int .i64 0) ∧ (∀ v, y 11 = some v → ∃ B, v = .pointer (some ⟨B, 0, none⟩) ∧ wk.heap.size < B ∧ Apt av bv rv B ∧ Cl w' B [.int .u64 0, .int .u64 0])) rfl (by decide) (by decide) (by kernel_rfl) (by kernel_rfl) (by kernel_rfl) (fun _ _ _ _ _ h => h) (fun y w' hI => hI.1.kd) ⟨HB.o, HR.o, fun v h => (by cases h), fun v h => (by cases h), fun v h => (by cases h), fun v h => (by cases h), fun v h => (by cases h)⟩ ?_ ?_
    · intro p hp y w8 hyn hy hrd hI
      obtain ⟨hB, hR, hq7, hq8, hq9, hq10, hq11⟩ := hI
      simp only [List.mem_cons, List.not_mem_nil, or_false] at hp
      rcases hp with rfl | rfl | rfl | rfl | rfl
      · refine takeN (by kernel_rfl) (wpOp_bare (some 97) (Op.call { callee := Callee.value (Operand.func 29), args := #[Operand.tmp 90, Operand.tmp 91, Operand.tmp 93, Operand.tmp 96], argTypes := #[24, 22, 22, 22] }) 76 ⟨_, rfl, rfl, rfl, rfl, rfl⟩ (fun K hK => ?_))
        refine wp_of_enter (run_call _ _ _ _ 29 Tryz.func29 (vs := #[.agg #[.int .u64 P, .int .u64 Q, .int .u64 G], .int .u64 yk, .int .u64 mi, .int .u64 x0]) ?hv rfl (by kernel_rfl) (by kernel_rfl)) (HEN.o w8) ?_
        case hv =>
         simp only [List.map_toArray, List.map_cons, List.map_nil]
         rw [eval_putC_not _ _ 90 (by decide), eval_putC_not _ _ 91 (by decide), eval_putC_not _ _ 93 (by decide), eval_putC_not _ _ 96 (by decide)]
         rfl
        rintro e w9 ⟨rfl, hb9⟩
        refine ⟨_, rfl, hK.o _ _ ⟨_, rfl, ?_⟩⟩
        refine ⟨hB.keep hb9, hR.keep hb9, ?_, ?_, ?_, ?_, ?_⟩
        · exact fun v hv => (uS hv).symm
        · exact fun v hv => hq8 v (uN hv)
        · exact fun v hv => hq9 v (uN hv)
        · exact fun v hv => hq10 v (uN hv)
        · intro v hv; have h := hq11 v (uN hv); obtain ⟨B, h0, h1, h2, hL⟩ := h; exact ⟨B, h0, h1, h2, hL.keep hb9⟩
      · refine takeF (by kernel_rfl) ?_
        obtain ⟨v7, hv7⟩ := depC hy (j := 7) (d := 97) (by simp) hrd rfl (by kernel_rfl)
        obtain rfl := hq7 v7 hv7
        refine yields_bare _ _ ⟨_, rfl, rfl, rfl, rfl, rfl⟩ (fun w => run_move _ w _ _ _ (eval_putC _ _ (j := 7) (d := 97) (by simp) (by decide) hv7 (of_decide_eq_true (by kernel_rfl)))) ?_
        refine ⟨hB, hR, ?_, ?_, ?_, ?_, ?_⟩
        · exact fun v hv => hq7 v (uN hv)
        · exact fun v hv => (uS hv).symm
        · exact fun v hv => hq9 v (uN hv)
        · exact fun v hv => hq10 v (uN hv)
        · intro v hv; have h := hq11 v (uN hv); obtain ⟨B, h0, h1, h2, hL⟩ := h; exact ⟨B, h0, h1, h2, hL⟩
      · refine takeF (by kernel_rfl) ?_
        obtain ⟨v8, hv8⟩ := depC hy (j := 8) (d := 89) (by simp) hrd rfl (by kernel_rfl)
        obtain rfl := hq8 v8 hv8
        refine yields_bare _ _ ⟨_, rfl, rfl, rfl, rfl, rfl⟩ (fun w => run_extract _ w _ _ _ 0 (eval_putC _ _ (j := 8) (d := 89) (by simp) (by decide) hv8 (of_decide_eq_true (by kernel_rfl))) rfl) ?_
        refine ⟨hB, hR, ?_, ?_, ?_, ?_, ?_⟩
        · exact fun v hv => hq7 v (uN hv)
        · exact fun v hv => hq8 v (uN hv)
        · exact fun v hv => (uS hv).symm
        · exact fun v hv => hq10 v (uN hv)
        · intro v hv; have h := hq11 v (uN hv); obtain ⟨B, h0, h1, h2, hL⟩ := h; exact ⟨B, h0, h1, h2, hL⟩
      · refine takeF (by kernel_rfl) ?_
        obtain ⟨v8, hv8⟩ := depC hy (j := 8) (d := 89) (by simp) hrd rfl (by kernel_rfl)
        obtain rfl := hq8 v8 hv8
        refine yields_bare _ _ ⟨_, rfl, rfl, rfl, rfl, rfl⟩ (fun w => run_extract _ w _ _ _ 1 (eval_putC _ _ (j := 8) (d := 89) (by simp) (by decide) hv8 (of_decide_eq_true (by kernel_rfl))) rfl) ?_
        refine ⟨hB, hR, ?_, ?_, ?_, ?_, ?_⟩
        · exact fun v hv => hq7 v (uN hv)
        · exact fun v hv => hq8 v (uN hv)
        · exact fun v hv => hq9 v (uN hv)
        · exact fun v hv => (uS hv).symm
        · intro v hv; have h := hq11 v (uN hv); obtain ⟨B, h0, h1, h2, hL⟩ := h; exact ⟨B, h0, h1, h2, hL⟩
      · refine takeN (by kernel_rfl) (wpOp_bare (some 25) (Op.alloc 75) 0 ⟨_, rfl, rfl, rfl, rfl, rfl⟩ (fun K hK => ?_))
        refine wp_of_run (run_al_sealed _ _ _ _) (hK.o _ _ ⟨_, rfl, ?_⟩)
        refine ⟨hB.alloc _, hR.keep ((Below.refl _ _).alloc (Nat.le_refl _) _), ?_, ?_, ?_, ?_, ?_⟩
        · exact fun v hv => hq7 v (uN hv)
        · exact fun v hv => hq8 v (uN hv)
        · exact fun v hv => hq9 v (uN hv)
        · exact fun v hv => hq10 v (uN hv)
        · intro v hv; rw [updC_same] at hv; cases hv; exact ⟨w8.heap.size, rfl, hB.zr, hR.apt, Cl.at w8 [.int .u64 0, .int .u64 0] _ _ rfl⟩
    intro y w9 hall hI
    obtain ⟨hB, hR, hq7, hq8, hq9, hq10, hq11⟩ := hI
    obtain ⟨v7, hv7⟩ := Option.isSome_iff_exists.1 (hall (7, 97) (by simp))
    obtain ⟨v8, hv8⟩ := Option.isSome_iff_exists.1 (hall (8, 89) (by simp))
    obtain ⟨v9, hv9⟩ := Option.isSome_iff_exists.1 (hall (9, 98) (by simp))
    obtain ⟨v10, hv10⟩ := Option.isSome_iff_exists.1 (hall (10, 99) (by simp))
    obtain ⟨v11, hv11⟩ := Option.isSome_iff_exists.1 (hall (11, 25) (by simp))
    clear hall
    obtain rfl := hq7 v7 hv7
    obtain rfl := hq8 v8 hv8
    obtain rfl := hq9 v9 hv9
    obtain rfl := hq10 v10 hv10
    obtain ⟨Bc, rfl, hBc, hAc, hC9⟩ := hq11 v11 hv11
    replace HB := Lh hB
    replace HR := Lh hR
    have F_c := Lh hC9
    have HAC := Lh hAc
    have hS0 := hB.kd
    clear hB hR hq7 hq8 hq9 hq10 hq11 hAc hC9
    simp only [putC, setAll, Act.put, sZ, Option.getD_some, hv7, hv8, hv9, hv10, hv11]
    clear hv7 hv8 hv9 hv10 hv11
    refine onl (i := 12) none (.store 75 (.tmp 25) (.tmp 98)) 0 (fun K hK => ?_)
    unfold bareOp
    refine wp_storeCl 75 (.tmp 25) (.tmp 98) Bc 0 [.int .u64 0, .int .u64 0] [.int .u64 ea, .int .u64 eb] [.int .u64 ea, .int .u64 eb] rfl rfl rfl (by kernel_rfl) (by intro u hu; simp at hu; rcases hu with rfl | rfl <;> rfl) F_c.o (by simp) rfl ?_
    intro wa hca hga hza
    replace F_c := Lh hca
    replace HB := Lh (HB.o.gro hga hBc)
    replace HR := Lh (HR.o.gro hga HAC.o)
    have hltc : Bc < wa.heap.size := F_c.o.lt
    clear hca hga hza hS0
    have hS0 := HB.o.kd
    refine hK.o _ _ lt8 ?_
    clear hK K
    try simp only [sY]
    refine tkP (i := 13) (some 26) (.assign (.tmp 99)) 38 lt8 ?_
    simp only [sY]
    refine wpAnyB_done (by kernel_rfl) ?_ _
    go_wp2_with fail
    replace HB := Lh HB.o.drew
    replace HR := Lh (HR.o.keep (Below.refl _ _).drew)
    replace F_c := Lh F_c.o.drew
    have hS0 := HB.o.kd
    refine wp_region_stage 23 (fun w' => Below wd.heap.size wd w') (by kernel_rfl) ?_
    refine tkL (i := 0) (some 101) (.load 24 (.tmp 6)) 24 [18, 19, 20, 23] (v := ?_) hS0 (fun w' hSw => ?_) ?_
    rotate_left
    · have s0 := (HD.o.g.keepN hSw HNZ.o).c 0 _ rfl; have s1 := (HD.o.g.keepN hSw HNZ.o).c 1 _ rfl; have s2 := (HD.o.g.keepN hSw HNZ.o).c 2 _ rfl
      unfold bareOp; go_simp; try with_reducible rfl
    simp only [sY]
    refine tkP (i := 1) (some 102) (.move (.tmp 1)) 22 (fun _ => hS0) ?_
    simp only [sY]
    refine tkP (i := 2) (some 103) (.move (.tmp 24)) 3 (fun _ => hS0) ?_
    simp only [sY]
    refine tkP (i := 3) (some 104) (.move (.tmp 23)) 34 (fun _ => hS0) ?_
    simp only [sY]
    refine tkP (i := 4) (some 105) (.indexAddr 34 (.tmp 104) (.const (.int .i64 0))) 0 (fun _ => hS0) ?_
    simp only [sY]
    refine tkL (i := 5) (some 106) (.load 22 (.tmp 105)) 22 [18, 19, 20, 23] (v := ?_) hS0 (fun w' hSw => ?_) ?_
    rotate_left
    · have n0 := (Below.cell hSw (p := ⟨sd, 4 * i, none⟩) HD.o.s).trans HC.o.1
      unfold bareOp; go_simp; try with_reducible rfl
    simp only [sY]
    refine tkP (i := 6) (some 107) (.move (.tmp 23)) 34 (fun _ => hS0) ?_
    simp only [sY]
    refine tkP (i := 7) (some 108) (.indexAddr 34 (.tmp 107) (.const (.int .i64 1))) 0 (fun _ => hS0) ?_
    simp only [sY]
    refine tkL (i := 8) (some 109) (.load 22 (.tmp 108)) 22 [18, 19, 20, 23] (v := ?_) hS0 (fun w' hSw => ?_) ?_
    rotate_left
    · have n0 := (Below.cell hSw (p := ⟨sd, 4 * i + 1, none⟩) HD.o.s).trans HC.o.2.1
      unfold bareOp; go_simp; try with_reducible rfl
    simp only [sY]
    refine tkP (i := 9) (some 110) (.move (.tmp 23)) 34 (fun _ => hS0) ?_
    simp only [sY]
    refine tkP (i := 10) (some 111) (.indexAddr 34 (.tmp 110) (.const (.int .i64 2))) 0 (fun _ => hS0) ?_
    simp only [sY]
    refine tkL (i := 11) (some 112) (.load 22 (.tmp 111)) 22 [18, 19, 20, 23] (v := ?_) hS0 (fun w' hSw => ?_) ?_
    rotate_left
    · have n0 := (Below.cell hSw (p := ⟨sd, 4 * i + 2, none⟩) HD.o.s).trans HC.o.2.2.1
      unfold bareOp; go_simp; try with_reducible rfl
    simp only [sY]
    refine tkP (i := 12) (some 113) (.move (.tmp 23)) 34 (fun _ => hS0) ?_
    simp only [sY]
    refine tkP (i := 13) (some 114) (.indexAddr 34 (.tmp 113) (.const (.int .i64 3))) 0 (fun _ => hS0) ?_
    simp only [sY]
    refine tkL (i := 14) (some 115) (.load 22 (.tmp 114)) 22 [18, 19, 20, 23] (v := ?_) hS0 (fun w' hSw => ?_) ?_
    rotate_left
    · have n0 := (Below.cell hSw (p := ⟨sd, 4 * i + 3, none⟩) HD.o.s).trans HC.o.2.2.2
      unfold bareOp; go_simp; try with_reducible rfl
    simp only [sY]
    refine tkP (i := 15) (some 116) (.move (.tmp 22)) 3 (fun _ => hS0) ?_
    simp only [sY]
    refine tkP (i := 16) (some 117) (.convert 3 5 (.tmp 116)) 5 (fun _ => hS0) ?_
    simp only [sY]
    refine wpAnyB_cloud0 (fuel := 2) [(17, 118), (18, 119), (19, 100), (20, 120), (21, 121), (22, 27)] [19, 20, 21] (fun y w' => SlB wd wk w' one (.slice ma m mc) av bv rv ∧ SlR wk w' av bv rv i bs ps (nsI d i) ∧ Cl w' Bc [.int .u64 ea, .int .u64 eb] ∧ (∀ v, y 17 = some v → ∃ B, v = .slice (some ⟨B, 0, none⟩) 1 1 ∧ ShI .u8 w' (some ⟨B, 0, none⟩) 1 [(i : Int)]) ∧ (∀ v, y 18 = some v → v = .tuple #[.agg #[.int .u64 z.r0, .int .u64 z.r1, .int .u64 z.s0, .int .u64 z.s1, .int .u64 z.c0, .int .u64 z.c1, .int .u64 z.z0, .int .u64 z.z1], .int .i64 0]) ∧ (∀ v, y 19 = some v → v = .tuple #[.agg #[.int .u64 z.r0, .int .u64 z.r1, .int .u64 z.s0, .int .u64 z.s1, .int .u64 z.c0, .int .u64 z.c1, .int .u64 z.z0, .int .u64 z.z1], .int .i64 0]) ∧ (∀ v, y 20 = some v → v = .agg #[.int .u64 z.r0, .int .u64 z.r1, .int .u64 z.s0, .int .u64 z.s1, .int .u64 z.c0, .int .u64 z.c1, .int .u64 z.z0, .int .u64 z.z1]) ∧ (∀ v, y 21 = some v → v = .int .i64 0) ∧ (∀ v, y 22 = some v → ∃ B, v = .pointer (some ⟨B, 0, none⟩) ∧ wk.heap.size < B ∧ Bc < B ∧ Apt av bv rv B ∧ Cl w' B [.int .u64 0, .int .u64 0, .int .u64 0, .int .u64 0, .int .u64 0, .int .u64 0, .int .u64 0, .int .u64 0])) rfl (by decide) (by decide) (by kernel_rfl) (by kernel_rfl) (by kernel_rfl) (fun _ _ _ _ _ h => h) (fun y w' hI => hI.1.kd) ⟨HB.o, HR.o, F_c.o, fun v h => (by cases h), fun v h => (by cases h), fun v h => (by cases h), fun v h => (by cases h), fun v h => (by cases h), fun v h => (by cases h)⟩ ?_ ?_
    · intro p hp y w8 hyn hy hrd hI
      obtain ⟨hB, hR, hC, hq17, hq18, hq19, hq20, hq21, hq22⟩ := hI
      simp only [List.mem_cons, List.not_mem_nil, or_false] at hp
      rcases hp with rfl | rfl | rfl | rfl | rfl | rfl
      · refine takeN (by kernel_rfl) (wpOp_bare (some 118) (Op.buildSlice 80 1 #[(0, Operand.tmp 117)]) 80 ⟨_, rfl, rfl, rfl, rfl, rfl⟩ (fun K hK => ?_))
        refine wp_of_run (run_lit_u8 _ _ _ _ (.tmp 117) (i : Int) ((eval_putC_not _ _ 117 (by decide)).trans rfl)) (hK.o _ _ ⟨_, rfl, ?_⟩)
        refine ⟨hB.alloc _, hR.keep ((Below.refl _ _).alloc (Nat.le_refl _) _), hC.alloc _, ?_, ?_, ?_, ?_, ?_, ?_⟩
        · intro v hv; rw [updC_same] at hv; cases hv; exact ⟨w8.heap.size, rfl, ShI.lit1 .u8 w8 (i : Int) _ _ rfl⟩
        · exact fun v hv => hq18 v (uN hv)
        · exact fun v hv => hq19 v (uN hv)
        · exact fun v hv => hq20 v (uN hv)
        · exact fun v hv => hq21 v (uN hv)
        · intro v hv; have h := hq22 v (uN hv); obtain ⟨B, h0, h1, h2, h3, hL⟩ := h; exact ⟨B, h0, h1, h2, h3, hL.alloc _⟩
      · refine takeN (by kernel_rfl) (wpOp_bare (some 119) (Op.call { callee := Callee.value (Operand.func 30), args := #[Operand.tmp 101, Operand.tmp 102, Operand.tmp 103, Operand.tmp 106, Operand.tmp 109, Operand.tmp 112, Operand.tmp 115, Operand.tmp 118], argTypes := #[24, 22, 3, 22, 22, 22, 22, 80] }) 78 ⟨_, rfl, rfl, rfl, rfl, rfl⟩ (fun K hK => ?_))
        obtain ⟨v17, hv17⟩ := depC hy (j := 17) (d := 118) (by simp) hrd rfl (by kernel_rfl)
        obtain ⟨Bt8, rfl, hT8⟩ := hq17 v17 hv17
        refine wp_of_enter (run_call _ _ _ _ 30 Tryz.func30 (vs := #[.agg #[.int .u64 P, .int .u64 Q, .int .u64 G], .int .u64 yk, .int .i64 mi, .int .u64 x0, .int .u64 x1, .int .u64 x2, .int .u64 x3, .slice (some ⟨Bt8, 0, none⟩) 1 1]) ?hv rfl (by kernel_rfl) (by kernel_rfl)) (pbitProve_any _ ⟨HT.o.below (HBW.o.trans (hB.kd.mono HBW.o.size)), hT8, HBYI.o⟩ hP hQ hG hyk HX.o.1.1 HX.o.2.1.1 HX.o.2.2.1.1 HX.o.2.2.2.1 (by omega) HBZ.o) ?_
        case hv =>
         simp only [List.map_toArray, List.map_cons, List.map_nil]
         rw [eval_putC_not _ _ 101 (by decide), eval_putC_not _ _ 102 (by decide), eval_putC_not _ _ 103 (by decide), eval_putC_not _ _ 106 (by decide), eval_putC_not _ _ 109 (by decide), eval_putC_not _ _ 112 (by decide), eval_putC_not _ _ 115 (by decide), eval_putC _ _ (j := 17) (d := 118) (by simp) (by decide) hv17 (of_decide_eq_true (by kernel_rfl))]
         rfl
        rintro e w9 ⟨rfl, hb9⟩
        refine ⟨_, rfl, hK.o _ _ ⟨_, rfl, ?_⟩⟩
        refine ⟨hB.keep hb9, hR.keep hb9, hC.keep hb9, ?_, ?_, ?_, ?_, ?_, ?_⟩
        · intro v hv; have h := hq17 v (uN hv); obtain ⟨B, h1, h2⟩ := h; exact ⟨B, h1, h2.keep hb9⟩
        · exact fun v hv => (uS hv).symm
        · exact fun v hv => hq19 v (uN hv)
        · exact fun v hv => hq20 v (uN hv)
        · exact fun v hv => hq21 v (uN hv)
        · intro v hv; have h := hq22 v (uN hv); obtain ⟨B, h0, h1, h2, h3, hL⟩ := h; exact ⟨B, h0, h1, h2, h3, hL.keep hb9⟩
      · refine takeF (by kernel_rfl) ?_
        obtain ⟨v18, hv18⟩ := depC hy (j := 18) (d := 119) (by simp) hrd rfl (by kernel_rfl)
        obtain rfl := hq18 v18 hv18
        refine yields_bare _ _ ⟨_, rfl, rfl, rfl, rfl, rfl⟩ (fun w => run_move _ w _ _ _ (eval_putC _ _ (j := 18) (d := 119) (by simp) (by decide) hv18 (of_decide_eq_true (by kernel_rfl)))) ?_
        refine ⟨hB, hR, hC, ?_, ?_, ?_, ?_, ?_, ?_⟩
        · exact fun v hv => hq17 v (uN hv)
        · exact fun v hv => hq18 v (uN hv)
        · exact fun v hv => (uS hv).symm
        · exact fun v hv => hq20 v (uN hv)
        · exact fun v hv => hq21 v (uN hv)
        · intro v hv; have h := hq22 v (uN hv); obtain ⟨B, h0, h1, h2, h3, hL⟩ := h; exact ⟨B, h0, h1, h2, h3, hL⟩
      · refine takeF (by kernel_rfl) ?_
        obtain ⟨v19, hv19⟩ := depC hy (j := 19) (d := 100) (by simp) hrd rfl (by kernel_rfl)
        obtain rfl := hq19 v19 hv19
        refine yields_bare _ _ ⟨_, rfl, rfl, rfl, rfl, rfl⟩ (fun w => run_extract _ w _ _ _ 0 (eval_putC _ _ (j := 19) (d := 100) (by simp) (by decide) hv19 (of_decide_eq_true (by kernel_rfl))) rfl) ?_
        refine ⟨hB, hR, hC, ?_, ?_, ?_, ?_, ?_, ?_⟩
        · exact fun v hv => hq17 v (uN hv)
        · exact fun v hv => hq18 v (uN hv)
        · exact fun v hv => hq19 v (uN hv)
        · exact fun v hv => (uS hv).symm
        · exact fun v hv => hq21 v (uN hv)
        · intro v hv; have h := hq22 v (uN hv); obtain ⟨B, h0, h1, h2, h3, hL⟩ := h; exact ⟨B, h0, h1, h2, h3, hL⟩
      · refine takeF (by kernel_rfl) ?_
        obtain ⟨v19, hv19⟩ := depC hy (j := 19) (d := 100) (by simp) hrd rfl (by kernel_rfl)
        obtain rfl := hq19 v19 hv19
        refine yields_bare _ _ ⟨_, rfl, rfl, rfl, rfl, rfl⟩ (fun w => run_extract _ w _ _ _ 1 (eval_putC _ _ (j := 19) (d := 100) (by simp) (by decide) hv19 (of_decide_eq_true (by kernel_rfl))) rfl) ?_
        refine ⟨hB, hR, hC, ?_, ?_, ?_, ?_, ?_, ?_⟩
        · exact fun v hv => hq17 v (uN hv)
        · exact fun v hv => hq18 v (uN hv)
        · exact fun v hv => hq19 v (uN hv)
        · exact fun v hv => hq20 v (uN hv)
        · exact fun v hv => (uS hv).symm
        · intro v hv; have h := hq22 v (uN hv); obtain ⟨B, h0, h1, h2, h3, hL⟩ := h; exact ⟨B, h0, h1, h2, h3, hL⟩
      · refine takeN (by kernel_rfl) (wpOp_bare (some 27) (Op.alloc 31) 0 ⟨_, rfl, rfl, rfl, rfl, rfl⟩ (fun K hK => ?_))
        refine wp_of_run (run_al_bit _ _ _ _) (hK.o _ _ ⟨_, rfl, ?_⟩)
        refine ⟨hB.alloc _, hR.keep ((Below.refl _ _).alloc (Nat.le_refl _) _), hC.alloc _, ?_, ?_, ?_, ?_, ?_, ?_⟩
        · intro v hv; have h := hq17 v (uN hv); obtain ⟨B, h1, h2⟩ := h; exact ⟨B, h1, h2.keep ((Below.refl _ _).alloc (Nat.le_refl _) _)⟩
        · exact fun v hv => hq18 v (uN hv)
        · exact fun v hv => hq19 v (uN hv)
        · exact fun v hv => hq20 v (uN hv)
        · exact fun v hv => hq21 v (uN hv)
        · intro v hv; rw [updC_same] at hv; cases hv; exact ⟨w8.heap.size, rfl, hB.zr, hC.lt, hR.apt, Cl.at w8 [.int .u64 0, .int .u64 0, .int .u64 0, .int .u64 0, .int .u64 0, .int .u64 0, .int .u64 0, .int .u64 0] _ _ rfl⟩
    intro y w9 hall hI
    obtain ⟨hB, hR, hC, hq17, hq18, hq19, hq20, hq21, hq22⟩ := hI
    obtain ⟨v17, hv17⟩ := Option.isSome_iff_exists.1 (hall (17, 118) (by simp))
    obtain ⟨v18, hv18⟩ := Option.isSome_iff_exists.1 (hall (18, 119) (by simp))
    obtain ⟨v19, hv19⟩ := Option.isSome_iff_exists.1 (hall (19, 100) (by simp))
    obtain ⟨v20, hv20⟩ := Option.isSome_iff_exists.1 (hall (20, 120) (by simp))
    obtain ⟨v21, hv21⟩ := Option.isSome_iff_exists.1 (hall (21, 121) (by simp))
    obtain ⟨v22, hv22⟩ := Option.isSome_iff_exists.1 (hall (22, 27) (by simp))
    clear hall
    obtain rfl := hq18 v18 hv18
    obtain rfl := hq19 v19 hv19
    obtain rfl := hq20 v20 hv20
    obtain rfl := hq21 v21 hv21
    obtain ⟨Bt9, rfl, -⟩ := hq17 v17 hv17
    obtain ⟨Bp, rfl, hBp, hBcp, hAp, hP9⟩ := hq22 v22 hv22
    replace HB := Lh hB
    replace HR := Lh hR
    replace F_c := Lh hC
    have F_p := Lh hP9
    have HAP := Lh hAp
    have hS0 := hB.kd
    clear hB hR hC hq17 hq18 hq19 hq20 hq21 hq22 hAp hP9
    simp only [putC, setAll, Act.put, sZ, Option.getD_some, hv17, hv18, hv19, hv20, hv21, hv22]
    clear hv17 hv18 hv19 hv20 hv21 hv22
    refine onl (i := 23) none (.store 31 (.tmp 27) (.tmp 120)) 0 (fun K hK => ?_)
    unfold bareOp
    refine wp_storeCl 31 (.tmp 27) (.tmp 120) Bp 0 [.int .u64 0, .int .u64 0, .int .u64 0, .int .u64 0, .int .u64 0, .int .u64 0, .int .u64 0, .int .u64 0] [.int .u64 z.r0, .int .u64 z.r1, .int .u64 z.s0, .int .u64 z.s1, .int .u64 z.c0, .int .u64 z.c1, .int .u64 z.z0, .int .u64 z.z1] [.int .u64 z.r0, .int .u64 z.r1, .int .u64 z.s0, .int .u64 z.s1, .int .u64 z.c0, .int .u64 z.c1, .int .u64 z.z0, .int .u64 z.z1] rfl rfl rfl (by kernel_rfl) (by intro u hu; simp at hu; rcases hu with rfl | rfl | rfl | rfl | rfl | rfl | rfl | rfl <;> rfl) F_p.o (by simp) rfl ?_
    intro wa hca hga hza
    replace F_p := Lh hca
    replace F_c := Lh (F_c.o.gro hga (by omega))
    replace HB := Lh (HB.o.gro hga hBp)
    replace HR := Lh (HR.o.gro hga HAP.o)
    clear hca hga hza hS0
    have hS0 := HB.o.kd
    refine hK.o _ _ lt8 ?_
    clear hK K
    try simp only [sY]
    refine tkP (i := 24) (some 28) (.assign (.tmp 121)) 38 lt8 ?_
    simp only [sY]
    refine wpAnyB_done (by kernel_rfl) ?_ _
    go_wp2_with fail
    replace HB := Lh HB.o.drew
    replace HR := Lh (HR.o.keep (Below.refl _ _).drew)
    replace F_c := Lh F_c.o.drew
    replace F_p := Lh F_p.o.drew
    have hS0 := And.intro HB.o (And.intro F_c.o F_p.o)
    refine wp_region_stage 18 (fun w' => SlB wd wk w' one (.slice ma m mc) av bv rv ∧ Cl w' Bc [.int .u64 ea, .int .u64 eb] ∧ Cl w' Bp [.int .u64 z.r0, .int .u64 z.r1, .int .u64 z.s0, .int .u64 z.s1, .int .u64 z.c0, .int .u64 z.c1, .int .u64 z.z0, .int .u64 z.z1]) (by kernel_rfl) ?_
    refine tkP (i := 0) (some 122) (.fieldAddr 33 (.tmp 19) 0) 0 (fun _ => hS0) ?_
    simp only [sY]
    refine tkL (i := 1) (some 123) (.load 27 (.tmp 122)) 27 [4, 9, 16, 17, 18] (v := ?_) hS0 (fun w' hSw => ?_) ?_
    rotate_left
    · obtain ⟨t1, t2, t3⟩ := hSw; have q0 := t1.v.c 0 _ rfl
      unfold bareOp; go_simp; try with_reducible rfl
    simp only [sY]
    refine tkL (i := 2) (some 124) (.load 75 (.tmp 25)) 75 [3, 4, 9, 16, 17, 18] (v := ?_) hS0 (fun w' hSw => ?_) ?_
    rotate_left
    · obtain ⟨t1, t2, t3⟩ := hSw; have q0 := t2.c 0 _ rfl; have q1 := t2.c 1 _ rfl
      unfold bareOp; go_simp; try with_reducible rfl
    simp only [sY]
    refine tkP (i := 5) (some 127) (.fieldAddr 33 (.tmp 19) 1) 0 (fun _ => hS0) ?_
    simp only [sY]
    refine tkL (i := 6) (some 128) (.load 28 (.tmp 127)) 28 [9, 16, 17, 18] (v := ?_) hS0 (fun w' hSw => ?_) ?_
    rotate_left
    · obtain ⟨t1, t2, t3⟩ := hSw; have q0 := t1.v.c 1 _ rfl
      unfold bareOp; go_simp; try with_reducible rfl
    simp only [sY]
    refine tkL (i := 7) (some 129) (.load 31 (.tmp 27)) 31 [8, 9, 16, 18] (v := ?_) hS0 (fun w' hSw => ?_) ?_
    rotate_left
    · obtain ⟨t1, t2, t3⟩ := hSw; have q0 := t3.c 0 _ rfl; have q1 := t3.c 1 _ rfl; have q2 := t3.c 2 _ rfl; have q3 := t3.c 3 _ rfl; have q4 := t3.c 4 _ rfl; have q5 := t3.c 5 _ rfl; have q6 := t3.c 6 _ rfl; have q7 := t3.c 7 _ rfl
      unfold bareOp; go_simp; try with_reducible rfl
    simp only [sY]
    refine tkP (i := 10) (some 132) (.fieldAddr 36 (.tmp 20) 1) 0 (fun _ => hS0) ?_
    simp only [sY]
    refine tkL (i := 11) (some 133) (.load 34 (.tmp 132)) 34 [16, 18] (v := ?_) hS0 (fun w' hSw => ?_) ?_
    rotate_left
    · obtain ⟨t1, t2, t3⟩ := hSw; have q0 := t1.r.c 1 _ rfl
      unfold bareOp; go_simp; try with_reducible rfl
    simp only [sY]
    refine tkP (i := 12) (some 134) (.move (.tmp 23)) 34 (fun _ => hS0) ?_
    simp only [sY]
    refine tkP (i := 13) (some 135) (.indexAddr 34 (.tmp 134) (.const (.int .i64 0))) 0 (fun _ => hS0) ?_
    simp only [sY]
    refine tkL (i := 14) (some 136) (.load 22 (.tmp 135)) 22 [15, 16, 18] (v := ?_) hS0 (fun w' hSw => ?_) ?_
    rotate_left
    · obtain ⟨t1, t2, t3⟩ := hSw; have n0 := (Below.cell t1.kd (p := ⟨sd, 4 * i, none⟩) HD.o.s).trans HC.o.1
      unfold bareOp; go_simp; try with_reducible rfl
    simp only [sY]
    refine wpAnyB_cloud0 (fuel := 5) [(3, 125), (4, 126), (8, 130), (9, 131), (15, 137), (16, 138), (17, 139)] [17] (fun y w' => SlB wd wk w' one (.slice ma m mc) av bv rv ∧ Cl w' Bc [.int .u64 ea, .int .u64 eb] ∧ Cl w' Bp [.int .u64 z.r0, .int .u64 z.r1, .int .u64 z.s0, .int .u64 z.s1, .int .u64 z.c0, .int .u64 z.c1, .int .u64 z.z0, .int .u64 z.z1] ∧ Chn (wk.heap.size + 1) 75 2 w' av i (flatS bs) [.int .u64 ea, .int .u64 eb] (y 3) (y 4) ∧ Chn (wk.heap.size + 1) 31 8 w' bv i (flatB ps) [.int .u64 z.r0, .int .u64 z.r1, .int .u64 z.s0, .int .u64 z.s1, .int .u64 z.c0, .int .u64 z.c1, .int .u64 z.z0, .int .u64 z.z1] (y 8) (y 9) ∧ Chn (wk.heap.size + 1) 22 1 w' rv i ((nsI d i).map (Value.int .u64)) [.int .u64 x0] (y 15) (y 16) ∧ (∀ v, y 3 = some v → True) ∧ (∀ v, y 4 = some v → True) ∧ (∀ v, y 8 = some v → True) ∧ (∀ v, y 9 = some v → True) ∧ (∀ v, y 15 = some v → True) ∧ (∀ v, y 16 = some v → True) ∧ (∀ v, y 17 = some v → v = .pointer (some ⟨wd.heap.size, 0, none⟩))) rfl (by decide) (by decide) (by kernel_rfl) (by kernel_rfl) (by kernel_rfl) (fun _ _ _ _ _ h => h) (fun y w' hI => And.intro hI.1 (And.intro hI.2.1 hI.2.2.1)) ⟨HB.o, F_c.o, F_p.o, Chn.start HR.o.ha, Chn.start HR.o.hb, Chn.start HR.o.hr, fun v h => (by cases h), fun v h => (by cases h), fun v h => (by cases h), fun v h => (by cases h), fun v h => (by cases h), fun v h => (by cases h), fun v h => (by cases h)⟩ ?_ ?_
    · intro p hp y w8 hyn hy hrd hI
      obtain ⟨hB, hCc, hCp, hC1, hC2, hC3, hq3, hq4, hq8, hq9, hq15, hq16, hq17⟩ := hI
      simp only [List.mem_cons, List.not_mem_nil, or_false] at hp
      rcases hp with rfl | rfl | rfl | rfl | rfl | rfl | rfl
      · refine takeN (by kernel_rfl) (wpOp_bare (some 125) (Op.buildSlice 27 1 #[(0, Operand.tmp 124)]) 27 ⟨_, rfl, rfl, rfl, rfl, rfl⟩ (fun K hK => ?_))
        refine wp_of_run (run_lit_sealed _ _ _ _ (.tmp 124) ea eb ((eval_putC_not _ _ 124 (by decide)).trans rfl)) (hK.o _ _ ⟨_, rfl, ?_⟩)
        refine ⟨hB.alloc _, hCc.alloc _, hCp.alloc _, hC1.lit hB.zr rfl, hC2.keep ((Below.refl _ _).alloc (Nat.le_refl _) _), hC3.keep ((Below.refl _ _).alloc (Nat.le_refl _) _), ?_, ?_, ?_, ?_, ?_, ?_, ?_⟩
        · intro v hv; rw [updC_same] at hv; exact trivial
        · exact fun v hv => hq4 v (uN hv)
        · exact fun v hv => hq8 v (uN hv)
        · exact fun v hv => hq9 v (uN hv)
        · exact fun v hv => hq15 v (uN hv)
        · exact fun v hv => hq16 v (uN hv)
        · exact fun v hv => hq17 v (uN hv)
      · refine takeN (by kernel_rfl) (wpOp_bare (some 126) (Op.call { callee := Callee.builtin Builtin.append, args := #[Operand.tmp 123, Operand.tmp 125], argTypes := #[27, 27] }) 27 ⟨_, rfl, rfl, rfl, rfl, rfl⟩ (fun K hK => ?_))
        obtain ⟨v3, hv3⟩ := depC hy (j := 3) (d := 125) (by simp) hrd rfl (by kernel_rfl)
        obtain ⟨B8, rfl, hL8⟩ := hC1.2.1 v3 hv3
        have hrow := hC1.1 hyn
        have hlit := hL8 hyn
        rw [hyn] at hC1
        refine ⟨wp_push_s (.tmp 123) (.tmp 125) rfl (wk.heap.size + 1) i B8 av (flatS bs) ea eb ((eval_putC_not _ _ 123 (by decide)).trans rfl) (eval_putC _ _ (j := 3) (d := 125) (by simp) (by decide) hv3 (of_decide_eq_true (by kernel_rfl))) hrow (own_cells0 hlit) (by omega) hB.zr (fun v' w9 hown hg => hK.o _ _ ⟨v', rfl, ?_⟩)⟩
        refine ⟨hB.under (Below.rowT hg (fun k hk => (World.ownsRow.lt hrow k hk).1) hB.zr), hCc.grown hg HAC.o.1, hCp.grown hg HAP.o.1, hC1.app hown, hC2.kept hrow (by decide) hg, hC3.kept hrow (by decide) hg, ?_, ?_, ?_, ?_, ?_, ?_, ?_⟩
        · exact fun v hv => hq3 v (uN hv)
        · intro v hv; rw [updC_same] at hv; exact trivial
        · exact fun v hv => hq8 v (uN hv)
        · exact fun v hv => hq9 v (uN hv)
        · exact fun v hv => hq15 v (uN hv)
        · exact fun v hv => hq16 v (uN hv)
        · exact fun v hv => hq17 v (uN hv)
      · refine takeN (by kernel_rfl) (wpOp_bare (some 130) (Op.buildSlice 28 1 #[(0, Operand.tmp 129)]) 28 ⟨_, rfl, rfl, rfl, rfl, rfl⟩ (fun K hK => ?_))
        refine wp_of_run (run_lit_bit _ _ _ _ (.tmp 129) z ((eval_putC_not _ _ 129 (by decide)).trans rfl)) (hK.o _ _ ⟨_, rfl, ?_⟩)
        refine ⟨hB.alloc _, hCc.alloc _, hCp.alloc _, hC1.keep ((Below.refl _ _).alloc (Nat.le_refl _) _), hC2.lit hB.zr rfl, hC3.keep ((Below.refl _ _).alloc (Nat.le_refl _) _), ?_, ?_, ?_, ?_, ?_, ?_, ?_⟩
        · exact fun v hv => hq3 v (uN hv)
        · exact fun v hv => hq4 v (uN hv)
        · intro v hv; rw [updC_same] at hv; exact trivial
        · exact fun v hv => hq9 v (uN hv)
        · exact fun v hv => hq15 v (uN hv)
        · exact fun v hv => hq16 v (uN hv)
        · exact fun v hv => hq17 v (uN hv)
      · refine takeN (by kernel_rfl) (wpOp_bare (some 131) (Op.call { callee := Callee.builtin Builtin.append, args := #[Operand.tmp 128, Operand.tmp 130], argTypes := #[28, 28] }) 28 ⟨_, rfl, rfl, rfl, rfl, rfl⟩ (fun K hK => ?_))
        obtain ⟨v8, hv8⟩ := depC hy (j := 8) (d := 130) (by simp) hrd rfl (by kernel_rfl)
        obtain ⟨B8, rfl, hL8⟩ := hC2.2.1 v8 hv8
        have hrow := hC2.1 hyn
        have hlit := hL8 hyn
        rw [hyn] at hC2
        refine ⟨wp_push_bit (.tmp 128) (.tmp 130) rfl (wk.heap.size + 1) i B8 bv (flatB ps) z ((eval_putC_not _ _ 128 (by decide)).trans rfl) (eval_putC _ _ (j := 8) (d := 130) (by simp) (by decide) hv8 (of_decide_eq_true (by kernel_rfl))) hrow (own_cells0 hlit) (by omega) hB.zr (fun v' w9 hown hg => hK.o _ _ ⟨v', rfl, ?_⟩)⟩
        refine ⟨hB.under (Below.rowT hg (fun k hk => (World.ownsRow.lt hrow k hk).1) hB.zr), hCc.grown hg HAC.o.2.1, hCp.grown hg HAP.o.2.1, hC1.kept hrow (by decide) hg, hC2.app hown, hC3.kept hrow (by decide) hg, ?_, ?_, ?_, ?_, ?_, ?_, ?_⟩
        · exact fun v hv => hq3 v (uN hv)
        · exact fun v hv => hq4 v (uN hv)
        · exact fun v hv => hq8 v (uN hv)
        · intro v hv; rw [updC_same] at hv; exact trivial
        · exact fun v hv => hq15 v (uN hv)
        · exact fun v hv => hq16 v (uN hv)
        · exact fun v hv => hq17 v (uN hv)
      · refine takeN (by kernel_rfl) (wpOp_bare (some 137) (Op.buildSlice 34 1 #[(0, Operand.tmp 136)]) 34 ⟨_, rfl, rfl, rfl, rfl, rfl⟩ (fun K hK => ?_))
        refine wp_of_run (run_lit_u64 _ _ _ _ (.tmp 136) x0 ((eval_putC_not _ _ 136 (by decide)).trans rfl)) (hK.o _ _ ⟨_, rfl, ?_⟩)
        refine ⟨hB.alloc _, hCc.alloc _, hCp.alloc _, hC1.keep ((Below.refl _ _).alloc (Nat.le_refl _) _), hC2.keep ((Below.refl _ _).alloc (Nat.le_refl _) _), hC3.lit hB.zr rfl, ?_, ?_, ?_, ?_, ?_, ?_, ?_⟩
        · exact fun v hv => hq3 v (uN hv)
        · exact fun v hv => hq4 v (uN hv)
        · exact fun v hv => hq8 v (uN hv)
        · exact fun v hv => hq9 v (uN hv)
        · intro v hv; rw [updC_same] at hv; exact trivial
        · exact fun v hv => hq16 v (uN hv)
        · exact fun v hv => hq17 v (uN hv)
      · refine takeN (by kernel_rfl) (wpOp_bare (some 138) (Op.call { callee := Callee.builtin Builtin.append, args := #[Operand.tmp 133, Operand.tmp 137], argTypes := #[34, 34] }) 34 ⟨_, rfl, rfl, rfl, rfl, rfl⟩ (fun K hK => ?_))
        obtain ⟨v15, hv15⟩ := depC hy (j := 15) (d := 137) (by simp) hrd rfl (by kernel_rfl)
        obtain ⟨B8, rfl, hL8⟩ := hC3.2.1 v15 hv15
        have hrow := hC3.1 hyn
        have hlit := hL8 hyn
        rw [hyn] at hC3
        refine ⟨wp_push_u64 (.tmp 133) (.tmp 137) rfl (wk.heap.size + 1) i B8 rv ((nsI d i).map (Value.int .u64)) x0 ((eval_putC_not _ _ 133 (by decide)).trans rfl) (eval_putC _ _ (j := 15) (d := 137) (by simp) (by decide) hv15 (of_decide_eq_true (by kernel_rfl))) hrow (own_cells0 hlit) (by omega) hB.zr (fun v' w9 hown hg => hK.o _ _ ⟨v', rfl, ?_⟩)⟩
        refine ⟨hB.under (Below.rowT hg (fun k hk => (World.ownsRow.lt hrow k hk).1) hB.zr), hCc.grown hg HAC.o.2.2, hCp.grown hg HAP.o.2.2, hC1.kept hrow (by decide) hg, hC2.kept hrow (by decide) hg, hC3.app hown, ?_, ?_, ?_, ?_, ?_, ?_, ?_⟩
        · exact fun v hv => hq3 v (uN hv)
        · exact fun v hv => hq4 v (uN hv)
        · exact fun v hv => hq8 v (uN hv)
        · exact fun v hv => hq9 v (uN hv)
        · exact fun v hv => hq15 v (uN hv)
        · intro v hv; rw [updC_same] at hv; exact trivial
        · exact fun v hv => hq17 v (uN hv)
      · refine takeF (by kernel_rfl) ?_
        refine yields_bare _ _ ⟨_, rfl, rfl, rfl, rfl, rfl⟩ (fun w => run_fa0 _ w _ _ _ ((eval_putC_not _ _ 19 (by decide)).trans rfl)) ?_
        refine ⟨hB, hCc, hCp, hC1, hC2, hC3, ?_, ?_, ?_, ?_, ?_, ?_, ?_⟩
        · exact fun v hv => hq3 v (uN hv)
        · exact fun v hv => hq4 v (uN hv)
        · exact fun v hv => hq8 v (uN hv)
        · exact fun v hv => hq9 v (uN hv)
        · exact fun v hv => hq15 v (uN hv)
        · exact fun v hv => hq16 v (uN hv)
        · exact fun v hv => (uS hv).symm
    intro y w9 hall hI
    obtain ⟨hB, hCc, hCp, hC1, hC2, hC3, hq3, hq4, hq8, hq9, hq15, hq16, hq17⟩ := hI
    obtain ⟨v3, hv3⟩ := Option.isSome_iff_exists.1 (hall (3, 125) (by simp))
    obtain ⟨v4, hv4⟩ := Option.isSome_iff_exists.1 (hall (4, 126) (by simp))
    obtain ⟨v8, hv8⟩ := Option.isSome_iff_exists.1 (hall (8, 130) (by simp))
    obtain ⟨v9, hv9⟩ := Option.isSome_iff_exists.1 (hall (9, 131) (by simp))
    obtain ⟨v15, hv15⟩ := Option.isSome_iff_exists.1 (hall (15, 137) (by simp))
    obtain ⟨v16, hv16⟩ := Option.isSome_iff_exists.1 (hall (16, 138) (by simp))
    obtain ⟨v17, hv17⟩ := Option.isSome_iff_exists.1 (hall (17, 139) (by simp))
    clear hall
    have hr4 := hC1.2.2 v4 hv4
    have hr9 := hC2.2.2 v9 hv9
    have hr16 := hC3.2.2 v16 hv16
    obtain ⟨a4, c4, rfl⟩ := own_slice hr4
    obtain ⟨a9, c9, rfl⟩ := own_slice hr9
    obtain ⟨a16, c16, rfl⟩ := own_slice hr16
    obtain rfl := hq17 v17 hv17
    replace HB := Lh hB
    have HO4 := Lh hr4
    have HO9 := Lh hr9
    have HO16 := Lh hr16
    have hS0 := And.intro hB (And.intro hCc hCp)
    clear hB hCc hCp hC1 hC2 hC3 hr4 hr9 hr16 hq3 hq4 hq8 hq9 hq15 hq16 hq17 F_c F_p HAC HAP
    simp only [putC, setAll, Act.put, sZ, Option.getD_some, hv3, hv4, hv8, hv9, hv15, hv16, hv17]
    clear hv3 hv4 hv8 hv9 hv15 hv16 hv17
    refine onl (i := 18) none (.store 27 (.tmp 139) (.tmp 126)) 0 (fun K hK => ?_)
    unfold bareOp
    have q0 := HB.o.v.c 0 _ rfl
    have f0 := HB.o.v.f 0
    go_wp2_with fail
    replace HB := Lh (HB.o.set0 (.slice a4 (i + 1) c4))
    replace HO4 := Lh (own_far HO4.o ⟨wd.heap.size, 0, none⟩ (.slice a4 (i + 1) c4) (by show wd.heap.size < wk.heap.size + 1; omega))
    replace HO9 := Lh (own_far HO9.o ⟨wd.heap.size, 0, none⟩ (.slice a4 (i + 1) c4) (by show wd.heap.size < wk.heap.size + 1; omega))
    replace HO16 := Lh (own_far HO16.o ⟨wd.heap.size, 0, none⟩ (.slice a4 (i + 1) c4) (by show wd.heap.size < wk.heap.size + 1; omega))
    clear q0 f0 hS0
    refine hK.o _ _ lt8 ?_
    clear hK K
    try simp only [sY]
    refine tkP (i := 19) (some 140) (.fieldAddr 33 (.tmp 19) 1) 0 lt8 ?_
    simp only [sY]
    refine onl (i := 20) none (.store 28 (.tmp 140) (.tmp 131)) 0 (fun K hK => ?_)
    unfold bareOp
    have q0 := HB.o.v.c 1 _ rfl
    have f0 := HB.o.v.f 1
    go_wp2_with fail
    replace HB := Lh (HB.o.set1 (.slice a9 (i + 1) c9))
    replace HO4 := Lh (own_far HO4.o ⟨wd.heap.size, 1, none⟩ (.slice a9 (i + 1) c9) (by show wd.heap.size < wk.heap.size + 1; omega))
    replace HO9 := Lh (own_far HO9.o ⟨wd.heap.size, 1, none⟩ (.slice a9 (i + 1) c9) (by show wd.heap.size < wk.heap.size + 1; omega))
    replace HO16 := Lh (own_far HO16.o ⟨wd.heap.size, 1, none⟩ (.slice a9 (i + 1) c9) (by show wd.heap.size < wk.heap.size + 1; omega))
    clear q0 f0
    refine hK.o _ _ lt8 ?_
    clear hK K
    try simp only [sY]
    refine tkP (i := 21) (some 141) (.fieldAddr 36 (.tmp 20) 1) 0 lt8 ?_
    simp only [sY]
    refine onl (i := 22) none (.store 34 (.tmp 141) (.tmp 138)) 0 (fun K hK => ?_)
    unfold bareOp
    have q0 := HB.o.r.c 1 _ rfl
    have f0 := HB.o.r.f 1
    go_wp2_with fail
    replace HB := Lh (HB.o.setR (.slice a16 (i + 1) c16))
    replace HO4 := Lh (own_far HO4.o ⟨wk.heap.size, 1, none⟩ (.slice a16 (i + 1) c16) (by show wk.heap.size < wk.heap.size + 1; omega))
    replace HO9 := Lh (own_far HO9.o ⟨wk.heap.size, 1, none⟩ (.slice a16 (i + 1) c16) (by show wk.heap.size < wk.heap.size + 1; omega))
    replace HO16 := Lh (own_far HO16.o ⟨wk.heap.size, 1, none⟩ (.slice a16 (i + 1) c16) (by show wk.heap.size < wk.heap.size + 1; omega))
    clear q0 f0
    refine hK.o _ _ lt8 ?_
    clear hK K
    try simp only [sY]
    refine wpAnyB_done (by kernel_rfl) ?_ _
    go_wp2_with fail
    replace HB := Lh HB.o.drew
    replace HO4 := Lh (owns_below2 HO4.o (Below.refl _ _).drew)
    replace HO9 := Lh (owns_below2 HO9.o (Below.refl _ _).drew)
    replace HO16 := Lh (owns_below2 HO16.o (Below.refl _ _).drew)
    have HSU := Lh (sumE_range (Q := Q) (by have := HPQ.o; omega) (d := d) i)
    have hS0 := HB.o.kd
    refine wp_region_stage 5 (fun w' => Below wd.heap.size wd w') (by kernel_rfl) ?_
    refine tkL (i := 0) (some 143) (.load 24 (.tmp 6)) 24 [5] (v := ?_) hS0 (fun w' hSw => ?_) ?_
    rotate_left
    · have s0 := (HD.o.g.keepN hSw HNZ.o).c 0 _ rfl; have s1 := (HD.o.g.keepN hSw HNZ.o).c 1 _ rfl; have s2 := (HD.o.g.keepN hSw HNZ.o).c 2 _ rfl
      unfold bareOp; go_simp; try with_reducible rfl
    simp only [sY]
    refine tkP (i := 1) (some 144) (.move (.tmp 21)) 22 (fun _ => hS0) ?_
    simp only [sY]
    refine tkP (i := 2) (some 145) (.move (.tmp 23)) 34 (fun _ => hS0) ?_
    simp only [sY]
    refine tkP (i := 3) (some 146) (.indexAddr 34 (.tmp 145) (.const (.int .i64 0))) 0 (fun _ => hS0) ?_
    simp only [sY]
    refine tkL (i := 4) (some 147) (.load 22 (.tmp 146)) 22 [5] (v := ?_) hS0 (fun w' hSw => ?_) ?_
    rotate_left
    · have n0 := (Below.cell hSw (p := ⟨sd, 4 * i, none⟩) HD.o.s).trans HC.o.1
      unfold bareOp; go_simp; try with_reducible rfl
    simp only [sY]
    refine onl (i := 5) (some 148) (.call { callee := .value (.func 31), args := #[.tmp 143, .tmp 144, .tmp 147], argTypes := #[24, 22, 22] }) 81 (fun K hK => ?_)
    unfold bareOp
    refine OpW.out (wp_of_enter (run_call _ _ _ _ 31 Tryz.func31 (vs := #[.agg #[.int .u64 P, .int .u64 Q, .int .u64 G], .int .u64 (sumE Q d i), .int .u64 x0]) (by simp only [List.map_toArray, List.map_cons, List.map_nil]; rfl) rfl (by kernel_rfl) (by kernel_rfl)) (addExp_ok P Q G (sumE Q d i) x0 (sumE Q d (i + 1)) _ HH.o HSU.o.1 HSU.o.2 HX.o.1.1 HX.o.1.2 (by rw [← HXX.o.1]; rfl)) ?_)
    rintro e wb ⟨rfl, hbb⟩
    refine ⟨_, rfl, ?_⟩
    replace HB := Lh (HB.o.keep hbb)
    replace HO4 := Lh (owns_below2 HO4.o hbb)
    replace HO9 := Lh (owns_below2 HO9.o hbb)
    replace HO16 := Lh (owns_below2 HO16.o hbb)
    clear hbb hS0
    refine hK.o _ _ lt8 ?_
    clear hK K
    try simp only [sY]
    refine tkP (i := 6) (some 142) (.move (.tmp 148)) 81 lt8 ?_
    simp only [sY]
    refine tkP (i := 7) (some 149) (.extract (.tmp 142) 0) 22 lt8 ?_
    simp only [sY]
    refine tkP (i := 8) (some 150) (.extract (.tmp 142) 1) 38 lt8 ?_
    simp only [sY]
    refine tkP (i := 9) (some 21) (.assign (.tmp 149)) 22 lt8 ?_
    simp only [sY]
    refine wpAnyB_done (by kernel_rfl) ?_ _
    go_wp2_with fail
    go_roundw
    case rel =>
     refine ⟨i + 1, .slice a4 (i + 1) c4, .slice a9 (i + 1) c9, .slice a16 (i + 1) c16, bs ++ [(ea, eb)], ps ++ [z], by omega, by go_num, rfl, HB.o, ⟨?_, ?_, ?_⟩, HF.o.snoc HEA.o HBZZ.o⟩
     · rw [flatS_append]; exact HO4.o
     · rw [flatB_append]; simpa [flatB, Bt.vs] using HO9.o
     · rw [nsI_succ, List.map_append, HXX.o.1]; exact HO16.o
    case measure => simp [intOf] <;> omega
   case neg =>
    obtain rfl : i = j := by omega
    have hd : decide ((i : Int) < (i : Int)) = false := decide_eq_false (by omega)
    obtain ⟨a1, c1, rfl, -, hk1⟩ := ShS.of_owned2 HR.o.ha
    obtain ⟨a2, c2, rfl, -, hk2⟩ := ShB.of_owned2 HR.o.hb
    obtain ⟨a3, c3, rfl, -, hk3⟩ := ShI.of_owned2 HR.o.hr
    have HK123 := Lh (And.intro hk1 (And.intro hk2 hk3))
    clear hk1 hk2 hk3
    cases one with
    | false =>
     obtain ⟨z, hzz⟩ : ∃ z : Bt, z = Bt.zero := ⟨_, rfl⟩
     have F_v := Lh (show Cl wr wd.heap.size [.slice a1 i c1, .slice a2 i c2, .bool false, .int .u64 z.r0, .int .u64 z.r1, .int .u64 z.s0, .int .u64 z.s1, .int .u64 z.c0, .int .u64 z.c1, .int .u64 z.z0, .int .u64 z.z1] by rw [hzz]; exact HB.o.v)
     have F_r := Lh HB.o.r
     have HKD := Lh HB.o.kd
     have HKM := Lh HB.o.km
     have HZR := Lh HB.o.zr
     have HZF := Lh (show sealZ P Q G yk i ms d false z from .inr ⟨rfl, hzz⟩)
     clear HB hzz
     go_wp2_with fail
     have hln := HD.o.lt
     have hzk2 := hzk
     have F_o := Lh ((HD.o.o.keepN HKD.o (by omega)).drew)
     have F_q := Lh ((HD.o.q.keepN HKD.o (by omega)).drew)
     have HMS := Lh (show ShI .i64 wr.drew ma m ms ∧ ∀ s o, ma = some ⟨s, o, none⟩ → wd.heap.size < s ∧ s < wr.drew.heap.size from ⟨(ShI.blocks (w' := wr) HMC.o.1 (fun s o h => ⟨HKM.o s (HMC.o.2.2 s o h).1 (HMC.o.2.2 s o h).2, Nat.lt_trans (HMC.o.2.2 s o h).2 HZR.o⟩)).keep (Below.refl _ _).drew, fun s o h => ⟨(HMC.o.2.2 s o h).1, Nat.lt_trans (HMC.o.2.2 s o h).2 (show wk.heap.size < _ from HZR.o)⟩⟩)
     replace HBW := Lh ((HBW.o.trans (HKD.o.mono HBW.o.size)).drew)
     replace F_v := Lh F_v.o.drew
     replace F_r := Lh F_r.o.drew
     replace HR := Lh (HR.o.keep (Below.refl _ _).drew)
     clear HKD HKM
     have hS0 := And.intro F_v.o F_r.o
     refine wp_region_stage 3 (fun w' => Cl w' wd.heap.size [.slice a1 i c1, .slice a2 i c2, .bool false, .int .u64 z.r0, .int .u64 z.r1, .int .u64 z.s0, .int .u64 z.s1, .int .u64 z.c0, .int .u64 z.c1, .int .u64 z.z0, .int .u64 z.z1] ∧ Cl w' wk.heap.size [.slice ma m mc, .slice a3 i c3]) (by kernel_rfl) ?_
     refine tkL (i := 0) (some 177) (.load 33 (.tmp 19)) 33 [2, 3] (v := ?_) hS0 (fun w' hSw => ?_) ?_
     rotate_left
     · obtain ⟨t1, t2⟩ := hSw; obtain ⟨⟨q0, q1, q2, q3, q4, q5, q6, q7, q8, q9, q10⟩, -⟩ := t1.k11
       unfold bareOp; go_simp; try with_reducible rfl
     simp only [sY]
     refine tkL (i := 1) (some 178) (.load 36 (.tmp 20)) 36 [3] (v := ?_) hS0 (fun w' hSw => ?_) ?_
     rotate_left
     · obtain ⟨t1, t2⟩ := hSw; have q0 := t2.c 0 _ rfl; have q1 := t2.c 1 _ rfl
       unfold bareOp; go_simp; try with_reducible rfl
     simp only [sY]
     refine onl (i := 2) none (.store 33 (.tmp 12) (.tmp 177)) 0 (fun K hK => ?_)
     unfold bareOp
     refine wp_storeCl 33 (.tmp 12) (.tmp 177) (w.heap.size + 1 + 1) 0 [.slice none 0 0, .slice none 0 0, .bool false, .int .u64 0, .int .u64 0, .int .u64 0, .int .u64 0, .int .u64 0, .int .u64 0, .int .u64 0, .int .u64 0] [.slice a1 i c1, .slice a2 i c2, .bool false, .int .u64 z.r0, .int .u64 z.r1, .int .u64 z.s0, .int .u64 z.s1, .int .u64 z.c0, .int .u64 z.c1, .int .u64 z.z0, .int .u64 z.z1] [.slice a1 i c1, .slice a2 i c2, .bool false, .int .u64 z.r0, .int .u64 z.r1, .int .u64 z.s0, .int .u64 z.s1, .int .u64 z.c0, .int .u64 z.c1, .int .u64 z.z0, .int .u64 z.z1] rfl rfl rfl (by kernel_rfl) (by intro u hu; simp at hu; rcases hu with rfl | rfl | rfl | rfl | rfl | rfl | rfl | rfl | rfl | rfl | rfl <;> rfl) F_o.o (by simp) rfl ?_
     intro wa2 hca hga hza
     replace F_o := Lh hca
     replace F_q := Lh (F_q.o.gro hga (by omega))
     replace F_v := Lh (F_v.o.gro hga (by omega))
     replace F_r := Lh (F_r.o.gro hga (by omega))
     replace HBW := Lh (HBW.o.trans (hga.blw (n := w.heap.size) (by omega) HBW.o.size))
     replace HMS := Lh (show ShI .i64 wa2 ma m ms ∧ ∀ s o, ma = some ⟨s, o, none⟩ → wd.heap.size < s ∧ s < wa2.heap.size from And.intro (HMS.o.1.blocks (fun s o h => ⟨hga.block s (HMS.o.2 s o h).2 (by have := (HMS.o.2 s o h).1; intro e; injection e with e; omega), by rw [hza]; exact (HMS.o.2 s o h).2⟩)) (fun s o h => ⟨(HMS.o.2 s o h).1, by rw [hza]; exact (HMS.o.2 s o h).2⟩))
     replace HR := Lh (show SlR wk _ _ _ _ _ _ _ _ from ⟨own_gro HR.o.ha hga (by omega), own_gro HR.o.hb hga (by omega), own_gro HR.o.hr hga (by omega)⟩)
     clear hca hga hza hS0
     have hS0 := And.intro F_v.o F_r.o
     refine hK.o _ _ (fun _ => hS0) ?_
     clear hK K
     try simp only [sY]
     refine onl (i := 3) none (.store 36 (.tmp 13) (.tmp 178)) 0 (fun K hK => ?_)
     unfold bareOp
     refine wp_storeCl 36 (.tmp 13) (.tmp 178) (w.heap.size + 1 + 1 + 1) 0 [.slice none 0 0, .slice none 0 0] [.slice ma m mc, .slice a3 i c3] [.slice ma m mc, .slice a3 i c3] rfl rfl rfl (by kernel_rfl) (by intro u hu; simp at hu; rcases hu with rfl | rfl <;> rfl) F_q.o (by simp) rfl ?_
     intro wa3 hca hga hza
     replace F_q := Lh hca
     replace F_o := Lh (F_o.o.gro hga (by omega))
     replace F_v := Lh (F_v.o.gro hga (by omega))
     replace F_r := Lh (F_r.o.gro hga (by omega))
     replace HBW := Lh (HBW.o.trans (hga.blw (n := w.heap.size) (by omega) HBW.o.size))
     replace HMS := Lh (show ShI .i64 wa3 ma m ms ∧ ∀ s o, ma = some ⟨s, o, none⟩ → wd.heap.size < s ∧ s < wa3.heap.size from And.intro (HMS.o.1.blocks (fun s o h => ⟨hga.block s (HMS.o.2 s o h).2 (by have := (HMS.o.2 s o h).1; intro e; injection e with e; omega), by rw [hza]; exact (HMS.o.2 s o h).2⟩)) (fun s o h => ⟨(HMS.o.2 s o h).1, by rw [hza]; exact (HMS.o.2 s o h).2⟩))
     replace HR := Lh (show SlR wk _ _ _ _ _ _ _ _ from ⟨own_gro HR.o.ha hga (by omega), own_gro HR.o.hb hga (by omega), own_gro HR.o.hr hga (by omega)⟩)
     clear hca hga hza hS0
     have hS0 := And.intro F_v.o F_r.o
     refine hK.o _ _ lt8 ?_
     clear hK K
     try simp only [sY]
     refine tkP (i := 4) (some 14) (.assign (.const (.int .i64 0))) 38 lt8 ?_
     simp only [sY]
     refine wpAnyB_done (by kernel_rfl) ?_ _
     go_wp2_with fail
     obtain ⟨_, _, e1, hs1, -⟩ := ShS.of_owned2 HR.o.ha
     obtain ⟨_, _, e2, hs2, -⟩ := ShB.of_owned2 HR.o.hb
     obtain ⟨_, _, e3, hs3, -⟩ := ShI.of_owned2 HR.o.hr
     injection e1 with e1a _ _
     injection e2 with e2a _ _
     injection e3 with e3a _ _
     subst e1a e2a e3a
     refine bodyPost_ret (res_seal rfl F_o.o F_q.o _ rfl rfl rfl) rfl ?_
     obtain ⟨f1, f2, f3⟩ := seal_fin (one := false) (z := z) (c1 := c1) (c2 := c2) (c3 := c3) (mc := mc) HF.o HH.o hyk HYP.o HDB.o hs1 HK123.o.1 hs2 HK123.o.2.1 HMS.o.1 HMC.o.2.1 HU.o HLM.o hs3 HK123.o.2.2 HZF.o
     exact ⟨HBW.o, .inr ⟨HSE.o, .inr ⟨d, _, _, by rw [HMN.o]; exact HSO.o, rfl, by rw [Int.toNat_natCast]; exact f1, f2, f3⟩⟩⟩
    | true =>
     have hmany : many = 4 * i + 3 := by have := HMN.o; rw [manyS, Int.toNat_natCast] at this; exact this.symm
     have hwq : IntKind.i64.wrap (4 * (i : Int)) = 4 * (i : Int) := IntWalk.i64_in _ (by omega)
     have hq0 : 0 ≤ 4 * (i : Int) := by omega
     have hq1 : 4 * (i : Int) ≤ (many : Int) := by omega
     have hq3 : 4 * (i : Int) < (cd : Int) := by omega
     have HNZ := Lh (show w.heap.size < wd.heap.size by have := HD.o.lt; omega)
     obtain ⟨x0, hx0⟩ : ∃ x, d.getD (4 * i) 0 = x := ⟨_, rfl⟩
     obtain ⟨x1, hx1⟩ : ∃ x, d.getD (4 * i + 1) 0 = x := ⟨_, rfl⟩
     obtain ⟨x2, hx2⟩ : ∃ x, d.getD (4 * i + 2) 0 = x := ⟨_, rfl⟩
     have HX := Lh (show (0 ≤ x0 ∧ x0 < Q) ∧ (0 ≤ x1 ∧ x1 < Q) ∧ (0 ≤ x2 ∧ x2 < Q) by rw [← hx0, ← hx1, ← hx2]; exact ⟨HDB.o _, HDB.o _, HDB.o _⟩)
     have HC := Lh (show wd.cell? ⟨sd, 4 * i, none⟩ = some (.int .u64 x0) ∧ wd.cell? ⟨sd, 4 * i + 1, none⟩ = some (.int .u64 x1) ∧ wd.cell? ⟨sd, 4 * i + 2, none⟩ = some (.int .u64 x2) by
      rw [← hx0, ← hx1, ← hx2]
      have := HDL.o
      exact ⟨HD.o.c _ (by omega), HD.o.c _ (by omega), HD.o.c _ (by omega)⟩)
     have HXX := Lh (And.intro hx0 (And.intro hx1 hx2))
     clear hx0 hx1 hx2
     have HSU := Lh (sumE_range (Q := Q) (by have := HPQ.o; omega) (d := d) i)
     have hm01 : (m : Int) = 0 ∨ (m : Int) = 1 := by have := HLE.o rfl; omega
     obtain ⟨z, hz⟩ : ∃ z : Bt, BitZb P Q G yk (m : Int) (sumE Q d i) x0 x1 x2 [255] z := by
      obtain ⟨a0, a1, a2, a3, a4, a5, a6, a7, h⟩ := BitZ.exists P Q G yk (m : Int) (sumE Q d i) x0 x1 x2 [255]
      exact ⟨⟨a0, a1, a2, a3, a4, a5, a6, a7⟩, h⟩
     have HBZ := Lh (show RetBit (lgS (bitChk P Q G yk (m : Int) (sumE Q d i) x0 x1 x2) 1) P Q G yk (m : Int) (sumE Q d i) x0 x1 x2 [255] z.r0 z.r1 z.s0 z.s1 z.c0 z.c1 z.z0 z.z1 0 from .inl ⟨lgS_ok (by rw [bitChk, if_pos (askS_ok HH.o (by have := HX.o; have := HSU.o; simp; omega) (by have := HYP.o; simp; omega)), if_pos hm01]) (by omega), hz, rfl⟩)
     have HBY5 := Lh (show ByteL [255] by intro x hx; simp at hx; omega)
     have HZF := Lh (show sealZ P Q G yk i ms d true z from .inl ⟨rfl, by rw [← HLM.o, HXX.o.1, HXX.o.2.1, HXX.o.2.2]; exact hz⟩)
     subst hmany
     clear hz
     go_wp2_with fail
     replace HB := Lh HB.o.drew
     replace HR := Lh (HR.o.keep (Below.refl _ _).drew)
     have hS0 := HB.o.kd
     refine wp_region_stage 20 (fun w' => Below wd.heap.size wd w') (by kernel_rfl) ?_
     refine tkL (i := 0) (some 158) (.load 24 (.tmp 6)) 24 [15, 16, 17, 19, 20] (v := ?_) hS0 (fun w' hSw => ?_) ?_
     rotate_left
     · have s0 := (HD.o.g.keepN hSw HNZ.o).c 0 _ rfl; have s1 := (HD.o.g.keepN hSw HNZ.o).c 1 _ rfl; have s2 := (HD.o.g.keepN hSw HNZ.o).c 2 _ rfl
       unfold bareOp; go_simp; try with_reducible rfl
     simp only [sY]
     refine tkP (i := 1) (some 159) (.move (.tmp 1)) 22 (fun _ => hS0) ?_
     simp only [sY]
     refine tkP (i := 2) (some 160) (.move (.tmp 3)) 25 (fun _ => hS0) ?_
     simp only [sY]
     refine tkP (i := 3) (some 161) (.call { callee := .builtin .len, args := #[.tmp 160], argTypes := #[25] }) 3 (fun _ => hS0) ?_
     simp only [sY]
     refine tkP (i := 4) (some 162) (.move (.tmp 21)) 22 (fun _ => hS0) ?_
     simp only [sY]
     refine tkP (i := 5) (some 163) (.move (.tmp 29)) 34 (fun _ => hS0) ?_
     simp only [sY]
     refine tkP (i := 6) (some 164) (.indexAddr 34 (.tmp 163) (.const (.int .i64 0))) 0 (fun _ => hS0) ?_
     simp only [sY]
     refine tkL (i := 7) (some 165) (.load 22 (.tmp 164)) 22 [15, 16, 17, 19, 20] (v := ?_) hS0 (fun w' hSw => ?_) ?_
     rotate_left
     · have n0 := (Below.cell hSw (p := ⟨sd, 4 * i, none⟩) HD.o.s).trans HC.o.1
       unfold bareOp; go_simp; try with_reducible rfl
     simp only [sY]
     refine tkP (i := 8) (some 166) (.move (.tmp 29)) 34 (fun _ => hS0) ?_
     simp only [sY]
     refine tkP (i := 9) (some 167) (.indexAddr 34 (.tmp 166) (.const (.int .i64 1))) 0 (fun _ => hS0) ?_
     simp only [sY]
     refine tkL (i := 10) (some 168) (.load 22 (.tmp 167)) 22 [15, 16, 17, 19, 20] (v := ?_) hS0 (fun w' hSw => ?_) ?_
     rotate_left
     · have n0 := (Below.cell hSw (p := ⟨sd, 4 * i + 1, none⟩) HD.o.s).trans HC.o.2.1
       unfold bareOp; go_simp; try with_reducible rfl
     simp only [sY]
     refine tkP (i := 11) (some 169) (.move (.tmp 29)) 34 (fun _ => hS0) ?_
     simp only [sY]
     refine tkP (i := 12) (some 170) (.indexAddr 34 (.tmp 169) (.const (.int .i64 2))) 0 (fun _ => hS0) ?_
     simp only [sY]
     refine tkL (i := 13) (some 171) (.load 22 (.tmp 170)) 22 [15, 16, 17, 19, 20] (v := ?_) hS0 (fun w' hSw => ?_) ?_
     rotate_left
     · have n0 := (Below.cell hSw (p := ⟨sd, 4 * i + 2, none⟩) HD.o.s).trans HC.o.2.2
       unfold bareOp; go_simp; try with_reducible rfl
     simp only [sY]
     refine onl (i := 14) (some 172) (.buildSlice 80 1 #[(0, .const (.int .u8 255))]) 80 (fun K hK => ?_)
     unfold bareOp
     refine OpW.out (wp_of_run (run_lit_u8 _ _ _ _ _ 255 rfl) ?_)
     have F_t := Lh (ShI.lit1 .u8 wr.drew 255 5 wr.drew.heap.size rfl)
     replace HB := Lh (HB.o.alloc (.cells #[.int .u8 255] 5))
     replace HR := Lh (HR.o.keep ((Below.refl _ _).alloc (Nat.le_refl _) (.cells #[.int .u8 255] 5)))
     clear hS0
     have hS0 := HB.o.kd
     refine hK.o _ _ (fun _ => hS0) ?_
     clear hK K
     try simp only [sY]
     refine onl (i := 15) (some 173) (.call { callee := .value (.func 30), args := #[.tmp 158, .tmp 159, .tmp 161, .tmp 162, .tmp 165, .tmp 168, .tmp 171, .tmp 172], argTypes := #[24, 22, 3, 22, 22, 22, 22, 80] }) 78 (fun K hK => ?_)
     unfold bareOp
     refine OpW.out (wp_of_enter (run_call _ _ _ _ 30 Tryz.func30 (vs := #[.agg #[.int .u64 P, .int .u64 Q, .int .u64 G], .int .u64 yk, .int .i64 (m : Int), .int .u64 (sumE Q d i), .int .u64 x0, .int .u64 x1, .int .u64 x2, .slice (some ⟨wr.drew.heap.size, 0, none⟩) 1 1]) (by simp only [List.map_toArray, List.map_cons, List.map_nil]; rfl) rfl (by kernel_rfl) (by kernel_rfl)) (pbitProve_any _ ⟨HT.o.below (HBW.o.trans (HB.o.kd.mono HBW.o.size)), F_t.o, HBY5.o⟩ hP hQ hG hyk HSU.o.1 HX.o.1.1 HX.o.2.1.1 HX.o.2.2.1 (by omega) HBZ.o) ?_)
     rintro e wb ⟨rfl, hbb⟩
     refine ⟨_, rfl, ?_⟩
     replace HB := Lh (HB.o.keep hbb)
     replace HR := Lh (HR.o.keep hbb)
     clear hbb hS0 F_t
     have hS0 := HB.o.kd
     refine hK.o _ _ (fun _ => hS0) ?_
     clear hK K
     try simp only [sY]
     refine tkP (i := 16) (some 157) (.move (.tmp 173)) 78 (fun _ => hS0) ?_
     simp only [sY]
     refine tkP (i := 17) (some 174) (.extract (.tmp 157) 0) 31 (fun _ => hS0) ?_
     simp only [sY]
     refine tkP (i := 18) (some 175) (.extract (.tmp 157) 1) 38 (fun _ => hS0) ?_
     simp only [sY]
     refine tkP (i := 19) (some 176) (.fieldAddr 33 (.tmp 19) 3) 0 (fun _ => hS0) ?_
     simp only [sY]
     refine onl (i := 20) none (.store 31 (.tmp 176) (.tmp 174)) 0 (fun K hK => ?_)
     unfold bareOp
     refine wp_storeCl 31 (.tmp 176) (.tmp 174) wd.heap.size 3 (vcell (.slice a1 i c1) (.slice a2 i c2) true) [.int .u64 z.r0, .int .u64 z.r1, .int .u64 z.s0, .int .u64 z.s1, .int .u64 z.c0, .int .u64 z.c1, .int .u64 z.z0, .int .u64 z.z1] [.slice a1 i c1, .slice a2 i c2, .bool true, .int .u64 z.r0, .int .u64 z.r1, .int .u64 z.s0, .int .u64 z.s1, .int .u64 z.c0, .int .u64 z.c1, .int .u64 z.z0, .int .u64 z.z1] rfl rfl rfl (by kernel_rfl) (by intro u hu; simp at hu; rcases hu with rfl | rfl | rfl | rfl | rfl | rfl | rfl | rfl <;> rfl) HB.o.v (by simp [vcell]) rfl ?_
     intro wa hca hga hza
     have F_v := Lh hca
     have F_r := Lh (HB.o.r.gro hga (by have := HB.o.zk; omega))
     have HKD := Lh (hS0.trans (hga.blw (n := wd.heap.size) (Nat.le_refl _) hS0.size))
     have HKM := Lh (show ∀ k, wd.heap.size < k → k < wk.heap.size → wa.heap[k]? = wk.heap[k]? from fun k h1 h2 => (hga.block k (by have := HB.o.zr; omega) (by intro e; injection e with e; omega)).trans (HB.o.km k h1 h2))
     have HZR := Lh (show wk.heap.size < wa.heap.size by rw [hza]; exact HB.o.zr)
     replace HR := Lh (show SlR wk wa _ _ _ _ _ _ _ from ⟨own_gro HR.o.ha hga (by omega), own_gro HR.o.hb hga (by omega), own_gro HR.o.hr hga (by omega)⟩)
     clear hca hga hza hS0 HB
     refine hK.o _ _ lt8 ?_
     clear hK K
     try simp only [sY]
     refine wpAnyB_done (by kernel_rfl) ?_ _
     go_wp2_with fail
     have hln := HD.o.lt
     have hzk2 := hzk
     have F_o := Lh ((HD.o.o.keepN HKD.o (by omega)).drew)
     have F_q := Lh ((HD.o.q.keepN HKD.o (by omega)).drew)
     have HMS := Lh (show ShI .i64 wa.drew ma m ms ∧ ∀ s o, ma = some ⟨s, o, none⟩ → wd.heap.size < s ∧ s < wa.drew.heap.size from ⟨(ShI.blocks (w' := wa) HMC.o.1 (fun s o h => ⟨HKM.o s (HMC.o.2.2 s o h).1 (HMC.o.2.2 s o h).2, Nat.lt_trans (HMC.o.2.2 s o h).2 HZR.o⟩)).keep (Below.refl _ _).drew, fun s o h => ⟨(HMC.o.2.2 s o h).1, Nat.lt_trans (HMC.o.2.2 s o h).2 (show wk.heap.size < _ from HZR.o)⟩⟩)
     replace HBW := Lh ((HBW.o.trans (HKD.o.mono HBW.o.size)).drew)
     replace F_v := Lh F_v.o.drew
     replace F_r := Lh F_r.o.drew
     replace HR := Lh (HR.o.keep (Below.refl _ _).drew)
     clear HKD HKM
     have hS0 := And.intro F_v.o F_r.o
     refine wp_region_stage 3 (fun w' => Cl w' wd.heap.size [.slice a1 i c1, .slice a2 i c2, .bool true, .int .u64 z.r0, .int .u64 z.r1, .int .u64 z.s0, .int .u64 z.s1, .int .u64 z.c0, .int .u64 z.c1, .int .u64 z.z0, .int .u64 z.z1] ∧ Cl w' wk.heap.size [.slice ma m mc, .slice a3 i c3]) (by kernel_rfl) ?_
     refine tkL (i := 0) (some 177) (.load 33 (.tmp 19)) 33 [2, 3] (v := ?_) hS0 (fun w' hSw => ?_) ?_
     rotate_left
     · obtain ⟨t1, t2⟩ := hSw; obtain ⟨⟨q0, q1, q2, q3, q4, q5, q6, q7, q8, q9, q10⟩, -⟩ := t1.k11
       unfold bareOp; go_simp; try with_reducible rfl
     simp only [sY]
     refine tkL (i := 1) (some 178) (.load 36 (.tmp 20)) 36 [3] (v := ?_) hS0 (fun w' hSw => ?_) ?_
     rotate_left
     · obtain ⟨t1, t2⟩ := hSw; have q0 := t2.c 0 _ rfl; have q1 := t2.c 1 _ rfl
       unfold bareOp; go_simp; try with_reducible rfl
     simp only [sY]
     refine onl (i := 2) none (.store 33 (.tmp 12) (.tmp 177)) 0 (fun K hK => ?_)
     unfold bareOp
     refine wp_storeCl 33 (.tmp 12) (.tmp 177) (w.heap.size + 1 + 1) 0 [.slice none 0 0, .slice none 0 0, .bool false, .int .u64 0, .int .u64 0, .int .u64 0, .int .u64 0, .int .u64 0, .int .u64 0, .int .u64 0, .int .u64 0] [.slice a1 i c1, .slice a2 i c2, .bool true, .int .u64 z.r0, .int .u64 z.r1, .int .u64 z.s0, .int .u64 z.s1, .int .u64 z.c0, .int .u64 z.c1, .int .u64 z.z0, .int .u64 z.z1] [.slice a1 i c1, .slice a2 i c2, .bool true, .int .u64 z.r0, .int .u64 z.r1, .int .u64 z.s0, .int .u64 z.s1, .int .u64 z.c0, .int .u64 z.c1, .int .u64 z.z0, .int .u64 z.z1] rfl rfl rfl (by kernel_rfl) (by intro u hu; simp at hu; rcases hu with rfl | rfl | rfl | rfl | rfl | rfl | rfl | rfl | rfl | rfl | rfl <;> rfl) F_o.o (by simp) rfl ?_
     intro wa2 hca hga hza
     replace F_o := Lh hca
     replace F_q := Lh (F_q.o.gro hga (by omega))
     replace F_v := Lh (F_v.o.gro hga (by omega))
     replace F_r := Lh (F_r.o.gro hga (by omega))
     replace HBW := Lh (HBW.o.trans (hga.blw (n := w.heap.size) (by omega) HBW.o.size))
     replace HMS := Lh (show ShI .i64 wa2 ma m ms ∧ ∀ s o, ma = some ⟨s, o, none⟩ → wd.heap.size < s ∧ s < wa2.heap.size from And.intro (HMS.o.1.blocks (fun s o h => ⟨hga.block s (HMS.o.2 s o h).2 (by have := (HMS.o.2 s o h).1; intro e; injection e with e; omega), by rw [hza]; exact (HMS.o.2 s o h).2⟩)) (fun s o h => ⟨(HMS.o.2 s o h).1, by rw [hza]; exact (HMS.o.2 s o h).2⟩))
     replace HR := Lh (show SlR wk _ _ _ _ _ _ _ _ from ⟨own_gro HR.o.ha hga (by omega), own_gro HR.o.hb hga (by omega), own_gro HR.o.hr hga (by omega)⟩)
     clear hca hga hza hS0
     have hS0 := And.intro F_v.o F_r.o
     refine hK.o _ _ (fun _ => hS0) ?_
     clear hK K
     try simp only [sY]
     refine onl (i := 3) none (.store 36 (.tmp 13) (.tmp 178)) 0 (fun K hK => ?_)
     unfold bareOp
     refine wp_storeCl 36 (.tmp 13) (.tmp 178) (w.heap.size + 1 + 1 + 1) 0 [.slice none 0 0, .slice none 0 0] [.slice ma m mc, .slice a3 i c3] [.slice ma m mc, .slice a3 i c3] rfl rfl rfl (by kernel_rfl) (by intro u hu; simp at hu; rcases hu with rfl | rfl <;> rfl) F_q.o (by simp) rfl ?_
     intro wa3 hca hga hza
     replace F_q := Lh hca
     replace F_o := Lh (F_o.o.gro hga (by omega))
     replace F_v := Lh (F_v.o.gro hga (by omega))
     replace F_r := Lh (F_r.o.gro hga (by omega))
     replace HBW := Lh (HBW.o.trans (hga.blw (n := w.heap.size) (by omega) HBW.o.size))
     replace HMS := Lh (show ShI .i64 wa3 ma m ms ∧ ∀ s o, ma = some ⟨s, o, none⟩ → wd.heap.size < s ∧ s < wa3.heap.size from And.intro (HMS.o.1.blocks (fun s o h => ⟨hga.block s (HMS.o.2 s o h).2 (by have := (HMS.o.2 s o h).1; intro e; injection e with e; omega), by rw [hza]; exact (HMS.o.2 s o h).2⟩)) (fun s o h => ⟨(HMS.o.2 s o h).1, by rw [hza]; exact (HMS.o.2 s o h).2⟩))
     replace HR := Lh (show SlR wk _ _ _ _ _ _ _ _ from ⟨own_gro HR.o.ha hga (by omega), own_gro HR.o.hb hga (by omega), own_gro HR.o.hr hga (by omega)⟩)
     clear hca hga hza hS0
     have hS0 := And.intro F_v.o F_r.o
     refine hK.o _ _ lt8 ?_
     clear hK K
     try simp only [sY]
     refine tkP (i := 4) (some 14) (.assign (.const (.int .i64 0))) 38 lt8 ?_
     simp only [sY]
     refine wpAnyB_done (by kernel_rfl) ?_ _
     go_wp2_with fail
     obtain ⟨_, _, e1, hs1, -⟩ := ShS.of_owned2 HR.o.ha
     obtain ⟨_, _, e2, hs2, -⟩ := ShB.of_owned2 HR.o.hb
     obtain ⟨_, _, e3, hs3, -⟩ := ShI.of_owned2 HR.o.hr
     injection e1 with e1a _ _
     injection e2 with e2a _ _
     injection e3 with e3a _ _
     subst e1a e2a e3a
     refine bodyPost_ret (res_seal rfl F_o.o F_q.o _ rfl rfl rfl) rfl ?_
     obtain ⟨f1, f2, f3⟩ := seal_fin (one := true) (z := z) (c1 := c1) (c2 := c2) (c3 := c3) (mc := mc) HF.o HH.o hyk HYP.o HDB.o hs1 HK123.o.1 hs2 HK123.o.2.1 HMS.o.1 HMC.o.2.1 HU.o HLM.o hs3 HK123.o.2.2 HZF.o
     exact ⟨HBW.o, .inr ⟨HSE.o, .inr ⟨d, _, _, by rw [HMN.o]; exact HSO.o, rfl, by rw [Int.toNat_natCast]; exact f1, f2, f3⟩⟩⟩
end Go.Proofs.YtlbldpkgnonbpaaGreatDoor
