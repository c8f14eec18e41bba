/- Rows of codes; what the codes of a booth are. -/
import Derived.Test.YtlbldpkgnonbpaaGreatDoorQsV
import Derived.Great.BuildSlice
import Derived.Test.YtlbldpkgnonbpaaGreatDoorQsT
set_option linter.unusedSimpArgs false
set_option linter.unusedVariables false
set_option maxRecDepth 100000
namespace Go.Proofs.YtlbldpkgnonbpaaGreatDoor
open Go Go.RowKit Num Sha
theorem fill_one32 {cs : List Int} (hl : cs.length = 32) (cells : Array Value) (hn : cells.size = 32) : Instr.fill (fun i => some (i * 32, 32)) cells [(0, .agg (valV .u8 cs))] = some (valV .u8 cs) := by
 have h := Great.fill_whole (s := 32) (by decide) [.agg (valV .u8 cs)] cells (fun v hv => by
  rw [List.mem_singleton] at hv
  subst hv
  simp [Value.cells, valV, hl]) (by simp [hn])
 simpa [Value.cells] using h
theorem wpL_lit32 {w : World} {o : Oper} {ops : Array Oper} {rest : List Oper} {a : Act} {Q : Exit → Act → World → Prop} (hg : o.guard = none) (x : Operand) (cs : List Int) (ho : o.op = .buildSlice 102 1 #[(0, x)]) (hx : a.eval x = .agg (valV .u8 cs)) (hl : cs.length = 32)
 (h : wpList Tryz.prog ops Q rest (a.put o.dst (.slice (some ⟨w.heap.size, 0, none⟩) 1 1)) (w.alloc (.cells (valV .u8 cs) 26))) : wpList Tryz.prog ops Q (o :: rest) a w := by
 obtain ⟨j0, ji, jz0, jz1, jz2⟩ := info_parts (P := Tryz.prog) (e := 26) (z := .agg (Array.replicate 32 (.int .u8 0))) (size := 32) (bytes := 32) (by kernel_rfl)
 refine wpList_buildSlice hg 102 26 1 #[(0, x)] ho (valV .u8 cs) j0 _ Tryz.underlying102 ji jz0 (by rw [jz1]; decide) (by rw [jz1]; decide) ?_ h
 rw [jz1]
 simp only [List.map_toArray, List.map_cons, List.map_nil, hx]
 exact fill_one32 hl _ (by simp)
theorem wpL_push32 {w : World} {o : Oper} {ops : Array Oper} {rest : List Oper} {a : Act} {Q : Exit → Act → World → Prop} (hg : o.guard = none) (s x : Operand) (ho : o.op = .call { callee := .builtin .append, args := #[s, x], argTypes := #[102, 102] })
 (base n b : Nat) (v : Value) (xs : List Value) (cs : List Int) (hl : cs.length = 32) (hs : a.eval s = v) (hx : a.eval x = .slice (some ⟨b, 0, none⟩) 1 1) (hown : w.ownsRow base 26 32 v n xs) (hA : Arr .u8 w b cs) (hn : n ≤ 100000) (hb : base ≤ w.heap.size)
 (h : ∀ v' w', w'.ownsRow base 26 32 v' (n + 1) (xs ++ cs.map (Value.int .u8)) → w.grownBy w' v.ownBlock → wpList Tryz.prog ops Q rest (a.put o.dst v') w') : wpList Tryz.prog ops Q (o :: rest) a w := by
 obtain ⟨j0, ji, jz0, jz1, jz2⟩ := info_parts (P := Tryz.prog) (e := 26) (z := .agg (Array.replicate 32 (.int .u8 0))) (size := 32) (bytes := 32) (by kernel_rfl)
 refine wpList_append_own w hg s x 102 ho base 26 j0 _ 32 32 Tryz.underlying102 ji jz0 jz1 jz2 (by simp [Value.cells]) (by decide) v n xs hs hown ⟨b, 0, none⟩ 1 1 (cs.map (Value.int .u8)) hx (by rw [List.length_map, hl]) (fun j u hj => ?_) (fun u hu => by obtain ⟨z, -, rfl⟩ := List.mem_map.1 hu; rfl) (by unfold maxLen; omega) (by omega) hb (fun v' w' h1 h2 _ => h v' w' h1 h2)
 have hj' : j < cs.length := by have := (List.getElem?_eq_some_iff.1 hj).1; simpa using this
 rw [List.getElem?_map, List.getElem?_eq_getElem hj'] at hj
 obtain rfl := Option.some.inj hj
 have := hA.c j hj'
 rw [add_pl, Nat.zero_add, this]
 simp [List.getD, hj']
def flatC (l : List (List Int)) : List Value := l.flatMap fun cs => cs.map (Value.int .u8)
theorem flatC_at : ∀ (l : List (List Int)) (i j : Nat), (∀ cs, cs ∈ l → cs.length = 32) → i < l.length → j < 32 → (flatC l)[i * 32 + j]? = some (.int .u8 ((l.getD i []).getD j 0))
 | [], i, j, _, hi, _ => by simp at hi
 | x :: l, 0, j, hl, _, hj => by
  have hx := hl x (.head _)
  rw [Nat.zero_mul, Nat.zero_add]
  unfold flatC
  rw [List.flatMap_cons, List.getElem?_append_left (by simpa [hx] using hj)]
  simp [List.getD, hx, hj]
 | x :: l, i + 1, j, hl, hi, hj => by
  have hx := hl x (.head _)
  have h := flatC_at l i j (fun cs hc => hl cs (.tail _ hc)) (by simpa using hi) hj
  unfold flatC at h ⊢
  rw [List.flatMap_cons, List.getElem?_append_right (by rw [List.length_map, hx]; omega), List.length_map, hx, show (i + 1) * 32 + j - 32 = i * 32 + j by omega, h]
  rfl
theorem flatC_len (l : List (List Int)) (hl : ∀ cs, cs ∈ l → cs.length = 32) : (flatC l).length = l.length * 32 := by
 induction l with
 | nil => rfl
 | cons x l ih =>
  unfold flatC at ih ⊢
  rw [List.flatMap_cons, List.length_append, List.length_map, hl x (.head _), ih fun cs hc => hl cs (.tail _ hc), List.length_cons]
  omega
theorem ShC.of_owned {w : World} {base : Nat} {e : TypeId} {v : Value} {n : Nat} {l : List (List Int)} (hl : ∀ cs, cs ∈ l → cs.length = 32) (h : w.ownsRow base e 32 v n (flatC l)) : ∃ a c, v = .slice a n c ∧ ShC w a n l := by
 have hlen := h.1
 rw [flatC_len l hl] at hlen
 rcases h.2 with ⟨rfl, h0⟩ | ⟨g, cap, cur, rfl, hb, hg, hn, _⟩
 · subst h0
   have : l = [] := List.eq_nil_of_length_eq_zero (by omega)
   subst this
   exact ⟨none, 0, rfl, ShC.nil w _⟩
 · refine ⟨_, _, rfl, .inr ⟨g, 0, rfl, by omega, (h.lt g rfl).2, fun i hi => ⟨?_, fun j hj => ?_⟩⟩⟩
   · exact hl _ (by simp [List.getD, hi])
   · have hc := h.cells (g := g) rfl (i * 32 + j) _ (flatC_at l i j hl hi hj)
     rw [add_pl] at hc
     rwa [show 0 + i * 32 + j = 0 + (i * 32 + j) by omega]
def Vt.cd (V : Vt) : List Int := (codeF V).2
theorem Vt.cd_len (V : Vt) : V.cd.length = 32 := codeF_len (er := (codeF V).1) rfl
def cds (l : List Vt) : List (List Int) := l.map Vt.cd
theorem cds_len {l : List Vt} : ∀ cs, cs ∈ cds l → cs.length = 32 := by
 intro cs h
 obtain ⟨V, -, rfl⟩ := List.mem_map.1 h
 exact V.cd_len
def goodV (P Q G y : Int) (n : Nat) (one : Bool) (V : Vt) : Prop := V.one = one ∧ validP P Q G y n V
structure Bo where
 a : Option Addr
 n : Nat
 c : Nat
 l : List Vt
 b : Option Addr
 m : Nat
 d : Nat
 l' : List Vt
 e : Option Addr
 k : Nat
 f : Nat
 rs : List Rv
def Bo.v (B : Bo) : Value := .agg #[.slice B.a B.n B.c, .slice B.b B.m B.d, .slice B.e B.k B.f]
structure BoIn (w : World) (B : Bo) : Prop where
 h1 : ShV w B.a B.n B.l
 k1 : B.a = none → B.c = 0
 h2 : ShV w B.b B.m B.l'
 k2 : B.b = none → B.d = 0
 h3 : ShR w B.e B.k B.rs
 k3 : B.e = none → B.f = 0
theorem BoIn.keep {w w' : World} {B : Bo} (h : BoIn w B) (hb : Below w.heap.size w w') : BoIn w' B := ⟨h.h1.keep hb, h.k1, h.h2.keep hb, h.k2, h.h3.keep hb, h.k3⟩
structure BoSm (B : Bo) : Prop where
 s1 : B.n + B.m ≤ 1000
 s2 : B.k ≤ 1000
 s3 : ∀ R, R ∈ B.rs → R.n ≤ 1000 ∧ R.m ≤ 1000
 s4 : ∀ V, V ∈ B.l ++ B.l' → V.n ≤ 1000 ∧ V.m ≤ 1000
structure boothP (P Q G y : Int) (n : Nat) (one : Bool) (B : Bo) : Prop where
 lr : B.k = B.m
 few : B.n + B.m ≤ 256
 good : ∀ V, V ∈ B.l ++ B.l' → goodV P Q G y n one V
 dist : (cds (B.l ++ B.l')).Nodup
 mat : ∀ (i : Nat) (R : Rv) (V : Vt), B.rs[i]? = some R → B.l'[i]? = some V → rangeP Q n R ∧ matchP P G y n V R
theorem take_snoc {α : Type} {l : List α} {i : Nat} {x : α} (h : l[i]? = some x) : l.take (i + 1) = l.take i ++ [x] := by
 obtain ⟨h1, rfl⟩ := List.getElem?_eq_some_iff.1 h
 exact List.take_succ_eq_append_getElem h1
theorem cds_snoc (l : List Vt) (V : Vt) : cds (l ++ [V]) = cds l ++ [V.cd] := by simp [cds]
theorem flatC_snoc (l : List (List Int)) (cs : List Int) : flatC (l ++ [cs]) = flatC l ++ cs.map (Value.int .u8) := by simp [flatC]
theorem nodup_snoc {l : List (List Int)} {cs : List Int} (h : l.Nodup) (hn : cs ∉ l) : (l ++ [cs]).Nodup := by
 rw [List.nodup_append]
 exact ⟨h, by simp, fun a ha b hb => by rw [List.mem_singleton] at hb; subst hb; rintro rfl; exact hn ha⟩
theorem nodup_prefix {l : List Vt} {i : Nat} (h : (cds l).Nodup) : (cds (l.take i)).Nodup := by
 have : cds l = cds (l.take i) ++ cds (l.drop i) := by unfold cds; rw [← List.map_append, List.take_append_drop]
 rw [this, List.nodup_append] at h
 exact h.1
theorem nodup_at {l : List Vt} {i : Nat} {V : Vt} (h : (cds l).Nodup) (hV : l[i]? = some V) : V.cd ∉ cds (l.take i) := by
 have h2 := nodup_prefix (i := i + 1) h
 rw [take_snoc hV, cds_snoc, List.nodup_append] at h2
 intro hm
 exact h2.2.2 _ hm _ (by simp) rfl
open Go Go.RowKit Num Sha
def CodR (w : World) (P Q G y : Int) (n : Nat) (one : Bool) (B : Bo) (e : Ending) (w' : World) : Prop := (∃ v r, e = .returned (.tuple #[v, .bool r]) ∧ (r = true ↔ boothP P Q G y n one B) ∧ (r = true → ∃ a c, v = .slice a (B.n + B.m) c ∧ ShC w' a (B.n + B.m) (cds (B.l ++ B.l')))) ∧ Below w.heap.size w w'
theorem CodR.no {w w' : World} {P Q G y : Int} {n : Nat} {one : Bool} {B : Bo} {v : Value} (h : ¬ boothP P Q G y n one B) (hb : Below w.heap.size w w') : CodR w P Q G y n one B (.returned (.tuple #[v, .bool false])) w' :=
 ⟨⟨_, false, rfl, ⟨fun h => (by cases h), fun hb => absurd hb h⟩, fun h => (by cases h)⟩, hb⟩
def CodI (P Q G y : Int) (n : Nat) (one : Bool) (w1 : World) (L : List Vt) (i : Nat) (c13 : Value) (wr : World) : Prop :=
 wr.ownsRow w1.heap.size 26 32 c13 i (flatC (cds (L.take i))) ∧ ((∀ V, V ∈ L.take i → goodV P Q G y n one V) ∧ (cds (L.take i)).Nodup) ∧ Below w1.heap.size w1 wr
theorem CodI.start (P Q G y : Int) (n : Nat) (one : Bool) (w1 : World) (L : List Vt) : CodI P Q G y n one w1 L 0 (.slice none 0 0) w1 := by
 refine ⟨?_, ⟨?_, ?_⟩, Below.refl _ _⟩
 · rw [List.take_zero]; exact World.ownsRow_nil _ _ _ _
 · rw [List.take_zero]; intro V hV; cases hV
 · rw [List.take_zero]; exact List.nodup_nil
theorem CodI.step {P Q G y : Int} {n : Nat} {one : Bool} {w1 wr w7 : World} {L : List Vt} {i : Nat} {v v' : Value} {V : Vt} {cs : List Int} (h : CodI P Q G y n one w1 L i v wr) (hV : L[i]? = some V) (hc : V.cd = cs) (hg : goodV P Q G y n one V) (hn : cs ∉ cds (L.take i)) (ho : w7.ownsRow w1.heap.size 26 32 v' (i + 1) (flatC (cds (L.take i)) ++ cs.map (Value.int .u8))) (hb : Below w1.heap.size w1 w7) : CodI P Q G y n one w1 L (i + 1) v' w7 := by
 subst hc
 refine ⟨?_, ⟨?_, ?_⟩, hb⟩
 · rw [take_snoc hV, cds_snoc, flatC_snoc]; exact ho
 · rw [take_snoc hV]
   intro U hU
   rcases List.mem_append.1 hU with hU | hU
   · exact h.2.1.1 U hU
   · rw [List.mem_singleton] at hU; subst hU; exact hg
 · rw [take_snoc hV, cds_snoc]; exact nodup_snoc h.2.1.2 hn
theorem booth_bad {P Q G y : Int} {n : Nat} {one : Bool} {B : Bo} {L : List Vt} {i : Nat} {V : Vt} (hL : B.l ++ B.l' = L) (hV : L[i]? = some V) (hg : ¬ goodV P Q G y n one V) : ¬ boothP P Q G y n one B := fun h =>
 hg (h.good V (by rw [hL]; exact List.mem_of_getElem? hV))
theorem booth_dup {P Q G y : Int} {n : Nat} {one : Bool} {B : Bo} {L : List Vt} {i : Nat} {V : Vt} {cs : List Int} (hL : B.l ++ B.l' = L) (hV : L[i]? = some V) (hc : V.cd = cs) (hd : cs ∈ cds (L.take i)) : ¬ boothP P Q G y n one B := fun h => by
 subst hc
 have := h.dist
 rw [hL] at this
 exact nodup_at this hV hd
theorem matches_iff {P Q G y : Int} {n : Nat} {V : Vt} {R : Rv} (w : World) (hT : Tabs w) (hk : chkB P Q G y (n : Int) = 0) (hP : 0 ≤ P) (hQ : 0 ≤ Q) (hG : 0 ≤ G) (hy : 0 ≤ y) (hV : VtIn w V) (hR : RvIn w R) (hrn : R.n ≤ 1000) :
 Calls Tryz.prog 8 #[.agg #[υ P, υ Q, υ G], υ y, .int .i64 (n : Int), V.v, R.v] w fun e w' => (∃ (b : Bool) (c : Int), e = .returned (.tuple #[.bool b, .int .i64 c]) ∧ ((c = 0 ∧ b = true) ↔ (rangeP Q n R ∧ matchP P G y n V R))) ∧ Below w.heap.size w w' := by
 refine (matches_any w hT hP hQ hG hy hV hR hrn).mono ?_
 rintro e w' ⟨hb, ⟨hc, rfl⟩ | ⟨-, ⟨hr, rfl⟩ | ⟨hr, v, rfl, hv⟩⟩⟩
 · exact absurd hk hc
 · rw [Int.toNat_natCast] at hr
   exact ⟨⟨_, _, rfl, ⟨fun h => absurd h.1 (by decide), fun h => absurd h.1 hr⟩⟩, hb⟩
 · rw [Int.toNat_natCast] at hr hv
   exact ⟨⟨_, _, rfl, ⟨fun h => ⟨hr, hv.1 h.2⟩, fun h => ⟨rfl, hv.2 h.2⟩⟩⟩, hb⟩
theorem chkB_zero {P Q G y : Int} {n : Nat} (hH : Has P Q G) (hyP : y < P) (hn : n ≤ 10) (hn1 : 1 ≤ n) : chkB P Q G y (n : Int) = 0 := by
 unfold chkB
 rw [if_neg (by simpa using hH), if_neg (by omega)]
set_option maxHeartbeats 16000000 in
theorem codes_any {P Q G y : Int} {n : Nat} {one : Bool} {B : Bo} (w : World) (hT : Tabs w) (hH : Has P Q G) (hy : 0 ≤ y) (hyP : y < P) (hn : n ≤ 10) (hn1 : 1 ≤ n) (hB : BoIn w B) (hs : BoSm B) :
 Calls Tryz.prog 56 #[.agg #[υ P, υ Q, υ G], υ y, .int .i64 (n : Int), .bool one, B.v] w (CodR w P Q G y n one B) := by
 have HT := Lh hT
 have HH := Lh hH
 have HS := Lh hs
 have HB0 := Lh hB
 obtain ⟨F_g, F_b, HBW⟩ := bx2 w [υ P, υ Q, υ G] 24 [.slice B.a B.n B.c, .slice B.b B.m B.d, .slice B.e B.k B.f] 55
 have HCK := Lh (chkB_zero hH hyP hn hn1)
 have hP : 0 ≤ P := by have := hH.1; omega
 have hQ : 0 ≤ Q := hH.2.2.1
 have hG : 0 ≤ G := by have := hH.2.2.2.2.1; omega
 clear hT hH hB hs
 unfold Bo.v
 have b0 := F_b.o.c 0 _ rfl
 have b1 := F_b.o.c 1 _ rfl
 have b2 := F_b.o.c 2 _ rfl
 go_enter Tryz.func56, Tryz.ntmps56
 go_wp2_with fail
 clear b0 b1 b2
 have F_s := Lh (Cl.at ((w.alloc (.cells #[υ P, υ Q, υ G] 24)).alloc (.cells #[.slice B.a B.n B.c, .slice B.b B.m B.d, .slice B.e B.k B.f] 55)) [.slice B.a B.n B.c, .slice B.b B.m B.d] 52 (w.heap.size + 1 + 1) (by simp))
 replace F_g := Lh (F_g.o.alloc (.cells #[.slice B.a B.n B.c, .slice B.b B.m B.d] 52))
 replace F_b := Lh (F_b.o.alloc (.cells #[.slice B.a B.n B.c, .slice B.b B.m B.d] 52))
 replace HBW := Lh (HBW.o.alloc HBW.o.size (.cells #[.slice B.a B.n B.c, .slice B.b B.m B.d] 52))
 refine (concatV_any _ (F_s.o.c 0 _ rfl) (F_s.o.c 1 _ rfl) (HB0.o.keep HBW.o).h1 (HB0.o.keep HBW.o).h2 HB0.o.k1 HB0.o.k2 HS.o.s1).mono ?_
 rintro e w1 ⟨⟨v1, rfl, ho1⟩, hb1⟩
 replace F_g := Lh (F_g.o.keep hb1)
 replace F_b := Lh (F_b.o.keep hb1)
 replace HBW := Kt HBW hb1
 clear F_s
 have HB1 := Lh (HB0.o.keep HBW.o)
 obtain ⟨a1, c1, rfl, hS1, -, -⟩ := ShV.of_owned ho1 (fun V hV => by
  rcases List.mem_append.1 hV with h | h
  · rcases HB1.o.h1 with ⟨-, h0⟩ | ⟨s, o, -, -, hr⟩
    · rw [h0] at h; cases h
    · exact hr.ok V h
  · rcases HB1.o.h2 with ⟨-, h0⟩ | ⟨s, o, -, -, hr⟩
    · rw [h0] at h; cases h
    · exact hr.ok V h)
 have HS1 := Lh hS1
 clear hb1 ho1 hS1
 obtain ⟨N, hN⟩ : ∃ N, B.n + B.m = N := ⟨_, rfl⟩
 obtain ⟨L, hL⟩ : ∃ L, B.l ++ B.l' = L := ⟨_, rfl⟩
 rw [hN] at HS1 ⊢
 rw [hL] at HS1
 have HN := Lh hN
 have HL := Lh hL
 have hN1 : N ≤ 1000 := by have := HS.o.s1; omega
 clear hN hL
 by_cases hkm : B.k = B.m
 case neg =>
  have hd : decide ((B.k : Int) = (B.m : Int)) = false := decide_eq_false (by omega)
  have hne : ¬ ((B.k : Int) = (B.m : Int)) := by omega
  have HX := Lh hkm
  clear hkm
  have b0 := F_b.o.c 0 _ rfl
  have b1 := F_b.o.c 1 _ rfl
  have b2 := F_b.o.c 2 _ rfl
  go_wp2_with fail
  go_ret2
  exact CodR.no (fun h => HX.o h.lr) HBW.o
 case pos =>
 have HKM := Lh hkm
 have hkm' : ((B.k : Int) = (B.m : Int)) := by omega
 clear hkm
 by_cases hfw : 256 < N
 case pos =>
  have hd : decide ((256 : Int) < (N : Int)) = true := decide_eq_true (by omega)
  have b0 := F_b.o.c 0 _ rfl
  have b1 := F_b.o.c 1 _ rfl
  have b2 := F_b.o.c 2 _ rfl
  go_wp2_with fail
  go_ret2
  exact CodR.no (fun h => by have := h.few; have := HN.o; omega) HBW.o
 case neg =>
 have hd : decide ((256 : Int) < (N : Int)) = false := decide_eq_false (by omega)
 have b0 := F_b.o.c 0 _ rfl
 have b1 := F_b.o.c 1 _ rfl
 have b2 := F_b.o.c 2 _ rfl
 go_wp2_with fail
 clear b0 b1 b2 hd hkm'
 go_loopw [13, 42] (fun c13 c42 wr => ∃ (i : Nat), i ≤ N ∧ c42 = .int .i64 i ∧ Hid (CodI P Q G y n one w1 L i c13 wr)) (fun _ c42 _ => N - (intOf c42).toNat)
 case atStart => exact ⟨0, by omega, rfl, CodI.start _ _ _ _ _ _ _ _⟩
 case round =>
  obtain ⟨i, hi, rfl, HI⟩ := hrel
  obtain ⟨a13, k13, rfl, hsc⟩ := ShC.of_owned cds_len HI.o.1
  have HSC := Lh hsc
  clear hsc
  have HBr := Lh (HBW.o.trans (HI.o.2.2.mono HBW.o.size))
  have F_gr := Lh (F_g.o.keep HI.o.2.2)
  have F_br := Lh (F_b.o.keep HI.o.2.2)
  have hwi : IntKind.i64.wrap ((i : Int) + 1) = (i : Int) + 1 := IntWalk.i64_in _ (by omega)
  have hi0 : (0 : Int) ≤ (i : Int) := by omega
  by_cases hlt : i < N
  case pos =>
   have hi2 : (i : Int) < (N : Int) := by omega
   have cV : Tryz.prog.cellsOf 33 = 11 := by kernel_rfl
   obtain ⟨s, o, V, rfl, hVL, hvc, hVin⟩ := (HS1.o.keep HI.o.2.2).at i hlt
   have HVL := Lh hVL
   have HV := Lh hVin
   obtain ⟨-, e0, e1, e2, e3, e4, e5, e6, e7, e8, e9, e10⟩ := hvc
   clear hVL hVin
   obtain ⟨er, cs, hcf⟩ : ∃ er cs, codeF V = (er, cs) := ⟨_, _, rfl⟩
   have HCF := Lh hcf
   have HLC := Lh (codeF_len hcf)
   have HCD := Lh (show V.cd = cs by unfold Vt.cd; rw [hcf])
   clear hcf
   have F_x := Lh (Cl.at wr V.cl 33 wr.heap.size rfl)
   obtain ⟨⟨q0, q1, q2, q3, q4, q5, q6, q7, q8, q9, q10⟩, -⟩ := F_x.o.k11
   go_wp2_with fail
   clear q0 q1 q2 q3 q4 q5 q6 q7 q8 q9 q10 e0 e1 e2 e3 e4 e5 e6 e7 e8 e9 e10
   have HA := Lh (show Below wr.heap.size wr (wr.alloc (.cells V.ca 33)) from (Below.refl _ _).alloc (Nat.le_refl _) _)
   refine (bCode_any (V := V) _ (HT.o.below (HBr.o.trans (HA.o.mono HBr.o.size))) (HV.o.keep HA.o) HCF.o).mono ?_
   rintro e w4 ⟨rfl, hb4⟩
   replace F_x := Lh (F_x.o.keep hb4)
   replace HA := Lh (HA.o.trans (hb4.mono HA.o.size))
   clear hb4
   obtain ⟨B4, hB4⟩ : ∃ B, w4.heap.size = B := ⟨_, rfl⟩
   obtain ⟨wo, rfl⟩ : ∃ wo, wo = w4 := ⟨_, rfl⟩
   have HBN := Lh (show ∀ w', Below wr.heap.size wr w' → Below w.heap.size w w' from fun w' h => HBr.o.trans (h.mono HBr.o.size))
   by_cases her : er = 0
   case neg =>
    have HBAD := Lh (show ¬ goodV P Q G y n one V from fun h => by
     have hz := HCF.o
     unfold codeF at hz
     rw [if_neg (by have := h.2.1; have := h.2.2.1; omega)] at hz
     exact her (Prod.mk.inj hz).1.symm)
    go_wp2_with (first
    | (refine wpL_allocArr rfl 26 .u8 32 rfl (by kernel_rfl) ?_; intro wa h1; have F_a := Lh h1.arr; have HB1' := Lh (h1.below _ (Nat.le_refl _)); clear h1; simp only [sY]; rw [hB4] at F_a HB1' ⊢)
    | (refine wpL_storeArr rfl 26 .u8 _ _ B4 cs _ rfl rfl rfl rfl (by rw [HLC.o]; kernel_rfl) F_a.o (by rw [HLC.o]; rfl) ?_; intro w5 h9; have F_c := Lh (Laid.arr0 h9 F_a.o); have HB3 := Lh (show Below wo.heap.size wo w5 by rw [hB4]; exact HB1'.o.trans (h9.below B4 (Nat.le_refl _))); clear h9 F_a HB1' hB4; have HA5 := Lh (HA.o.trans (HB3.o.mono HA.o.size)); have F_x5 := Lh (F_x.o.keep HB3.o); clear HB3; have g0 := (F_gr.o.keep HA5.o).c 0 _ rfl; have g1 := (F_gr.o.keep HA5.o).c 1 _ rfl; have g2 := (F_gr.o.keep HA5.o).c 2 _ rfl; obtain ⟨⟨q0, q1, q2, q3, q4, q5, q6, q7, q8, q9, q10⟩, -⟩ := F_x5.o.k11))
    go_ret2
    exact CodR.no (booth_bad HL.o HVL.o HBAD.o) (HBN.o _ HA5.o)
   case pos =>
   subst her
   by_cases hone : V.one = one
   case neg =>
    have HBAD := Lh (show ¬ goodV P Q G y n one V from fun h => hone h.1)
    go_wp2_with (first
    | (refine wpL_allocArr rfl 26 .u8 32 rfl (by kernel_rfl) ?_; intro wa h1; have F_a := Lh h1.arr; have HB1' := Lh (h1.below _ (Nat.le_refl _)); clear h1; simp only [sY]; rw [hB4] at F_a HB1' ⊢)
    | (refine wpL_storeArr rfl 26 .u8 _ _ B4 cs _ rfl rfl rfl rfl (by rw [HLC.o]; kernel_rfl) F_a.o (by rw [HLC.o]; rfl) ?_; intro w5 h9; have F_c := Lh (Laid.arr0 h9 F_a.o); have HB3 := Lh (show Below wo.heap.size wo w5 by rw [hB4]; exact HB1'.o.trans (h9.below B4 (Nat.le_refl _))); clear h9 F_a HB1' hB4; have HA5 := Lh (HA.o.trans (HB3.o.mono HA.o.size)); have F_x5 := Lh (F_x.o.keep HB3.o); clear HB3; have g0 := (F_gr.o.keep HA5.o).c 0 _ rfl; have g1 := (F_gr.o.keep HA5.o).c 1 _ rfl; have g2 := (F_gr.o.keep HA5.o).c 2 _ rfl; obtain ⟨⟨q0, q1, q2, q3, q4, q5, q6, q7, q8, q9, q10⟩, -⟩ := F_x5.o.k11))
    go_ret2
    exact CodR.no (booth_bad HL.o HVL.o HBAD.o) (HBN.o _ HA5.o)
   case pos =>
   subst hone
   obtain ⟨vb, hvb⟩ := Prop.bool (validP P Q G y n V)
   have HVB := Lh hvb
   clear hvb
   go_wp2_with (first
    | (refine wpL_allocArr rfl 26 .u8 32 rfl (by kernel_rfl) ?_; intro wa h1; have F_a := Lh h1.arr; have HB1' := Lh (h1.below _ (Nat.le_refl _)); clear h1; simp only [sY]; rw [hB4] at F_a HB1' ⊢)
    | (refine wpL_storeArr rfl 26 .u8 _ _ B4 cs _ rfl rfl rfl rfl (by rw [HLC.o]; kernel_rfl) F_a.o (by rw [HLC.o]; rfl) ?_; intro w5 h9; have F_c := Lh (Laid.arr0 h9 F_a.o); have HB3 := Lh (show Below wo.heap.size wo w5 by rw [hB4]; exact HB1'.o.trans (h9.below B4 (Nat.le_refl _))); clear h9 F_a HB1' hB4; have HA5 := Lh (HA.o.trans (HB3.o.mono HA.o.size)); have F_x5 := Lh (F_x.o.keep HB3.o); clear HB3; have g0 := (F_gr.o.keep HA5.o).c 0 _ rfl; have g1 := (F_gr.o.keep HA5.o).c 1 _ rfl; have g2 := (F_gr.o.keep HA5.o).c 2 _ rfl; obtain ⟨⟨q0, q1, q2, q3, q4, q5, q6, q7, q8, q9, q10⟩, -⟩ := F_x5.o.k11))
   clear g0 g1 g2 q0 q1 q2 q3 q4 q5 q6 q7 q8 q9 q10 HA F_x
   refine (valid_any (V := V) (v := vb) _ (HT.o.below (HBN.o _ HA5.o)) HH.o hy hn hn1 (HV.o.keep HA5.o) HVB.o).mono ?_
   rintro e w6 ⟨rfl, hb6⟩
   replace F_c := Lh (F_c.o.keep hb6)
   replace HA5 := Lh (HA5.o.trans (hb6.mono HA5.o.size))
   clear hb6 F_x5
   cases vb with
   | false =>
    have HBAD := Lh (show ¬ goodV P Q G y n V.one V from fun h => by have := HVB.o.2 h.2; cases this)
    go_wp2_with fail
    go_ret2
    exact CodR.no (booth_bad HL.o HVL.o HBAD.o) (HBN.o _ HA5.o)
   | true =>
    have HGD := Lh (show goodV P Q G y n V.one V from ⟨rfl, HVB.o.1 rfl⟩)
    clear HVB
    go_wp2_with (refine wpL_loadArrG rfl 26 .u8 (.tmp 16) B4 cs 32 5 rfl rfl Tryz.underlying26 (by rw [HLC.o]; kernel_rfl) F_c.o ?_; simp only [sY])
    refine (containsC_any _ HLC.o (HSC.o.keep HA5.o) (by omega)).mono ?_
    rintro e w7 ⟨rfl, hb7⟩
    replace F_c := Lh (F_c.o.keep hb7)
    replace HA5 := Lh (HA5.o.trans (hb7.mono HA5.o.size))
    clear hb7
    by_cases hdup : cs ∈ cds (L.take i)
    case pos =>
     have HD := Lh hdup
     rw [decide_eq_true hdup]
     clear hdup
     go_wp2_with fail
     go_ret2
     exact CodR.no (booth_dup HL.o HVL.o HCD.o HD.o) (HBN.o _ HA5.o)
    case neg =>
     have HD := Lh hdup
     rw [decide_eq_false hdup]
     clear hdup
     have F_l := Lh (Arr.new .u8 w7 cs 26 w7.heap.size rfl)
     have HA8 := Lh (show Below wr.heap.size wr (w7.alloc (.cells (valV .u8 cs) 26)) from HA5.o.alloc HA5.o.size _)
     have HO := Lh (owns_below2 HI.o.1 HA8.o)
     have HBI := Lh (HI.o.2.2.trans (HA8.o.mono HI.o.2.2.size))
     go_wp2_with (first
      | (refine wpL_loadArrG rfl 26 .u8 (.tmp 16) B4 cs 32 5 rfl rfl Tryz.underlying26 (by rw [HLC.o]; kernel_rfl) F_c.o ?_; simp only [sY])
      | (refine wpL_lit32 rfl (.tmp 73) cs rfl rfl HLC.o ?_; simp only [sY])
      | (at_builtin; refine wpL_push32 rfl _ _ rfl w1.heap.size i w7.heap.size _ _ cs HLC.o rfl rfl HO.o F_l.o (by omega) HBI.o.size ?_; intro v9 w9 ho9 hg9; have HO9 := Lh ho9; have HB9 := Lh (HBI.o.grown hg9 HBI.o.size (fun k hk => (HO.o.lt k hk).1)); clear ho9 hg9; simp only [sY]))
     go_roundw
     case rel => first | exact ⟨i + 1, by omega, by go_num, HI.o.step HVL.o HCD.o HGD.o HD.o HO9.o HB9.o⟩ | exact ⟨_, _, ⟨i + 1, by omega, by go_num, HI.o.step HVL.o HCD.o HGD.o HD.o HO9.o HB9.o⟩, rfl, rfl⟩
     case measure => simp [intOf] <;> omega
  case neg =>
   obtain rfl : i = N := by omega
   have hi2 : ¬ ((i : Int) < (i : Int)) := by omega
   have b0 := F_br.o.c 0 _ rfl
   have b1 := F_br.o.c 1 _ rfl
   have b2 := F_br.o.c 2 _ rfl
   have HLL := Lh (show L.take i = L from List.take_of_length_le (by rw [← HS1.o.len]; exact Nat.le_refl _))
   go_wp2_with fail
   clear b0 b1 b2 hi2
   obtain ⟨wb, rfl⟩ : ∃ wb, wb = wr := ⟨_, rfl⟩
   go_loopw [80] (fun c80 wr => ∃ (j : Nat), j ≤ B.k ∧ c80 = .int .i64 j ∧ Hid (∀ (t : Nat) (R : Rv) (V : Vt), t < j → B.rs[t]? = some R → B.l'[t]? = some V → rangeP Q n R ∧ matchP P G y n V R) ∧ Hid (Below wb.heap.size wb wr)) (fun c80 _ => B.k - (intOf c80).toNat)
   case atStart => exact ⟨0, by omega, rfl, fun t R V ht => by omega, Below.refl _ _⟩
   case round =>
    obtain ⟨j, hj, rfl, HM, HB2⟩ := hrel
    have HBN := Lh (HBr.o.trans (HB2.o.mono HBr.o.size))
    have F_g2 := Lh (F_gr.o.keep HB2.o)
    have F_b2 := Lh (F_br.o.keep HB2.o)
    have hwj : IntKind.i64.wrap ((j : Int) + 1) = (j : Int) + 1 := IntWalk.i64_in _ (by have := HS.o.s2; omega)
    have hj0 : (0 : Int) ≤ (j : Int) := by omega
    by_cases hlt : j < B.k
    case neg =>
     obtain rfl : j = B.k := by omega
     have hj2 : ¬ ((B.k : Int) < (B.k : Int)) := by omega
     go_wp2_with fail
     go_ret2
     refine ⟨⟨_, true, rfl, ⟨fun _ => ⟨HKM.o, by have := HN.o; omega, ?_, ?_, ?_⟩, fun _ => rfl⟩, fun _ => ⟨a13, k13, by rw [HN.o]; rfl, ?_⟩⟩, HBN.o⟩
     · have := HI.o.2.1.1; rw [HLL.o] at this; rw [HL.o]; exact this
     · have := HI.o.2.1.2; rw [HLL.o] at this; rw [HL.o]; exact this
     · intro t R V hR hV
       exact HM.o t R V (by have := (List.getElem?_eq_some_iff.1 hR).1; have := HB1.o.h3.len; omega) hR hV
     · have := HSC.o.keep HB2.o; rw [HLL.o] at this; rw [HN.o, HL.o]; exact this
    case pos =>
     have hj2 : (j : Int) < (B.k : Int) := by omega
     have hj3 : (j : Int) < (B.m : Int) := by have := HKM.o; omega
     have cV : Tryz.prog.cellsOf 33 = 11 := by kernel_rfl
     have cR : Tryz.prog.cellsOf 36 = 2 := by kernel_rfl
     have HB12 := Lh (show Below w1.heap.size w1 wr from HI.o.2.2.trans (HB2.o.mono HI.o.2.2.size))
     obtain ⟨s2, o2, R, hse, hRr, hs2, r0, r1, hRin⟩ := (HB1.o.h3.keep HB12.o).at j hlt
     obtain ⟨s3, o3, U, hsb, hUl, huc, hUin⟩ := (HB1.o.h2.keep HB12.o).at j (by have := HKM.o; omega)
     have HUC := Lh huc
     clear huc
     have HRr := Lh hRr
     have HUl := Lh hUl
     have HR := Lh hRin
     have HU := Lh hUin
     have hR3 : R.n ≤ 1000 := (HS.o.s3 R (List.mem_of_getElem? hRr)).1
     clear hRr hUl hRin hUin
     rw [hse]
     clear hse
     have F_y := Lh (Cl.at wr [.slice R.a R.n R.c, .slice R.b R.m R.d] 36 wr.heap.size rfl)
     have HY := Lh (show Below wr.heap.size wr (wr.alloc (.cells #[.slice R.a R.n R.c, .slice R.b R.m R.d] 36)) from (Below.refl _ _).alloc (Nat.le_refl _) _)
     go_wp2_with fail
     replace F_g2 := Lh (F_g2.o.keep HY.o)
     replace F_b2 := Lh (F_b2.o.keep HY.o)
     replace HUC := Lh (HUC.o.keep HY.o)
     replace HU := Lh (HU.o.keep HY.o)
     replace HR := Lh (HR.o.keep HY.o)
     have HTY := Lh (HT.o.below (HBN.o.trans (HY.o.mono HBN.o.size)))
     generalize (wr.alloc (.cells #[.slice R.a R.n R.c, .slice R.b R.m R.d] 36)) = wy at F_y HY F_g2 F_b2 HUC HU HR HTY ⊢
     have b1 := F_b2.o.c 1 _ rfl
     rw [hsb] at b1
     have g0 := F_g2.o.c 0 _ rfl
     have g1 := F_g2.o.c 1 _ rfl
     have g2 := F_g2.o.c 2 _ rfl
     have y0 := F_y.o.c 0 _ rfl
     have y1 := F_y.o.c 1 _ rfl
     obtain ⟨-, e0, e1, e2, e3, e4, e5, e6, e7, e8, e9, e10⟩ := HUC.o
     clear e0 e1 e2 e3 e4 e5 e6 e7 e8 e9 e10 b1 g0 g1 g2 y0 y1
     replace F_g2 := Lh (F_g2.o.drew)
     replace F_b2 := Lh (F_b2.o.drew)
     replace F_y := Lh (F_y.o.drew)
     replace HUC := Lh (HUC.o.keep (Below.refl _ _).drew)
     replace HY := Lh HY.o.drew
     replace HU := Lh (HU.o.keep (Below.refl _ _).drew)
     replace HR := Lh (HR.o.keep (Below.refl _ _).drew)
     replace HTY := Lh (HTY.o.below (Below.refl _ _).drew)
     have hS0 := And.intro F_g2.o (And.intro F_b2.o (And.intro F_y.o HUC.o))
     refine wp_region_stage 9 (fun w' => Cl w' w.heap.size [υ P, υ Q, υ G] ∧ Cl w' (w.heap.size + 1) [.slice B.a B.n B.c, .slice B.b B.m B.d, .slice B.e B.k B.f] ∧ Cl w' wr.heap.size [.slice R.a R.n R.c, .slice R.b R.m R.d] ∧ VCells w' s3 (o3 + j * 11) U) (by kernel_rfl) ?_
     refine tkL (i := 0) (some 86) (.load 24 (.tmp 5)) 24 [9] (v := ?_) hS0 (fun w' hSw => ?_) ?_
     rotate_left
     · obtain ⟨t1, -, -, -⟩ := hSw; have g0 := t1.c 0 _ rfl; have g1 := t1.c 1 _ rfl; have g2 := t1.c 2 _ rfl
       unfold bareOp; go_simp; try with_reducible rfl
     simp only [sY]
     refine tkP (i := 1) (some 87) (.move (.tmp 1)) 22 (fun _ => hS0) ?_
     simp only [sY]
     refine tkP (i := 2) (some 88) (.move (.tmp 2)) 3 (fun _ => hS0) ?_
     simp only [sY]
     refine tkP (i := 3) (some 89) (.fieldAddr 55 (.tmp 9) 1) 0 (fun _ => hS0) ?_
     simp only [sY]
     refine tkL (i := 4) (some 90) (.load 52 (.tmp 89)) 52 [6, 7, 9] (v := ?_) hS0 (fun w' hSw => ?_) ?_
     rotate_left
     · obtain ⟨t1, t2, t3, t4⟩ := hSw; have g0 := t1.c 0 _ rfl; have g1 := t1.c 1 _ rfl; have g2 := t1.c 2 _ rfl; have b1 := t2.c 1 _ rfl; rw [hsb] at b1; have y0 := t3.c 0 _ rfl; have y1 := t3.c 1 _ rfl; obtain ⟨-, e0, e1, e2, e3, e4, e5, e6, e7, e8, e9, e10⟩ := t4
       unfold bareOp; go_simp; try with_reducible rfl
     simp only [sY]
     refine tkP (i := 5) (some 91) (.move (.tmp 18)) 3 (fun _ => hS0) ?_
     simp only [sY]
     refine tkP (i := 6) (some 92) (.indexAddr 52 (.tmp 90) (.tmp 91)) 0 (fun _ => hS0) ?_
     simp only [sY]
     refine tkL (i := 7) (some 93) (.load 33 (.tmp 92)) 33 [9] (v := ?_) hS0 (fun w' hSw => ?_) ?_
     rotate_left
     · obtain ⟨t1, t2, t3, t4⟩ := hSw; have g0 := t1.c 0 _ rfl; have g1 := t1.c 1 _ rfl; have g2 := t1.c 2 _ rfl; have b1 := t2.c 1 _ rfl; rw [hsb] at b1; have y0 := t3.c 0 _ rfl; have y1 := t3.c 1 _ rfl; obtain ⟨-, e0, e1, e2, e3, e4, e5, e6, e7, e8, e9, e10⟩ := t4
       unfold bareOp; go_simp; try with_reducible rfl
     simp only [sY]
     refine tkL (i := 8) (some 94) (.load 36 (.tmp 19)) 36 [9] (v := ?_) hS0 (fun w' hSw => ?_) ?_
     rotate_left
     · obtain ⟨t1, t2, t3, t4⟩ := hSw; have g0 := t1.c 0 _ rfl; have g1 := t1.c 1 _ rfl; have g2 := t1.c 2 _ rfl; have b1 := t2.c 1 _ rfl; rw [hsb] at b1; have y0 := t3.c 0 _ rfl; have y1 := t3.c 1 _ rfl; obtain ⟨-, e0, e1, e2, e3, e4, e5, e6, e7, e8, e9, e10⟩ := t4
       unfold bareOp; go_simp; try with_reducible rfl
     simp only [sY]
     refine onl (i := 9) (some 95) (.call { callee := .value (.func 8), args := #[.tmp 86, .tmp 87, .tmp 88, .tmp 93, .tmp 94], argTypes := #[24, 22, 3, 33, 36] }) 43 (fun K hK => ?_)
     unfold bareOp
     refine OpW.out (wp_of_enter (run_call _ _ _ _ 8 Tryz.func8 (vs := #[.agg #[υ P, υ Q, υ G], υ y, .int .i64 (n : Int), U.v, R.v]) (by simp only [List.map_toArray, List.map_cons, List.map_nil]; rfl) rfl (by kernel_rfl) (by kernel_rfl)) (matches_iff (V := U) (R := R) _ HTY.o HCK.o hP hQ hG hy HU.o HR.o hR3) ?_)
     rintro e w5 ⟨⟨b5, c5, rfl, hif⟩, hb5⟩
     refine ⟨_, rfl, ?_⟩
     have HIF := Lh hif
     replace F_g2 := Lh (F_g2.o.keep hb5)
     replace F_b2 := Lh (F_b2.o.keep hb5)
     replace F_y := Lh (F_y.o.keep hb5)
     replace HUC := Lh (HUC.o.keep hb5)
     replace HY := Lh (HY.o.trans (hb5.mono HY.o.size))
     clear hb5 hif hS0
     have hS0 := And.intro F_g2.o (And.intro F_b2.o (And.intro F_y.o HUC.o))
     refine hK.o _ _ lt8 ?_
     clear hK K
     try simp only [sY]
     refine tkP (i := 10) (some 85) (.move (.tmp 95)) 43 lt8 ?_
     simp only [sY]
     refine tkP (i := 11) (some 96) (.extract (.tmp 85) 0) 4 lt8 ?_
     simp only [sY]
     refine tkP (i := 12) (some 97) (.extract (.tmp 85) 1) 38 lt8 ?_
     simp only [sY]
     refine tkP (i := 13) (some 20) (.assign (.tmp 96)) 4 lt8 ?_
     simp only [sY]
     refine tkP (i := 14) (some 21) (.assign (.tmp 97)) 38 lt8 ?_
     simp only [sY]
     refine wpAnyB_done (by kernel_rfl) ?_ _
     have HBZ := Lh (HBN.o.trans (HY.o.mono HBN.o.size))
     by_cases hc5 : c5 = 0
     case neg =>
      have HBAD := Lh (show ¬ boothP P Q G y n one B from fun h => hc5 (HIF.o.2 (h.mat j R U HRr.o HUl.o)).1)
      go_wp2_with fail
      go_ret2
      exact CodR.no HBAD.o HBZ.o
     case pos =>
     subst hc5
     cases b5 with
     | false =>
      have HBAD := Lh (show ¬ boothP P Q G y n one B from fun h => absurd (HIF.o.2 (h.mat j R U HRr.o HUl.o)).2 (by decide))
      go_wp2_with fail
      go_ret2
      exact CodR.no HBAD.o HBZ.o
     | true =>
      have HM2 := Lh (show ∀ (t : Nat) (R' : Rv) (V' : Vt), t < j + 1 → B.rs[t]? = some R' → B.l'[t]? = some V' → rangeP Q n R' ∧ matchP P G y n V' R' from fun t R' V' ht hR' hV' => by
       by_cases htj : t < j
       · exact HM.o t R' V' htj hR' hV'
       · obtain rfl : t = j := by omega
         obtain rfl := Option.some.inj (HRr.o.symm.trans hR')
         obtain rfl := Option.some.inj (HUl.o.symm.trans hV')
         exact HIF.o.1 ⟨rfl, rfl⟩)
      go_wp2_with fail
      go_roundw
      case rel => exact ⟨j + 1, by omega, by go_num, HM2.o, HB2.o.trans (HY.o.mono HB2.o.size)⟩
      case measure => simp [intOf] <;> omega
open Go Go.RowKit Num Sha
def AdmS (P Q G y n : Int) (one : Bool) (B : Bo) (V : Vt) (k e' : Int) : Prop :=
 (chkB P Q G y n ≠ 0 ∧ k = 0 ∧ e' = chkB P Q G y n) ∨ (chkB P Q G y n = 0 ∧ ((¬ boothP P Q G y n.toNat one B ∧ k = 0 ∧ e' = 8) ∨ (boothP P Q G y n.toNat one B ∧
   ((¬ goodV P Q G y n.toNat one V ∧ k = 0 ∧ e' = 360) ∨ (goodV P Q G y n.toNat one V ∧ ((V.cd ∈ cds (B.l ++ B.l') ∧ k = 0 ∧ e' = 361) ∨ (V.cd ∉ cds (B.l ++ B.l') ∧ k = ((B.n + B.m : Nat) : Int) ∧ e' = 0)))))))
def AdmR (w : World) (P Q G y n : Int) (one : Bool) (B : Bo) (V : Vt) (e : Ending) (w' : World) : Prop := (∃ k e', e = .returned (.tuple #[.int .i64 k, .int .i64 e']) ∧ AdmS P Q G y n one B V k e') ∧ Below w.heap.size w w'
def BvS (P Q G y n : Int) (one : Bool) (B : Bo) (e' : Int) : Prop :=
 (chkB P Q G y n ≠ 0 ∧ e' = chkB P Q G y n) ∨ (chkB P Q G y n = 0 ∧ ((¬ boothP P Q G y n.toNat one B ∧ e' = 8) ∨ (boothP P Q G y n.toNat one B ∧ e' = 0)))
set_option maxHeartbeats 8000000 in
theorem bvalid_any {P Q G y n : Int} {one : Bool} {B : Bo} (w : World) (hT : Tabs w) (hP : 0 ≤ P) (hQ : 0 ≤ Q) (hG : 0 ≤ G) (hy : 0 ≤ y) (hB : BoIn w B) (hs : BoSm B) :
 Calls Tryz.prog 22 #[.agg #[υ P, υ Q, υ G], υ y, .int .i64 n, .bool one, B.v] w fun e w' => (∃ e', e = .returned (.int .i64 e') ∧ BvS P Q G y n one B e') ∧ Below w.heap.size w w' := by
 have HT := Lh hT
 have HB := Lh hB
 have HS := Lh hs
 clear hT hB hs
 unfold Bo.v
 obtain ⟨F_g, F_b, HBW⟩ := bx2 w [υ P, υ Q, υ G] 24 [.slice B.a B.n B.c, .slice B.b B.m B.d, .slice B.e B.k B.f] 55
 go_enter Tryz.func22, Tryz.ntmps22
 obtain ⟨qg0, qg1, qg2⟩ := F_g.o.k3
 go_wp2_with fail
 clear qg0 qg1 qg2
 refine (bcheck_any _ hP hQ hG hy).mono ?_
 rintro e w1 ⟨rfl, hb1⟩
 replace F_g := Lh (F_g.o.keep hb1)
 replace F_b := Lh (F_b.o.keep hb1)
 replace HBW := Kt HBW hb1
 clear hb1
 obtain ⟨k, hk⟩ : ∃ k, chkB P Q G y n = k := ⟨_, rfl⟩
 have HK := Lh hk
 rw [hk]
 clear hk
 by_cases hk0 : k = 0
 case neg =>
  go_wp2_with fail
  go_ret
  exact ⟨⟨_, rfl, .inl ⟨by rw [HK.o]; exact hk0, HK.o.symm⟩⟩, HBW.o⟩
 case pos =>
 subst hk0
 obtain ⟨hH, hyP, hn1, hn2⟩ := chkB_ok HK.o
 obtain ⟨j, rfl⟩ : ∃ j : Nat, n = (j : Int) := ⟨n.toNat, by omega⟩
 have HH := Lh hH
 clear hH
 obtain ⟨qg0, qg1, qg2⟩ := F_g.o.k3
 obtain ⟨qb0, qb1, qb2⟩ := F_b.o.k3
 go_wp2_with fail
 clear qg0 qg1 qg2 qb0 qb1 qb2
 refine (codes_any (B := B) _ (HT.o.below HBW.o) HH.o hy hyP (by omega) (by omega) (HB.o.keep HBW.o) HS.o).mono ?_
 rintro e w2 ⟨⟨v2, r2, rfl, hr2, -⟩, hb2⟩
 have HR := Lh hr2
 clear hr2
 replace F_g := Lh (F_g.o.keep hb2)
 replace F_b := Lh (F_b.o.keep hb2)
 replace HBW := Kt HBW hb2
 clear hb2
 cases r2 with
 | false =>
  go_wp2_with fail
  go_ret
  exact ⟨⟨_, rfl, .inr ⟨HK.o, .inl ⟨by rw [Int.toNat_natCast]; exact fun h => by simpa using HR.o.2 h, rfl⟩⟩⟩, HBW.o⟩
 | true =>
  go_wp2_with fail
  go_ret
  exact ⟨⟨_, rfl, .inr ⟨HK.o, .inr ⟨by rw [Int.toNat_natCast]; exact HR.o.1 (by simp), rfl⟩⟩⟩, HBW.o⟩
set_option maxHeartbeats 8000000 in
theorem admit_any {P Q G y n : Int} {one : Bool} {B : Bo} {V : Vt} (w : World) (hT : Tabs w) (hP : 0 ≤ P) (hQ : 0 ≤ Q) (hG : 0 ≤ G) (hy : 0 ≤ y) (hB : BoIn w B) (hs : BoSm B) (hV : VtIn w V) :
 Calls Tryz.prog 46 #[.agg #[υ P, υ Q, υ G], υ y, .int .i64 n, .bool one, B.v, V.v] w (AdmR w P Q G y n one B V) := by
 have HT := Lh hT
 have HB := Lh hB
 have HS := Lh hs
 have HV := Lh hV
 clear hT hB hs hV
 unfold Bo.v Vt.v
 obtain ⟨F_g, F_b, F_v, HBW⟩ := bx3 w [υ P, υ Q, υ G] 24 [.slice B.a B.n B.c, .slice B.b B.m B.d, .slice B.e B.k B.f] 55 V.cl 33
 go_enter Tryz.func46, Tryz.ntmps46
 obtain ⟨qg0, qg1, qg2⟩ := F_g.o.k3
 go_wp2_with fail
 clear qg0 qg1 qg2
 refine (bcheck_any _ hP hQ hG hy).mono ?_
 rintro e w1 ⟨rfl, hb1⟩
 replace F_g := Lh (F_g.o.keep hb1)
 replace F_v := Lh (F_v.o.keep hb1)
 replace F_b := Lh (F_b.o.keep hb1)
 replace HBW := Kt HBW hb1
 clear hb1
 obtain ⟨k, hk⟩ : ∃ k, chkB P Q G y n = k := ⟨_, rfl⟩
 have HK := Lh hk
 rw [hk]
 clear hk
 by_cases hk0 : k = 0
 case neg =>
  go_wp2_with fail
  go_ret2
  exact ⟨⟨_, _, rfl, .inl ⟨by rw [HK.o]; exact hk0, rfl, HK.o.symm⟩⟩, HBW.o⟩
 case pos =>
 subst hk0
 obtain ⟨hH, hyP, hn1, hn2⟩ := chkB_ok HK.o
 obtain ⟨j, rfl⟩ : ∃ j : Nat, n = (j : Int) := ⟨n.toNat, by omega⟩
 have HH := Lh hH
 clear hH
 obtain ⟨qg0, qg1, qg2⟩ := F_g.o.k3
 obtain ⟨qb0, qb1, qb2⟩ := F_b.o.k3
 go_wp2_with fail
 clear qg0 qg1 qg2 qb0 qb1 qb2
 refine (codes_any (B := B) _ (HT.o.below HBW.o) HH.o hy hyP (by omega) (by omega) (HB.o.keep HBW.o) HS.o).mono ?_
 rintro e w2 ⟨⟨v2, r2, rfl, hr2, hc2⟩, hb2⟩
 have HR := Lh hr2
 clear hr2
 replace F_g := Lh (F_g.o.keep hb2)
 replace F_v := Lh (F_v.o.keep hb2)
 replace F_b := Lh (F_b.o.keep hb2)
 replace HBW := Kt HBW hb2
 clear hb2
 cases r2 with
 | false =>
  go_wp2_with fail
  go_ret2
  exact ⟨⟨_, _, rfl, .inr ⟨HK.o, .inl ⟨by rw [Int.toNat_natCast]; exact fun h => by simpa using HR.o.2 h, rfl, rfl⟩⟩⟩, HBW.o⟩
 | true =>
 obtain ⟨ac, kc, rfl, hsc⟩ := hc2 (by simp)
 have HSC := Lh hsc
 clear hsc hc2
 obtain ⟨N, hN⟩ : ∃ N, B.n + B.m = N := ⟨_, rfl⟩
 have HN := Lh hN
 have hN1 : N ≤ 1000 := by have := HS.o.s1; omega
 rw [hN] at HSC ⊢
 clear hN
 by_cases hone : V.one = one
 case neg =>
  obtain ⟨qg0, qg1, qg2⟩ := F_g.o.k3
  obtain ⟨⟨qv0, qv1, qv2, qv3, qv4, qv5, qv6, qv7, qv8, qv9, qva⟩, -⟩ := F_v.o.k11
  go_wp2_with fail
  clear qg0 qg1 qg2 qv0 qv1 qv2 qv3 qv4 qv5 qv6 qv7 qv8 qv9 qva
  go_ret2
  exact ⟨⟨_, _, rfl, .inr ⟨HK.o, .inr ⟨by rw [Int.toNat_natCast]; exact HR.o.1 (by simp), .inl ⟨fun h => hone h.1, rfl, rfl⟩⟩⟩⟩, HBW.o⟩
 case pos =>
 subst hone
 obtain ⟨vb, hvb⟩ := Prop.bool (validP P Q G y j V)
 have HVB := Lh hvb
 clear hvb
 obtain ⟨qg0, qg1, qg2⟩ := F_g.o.k3
 obtain ⟨⟨qv0, qv1, qv2, qv3, qv4, qv5, qv6, qv7, qv8, qv9, qva⟩, -⟩ := F_v.o.k11
 go_wp2_with fail
 clear qg0 qg1 qg2 qv0 qv1 qv2 qv3 qv4 qv5 qv6 qv7 qv8 qv9 qva
 replace HSC := Lh HSC.o
 refine (valid_any (V := V) (v := vb) _ (HT.o.below HBW.o) HH.o hy (by omega) (by omega) (HV.o.keep HBW.o) HVB.o).mono ?_
 rintro e w3 ⟨rfl, hb3⟩
 replace F_g := Lh (F_g.o.keep hb3)
 replace F_v := Lh (F_v.o.keep hb3)
 replace HSC := Lh (HSC.o.keep hb3)
 replace HBW := Kt HBW hb3
 clear hb3
 cases vb with
 | false =>
  go_wp2_with fail
  go_ret2
  exact ⟨⟨_, _, rfl, .inr ⟨HK.o, .inr ⟨by rw [Int.toNat_natCast]; exact HR.o.1 (by simp), .inl ⟨by rw [Int.toNat_natCast]; exact fun h => by simpa using HVB.o.2 h.2, rfl, rfl⟩⟩⟩⟩, HBW.o⟩
 | true =>
 have hval : validP P Q G y j V := HVB.o.1 (by simp)
 have HGD := Lh (show goodV P Q G y j V.one V from ⟨rfl, hval⟩)
 have HCF := Lh (show codeF V = (0, shaS V.bytes) by unfold codeF; rw [if_neg (by have := hval.1; have := hval.2.1; omega)])
 obtain ⟨cs, hcs⟩ : ∃ cs, shaS V.bytes = cs := ⟨_, rfl⟩
 rw [hcs] at HCF
 have HLC := Lh (codeF_len HCF.o)
 have HCD := Lh (show V.cd = cs by unfold Vt.cd; rw [HCF.o])
 clear hval hcs HVB
 obtain ⟨⟨qv0, qv1, qv2, qv3, qv4, qv5, qv6, qv7, qv8, qv9, qva⟩, -⟩ := F_v.o.k11
 go_wp2_with fail
 clear qv0 qv1 qv2 qv3 qv4 qv5 qv6 qv7 qv8 qv9 qva
 refine (bCode_any (V := V) _ (HT.o.below HBW.o) (HV.o.keep HBW.o) HCF.o).mono ?_
 rintro e w4 ⟨rfl, hb4⟩
 replace F_g := Lh (F_g.o.keep hb4)
 replace F_v := Lh (F_v.o.keep hb4)
 replace HSC := Lh (HSC.o.keep hb4)
 replace HBW := Kt HBW hb4
 clear hb4
 obtain ⟨B4, hB4⟩ : ∃ B, w4.heap.size = B := ⟨_, rfl⟩
 obtain ⟨wo, rfl⟩ : ∃ wo, wo = w4 := ⟨_, rfl⟩
 go_wp2_with (first
  | (refine wpL_allocArr rfl 26 .u8 32 rfl (by kernel_rfl) ?_; intro wa h1; have F_a := Lh h1.arr; have HB1 := Lh (h1.below _ (Nat.le_refl _)); clear h1; simp only [sY]; rw [hB4] at F_a HB1 ⊢)
  | (refine wpL_storeArr rfl 26 .u8 _ _ B4 cs _ rfl rfl rfl rfl (by rw [HLC.o]; kernel_rfl) F_a.o (by rw [HLC.o]; rfl) ?_; intro w5 h9; have F_c := Lh (Laid.arr0 h9 F_a.o); have HB3 := Lh (show Below wo.heap.size wo w5 by rw [hB4]; exact HB1.o.trans (h9.below B4 (Nat.le_refl _))); clear h9 F_a HB1; replace HBW := Lh (HBW.o.trans (HB3.o.mono HBW.o.size)); replace HSC := Lh (HSC.o.keep HB3.o); clear HB3 hB4)
  | (refine wpL_loadArrG rfl 26 .u8 (.tmp 17) B4 cs 32 5 rfl rfl Tryz.underlying26 (by rw [HLC.o]; kernel_rfl) F_c.o ?_; simp only [sY]))
 refine (containsC_any _ HLC.o HSC.o (by omega)).mono ?_
 rintro e w6 ⟨rfl, hb6⟩
 replace HBW := Kt HBW hb6
 clear hb6
 by_cases hdup : cs ∈ cds (B.l ++ B.l')
 case pos =>
  have HD := Lh hdup
  rw [decide_eq_true hdup]
  clear hdup
  go_wp2_with fail
  go_ret2
  exact ⟨⟨_, _, rfl, .inr ⟨HK.o, .inr ⟨by rw [Int.toNat_natCast]; exact HR.o.1 (by simp), .inr ⟨by rw [Int.toNat_natCast]; exact HGD.o, .inl ⟨by rw [HCD.o]; exact HD.o, rfl, rfl⟩⟩⟩⟩⟩, HBW.o⟩
 case neg =>
  have HD := Lh hdup
  rw [decide_eq_false hdup]
  clear hdup
  go_wp2_with fail
  go_ret2
  exact ⟨⟨_, _, rfl, .inr ⟨HK.o, .inr ⟨by rw [Int.toNat_natCast]; exact HR.o.1 (by simp), .inr ⟨by rw [Int.toNat_natCast]; exact HGD.o, .inr ⟨by rw [HCD.o]; exact HD.o, by rw [HN.o], rfl⟩⟩⟩⟩⟩, HBW.o⟩
open Go Go.RowKit Num Sha
theorem run_lit_vote (ρ : Operand → Value) (w : World) (dst : Option Tmp) (ty : TypeId) (x : Operand) (V : Vt) (h : ρ x = V.v) : (execOp ρ (bareOp dst (.buildSlice 52 1 #[(0, x)]) ty)).run Tryz.prog w = .ok (.value (.slice (some ⟨w.heap.size, 0, none⟩) 1 1)) (w.alloc (.cells V.vs.toArray 33)) := by
 unfold bareOp Vt.vs Bt.vs
 unfold Vt.v at h
 go_simp
theorem run_lit_rev (ρ : Operand → Value) (w : World) (dst : Option Tmp) (ty : TypeId) (x : Operand) (R : Rv) (h : ρ x = R.v) : (execOp ρ (bareOp dst (.buildSlice 53 1 #[(0, x)]) ty)).run Tryz.prog w = .ok (.value (.slice (some ⟨w.heap.size, 0, none⟩) 1 1)) (w.alloc (.cells R.vs.toArray 36)) := by
 unfold bareOp Rv.vs
 unfold Rv.v at h
 go_simp
def Vt.key (V : Vt) : Nat × List (Int × Int) × Nat × List Bt × Bool × Bt := (V.n, V.bs, V.m, V.ps, V.one, V.z)
def Rv.key (R : Rv) : Nat × List Int × Nat × List Int := (R.n, R.ms, R.m, R.ns)
theorem SameV.key {U V : Vt} (h : SameV U V) : U.key = V.key := by
 obtain ⟨h1, h2, h3, h4, h5, h6⟩ := h
 unfold Vt.key
 rw [h1, h2, h3, h4, h5, h6]
theorem SameR.key {U V : Rv} (h : SameR U V) : U.key = V.key := by
 obtain ⟨h1, h2, h3, h4⟩ := h
 unfold Rv.key
 rw [h1, h2, h3, h4]
theorem Vt.same_of_key {U V : Vt} (h : U.key = V.key) : SameV U V := by
 unfold Vt.key at h
 simp only [Prod.mk.injEq] at h
 exact ⟨h.1, h.2.1, h.2.2.1, h.2.2.2.1, h.2.2.2.2.1, h.2.2.2.2.2⟩
theorem Rv.same_of_key {U V : Rv} (h : U.key = V.key) : SameR U V := by
 unfold Rv.key at h
 simp only [Prod.mk.injEq] at h
 exact ⟨h.1, h.2.1, h.2.2.1, h.2.2.2⟩
theorem keys_snoc {α β : Type} (f : α → β) {Us L : List α} {i : Nat} {U V : α} (h : Us.map f = (L.take i).map f) (hV : L[i]? = some V) (hk : f U = f V) : (Us ++ [U]).map f = (L.take (i + 1)).map f := by
 rw [take_snoc hV, List.map_append, List.map_append, h, List.map_singleton, List.map_singleton, hk]
end Go.Proofs.YtlbldpkgnonbpaaGreatDoor
