/- tally.Accept and the reference's. -/
import Derived.Test.YtkjkdfhjfnoalaaGreatDoorTqN
set_option linter.unusedSimpArgs false
set_option linter.unusedVariables false
set_option maxRecDepth 100000
namespace Go.Proofs.YtkjkdfhjfnoalaaGreatDoor
open Go Go.RowKit Num Sha
def accChk (P Q G : Int) (ys : List Int) (ps : List (Int × Int)) : Int := if Has P Q G then (if belowS P ys && sumdS P ps then 0 else 2) else 300
theorem ret_tup {v v' : Bool} {c c' : Int} (h : v = v') (k : c = c') : Ending.returned (.tuple #[.bool v, .int .i64 c]) = .returned (.tuple #[.bool v', .int .i64 c']) := by rw [h, k]
theorem RetB.bad {chk c er : Int} {p : Prop} {v : Bool} (h : RetB chk p v er) (hc : chk = c) (h0 : c ≠ 0) : false = v ∧ c = er := by
 rcases h with ⟨h1, _⟩ | ⟨_, h2, h3⟩
 · exact absurd (hc.symm.trans h1) h0
 · exact ⟨h2.symm, hc.symm.trans h3.symm⟩
theorem RetB.fine {chk er : Int} {p : Prop} {v : Bool} (h : RetB chk p v er) (hc : chk = 0) : (v = true ↔ p) ∧ 0 = er := by
 rcases h with ⟨_, h2, h3⟩ | ⟨h1, _⟩
 · exact ⟨h2, h3.symm⟩
 · exact absurd hc h1
set_option maxHeartbeats 8000000 in
theorem tAccept_any {P Q G t er : Int} {a1 a2 a3 b3 : Option Addr} {n1 n2 n3 m3 c1 c2 c3 d3 : Nat} {ys xs : List Int} {ps : List (Int × Int)} {es : List Eq3} {v : Bool} (w : World) (hT : Tabs w) (hP : 0 ≤ P) (hQ : 0 ≤ Q) (hG : 0 ≤ G) (h1 : ShI .u64 w a1 n1 ys) (hyu : ∀ x, x ∈ ys → U64 x)
    (h2 : ShS w a2 n2 ps) (hsu : ∀ q, q ∈ ps → U64 q.1 ∧ U64 q.2) (t0 : -9223372036854775808 ≤ t) (t1 : t ≤ 9223372036854775807) (h3 : ShI .u64 w a3 n3 xs) (u3 : ∀ x, x ∈ xs → U64 x) (h4 : ShQ w b3 m3 es) (u4 : ∀ x, x ∈ es → x.u) (hr : RetB (accChk P Q G ys ps) (accP P Q G ys ps t n3 m3 xs es) v er) :
    Calls Tryz.prog 8 #[(.agg #[.int .u64 P, .int .u64 Q, .int .u64 G]), .slice a1 n1 c1, .slice a2 n2 c2, .agg #[.int .i64 t, .slice a3 n3 c3, .slice b3 m3 d3]] w fun e w' => e = .returned (.tuple #[.bool v, .int .i64 er]) ∧ Below w.heap.size w w' := by
  have HT := Lh hT
  have H1 := Lh h1
  have HYU := Lh hyu
  have H2 := Lh h2
  have HSU := Lh hsu
  have H3 := Lh h3
  have U3 := Lh u3
  have H4 := Lh h4
  have U4 := Lh u4
  have HR := Lh hr
  clear hT h1 hyu h2 hsu h3 u3 h4 u4 hr
  obtain ⟨b1, hb1⟩ : ∃ b, belowS P ys = b := ⟨_, rfl⟩
  obtain ⟨b2, hb2⟩ : ∃ b, sumdS P ps = b := ⟨_, rfl⟩
  have HB1 := Lh hb1
  have HB2 := Lh hb2
  clear hb1 hb2
  have F_g := Lh (show Cl ((w.alloc (.cells #[.int .u64 P, .int .u64 Q, .int .u64 G] 24)).alloc (.cells #[.int .i64 t, .slice a3 n3 c3, .slice b3 m3 d3] 29)) (w.heap.size) [.int .u64 P, .int .u64 Q, .int .u64 G] from (Cl.at w [.int .u64 P, .int .u64 Q, .int .u64 G] 24 (w.heap.size) (by simp)).alloc _)
  have F_p := Lh (show Cl ((w.alloc (.cells #[.int .u64 P, .int .u64 Q, .int .u64 G] 24)).alloc (.cells #[.int .i64 t, .slice a3 n3 c3, .slice b3 m3 d3] 29)) (w.heap.size + 1) [.int .i64 t, .slice a3 n3 c3, .slice b3 m3 d3] from Cl.at (w.alloc (.cells #[.int .u64 P, .int .u64 Q, .int .u64 G] 24)) [.int .i64 t, .slice a3 n3 c3, .slice b3 m3 d3] 29 (w.heap.size + 1) (by simp))
  have HBW := Lh (show Below w.heap.size w ((w.alloc (.cells #[.int .u64 P, .int .u64 Q, .int .u64 G] 24)).alloc (.cells #[.int .i64 t, .slice a3 n3 c3, .slice b3 m3 d3] 29)) from ((Below.refl _ _).alloc (by simp <;> omega) _).alloc (by simp <;> omega) _)
  go_enter Tryz.func8, Tryz.ntmps8
  have q_g_0 := F_g.o.c 0 _ rfl
  have q_g_1 := F_g.o.c 1 _ rfl
  have q_g_2 := F_g.o.c 2 _ rfl
  have q_p_0 := F_p.o.c 0 _ rfl
  have q_p_1 := F_p.o.c 1 _ rfl
  have q_p_2 := F_p.o.c 2 _ rfl
  go_wp2_with fail
  clear q_g_0 q_g_1 q_g_2 q_p_0 q_p_1 q_p_2
  refine (form_any P Q G _ hP hQ hG).mono ?_
  rintro e w1 ⟨rfl, hb1⟩
  replace F_g := Lh (F_g.o.keep hb1)
  replace F_p := Lh (F_p.o.keep hb1)
  replace HBW := Lh (HBW.o.trans (hb1.mono HBW.o.size))
  clear hb1
  by_cases hH : Has P Q G
  case neg =>
   have HF := Lh (show formS P Q G = 300 from if_neg hH)
   have HC := Lh (HR.o.bad (show accChk P Q G ys ps = 300 from if_neg hH) (by decide))
   rw [HF.o]
   clear HF
   go_wp2_with fail
   go_ret2
   exact ⟨ret_tup HC.o.1 HC.o.2, HBW.o⟩
  case pos =>
  have HF := Lh (show formS P Q G = 0 from if_pos hH)
  have HH := Lh hH
  rw [HF.o]
  clear HF hH
  have q_g_0 := F_g.o.c 0 _ rfl
  have q_g_1 := F_g.o.c 1 _ rfl
  have q_g_2 := F_g.o.c 2 _ rfl
  go_wp2_with fail
  clear q_g_0 q_g_1 q_g_2
  refine (tpledged_any _ (H1.o.keep HBW.o) HB1.o).mono ?_
  rintro e w2 ⟨rfl, hb2⟩
  replace F_g := Lh (F_g.o.keep hb2)
  replace F_p := Lh (F_p.o.keep hb2)
  replace HBW := Lh (HBW.o.trans (hb2.mono HBW.o.size))
  clear hb2
  cases b1 with
  | false =>
   have HC := Lh (HR.o.bad (show accChk P Q G ys ps = 2 by unfold accChk; rw [if_pos HH.o, HB1.o]; rfl) (by decide))
   go_wp2_with fail
   go_ret2
   exact ⟨ret_tup HC.o.1 HC.o.2, HBW.o⟩
  | true =>
   have q_g_0 := F_g.o.c 0 _ rfl
   have q_g_1 := F_g.o.c 1 _ rfl
   have q_g_2 := F_g.o.c 2 _ rfl
   go_wp2_with fail
   clear q_g_0 q_g_1 q_g_2
   refine (tsummed_any _ (H2.o.keep HBW.o) HB2.o).mono ?_
   rintro e w3 ⟨rfl, hb3⟩
   replace F_g := Lh (F_g.o.keep hb3)
   replace F_p := Lh (F_p.o.keep hb3)
   replace HBW := Lh (HBW.o.trans (hb3.mono HBW.o.size))
   clear hb3
   cases b2 with
   | false =>
    have HC := Lh (HR.o.bad (show accChk P Q G ys ps = 2 by unfold accChk; rw [if_pos HH.o, HB1.o, HB2.o]; rfl) (by decide))
    go_wp2_with fail
    go_ret2
    exact ⟨ret_tup HC.o.1 HC.o.2, HBW.o⟩
   | true =>
    have HC := Lh (HR.o.fine (show accChk P Q G ys ps = 0 by unfold accChk; rw [if_pos HH.o, HB1.o, HB2.o]; rfl))
    have q_g_0 := F_g.o.c 0 _ rfl
    have q_g_1 := F_g.o.c 1 _ rfl
    have q_g_2 := F_g.o.c 2 _ rfl
    have q_p_0 := F_p.o.c 0 _ rfl
    have q_p_1 := F_p.o.c 1 _ rfl
    have q_p_2 := F_p.o.c 2 _ rfl
    go_wp2_with fail
    clear q_g_0 q_g_1 q_g_2 q_p_0 q_p_1 q_p_2
    refine (taccept_any _ (HT.o.below HBW.o) HH.o (H1.o.keep HBW.o) HB1.o HYU.o (H2.o.keep HBW.o) HB2.o HSU.o t0 t1 (H3.o.keep HBW.o) U3.o (H4.o.keep HBW.o) U4.o HC.o.1).mono ?_
    rintro e w4 ⟨rfl, hb4⟩
    replace F_g := Lh (F_g.o.keep hb4)
    replace F_p := Lh (F_p.o.keep hb4)
    replace HBW := Lh (HBW.o.trans (hb4.mono HBW.o.size))
    clear hb4
    go_wp2_with fail
    go_ret2
    exact ⟨ret_tup rfl HC.o.2, HBW.o⟩
set_option maxHeartbeats 8000000 in
theorem rAccept_any {P Q G t er : Int} {a1 a2 a3 b3 : Option Addr} {n1 n2 n3 m3 c1 c2 c3 d3 : Nat} {ys xs : List Int} {ps : List (Int × Int)} {es : List Eq3} {v : Bool} (w : World) (hT : Tabs w) (hP : 0 ≤ P) (hQ : 0 ≤ Q) (hG : 0 ≤ G) (h1 : ShI .u64 w a1 n1 ys) (hyu : ∀ x, x ∈ ys → U64 x)
    (h2 : ShS w a2 n2 ps) (hsu : ∀ q, q ∈ ps → U64 q.1 ∧ U64 q.2) (t0 : -9223372036854775808 ≤ t) (t1 : t ≤ 9223372036854775807) (h3 : ShI .u64 w a3 n3 xs) (u3 : ∀ x, x ∈ xs → U64 x) (h4 : ShQ w b3 m3 es) (u4 : ∀ x, x ∈ es → x.u) (hr : RetB (accChk P Q G ys ps) (accP P Q G ys ps t n3 m3 xs es) v er) :
    Calls Tryz.prog 9 #[(.agg #[.int .u64 P, .int .u64 Q, .int .u64 G]), .slice a1 n1 c1, .slice a2 n2 c2, .agg #[.int .i64 t, .slice a3 n3 c3, .slice b3 m3 d3]] w fun e w' => e = .returned (.tuple #[.bool v, .int .i64 er]) ∧ Below w.heap.size w w' := by
  have HT := Lh hT
  have H1 := Lh h1
  have HYU := Lh hyu
  have H2 := Lh h2
  have HSU := Lh hsu
  have H3 := Lh h3
  have U3 := Lh u3
  have H4 := Lh h4
  have U4 := Lh u4
  have HR := Lh hr
  clear hT h1 hyu h2 hsu h3 u3 h4 u4 hr
  obtain ⟨b1, hb1⟩ : ∃ b, belowS P ys = b := ⟨_, rfl⟩
  obtain ⟨b2, hb2⟩ : ∃ b, sumdS P ps = b := ⟨_, rfl⟩
  have HB1 := Lh hb1
  have HB2 := Lh hb2
  clear hb1 hb2
  have F_g := Lh (show Cl ((w.alloc (.cells #[.int .u64 P, .int .u64 Q, .int .u64 G] 24)).alloc (.cells #[.int .i64 t, .slice a3 n3 c3, .slice b3 m3 d3] 29)) (w.heap.size) [.int .u64 P, .int .u64 Q, .int .u64 G] from (Cl.at w [.int .u64 P, .int .u64 Q, .int .u64 G] 24 (w.heap.size) (by simp)).alloc _)
  have F_p := Lh (show Cl ((w.alloc (.cells #[.int .u64 P, .int .u64 Q, .int .u64 G] 24)).alloc (.cells #[.int .i64 t, .slice a3 n3 c3, .slice b3 m3 d3] 29)) (w.heap.size + 1) [.int .i64 t, .slice a3 n3 c3, .slice b3 m3 d3] from Cl.at (w.alloc (.cells #[.int .u64 P, .int .u64 Q, .int .u64 G] 24)) [.int .i64 t, .slice a3 n3 c3, .slice b3 m3 d3] 29 (w.heap.size + 1) (by simp))
  have HBW := Lh (show Below w.heap.size w ((w.alloc (.cells #[.int .u64 P, .int .u64 Q, .int .u64 G] 24)).alloc (.cells #[.int .i64 t, .slice a3 n3 c3, .slice b3 m3 d3] 29)) from ((Below.refl _ _).alloc (by simp <;> omega) _).alloc (by simp <;> omega) _)
  go_enter Tryz.func9, Tryz.ntmps9
  have q_g_0 := F_g.o.c 0 _ rfl
  have q_g_1 := F_g.o.c 1 _ rfl
  have q_g_2 := F_g.o.c 2 _ rfl
  have q_p_0 := F_p.o.c 0 _ rfl
  have q_p_1 := F_p.o.c 1 _ rfl
  have q_p_2 := F_p.o.c 2 _ rfl
  go_wp2_with fail
  clear q_g_0 q_g_1 q_g_2 q_p_0 q_p_1 q_p_2
  refine (rform_any _ hP hQ hG).mono ?_
  rintro e w1 ⟨rfl, hb1⟩
  replace F_g := Lh (F_g.o.keep hb1)
  replace F_p := Lh (F_p.o.keep hb1)
  replace HBW := Lh (HBW.o.trans (hb1.mono HBW.o.size))
  clear hb1
  by_cases hH : Has P Q G
  case neg =>
   have HF := Lh (show formS P Q G = 300 from if_neg hH)
   have HC := Lh (HR.o.bad (show accChk P Q G ys ps = 300 from if_neg hH) (by decide))
   rw [HF.o]
   clear HF
   go_wp2_with fail
   go_ret2
   exact ⟨ret_tup HC.o.1 HC.o.2, HBW.o⟩
  case pos =>
  have HF := Lh (show formS P Q G = 0 from if_pos hH)
  have HH := Lh hH
  rw [HF.o]
  clear HF hH
  have q_g_0 := F_g.o.c 0 _ rfl
  have q_g_1 := F_g.o.c 1 _ rfl
  have q_g_2 := F_g.o.c 2 _ rfl
  go_wp2_with fail
  clear q_g_0 q_g_1 q_g_2
  refine (rpledged_any _ (H1.o.keep HBW.o) HB1.o).mono ?_
  rintro e w2 ⟨rfl, hb2⟩
  replace F_g := Lh (F_g.o.keep hb2)
  replace F_p := Lh (F_p.o.keep hb2)
  replace HBW := Lh (HBW.o.trans (hb2.mono HBW.o.size))
  clear hb2
  cases b1 with
  | false =>
   have HC := Lh (HR.o.bad (show accChk P Q G ys ps = 2 by unfold accChk; rw [if_pos HH.o, HB1.o]; rfl) (by decide))
   go_wp2_with fail
   go_ret2
   exact ⟨ret_tup HC.o.1 HC.o.2, HBW.o⟩
  | true =>
   have q_g_0 := F_g.o.c 0 _ rfl
   have q_g_1 := F_g.o.c 1 _ rfl
   have q_g_2 := F_g.o.c 2 _ rfl
   go_wp2_with fail
   clear q_g_0 q_g_1 q_g_2
   refine (rsummed_any _ (H2.o.keep HBW.o) HB2.o).mono ?_
   rintro e w3 ⟨rfl, hb3⟩
   replace F_g := Lh (F_g.o.keep hb3)
   replace F_p := Lh (F_p.o.keep hb3)
   replace HBW := Lh (HBW.o.trans (hb3.mono HBW.o.size))
   clear hb3
   cases b2 with
   | false =>
    have HC := Lh (HR.o.bad (show accChk P Q G ys ps = 2 by unfold accChk; rw [if_pos HH.o, HB1.o, HB2.o]; rfl) (by decide))
    go_wp2_with fail
    go_ret2
    exact ⟨ret_tup HC.o.1 HC.o.2, HBW.o⟩
   | true =>
    have HC := Lh (HR.o.fine (show accChk P Q G ys ps = 0 by unfold accChk; rw [if_pos HH.o, HB1.o, HB2.o]; rfl))
    have q_g_0 := F_g.o.c 0 _ rfl
    have q_g_1 := F_g.o.c 1 _ rfl
    have q_g_2 := F_g.o.c 2 _ rfl
    have q_p_0 := F_p.o.c 0 _ rfl
    have q_p_1 := F_p.o.c 1 _ rfl
    have q_p_2 := F_p.o.c 2 _ rfl
    go_wp2_with fail
    clear q_g_0 q_g_1 q_g_2 q_p_0 q_p_1 q_p_2
    refine (rGood_any _ (HT.o.below HBW.o) HH.o (H1.o.keep HBW.o) HB1.o HYU.o (H2.o.keep HBW.o) HB2.o HSU.o t0 t1 (H3.o.keep HBW.o) U3.o (H4.o.keep HBW.o) U4.o HC.o.1).mono ?_
    rintro e w4 ⟨rfl, hb4⟩
    replace F_g := Lh (F_g.o.keep hb4)
    replace F_p := Lh (F_p.o.keep hb4)
    replace HBW := Lh (HBW.o.trans (hb4.mono HBW.o.size))
    clear hb4
    go_wp2_with fail
    go_ret2
    exact ⟨ret_tup rfl HC.o.2, HBW.o⟩
open Go Go.RowKit Num Sha
def pwI (P s : Int) (ps : List (Int × Int)) (i : Nat) : List Int := (List.range i).map fun j => powm (ps.getD j (0, 0)).1 s P
def eq1 (P Q G s t : Int) (ps : List (Int × Int)) (ns : List Int) (j : Nat) : Eq3 := ⟨powm G (ns.getD j 0) P, powm (ps.getD j (0, 0)).1 (ns.getD j 0) P, eqZ P Q G (ps.getD j (0, 0)).1 s (ns.getD j 0) [t, (j : Int)]⟩
def esI (P Q G s t : Int) (ps : List (Int × Int)) (ns : List Int) (i : Nat) : List Eq3 := (List.range i).map (eq1 P Q G s t ps ns)
theorem pwI_succ (P s : Int) (ps : List (Int × Int)) (i : Nat) : pwI P s ps (i + 1) = pwI P s ps i ++ [powm (ps.getD i (0, 0)).1 s P] := by simp [pwI, List.range_succ]
theorem esI_succ (P Q G s t : Int) (ps : List (Int × Int)) (ns : List Int) (i : Nat) : esI P Q G s t ps ns (i + 1) = esI P Q G s t ps ns i ++ [eq1 P Q G s t ps ns i] := by simp [esI, List.range_succ]
def PtRes (w : World) (t : Int) (n : Nat) (xs : List Int) (es : List Eq3) (v : Value) : Prop := ∃ a c b d, v = .agg #[.int .i64 t, .slice a n c, .slice b n d] ∧ ShI .u64 w a n xs ∧ ShQ w b n es
theorem PtRes.keep {w w' : World} {t : Int} {n : Nat} {xs : List Int} {es : List Eq3} {v : Value} (h : PtRes w t n xs es v) (hb : Below w.heap.size w w') : PtRes w' t n xs es v := by
 obtain ⟨a, c, b, d, h1, h2, h3⟩ := h
 exact ⟨a, c, b, d, h1, h2.keep hb, h3.keep hb⟩
def PtOwn (w : World) (N : Nat) (t : Int) (n : Nat) (xs : List Int) (es : List Eq3) (v : Value) : Prop := ∃ a c b d, v = .agg #[.int .i64 t, .slice a n c, .slice b n d] ∧ w.ownsRow N 22 1 (.slice a n c) n (xs.map (Value.int .u64)) ∧ w.ownsRow N 53 3 (.slice b n d) n (es.flatMap Eq3.vs)
theorem PtRes.of_owned {w : World} {N : Nat} {t : Int} {n : Nat} {a b : Option Addr} {c d : Nat} {xs : List Int} {es : List Eq3} (h1 : w.ownsRow N 22 1 (.slice a n c) n (xs.map (Value.int .u64))) (h2 : w.ownsRow N 53 3 (.slice b n d) n (es.flatMap Eq3.vs)) : PtRes w t n xs es (.agg #[.int .i64 t, .slice a n c, .slice b n d]) := by
 obtain ⟨_, _, e5, hs5⟩ := ShI.of_owned h1
 obtain ⟨_, _, e6, hs6⟩ := ShQ.of_owned h2
 cases e5
 cases e6
 exact ⟨a, c, b, d, rfl, hs5, hs6⟩
theorem PtRes.nil (w : World) : PtRes w 0 0 [] [] (.agg #[.int .i64 0, .slice none 0 0, .slice none 0 0]) := ⟨_, _, _, _, rfl, .inl ⟨rfl, rfl⟩, .inl ⟨rfl, rfl⟩⟩
theorem wp_push_eq {w : World} {o : Oper} {a : Act} {K : Act → World → Prop} {Q : Exit → Act → World → Prop} (s x : Operand) (ho : o.op = .call { callee := .builtin .append, args := #[s, x], argTypes := #[27, 27] })
    (base n b : Nat) (v : Value) (xs : List Value) (z : Eq3) (hs : a.eval s = v) (hx : a.eval x = .slice (some ⟨b, 0, none⟩) 1 1) (hown : w.ownsRow base 53 3 v n xs) (hc : ∀ j u, z.vs[j]? = some u → w.cell? ((⟨b, 0, none⟩ : Addr).add j) = some u) (hn : n ≤ 1000000) (hb : base ≤ w.heap.size)
    (h : ∀ v' w', w'.ownsRow base 53 3 v' (n + 1) (xs ++ z.vs) → w.grownBy w' v.ownBlock → K (a.put o.dst v') w') : o.wp Tryz.prog a w K Q := by
  obtain ⟨j0, ji, jz0, jz1, jz2⟩ := info_parts (P := Tryz.prog) (e := 53) (z := .agg #[.int .u64 0, .int .u64 0, .int .u64 0]) (size := 3) (bytes := 24) (by kernel_rfl)
  exact wp_append_own w s x 27 ho base 53 j0 _ 3 24 Tryz.underlying27 ji jz0 jz1 jz2 rfl (by decide) v n xs hs hown ⟨b, 0, none⟩ 1 1 z.vs hx rfl hc (fun u hu => z.vs_one u hu) (by unfold maxLen; omega) (by omega) hb (fun v' w' h1 h2 _ => h v' w' h1 h2)
section
variable (ρ : Operand → Value) (w : World)
theorem run_lit_eq (dst : Option Tmp) (ty : TypeId) (x : Operand) (z : Eq3) (h : ρ x = .agg #[.int .u64 z.r, .int .u64 z.s, .int .u64 z.z]) : (execOp ρ (bareOp dst (.buildSlice 27 1 #[(0, x)]) ty)).run Tryz.prog w = .ok (.value (.slice (some ⟨w.heap.size, 0, none⟩) 1 1)) (w.alloc (.cells z.vs.toArray 53)) := by
 unfold Eq3.vs
 unfold bareOp
 go_simp
theorem run_faP (dst : Option Tmp) (ty : TypeId) (x : Operand) {b : Nat} (h : ρ x = .pointer (some ⟨b, 0, none⟩)) : (execOp ρ (bareOp dst (.fieldAddr 29 x 1) ty)).run Tryz.prog w = .ok (.value (.pointer (some ⟨b, 1, none⟩))) w := by
 unfold bareOp
 go_simp
theorem run_al_eq (dst : Option Tmp) (ty : TypeId) : (execOp ρ (bareOp dst (.alloc 53) ty)).run Tryz.prog w = .ok (.value (.pointer (some ⟨w.heap.size, 0, none⟩))) (w.alloc (.cells #[.int .u64 0, .int .u64 0, .int .u64 0] 53)) := by
 unfold bareOp
 go_simp
end
theorem res_part {w : World} {fn : Func} {c u : Tmp} {b : Nat} {t : Int} {a0 a1 : Option Addr} {n0 n1 c0 c1 : Nat} {v : Value} (h : fn.results = #[.cell c 29, .tmp u]) (hp : Cl w b [.int .i64 t, .slice a0 n0 c0, .slice a1 n1 c1]) (tmps : Array Value)
    (hc : tmps[c]?.getD undef = .pointer (some ⟨b, 0, none⟩)) (ht : tmps[u]?.getD undef = v) : (results fn tmps).run Tryz.prog w = .ok (.tuple #[.agg #[.int .i64 t, .slice a0 n0 c0, .slice a1 n1 c1], v]) w := by
  have q0 := hp.c 0 _ rfl
  have q1 := hp.c 1 _ rfl
  have q2 := hp.c 2 _ rfl
  simp [results, h, hc, ht, go_sem, q0, q1, q2]
theorem res_part1 {w : World} {fn : Func} {c : Tmp} {b : Nat} {t : Int} {a0 a1 : Option Addr} {n0 n1 c0 c1 : Nat} (h : fn.results = #[.cell c 29]) (hp : Cl w b [.int .i64 t, .slice a0 n0 c0, .slice a1 n1 c1]) (tmps : Array Value)
    (hc : tmps[c]?.getD undef = .pointer (some ⟨b, 0, none⟩)) : (results fn tmps).run Tryz.prog w = .ok (.agg #[.int .i64 t, .slice a0 n0 c0, .slice a1 n1 c1]) w := by
  have q0 := hp.c 0 _ rfl
  have q1 := hp.c 1 _ rfl
  have q2 := hp.c 2 _ rfl
  simp [results, h, hc, go_sem, q0, q1, q2]
set_option maxHeartbeats 8000000 in
theorem rPartOf_any {P Q G t s : Int} {a1 a2 : Option Addr} {n m c1 c2 : Nat} {ps : List (Int × Int)} {ns : List Int} (w : World) (hT : Tabs w) (hH : Has P Q G) (tl : 1 ≤ t) (tu : t ≤ 8) (s0 : 0 ≤ s) (sQ : s < Q) (h1 : ShS w a1 n ps) (hs : ∀ q, q ∈ ps → 0 ≤ q.1 ∧ q.1 < P) (hn : n ≤ 10) (h2 : ShI .u64 w a2 m ns) (hnm : m = n) (hk : ∀ x, x ∈ ns → 0 ≤ x ∧ x < Q) :
    Calls Tryz.prog 23 #[(.agg #[.int .u64 P, .int .u64 Q, .int .u64 G]), .int .i64 t, .int .u64 s, .slice a1 n c1, .slice a2 m c2] w fun e w' => (∃ v, e = .returned v ∧ PtOwn w' (w.heap.size + 1 + 1 + 1) t n (pwI P s ps n) (esI P Q G s t ps ns n) v) ∧ Below w.heap.size w w' := by
  have HT := Lh hT
  have HH := Lh hH
  have H1 := Lh h1
  have HS := Lh hs
  have H2 := Lh h2
  have HKS := Lh hk
  have HL1 := Lh h1.len
  have HL2 := Lh h2.len
  have HR := Lh (show 5 ≤ P ∧ P < 2147483648 ∧ 0 < Q ∧ Q < 2147483648 ∧ 0 ≤ G by obtain ⟨p5, p3, hQ', pq, g2, gP⟩ := id hH; omega)
  have hP : 0 ≤ P := by have := HR.o; omega
  have hQ : 0 ≤ Q := by have := HR.o; omega
  have hG : 0 ≤ G := HR.o.2.2.2.2
  subst hnm
  clear hT hH h1 hs h2 hk
  have F_g := Lh (show Cl (((w.alloc (.cells #[.int .u64 P, .int .u64 Q, .int .u64 G] 24)).alloc (.cells #[.int .i64 0, .slice none 0 0, .slice none 0 0] 29)).alloc (.cells #[.int .i64 t, .slice none 0 0, .slice none 0 0] 29)) (w.heap.size) [.int .u64 P, .int .u64 Q, .int .u64 G] from ((Cl.at w [.int .u64 P, .int .u64 Q, .int .u64 G] 24 (w.heap.size) (by simp)).alloc _).alloc _)
  have F_o := Lh (show Cl (((w.alloc (.cells #[.int .u64 P, .int .u64 Q, .int .u64 G] 24)).alloc (.cells #[.int .i64 0, .slice none 0 0, .slice none 0 0] 29)).alloc (.cells #[.int .i64 t, .slice none 0 0, .slice none 0 0] 29)) (w.heap.size + 1) [.int .i64 0, .slice none 0 0, .slice none 0 0] from (Cl.at (w.alloc (.cells #[.int .u64 P, .int .u64 Q, .int .u64 G] 24)) [.int .i64 0, .slice none 0 0, .slice none 0 0] 29 (w.heap.size + 1) (by simp)).alloc _)
  have F_p := Lh (show Cl (((w.alloc (.cells #[.int .u64 P, .int .u64 Q, .int .u64 G] 24)).alloc (.cells #[.int .i64 0, .slice none 0 0, .slice none 0 0] 29)).alloc (.cells #[.int .i64 t, .slice none 0 0, .slice none 0 0] 29)) (w.heap.size + 1 + 1) [.int .i64 t, .slice none 0 0, .slice none 0 0] from Cl.at ((w.alloc (.cells #[.int .u64 P, .int .u64 Q, .int .u64 G] 24)).alloc (.cells #[.int .i64 0, .slice none 0 0, .slice none 0 0] 29)) [.int .i64 t, .slice none 0 0, .slice none 0 0] 29 (w.heap.size + 1 + 1) (by simp))
  have HBW := Lh (show Below w.heap.size w (((w.alloc (.cells #[.int .u64 P, .int .u64 Q, .int .u64 G] 24)).alloc (.cells #[.int .i64 0, .slice none 0 0, .slice none 0 0] 29)).alloc (.cells #[.int .i64 t, .slice none 0 0, .slice none 0 0] 29)) from (((Below.refl _ _).alloc (by simp <;> omega) _).alloc (by simp <;> omega) _).alloc (by simp <;> omega) _)
  go_enter Tryz.func23, Tryz.ntmps23
  have q_g_0 := F_g.o.c 0 _ rfl
  have q_g_1 := F_g.o.c 1 _ rfl
  have q_g_2 := F_g.o.c 2 _ rfl
  go_wp2_with fail
  clear q_g_0 q_g_1 q_g_2
  go_loopw [12] (fun c12 wr => ∃ (i : Nat) (av bv : Value), i ≤ m ∧ c12 = .int .i64 i ∧ Hid (Cl wr w.heap.size [.int .u64 P, .int .u64 Q, .int .u64 G]) ∧ Hid (Cl wr (w.heap.size + 1) [.int .i64 0, .slice none 0 0, .slice none 0 0]) ∧ Hid (Cl wr (w.heap.size + 1 + 1) [.int .i64 t, av, bv]) ∧ Hid (wr.ownsRow (w.heap.size + 1 + 1 + 1) 22 1 av i ((pwI P s ps i).map (Value.int .u64))) ∧ Hid (wr.ownsRow (w.heap.size + 1 + 1 + 1) 53 3 bv i ((esI P Q G s t ps ns i).flatMap Eq3.vs)) ∧ Hid (Below w.heap.size w wr)) (fun c12 _ => m - (intOf c12).toNat)
  case atStart => exact ⟨0, _, _, by omega, rfl, F_g.o, F_o.o, F_p.o, World.ownsRow_nil _ _ _ _, World.ownsRow_nil _ _ _ _, HBW.o⟩
  case round =>
   clear F_g F_o F_p HBW
   obtain ⟨i, av, bv, hi, rfl, F_g, F_o, F_p, HU, HE, HBW⟩ := hrel
   have hwi : IntKind.i64.wrap ((i : Int) + 1) = (i : Int) + 1 := IntWalk.i64_in _ (by omega)
   have hi0 : (0 : Int) ≤ (i : Int) := by omega
   by_cases hlt : i < m
   case neg =>
    obtain rfl : i = m := by omega
    have hi2 : ¬ ((i : Int) < (i : Int)) := by omega
    have HC2 := Lh HU.o
    have HC3 := Lh HE.o
    obtain ⟨a5, c5, rfl, hsh5⟩ := ShI.of_owned HU.o
    obtain ⟨a6, c6, rfl, hsh6⟩ := ShQ.of_owned HE.o
    clear hsh5 hsh6
    have q0 := F_p.o.c 0 _ rfl
    have q1 := F_p.o.c 1 _ rfl
    have q2 := F_p.o.c 2 _ rfl
    go_wp2_with (first
      | (refine wpL_storeCl rfl 29 (.tmp 10) (.tmp 54) (w.heap.size + 1) 0 [.int .i64 0, .slice none 0 0, .slice none 0 0] [.int .i64 t, .slice a5 i c5, .slice a6 i c6] [.int .i64 t, .slice a5 i c5, .slice a6 i c6] rfl rfl rfl rfl (by kernel_rfl) (by intro u hu; simp at hu; rcases hu with rfl | rfl | rfl <;> rfl) F_o.o (by simp) rfl ?_
         intro w8 hc8 hg8 hz8
         have F_q := Lh hc8
         have HG8 := Lh hg8
         clear hc8 hg8 hz8))
    refine bodyPost_ret (res_part1 rfl F_q.o _ rfl) rfl ?_
    exact ⟨⟨_, rfl, a5, c5, a6, c6, rfl, own_gro HC2.o HG8.o (by omega), own_gro HC3.o HG8.o (by omega)⟩, HBW.o.trans (HG8.o.blw (n := w.heap.size) (by omega) HBW.o.size)⟩
   case pos =>
    have hi2 : (i : Int) < (m : Int) := by omega
    have cS : Tryz.prog.cellsOf 49 = 2 := by kernel_rfl
    obtain ⟨s2, o2, hsa, hsl, k0, k1⟩ := H1.o.at i hlt
    obtain ⟨x, y, hxy⟩ : ∃ x y, ps.getD i (0, 0) = (x, y) := ⟨_, _, rfl⟩
    rw [hxy] at k0 k1
    obtain ⟨s3, o3, hsb, hsl3, hkk, -⟩ := H2.o.at i hlt
    obtain ⟨k, hke⟩ : ∃ k, ns.getD i 0 = k := ⟨_, rfl⟩
    rw [hke] at hkk
    have HX := Lh (show 0 ≤ x ∧ x < P by
     have hm : (x, y) ∈ ps := by rw [← hxy, List.getD_eq_getElem?_getD, List.getElem?_eq_getElem (by have := HL1.o; omega)]; exact List.getElem_mem _
     exact HS.o _ hm)
    have HKK := Lh (show 0 ≤ k ∧ k < Q by
     have hm : k ∈ ns := by rw [← hke, List.getD_eq_getElem?_getD, List.getElem?_eq_getElem (by have := HL2.o; omega)]; exact List.getElem_mem _
     exact HKS.o _ hm)
    have HE1 := Lh (And.intro hxy hke)
    obtain ⟨pw, hpw⟩ : ∃ pw, powm x s P = pw := ⟨_, rfl⟩
    obtain ⟨z, hz⟩ : ∃ z : Eq3, z = ⟨powm G k P, powm x k P, eqZ P Q G x s k [t, (i : Int)]⟩ := ⟨_, rfl⟩
    have HPW := Lh hpw
    have HZ := Lh hz
    have HXX := Lh (show eq1 P Q G s t ps ns i = z by rw [hz]; unfold eq1; rw [hxy, hke])
    have HXP := Lh (show powm (ps.getD i (0, 0)).1 s P = pw by rw [hxy]; exact hpw)
    clear hxy hke hpw hz
    subst hsa hsb
    have F_s := Lh (show (w.cell? ⟨s2, o2 + i * 2, none⟩ = some (.int .u64 x) ∧ w.cell? ⟨s2, o2 + i * 2 + 1, none⟩ = some (.int .u64 y)) ∧ s2 < w.heap.size from ⟨⟨k0, k1⟩, hsl⟩)
    have F_k := Lh (show w.cell? ⟨s3, o3 + i, none⟩ = some (.int .u64 k) ∧ s3 < w.heap.size from ⟨hkk, hsl3⟩)
    have HZW := Lh (show w.heap.size + 1 + 1 < wr.heap.size from F_p.o.lt)
    clear hkk
    clear k0 k1
    obtain ⟨a5, c5, rfl⟩ := own_slice HU.o
    obtain ⟨a6, c6, rfl⟩ := own_slice HE.o
    go_wp2_with fail
    replace F_g := Lh F_g.o.drew
    replace F_o := Lh F_o.o.drew
    replace F_p := Lh F_p.o.drew
    replace HU := Lh (owns_below2 HU.o (Below.refl _ _).drew)
    replace HE := Lh (owns_below2 HE.o (Below.refl _ _).drew)
    replace HBW := Lh HBW.o.drew
    have hS0 := And.intro F_g.o (And.intro F_p.o HBW.o)
    refine wp_region_stage 11 (fun w' => Cl w' w.heap.size [.int .u64 P, .int .u64 Q, .int .u64 G] ∧ Cl w' (w.heap.size + 1 + 1) [.int .i64 t, .slice a5 i c5, .slice a6 i c6] ∧ Below w.heap.size w w') (by kernel_rfl) ?_
    refine tkP (i := 0) (some 21) (.fieldAddr 29 (.tmp 11) 1) 0 (fun _ => hS0) ?_
    simp only [Act.put, sZ]
    refine tkL (i := 1) (some 22) (.load 26 (.tmp 21)) 26 [11] (v := ?_) hS0 (fun w' hSw => ?_) ?_
    rotate_left
    · obtain ⟨t1, t2, t3⟩ := hSw; have g0 := t1.c 0 _ rfl; have g1 := t1.c 1 _ rfl; have g2 := t1.c 2 _ rfl; have p0 := t2.c 0 _ rfl; have p1 := t2.c 1 _ rfl; have p2 := t2.c 2 _ rfl; have x0 := (t3.cell (p := ⟨s2, o2 + i * 2, none⟩) F_s.o.2).trans F_s.o.1.1; have kk0 := (t3.cell (p := ⟨s3, o3 + i, none⟩) F_k.o.2).trans F_k.o.1
      unfold bareOp; go_simp; try with_reducible rfl
    simp only [Act.put, sZ]
    refine tkL (i := 2) (some 23) (.load 24 (.tmp 5)) 24 [9, 10, 11] (v := ?_) hS0 (fun w' hSw => ?_) ?_
    rotate_left
    · obtain ⟨t1, t2, t3⟩ := hSw; have g0 := t1.c 0 _ rfl; have g1 := t1.c 1 _ rfl; have g2 := t1.c 2 _ rfl; have p0 := t2.c 0 _ rfl; have p1 := t2.c 1 _ rfl; have p2 := t2.c 2 _ rfl; have x0 := (t3.cell (p := ⟨s2, o2 + i * 2, none⟩) F_s.o.2).trans F_s.o.1.1; have kk0 := (t3.cell (p := ⟨s3, o3 + i, none⟩) F_k.o.2).trans F_k.o.1
      unfold bareOp; go_simp; try with_reducible rfl
    simp only [Act.put, sZ]
    refine tkP (i := 3) (some 24) (.move (.tmp 3)) 25 (fun _ => hS0) ?_
    simp only [Act.put, sZ]
    refine tkP (i := 4) (some 25) (.move (.tmp 12)) 3 (fun _ => hS0) ?_
    simp only [Act.put, sZ]
    refine tkP (i := 5) (some 26) (.indexAddr 25 (.tmp 24) (.tmp 25)) 0 (fun _ => hS0) ?_
    simp only [Act.put, sZ]
    refine tkP (i := 6) (some 27) (.fieldAddr 49 (.tmp 26) 0) 0 (fun _ => hS0) ?_
    simp only [Act.put, sZ]
    refine tkL (i := 7) (some 28) (.load 22 (.tmp 27)) 22 [9, 10, 11] (v := ?_) hS0 (fun w' hSw => ?_) ?_
    rotate_left
    · obtain ⟨t1, t2, t3⟩ := hSw; have g0 := t1.c 0 _ rfl; have g1 := t1.c 1 _ rfl; have g2 := t1.c 2 _ rfl; have p0 := t2.c 0 _ rfl; have p1 := t2.c 1 _ rfl; have p2 := t2.c 2 _ rfl; have x0 := (t3.cell (p := ⟨s2, o2 + i * 2, none⟩) F_s.o.2).trans F_s.o.1.1; have kk0 := (t3.cell (p := ⟨s3, o3 + i, none⟩) F_k.o.2).trans F_k.o.1
      unfold bareOp; go_simp; try with_reducible rfl
    simp only [Act.put, sZ]
    refine tkP (i := 8) (some 29) (.move (.tmp 2)) 22 (fun _ => hS0) ?_
    simp only [Act.put, sZ]
    refine onl (i := 9) (some 30) (.call { callee := .value (.func 42), args := #[.tmp 23, .tmp 28, .tmp 29], argTypes := #[24, 22, 22] }) 22 (fun K hK => ?_)
    unfold bareOp
    refine OpW.out (wp_of_enter (run_call _ _ _ _ 42 Tryz.func42 (vs := #[(.agg #[.int .u64 P, .int .u64 Q, .int .u64 G]), .int .u64 x, .int .u64 s]) (by simp only [List.map_toArray, List.map_cons, List.map_nil]; rfl) rfl (by kernel_rfl) (by kernel_rfl)) (r31Power_any _ (by have := HR.o; omega) HR.o.2.1 HX.o.1 (by have := HX.o; have := HR.o; omega) (show U64 s by have := HR.o; unfold U64; omega) HPW.o) ?_)
    rintro e w7 ⟨rfl, hb7⟩
    refine ⟨_, rfl, ?_⟩
    replace F_g := Lh (F_g.o.keep hb7)
    replace F_o := Lh (F_o.o.keep hb7)
    replace F_p := Lh (F_p.o.keep hb7)
    replace HU := Lh (owns_below2 HU.o hb7)
    replace HE := Lh (owns_below2 HE.o hb7)
    replace HBW := Lh (HBW.o.trans (hb7.mono HBW.o.size))
    clear hS0
    have hS0 := And.intro F_g.o (And.intro F_p.o HBW.o)
    clear hb7
    refine hK.o _ _ (fun _ => hS0) ?_
    clear hK K
    try simp only [Act.put, sZ]
    refine onl (i := 10) (some 31) (.buildSlice 26 1 #[(0, .tmp 30)]) 26 (fun K hK => ?_)
    unfold bareOp
    refine OpW.out (wp_of_run (run_lit_u64 _ _ _ _ _ pw rfl) ?_)
    obtain ⟨bl, hbl⟩ : ∃ b, b = w7.heap.size := ⟨_, rfl⟩
    have HLT := Lh (cell_list_at w7 [.int .u64 pw] 22 bl hbl)
    have HAL := Lh (show Below w7.heap.size w7 (w7.alloc (.cells ([.int .u64 pw]).toArray 22)) from (Below.refl _ _).alloc (Nat.le_refl _) _)
    have HZL := Lh (show (w.heap.size + 1 + 1 + 1) ≤ (w7.alloc (.cells ([.int .u64 pw]).toArray 22)).heap.size by have := F_p.o.lt; simp; omega)
    rw [← hbl]
    replace F_g := Lh (F_g.o.keep HAL.o)
    replace F_o := Lh (F_o.o.keep HAL.o)
    replace F_p := Lh (F_p.o.keep HAL.o)
    replace HU := Lh (owns_below2 HU.o HAL.o)
    replace HE := Lh (owns_below2 HE.o HAL.o)
    replace HBW := Lh (HBW.o.trans (HAL.o.mono HBW.o.size))
    clear hbl hS0
    have hS0 := And.intro F_g.o (And.intro F_p.o HBW.o)
    refine hK.o _ _ (fun _ => hS0) ?_
    clear hK K
    try simp only [Act.put, sZ]
    refine onl (i := 11) (some 32) (.call { callee := .builtin .append, args := #[.tmp 22, .tmp 31], argTypes := #[26, 26] }) 26 (fun K hK => ?_)
    unfold bareOp
    refine wp_push_u64 (.tmp 22) (.tmp 31) rfl (w.heap.size + 1 + 1 + 1) i bl (.slice a5 i c5) ((pwI P s ps i).map (Value.int .u64)) pw rfl rfl HU.o HLT.o (by omega) HZL.o ?_
    intro v9 w9 hown hgr
    obtain ⟨a9, c9, rfl⟩ := own_slice hown
    have HN := Lh hown
    have HKB := Lh (Below.rowT (n := (w.heap.size + 1 + 1 + 1)) hgr (fun k hk => (World.ownsRow.lt HU.o k hk).1) HZL.o)
    replace HE := Lh (World.ownsRow.kept HE.o hgr (own_diffN HU.o HE.o (by decide)))
    clear hown hgr hS0
    replace F_g := Lh (F_g.o.keepN HKB.o (by omega))
    replace F_o := Lh (F_o.o.keepN HKB.o (by omega))
    replace F_p := Lh (F_p.o.keepN HKB.o (by omega))
    replace HBW := Lh (HBW.o.trans (HKB.o.mono (by omega)))
    refine hK.o _ _ lt8 ?_
    clear hK K
    try simp only [Act.put, sZ]
    refine tkP (i := 12) (some 33) (.fieldAddr 29 (.tmp 11) 1) 0 lt8 ?_
    simp only [Act.put, sZ]
    refine onl (i := 13) none (.store 26 (.tmp 33) (.tmp 32)) 0 (fun K hK => ?_)
    unfold bareOp
    have q1 := F_p.o.c 1 _ rfl
    have f1 := F_p.o.f 1
    go_wp2_with fail
    clear q1 f1
    replace F_g := Lh (F_g.o.far ⟨w.heap.size + 1 + 1, 1, none⟩ (.slice a9 (i + 1) c9) (by simp <;> omega))
    replace F_o := Lh (F_o.o.far ⟨w.heap.size + 1 + 1, 1, none⟩ (.slice a9 (i + 1) c9) (by simp <;> omega))
    replace F_p := Lh (F_p.o.set 1 (.slice a9 (i + 1) c9) (by simp) rfl)
    replace HBW := Lh (HBW.o.setCell (p := ⟨w.heap.size + 1 + 1, 1, none⟩) (by simp <;> omega) (.slice a9 (i + 1) c9))
    replace HN := Lh (own_far HN.o ⟨w.heap.size + 1 + 1, 1, none⟩ (.slice a9 (i + 1) c9) (by simp <;> omega))
    replace HE := Lh (own_far HE.o ⟨w.heap.size + 1 + 1, 1, none⟩ (.slice a9 (i + 1) c9) (by simp <;> omega))
    refine hK.o _ _ lt8 ?_
    clear hK K
    try simp only [Act.put, sZ]
    refine wpAnyB_done (by kernel_rfl) ?_ _
    go_wp2_with fail
    replace F_g := Lh F_g.o.drew
    replace F_o := Lh F_o.o.drew
    replace F_p := Lh F_p.o.drew
    replace HN := Lh (owns_below2 HN.o (Below.refl _ _).drew)
    replace HE := Lh (owns_below2 HE.o (Below.refl _ _).drew)
    replace HBW := Lh HBW.o.drew
    have hS0 := And.intro F_g.o (And.intro F_p.o HBW.o)
    refine wp_region_stage 18 (fun w' => Cl w' w.heap.size [.int .u64 P, .int .u64 Q, .int .u64 G] ∧ Cl w' (w.heap.size + 1 + 1) [.int .i64 t, .slice a9 (i + 1) c9, .slice a6 i c6] ∧ Below w.heap.size w w') (by kernel_rfl) ?_
    refine tkP (i := 0) (some 34) (.fieldAddr 29 (.tmp 11) 2) 0 (fun _ => hS0) ?_
    simp only [Act.put, sZ]
    refine tkL (i := 1) (some 35) (.load 27 (.tmp 34)) 27 [18] (v := ?_) hS0 (fun w' hSw => ?_) ?_
    rotate_left
    · obtain ⟨t1, t2, t3⟩ := hSw; have g0 := t1.c 0 _ rfl; have g1 := t1.c 1 _ rfl; have g2 := t1.c 2 _ rfl; have p0 := t2.c 0 _ rfl; have p1 := t2.c 1 _ rfl; have p2 := t2.c 2 _ rfl; have x0 := (t3.cell (p := ⟨s2, o2 + i * 2, none⟩) F_s.o.2).trans F_s.o.1.1; have kk0 := (t3.cell (p := ⟨s3, o3 + i, none⟩) F_k.o.2).trans F_k.o.1
      unfold bareOp; go_simp; try with_reducible rfl
    simp only [Act.put, sZ]
    refine tkL (i := 2) (some 36) (.load 24 (.tmp 5)) 24 [16, 17, 18] (v := ?_) hS0 (fun w' hSw => ?_) ?_
    rotate_left
    · obtain ⟨t1, t2, t3⟩ := hSw; have g0 := t1.c 0 _ rfl; have g1 := t1.c 1 _ rfl; have g2 := t1.c 2 _ rfl; have p0 := t2.c 0 _ rfl; have p1 := t2.c 1 _ rfl; have p2 := t2.c 2 _ rfl; have x0 := (t3.cell (p := ⟨s2, o2 + i * 2, none⟩) F_s.o.2).trans F_s.o.1.1; have kk0 := (t3.cell (p := ⟨s3, o3 + i, none⟩) F_k.o.2).trans F_k.o.1
      unfold bareOp; go_simp; try with_reducible rfl
    simp only [Act.put, sZ]
    refine tkP (i := 3) (some 37) (.move (.tmp 3)) 25 (fun _ => hS0) ?_
    simp only [Act.put, sZ]
    refine tkP (i := 4) (some 38) (.move (.tmp 12)) 3 (fun _ => hS0) ?_
    simp only [Act.put, sZ]
    refine tkP (i := 5) (some 39) (.indexAddr 25 (.tmp 37) (.tmp 38)) 0 (fun _ => hS0) ?_
    simp only [Act.put, sZ]
    refine tkP (i := 6) (some 40) (.fieldAddr 49 (.tmp 39) 0) 0 (fun _ => hS0) ?_
    simp only [Act.put, sZ]
    refine tkL (i := 7) (some 41) (.load 22 (.tmp 40)) 22 [16, 17, 18] (v := ?_) hS0 (fun w' hSw => ?_) ?_
    rotate_left
    · obtain ⟨t1, t2, t3⟩ := hSw; have g0 := t1.c 0 _ rfl; have g1 := t1.c 1 _ rfl; have g2 := t1.c 2 _ rfl; have p0 := t2.c 0 _ rfl; have p1 := t2.c 1 _ rfl; have p2 := t2.c 2 _ rfl; have x0 := (t3.cell (p := ⟨s2, o2 + i * 2, none⟩) F_s.o.2).trans F_s.o.1.1; have kk0 := (t3.cell (p := ⟨s3, o3 + i, none⟩) F_k.o.2).trans F_k.o.1
      unfold bareOp; go_simp; try with_reducible rfl
    simp only [Act.put, sZ]
    refine tkP (i := 8) (some 42) (.move (.tmp 2)) 22 (fun _ => hS0) ?_
    simp only [Act.put, sZ]
    refine tkP (i := 9) (some 43) (.move (.tmp 4)) 26 (fun _ => hS0) ?_
    simp only [Act.put, sZ]
    refine tkP (i := 10) (some 44) (.move (.tmp 12)) 3 (fun _ => hS0) ?_
    simp only [Act.put, sZ]
    refine tkP (i := 11) (some 45) (.indexAddr 26 (.tmp 43) (.tmp 44)) 0 (fun _ => hS0) ?_
    simp only [Act.put, sZ]
    refine tkL (i := 12) (some 46) (.load 22 (.tmp 45)) 22 [16, 17, 18] (v := ?_) hS0 (fun w' hSw => ?_) ?_
    rotate_left
    · obtain ⟨t1, t2, t3⟩ := hSw; have g0 := t1.c 0 _ rfl; have g1 := t1.c 1 _ rfl; have g2 := t1.c 2 _ rfl; have p0 := t2.c 0 _ rfl; have p1 := t2.c 1 _ rfl; have p2 := t2.c 2 _ rfl; have x0 := (t3.cell (p := ⟨s2, o2 + i * 2, none⟩) F_s.o.2).trans F_s.o.1.1; have kk0 := (t3.cell (p := ⟨s3, o3 + i, none⟩) F_k.o.2).trans F_k.o.1
      unfold bareOp; go_simp; try with_reducible rfl
    simp only [Act.put, sZ]
    refine tkP (i := 13) (some 47) (.move (.tmp 1)) 3 (fun _ => hS0) ?_
    simp only [Act.put, sZ]
    refine tkP (i := 14) (some 48) (.move (.tmp 12)) 3 (fun _ => hS0) ?_
    simp only [Act.put, sZ]
    refine onl (i := 15) (some 49) (.call { callee := .value (.func 44), args := #[.tmp 47, .tmp 48], argTypes := #[3, 3] }) 56 (fun K hK => ?_)
    unfold bareOp
    refine OpW.out (wp_of_enter (run_call _ _ _ _ 44 Tryz.func44 (vs := #[.int .i64 t, .int .i64 (i : Int)]) (by simp only [List.map_toArray, List.map_cons, List.map_nil]; rfl) rfl (by kernel_rfl) (by kernel_rfl)) (rctx_any _ (by omega) (by omega) (by omega) (by omega)) ?_)
    rintro e w7 ⟨sx, rfl, hsx, hb7⟩
    refine ⟨_, rfl, ?_⟩
    have HSX := Lh hsx
    replace HN := Lh (owns_below2 HN.o hb7)
    replace F_g := Lh (F_g.o.keep hb7)
    replace F_o := Lh (F_o.o.keep hb7)
    replace F_p := Lh (F_p.o.keep hb7)
    replace HE := Lh (owns_below2 HE.o hb7)
    replace HBW := Lh (HBW.o.trans (hb7.mono HBW.o.size))
    clear hS0
    have hS0 := And.intro F_g.o (And.intro F_p.o HBW.o)
    clear hb7 hsx
    refine hK.o _ _ (fun _ => hS0) ?_
    clear hK K
    try simp only [Act.put, sZ]
    refine onl (i := 16) (some 50) (.call { callee := .value (.func 43), args := #[.tmp 36, .tmp 41, .tmp 42, .tmp 46, .tmp 49], argTypes := #[24, 22, 22, 22, 56] }) 53 (fun K hK => ?_)
    unfold bareOp
    refine OpW.out (wp_of_enter (run_call _ _ _ _ 43 Tryz.func43 (vs := #[(.agg #[.int .u64 P, .int .u64 Q, .int .u64 G]), .int .u64 x, .int .u64 s, .int .u64 k, .slice (some ⟨sx, 0, none⟩) 2 2]) (by simp only [List.map_toArray, List.map_cons, List.map_nil]; rfl) rfl (by kernel_rfl) (by kernel_rfl)) (rEqualOf_any (R := z.r) (S := z.s) (Z := z.z) _ ⟨HT.o.below HBW.o, HSX.o, (by intro u hu; simp at hu; omega)⟩ HH.o HX.o.1 HX.o.2 s0 sQ HKK.o.1 HKK.o.2 (by omega) (by rw [HZ.o]) (by rw [HZ.o]) (by rw [HZ.o])) ?_)
    rintro e w8 ⟨rfl, hb8⟩
    refine ⟨_, rfl, ?_⟩
    replace HN := Lh (owns_below2 HN.o hb8)
    replace F_g := Lh (F_g.o.keep hb8)
    replace F_o := Lh (F_o.o.keep hb8)
    replace F_p := Lh (F_p.o.keep hb8)
    replace HE := Lh (owns_below2 HE.o hb8)
    replace HBW := Lh (HBW.o.trans (hb8.mono HBW.o.size))
    clear hS0
    have hS0 := And.intro F_g.o (And.intro F_p.o HBW.o)
    clear hb8 HSX
    refine hK.o _ _ (fun _ => hS0) ?_
    clear hK K
    try simp only [Act.put, sZ]
    refine onl (i := 17) (some 51) (.buildSlice 27 1 #[(0, .tmp 50)]) 27 (fun K hK => ?_)
    unfold bareOp
    refine OpW.out (wp_of_run (run_lit_eq _ _ _ _ _ z rfl) ?_)
    obtain ⟨bl, hbl⟩ : ∃ b, b = w8.heap.size := ⟨_, rfl⟩
    have HLT := Lh (cell_list_at w8 z.vs 53 bl hbl)
    have HAL := Lh (show Below w8.heap.size w8 (w8.alloc (.cells (z.vs).toArray 53)) from (Below.refl _ _).alloc (Nat.le_refl _) _)
    have HZL := Lh (show (w.heap.size + 1 + 1 + 1) ≤ (w8.alloc (.cells (z.vs).toArray 53)).heap.size by have := F_p.o.lt; simp; omega)
    rw [← hbl]
    replace F_g := Lh (F_g.o.keep HAL.o)
    replace F_o := Lh (F_o.o.keep HAL.o)
    replace F_p := Lh (F_p.o.keep HAL.o)
    replace HE := Lh (owns_below2 HE.o HAL.o)
    replace HBW := Lh (HBW.o.trans (HAL.o.mono HBW.o.size))
    replace HN := Lh (owns_below2 HN.o HAL.o)
    clear hbl hS0
    have hS0 := And.intro F_g.o (And.intro F_p.o HBW.o)
    refine hK.o _ _ (fun _ => hS0) ?_
    clear hK K
    try simp only [Act.put, sZ]
    refine onl (i := 18) (some 52) (.call { callee := .builtin .append, args := #[.tmp 35, .tmp 51], argTypes := #[27, 27] }) 27 (fun K hK => ?_)
    unfold bareOp
    refine wp_push_eq (.tmp 35) (.tmp 51) rfl (w.heap.size + 1 + 1 + 1) i bl (.slice a6 i c6) ((esI P Q G s t ps ns i).flatMap Eq3.vs) z rfl rfl HE.o HLT.o (by omega) HZL.o ?_
    intro v9 w9 hown hgr
    obtain ⟨a8, c8, rfl⟩ := own_slice hown
    have HM := Lh hown
    have HKB := Lh (Below.rowT (n := (w.heap.size + 1 + 1 + 1)) hgr (fun k hk => (World.ownsRow.lt HE.o k hk).1) HZL.o)
    replace HN := Lh (World.ownsRow.kept HN.o hgr (own_diffN HE.o HN.o (by decide)))
    clear hown hgr hS0
    replace F_g := Lh (F_g.o.keepN HKB.o (by omega))
    replace F_o := Lh (F_o.o.keepN HKB.o (by omega))
    replace F_p := Lh (F_p.o.keepN HKB.o (by omega))
    replace HBW := Lh (HBW.o.trans (HKB.o.mono (by omega)))
    refine hK.o _ _ lt8 ?_
    clear hK K
    try simp only [Act.put, sZ]
    refine tkP (i := 19) (some 53) (.fieldAddr 29 (.tmp 11) 2) 0 lt8 ?_
    simp only [Act.put, sZ]
    refine onl (i := 20) none (.store 27 (.tmp 53) (.tmp 52)) 0 (fun K hK => ?_)
    unfold bareOp
    have q2 := F_p.o.c 2 _ rfl
    have f2 := F_p.o.f 2
    go_wp2_with fail
    clear q2 f2
    replace F_g := Lh (F_g.o.far ⟨w.heap.size + 1 + 1, 2, none⟩ (.slice a8 (i + 1) c8) (by simp <;> omega))
    replace F_o := Lh (F_o.o.far ⟨w.heap.size + 1 + 1, 2, none⟩ (.slice a8 (i + 1) c8) (by simp <;> omega))
    replace F_p := Lh (F_p.o.set 2 (.slice a8 (i + 1) c8) (by simp) rfl)
    replace HBW := Lh (HBW.o.setCell (p := ⟨w.heap.size + 1 + 1, 2, none⟩) (by simp <;> omega) (.slice a8 (i + 1) c8))
    replace HN := Lh (own_far HN.o ⟨w.heap.size + 1 + 1, 2, none⟩ (.slice a8 (i + 1) c8) (by simp <;> omega))
    replace HM := Lh (own_far HM.o ⟨w.heap.size + 1 + 1, 2, none⟩ (.slice a8 (i + 1) c8) (by simp <;> omega))
    refine hK.o _ _ lt8 ?_
    clear hK K
    try simp only [Act.put, sZ]
    refine wpAnyB_done (by kernel_rfl) ?_ _
    go_wp2_with fail
    go_roundw
    case rel => exact ⟨i + 1, _, _, by omega, by go_num, F_g.o, F_o.o, F_p.o, (by rw [pwI_succ, HXP.o, List.map_append]; exact HN.o), (by rw [esI_succ, HXX.o, List.flatMap_append, List.flatMap_singleton]; exact HM.o), HBW.o⟩
    case measure => simp [intOf] <;> omega
open Go Go.RowKit Num Sha
def opChk (P Q G t s : Int) (ps : List (Int × Int)) (ns : List Int) : Int := if Has P Q G then (if numT Q t && decide (s < Q) && sumdS P ps && decide (ns.length = ps.length) && okAll Q ns then 0 else 2) else 300
def OpenR (w' : World) (P Q G t s : Int) (ps : List (Int × Int)) (ns : List Int) (e : Ending) : Prop :=
  ∃ v, e = .returned (.tuple #[v, .int .i64 (opChk P Q G t s ps ns)]) ∧ ((opChk P Q G t s ps ns = 0 ∧ PtRes w' t ps.length (pwI P s ps ps.length) (esI P Q G s t ps ns ps.length) v) ∨ (opChk P Q G t s ps ns ≠ 0 ∧ PtRes w' 0 0 [] [] v))
theorem OpenR.bad {w' : World} {P Q G t s c : Int} {ps : List (Int × Int)} {ns : List Int} (h : opChk P Q G t s ps ns = c) (h0 : c ≠ 0) : OpenR w' P Q G t s ps ns (.returned (.tuple #[.agg #[.int .i64 0, .slice none 0 0, .slice none 0 0], .int .i64 c])) :=
  ⟨_, by rw [h], .inr ⟨by rw [h]; exact h0, PtRes.nil _⟩⟩
theorem OpenR.good {w' : World} {P Q G t s : Int} {ps : List (Int × Int)} {ns : List Int} {v : Value} (h : opChk P Q G t s ps ns = 0) (hv : PtRes w' t ps.length (pwI P s ps ps.length) (esI P Q G s t ps ns ps.length) v) : OpenR w' P Q G t s ps ns (.returned (.tuple #[v, .int .i64 0])) :=
  ⟨_, by rw [h], .inl ⟨h, hv⟩⟩
theorem sumdS_bd {P : Int} {ps : List (Int × Int)} (h : sumdS P ps = true) (hu : ∀ q, q ∈ ps → U64 q.1 ∧ U64 q.2) : ∀ q, q ∈ ps → 0 ≤ q.1 ∧ q.1 < P := fun q hq => ⟨(hu q hq).1.1, ((sumdS_true h).2.2 q hq).1⟩
theorem okAll_bd {Q : Int} {ns : List Int} (h : okAll Q ns = true) (hu : ∀ x, x ∈ ns → U64 x) : ∀ x, x ∈ ns → 0 ≤ x ∧ x < Q := fun x hx => ⟨(hu x hx).1, by
 have := List.all_eq_true.1 h x hx
 simpa using this⟩
set_option maxHeartbeats 8000000 in
theorem rOpen_any {P Q G t s : Int} {a1 a2 : Option Addr} {n m c1 c2 : Nat} {ps : List (Int × Int)} {ns : List Int} (w : World) (hT : Tabs w) (hP : 0 ≤ P) (hQ : 0 ≤ Q) (hG : 0 ≤ G) (t0 : -9223372036854775808 ≤ t) (t1 : t ≤ 9223372036854775807) (us : U64 s) (h1 : ShS w a1 n ps) (hs : ∀ q, q ∈ ps → U64 q.1 ∧ U64 q.2) (h2 : ShI .u64 w a2 m ns) (hk : ∀ x, x ∈ ns → U64 x) :
    Calls Tryz.prog 7 #[(.agg #[.int .u64 P, .int .u64 Q, .int .u64 G]), .int .i64 t, .int .u64 s, .slice a1 n c1, .slice a2 m c2] w fun e w' => OpenR w' P Q G t s ps ns e ∧ Below w.heap.size w w' := by
  have HT := Lh hT
  have H1 := Lh h1
  have HS := Lh hs
  have H2 := Lh h2
  have HKS := Lh hk
  have HUS := Lh us
  have HL1 := Lh h1.len
  have HL2 := Lh h2.len
  clear hT h1 hs h2 hk us
  have F_g := Lh (show Cl ((w.alloc (.cells #[.int .u64 P, .int .u64 Q, .int .u64 G] 24)).alloc (.cells #[.int .i64 0, .slice none 0 0, .slice none 0 0] 29)) (w.heap.size) [.int .u64 P, .int .u64 Q, .int .u64 G] from (Cl.at w [.int .u64 P, .int .u64 Q, .int .u64 G] 24 (w.heap.size) (by simp)).alloc _)
  have F_o := Lh (show Cl ((w.alloc (.cells #[.int .u64 P, .int .u64 Q, .int .u64 G] 24)).alloc (.cells #[.int .i64 0, .slice none 0 0, .slice none 0 0] 29)) (w.heap.size + 1) [.int .i64 0, .slice none 0 0, .slice none 0 0] from Cl.at (w.alloc (.cells #[.int .u64 P, .int .u64 Q, .int .u64 G] 24)) [.int .i64 0, .slice none 0 0, .slice none 0 0] 29 (w.heap.size + 1) (by simp))
  have HBW := Lh (show Below w.heap.size w ((w.alloc (.cells #[.int .u64 P, .int .u64 Q, .int .u64 G] 24)).alloc (.cells #[.int .i64 0, .slice none 0 0, .slice none 0 0] 29)) from ((Below.refl _ _).alloc (by simp <;> omega) _).alloc (by simp <;> omega) _)
  go_enter Tryz.func7, Tryz.ntmps7
  have q_g_0 := F_g.o.c 0 _ rfl
  have q_g_1 := F_g.o.c 1 _ rfl
  have q_g_2 := F_g.o.c 2 _ rfl
  go_wp2_with fail
  clear q_g_0 q_g_1 q_g_2
  refine (rform_any _ hP hQ hG).mono ?_
  rintro e w1 ⟨rfl, hb1⟩
  replace F_g := Lh (F_g.o.keep hb1)
  replace F_o := Lh (F_o.o.keep hb1)
  replace HBW := Lh (HBW.o.trans (hb1.mono HBW.o.size))
  clear hb1
  by_cases hH : Has P Q G
  case neg =>
   have HF := Lh (show formS P Q G = 300 from if_neg hH)
   rw [HF.o]
   clear HF
   have HC := Lh (show opChk P Q G t s ps ns = 300 by unfold opChk; rw [if_neg hH])
   have o_c_0 := F_o.o.c 0 _ rfl
   have o_f_0 := F_o.o.f 0
   have o_c_1 := F_o.o.c 1 _ rfl
   have o_f_1 := F_o.o.f 1
   have o_c_2 := F_o.o.c 2 _ rfl
   have o_f_2 := F_o.o.f 2
   go_wp2_with fail
   have F_q := Lh (((F_o.o.set 0 (.int .i64 0) (by simp) rfl).set 1 (.slice none 0 0) (by simp) rfl).set 2 (.slice none 0 0) (by simp) rfl)
   refine bodyPost_ret (res_part rfl F_q.o _ rfl rfl) rfl ?_
   exact ⟨OpenR.bad HC.o (by decide), ((HBW.o.setCell (p := ⟨w.heap.size + 1, 0, none⟩) (by simp) _).setCell (p := ⟨w.heap.size + 1, 1, none⟩) (by simp) _).setCell (p := ⟨w.heap.size + 1, 2, none⟩) (by simp) _⟩
  case pos =>
  have HF := Lh (show formS P Q G = 0 from if_pos hH)
  have HH := Lh hH
  rw [HF.o]
  clear HF hH
  obtain ⟨b1, hb1⟩ : ∃ b, numT Q t = b := ⟨_, rfl⟩
  obtain ⟨b3, hb3⟩ : ∃ b, sumdS P ps = b := ⟨_, rfl⟩
  obtain ⟨b5, hb5⟩ : ∃ b, okAll Q ns = b := ⟨_, rfl⟩
  have HB1 := Lh hb1
  have HB3 := Lh hb3
  have HB5 := Lh hb5
  clear hb1 hb3 hb5
  have q_g_0 := F_g.o.c 0 _ rfl
  have q_g_1 := F_g.o.c 1 _ rfl
  have q_g_2 := F_g.o.c 2 _ rfl
  go_wp2_with fail
  clear q_g_0 q_g_1 q_g_2
  refine (rtnumbered_any _ t0 t1 HB1.o).mono ?_
  rintro e w2 ⟨rfl, hb2⟩
  replace F_g := Lh (F_g.o.keep hb2)
  replace F_o := Lh (F_o.o.keep hb2)
  replace HBW := Lh (HBW.o.trans (hb2.mono HBW.o.size))
  clear hb2
  cases b1 with
  | false =>
   have HC := Lh (show opChk P Q G t s ps ns = 2 by unfold opChk; rw [if_pos HH.o, HB1.o]; simp)
   have o_c_0 := F_o.o.c 0 _ rfl
   have o_f_0 := F_o.o.f 0
   have o_c_1 := F_o.o.c 1 _ rfl
   have o_f_1 := F_o.o.f 1
   have o_c_2 := F_o.o.c 2 _ rfl
   have o_f_2 := F_o.o.f 2
   go_wp2_with fail
   have F_q := Lh (((F_o.o.set 0 (.int .i64 0) (by simp) rfl).set 1 (.slice none 0 0) (by simp) rfl).set 2 (.slice none 0 0) (by simp) rfl)
   refine bodyPost_ret (res_part rfl F_q.o _ rfl rfl) rfl ?_
   exact ⟨OpenR.bad HC.o (by decide), ((HBW.o.setCell (p := ⟨w.heap.size + 1, 0, none⟩) (by simp) _).setCell (p := ⟨w.heap.size + 1, 1, none⟩) (by simp) _).setCell (p := ⟨w.heap.size + 1, 2, none⟩) (by simp) _⟩
  | true =>
   by_cases hsq : s < Q
   case neg =>
    have HNQ := Lh hsq
    have f2 : Q ≤ s := by omega
    have f2d : decide (Q ≤ s) = true := decide_eq_true f2
    have q_g_0 := F_g.o.c 0 _ rfl
    have q_g_1 := F_g.o.c 1 _ rfl
    have q_g_2 := F_g.o.c 2 _ rfl
    have HC := Lh (show opChk P Q G t s ps ns = 2 by unfold opChk; rw [if_pos HH.o, decide_eq_false HNQ.o]; simp)
    have o_c_0 := F_o.o.c 0 _ rfl
    have o_f_0 := F_o.o.f 0
    have o_c_1 := F_o.o.c 1 _ rfl
    have o_f_1 := F_o.o.f 1
    have o_c_2 := F_o.o.c 2 _ rfl
    have o_f_2 := F_o.o.f 2
    go_wp2_with fail
    have F_q := Lh (((F_o.o.set 0 (.int .i64 0) (by simp) rfl).set 1 (.slice none 0 0) (by simp) rfl).set 2 (.slice none 0 0) (by simp) rfl)
    refine bodyPost_ret (res_part rfl F_q.o _ rfl rfl) rfl ?_
    exact ⟨OpenR.bad HC.o (by decide), ((HBW.o.setCell (p := ⟨w.heap.size + 1, 0, none⟩) (by simp) _).setCell (p := ⟨w.heap.size + 1, 1, none⟩) (by simp) _).setCell (p := ⟨w.heap.size + 1, 2, none⟩) (by simp) _⟩
   case pos =>
   have HSQ := Lh hsq
   have f2 : ¬ (Q ≤ s) := by omega
   have f2d : decide (Q ≤ s) = false := decide_eq_false f2
   have q_g_0 := F_g.o.c 0 _ rfl
   have q_g_1 := F_g.o.c 1 _ rfl
   have q_g_2 := F_g.o.c 2 _ rfl
   go_wp2_with fail
   clear q_g_0 q_g_1 q_g_2
   refine (rsummed_any _ (H1.o.keep HBW.o) HB3.o).mono ?_
   rintro e w3 ⟨rfl, hb3⟩
   replace F_g := Lh (F_g.o.keep hb3)
   replace F_o := Lh (F_o.o.keep hb3)
   replace HBW := Lh (HBW.o.trans (hb3.mono HBW.o.size))
   clear hb3
   clear f2 f2d hsq
   cases b3 with
   | false =>
    have HC := Lh (show opChk P Q G t s ps ns = 2 by unfold opChk; rw [if_pos HH.o, HB3.o]; simp)
    have o_c_0 := F_o.o.c 0 _ rfl
    have o_f_0 := F_o.o.f 0
    have o_c_1 := F_o.o.c 1 _ rfl
    have o_f_1 := F_o.o.f 1
    have o_c_2 := F_o.o.c 2 _ rfl
    have o_f_2 := F_o.o.f 2
    go_wp2_with fail
    have F_q := Lh (((F_o.o.set 0 (.int .i64 0) (by simp) rfl).set 1 (.slice none 0 0) (by simp) rfl).set 2 (.slice none 0 0) (by simp) rfl)
    refine bodyPost_ret (res_part rfl F_q.o _ rfl rfl) rfl ?_
    exact ⟨OpenR.bad HC.o (by decide), ((HBW.o.setCell (p := ⟨w.heap.size + 1, 0, none⟩) (by simp) _).setCell (p := ⟨w.heap.size + 1, 1, none⟩) (by simp) _).setCell (p := ⟨w.heap.size + 1, 2, none⟩) (by simp) _⟩
   | true =>
    by_cases hmn : m = n
    case neg =>
     have HMN := Lh hmn
     have f3 : ¬ ((m : Int) = (n : Int)) := by omega
     have f3d : decide ((m : Int) = (n : Int)) = false := decide_eq_false f3
     have HC := Lh (show opChk P Q G t s ps ns = 2 by unfold opChk; rw [if_pos HH.o, decide_eq_false (show ¬ (ns.length = ps.length) by have := HMN.o; have := HL1.o; have := HL2.o; omega)]; simp)
     have o_c_0 := F_o.o.c 0 _ rfl
     have o_f_0 := F_o.o.f 0
     have o_c_1 := F_o.o.c 1 _ rfl
     have o_f_1 := F_o.o.f 1
     have o_c_2 := F_o.o.c 2 _ rfl
     have o_f_2 := F_o.o.f 2
     go_wp2_with fail
     have F_q := Lh (((F_o.o.set 0 (.int .i64 0) (by simp) rfl).set 1 (.slice none 0 0) (by simp) rfl).set 2 (.slice none 0 0) (by simp) rfl)
     refine bodyPost_ret (res_part rfl F_q.o _ rfl rfl) rfl ?_
     exact ⟨OpenR.bad HC.o (by decide), ((HBW.o.setCell (p := ⟨w.heap.size + 1, 0, none⟩) (by simp) _).setCell (p := ⟨w.heap.size + 1, 1, none⟩) (by simp) _).setCell (p := ⟨w.heap.size + 1, 2, none⟩) (by simp) _⟩
    case pos =>
    subst hmn
    have hn10 : m ≤ 10 := by have := (sumdS_true HB3.o).2.1; have := HL1.o; omega
    have q_g_0 := F_g.o.c 0 _ rfl
    have q_g_1 := F_g.o.c 1 _ rfl
    have q_g_2 := F_g.o.c 2 _ rfl
    go_wp2_with fail
    clear q_g_0 q_g_1 q_g_2
    refine (rtbelow_any _ (H2.o.keep HBW.o) (by omega)).mono ?_
    rintro e w4 ⟨rfl, hb4⟩
    replace F_g := Lh (F_g.o.keep hb4)
    replace F_o := Lh (F_o.o.keep hb4)
    replace HBW := Lh (HBW.o.trans (hb4.mono HBW.o.size))
    clear hb4
    rw [HB5.o]
    cases b5 with
    | false =>
     have HC := Lh (show opChk P Q G t s ps ns = 2 by unfold opChk; rw [if_pos HH.o, HB5.o]; simp)
     have o_c_0 := F_o.o.c 0 _ rfl
     have o_f_0 := F_o.o.f 0
     have o_c_1 := F_o.o.c 1 _ rfl
     have o_f_1 := F_o.o.f 1
     have o_c_2 := F_o.o.c 2 _ rfl
     have o_f_2 := F_o.o.f 2
     go_wp2_with fail
     have F_q := Lh (((F_o.o.set 0 (.int .i64 0) (by simp) rfl).set 1 (.slice none 0 0) (by simp) rfl).set 2 (.slice none 0 0) (by simp) rfl)
     refine bodyPost_ret (res_part rfl F_q.o _ rfl rfl) rfl ?_
     exact ⟨OpenR.bad HC.o (by decide), ((HBW.o.setCell (p := ⟨w.heap.size + 1, 0, none⟩) (by simp) _).setCell (p := ⟨w.heap.size + 1, 1, none⟩) (by simp) _).setCell (p := ⟨w.heap.size + 1, 2, none⟩) (by simp) _⟩
    | true =>
     have HC := Lh (show opChk P Q G t s ps ns = 0 by unfold opChk; rw [if_pos HH.o, HB1.o, decide_eq_true HSQ.o, HB3.o, decide_eq_true (show ns.length = ps.length by have := HL1.o; have := HL2.o; omega), HB5.o]; rfl)
     obtain ⟨tl, tu, tq⟩ := numT_true HB1.o
     have q_g_0 := F_g.o.c 0 _ rfl
     have q_g_1 := F_g.o.c 1 _ rfl
     have q_g_2 := F_g.o.c 2 _ rfl
     go_wp2_with fail
     clear q_g_0 q_g_1 q_g_2
     refine (rPartOf_any _ (HT.o.below HBW.o) HH.o tl tu HUS.o.1 HSQ.o (H1.o.keep HBW.o) (sumdS_bd HB3.o HS.o) hn10 (H2.o.keep HBW.o) rfl (okAll_bd HB5.o HKS.o)).mono ?_
     rintro e w5 ⟨⟨v5, rfl, hv5⟩, hb5⟩
     obtain ⟨a5, c5, a6, c6, rfl, ho5, ho6⟩ := hv5
     have HO5 := Lh ho5
     have HO6 := Lh ho6
     have HLW := Lh F_o.o.lt
     clear ho5 ho6
     replace F_g := Lh (F_g.o.keep hb5)
     replace F_o := Lh (F_o.o.keep hb5)
     replace HBW := Lh (HBW.o.trans (hb5.mono HBW.o.size))
     clear hb5
     have o_c_0 := F_o.o.c 0 _ rfl
     have o_f_0 := F_o.o.f 0
     have o_c_1 := F_o.o.c 1 _ rfl
     have o_f_1 := F_o.o.f 1
     have o_c_2 := F_o.o.c 2 _ rfl
     have o_f_2 := F_o.o.f 2
     go_wp2_with fail
     have F_q := Lh (((F_o.o.set 0 (.int .i64 t) (by simp) rfl).set 1 (.slice a5 m c5) (by simp) rfl).set 2 (.slice a6 m c6) (by simp) rfl)
     refine bodyPost_ret (res_part rfl F_q.o _ rfl rfl) rfl ?_
     exact ⟨OpenR.good HC.o (by rw [← HL1.o]; exact PtRes.of_owned (own_far (own_far (own_far HO5.o ⟨w.heap.size + 1, 0, none⟩ _ (by have := HLW.o; simp; omega)) ⟨w.heap.size + 1, 1, none⟩ _ (by have := HLW.o; simp; omega)) ⟨w.heap.size + 1, 2, none⟩ _ (by have := HLW.o; simp; omega)) (own_far (own_far (own_far HO6.o ⟨w.heap.size + 1, 0, none⟩ _ (by have := HLW.o; simp; omega)) ⟨w.heap.size + 1, 1, none⟩ _ (by have := HLW.o; simp; omega)) ⟨w.heap.size + 1, 2, none⟩ _ (by have := HLW.o; simp; omega))), ((HBW.o.setCell (p := ⟨w.heap.size + 1, 0, none⟩) (by simp) _).setCell (p := ⟨w.heap.size + 1, 1, none⟩) (by simp) _).setCell (p := ⟨w.heap.size + 1, 2, none⟩) (by simp) _⟩
end Go.Proofs.YtkjkdfhjfnoalaaGreatDoor
