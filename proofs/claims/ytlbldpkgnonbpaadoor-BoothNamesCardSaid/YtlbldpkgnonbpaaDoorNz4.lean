/- BoothNames: what its calls answer. -/
import Derived.Test.YtlbldpkgnonbpaaDoorNzX
import Derived.Test.YtlbldpkgnonbpaaDoorNz3
set_option linter.unusedSimpArgs false
set_option linter.unusedVariables false
set_option maxRecDepth 100000
namespace Go.Proofs.YtlbldpkgnonbpaaDoor
open Go Go.RowKit Num Sha
theorem Calls.via {f : FuncId} {args : Array Value} {w0 wc : World} {Q : Ending → World → Prop} {R : Ending → World → Prop} (hb : Below w0.heap.size w0 wc) (hc : Below w0.heap.size w0 wc → Calls Tryd.prog f args wc fun e w' => Q e w' ∧ Below wc.heap.size wc w') (hk : ∀ e w', Q e w' → Below w0.heap.size w0 w' → R e w') : Calls Tryd.prog f args wc R :=
  (hc hb).mono fun e w' h => hk e w' h.1 (hb.trans (h.2.mono hb.size))
theorem BW.alloc {w w' : World} (h : Below w.heap.size w w') (o : Obj) : Below w.heap.size w (w'.alloc o) := Below.alloc h h.size o
theorem BW.drew {w w' : World} (h : Below w.heap.size w w') : Below w.heap.size w w'.drew := Below.drew h
theorem BoIn.alloc {w : World} {B : Bo} (h : BoIn w B) (o : Obj) : BoIn (w.alloc o) B := h.keep ((Below.refl _ _).alloc (Nat.le_refl _) o)
def zero67 : List Int := List.replicate 67 0
theorem bytes_zero (w : World) : Calls Tryd.prog 10 #[.agg #[.slice none 0 0, .slice none 0 0, .bool false, .int .u64 0, .int .u64 0, .int .u64 0, .int .u64 0, .int .u64 0, .int .u64 0, .int .u64 0, .int .u64 0]] w fun e w' => (∃ a c, e = .returned (.tuple #[.slice a 67 c, .int .i64 0]) ∧ ShI .u8 w' a 67 zero67) ∧ Below w.heap.size w w' := by
 have hr : bytesF zeroV = (0, zero67) := by decide +kernel
 refine (bBytes_any (V := zeroV) (er := 0) (bs := zero67) w (zeroV_in w) hr).mono ?_
 rintro e w' ⟨v, rfl, ho, hb⟩
 obtain ⟨a, c, rfl, hs⟩ := ho.shi
 exact ⟨⟨a, c, rfl, hs⟩, hb⟩
theorem seal_err {y n er : Int} {a : Option Addr} {m c : Nat} {ms : List Int} {one : Bool} (w : World) (hT : Tabs w) (hy : 0 ≤ y) (hS : ShI .i64 w a m ms) (hkc : a = none → c = 0) (hu : ∀ x, x ∈ ms → -9223372036854775808 ≤ x ∧ x ≤ 9223372036854775807) (hm : m ≤ 9223372036854775807) (hE : sealE 23 11 4 y n ms one = er) (he : er ≠ 0) :
    Calls Tryd.prog 24 #[.agg #[.int .u64 23, .int .u64 11, .int .u64 4], .int .u64 y, .int .i64 n, .slice a m c, .bool one, .agg (valV .u8 (seedZ 0))] w fun e w' => e = .returned (.tuple #[.agg #[.slice none 0 0, .slice none 0 0, .bool false, .int .u64 0, .int .u64 0, .int .u64 0, .int .u64 0, .int .u64 0, .int .u64 0, .int .u64 0, .int .u64 0], .agg #[.slice none 0 0, .slice none 0 0], .int .i64 er]) ∧ Below w.heap.size w w' := by
  refine (seal_any (P := 23) (Q := 11) (G := 4) (y := y) (n := n) (ms := ms) (seed := seedZ 0) w hT (by decide) (by decide) (by decide) hy hS hkc hu hm rfl (seedZ_bytes (by decide))).mono ?_
  rintro e w' hs
  obtain ⟨hb, ⟨er', h1, rfl, -, h3⟩ | ⟨h0, -⟩⟩ := hs.cases
  · rw [h3 (by rw [hE]; exact he), hE]; exact ⟨rfl, hb⟩
  · rw [hE] at h0; exact absurd h0 he
theorem sealE_a : sealE 23 11 4 18 2 [1, 0] false = 2 := by rw [sealE, if_neg (by rw [chk_s]; simp), if_neg (by decide)]
theorem sealE_b : sealE 23 11 4 18 2 [0, 1] true = 2 := by rw [sealE, if_neg (by rw [chk_s]; simp), if_neg (by decide)]
theorem sealE_c : sealE 23 11 4 18 11 [] true = 2 := by
 have h : chkB 23 11 4 18 11 = 2 := by unfold chkB; rw [if_neg (Classical.not_not.2 has_small), if_pos (by omega)]
 rw [sealE, if_pos (by rw [h]; decide), h]
theorem sealE_d : sealE 23 11 4 23 2 [] true = 2 := by
 have h : chkB 23 11 4 23 2 = 2 := by unfold chkB; rw [if_neg (Classical.not_not.2 has_small), if_pos (by omega)]
 rw [sealE, if_pos (by rw [h]; decide), h]
theorem read_err {w : World} {a : Option Addr} {n0 c0 : Nat} {xs : List Int} {er : Int} (hS : ShI .u8 w a n0 xs) (hu : Bytes xs) (hc : n0 ≤ c0) (hl : n0 ≤ 2000) (hr : (readF xs).1 = er) :
    Calls Tryd.prog 14 #[.slice a n0 c0] w fun e w' => (∃ V : Vt, e = .returned (.tuple #[V.v, .int .i64 er])) ∧ Below w.heap.size w w' := by
  refine (bRead_any hS hu hc hl).mono ?_
  rintro e w' ⟨V, rfl, -, -, -, -, -, hb⟩
  exact ⟨⟨V, by rw [hr]⟩, hb⟩
theorem ShI.lit3 (q : IntKind) (w : World) (x y z : Int) (T : TypeId) (s : Nat) (hs : s = w.heap.size) : ShI q (w.alloc (.cells #[.int q x, .int q y, .int q z] T)) (some ⟨s, 0, none⟩) 3 [x, y, z] := by
 subst hs
 refine .inr ⟨w.heap.size, 0, rfl, rfl, by simp, fun i hi => ?_⟩
 rw [World.cell?_alloc_new]
 have : i = 0 ∨ i = 1 ∨ i = 2 := by simp at hi; omega
 rcases this with rfl | rfl | rfl <;> rfl
theorem ShI.lit2 (q : IntKind) (w : World) (x y : Int) (T : TypeId) (s : Nat) (hs : s = w.heap.size) : ShI q (w.alloc (.cells #[.int q x, .int q y] T)) (some ⟨s, 0, none⟩) 2 [x, y] := by
 subst hs
 refine .inr ⟨w.heap.size, 0, rfl, rfl, by simp, fun i hi => ?_⟩
 rw [World.cell?_alloc_new]
 have : i = 0 ∨ i = 1 := by simp at hi; omega
 rcases this with rfl | rfl <;> rfl
def elevenV (b : Nat) : Vt := ⟨some ⟨b, 0, none⟩, 11, 11, List.replicate 11 (0, 0), none, 0, 0, [], false, Bt.zero⟩
def zeros22 : Array Value := #[.int .u64 0, .int .u64 0, .int .u64 0, .int .u64 0, .int .u64 0, .int .u64 0, .int .u64 0, .int .u64 0, .int .u64 0, .int .u64 0, .int .u64 0, .int .u64 0, .int .u64 0, .int .u64 0, .int .u64 0, .int .u64 0, .int .u64 0, .int .u64 0, .int .u64 0, .int .u64 0, .int .u64 0, .int .u64 0]
theorem eleven_in (w : World) (T : TypeId) (b : Nat) (hb : b = w.heap.size) : VtIn (w.alloc (.cells zeros22 T)) (elevenV b) := by
 subst hb
 refine ⟨.inr ⟨w.heap.size, 0, rfl, rfl, by simp, fun i hi => ?_⟩, ?_, ?_, .inl ⟨rfl, rfl⟩, ?_, fun _ => rfl, ?_⟩
 · have h : i < 11 := hi
   rw [World.cell?_alloc_new, World.cell?_alloc_new]
   have : i = 0 ∨ i = 1 ∨ i = 2 ∨ i = 3 ∨ i = 4 ∨ i = 5 ∨ i = 6 ∨ i = 7 ∨ i = 8 ∨ i = 9 ∨ i = 10 := by omega
   rcases this with rfl | rfl | rfl | rfl | rfl | rfl | rfl | rfl | rfl | rfl | rfl <;> exact ⟨rfl, rfl⟩
 · intro q hq
   have : q = (0, 0) := List.eq_of_mem_replicate hq
   subst this
   simp [U64]
 · intro h; cases h
 · intro q hq; cases hq
 · simp [elevenV, Bt.zero, Bt.u, U64]
theorem code_many {w : World} {V : Vt} (hT : Tabs w) (hV : VtIn w V) (hn : 10 < V.n) :
    Calls Tryd.prog 12 #[V.v] w fun e w' => e = .returned (.tuple #[.agg (valV .u8 zero32), .int .i64 4]) ∧ Below w.heap.size w w' :=
  bCode_any w hT hV (by unfold codeF; rw [if_pos (.inl hn)])
theorem matches_bad {V : Vt} {R : Rv} (w : World) (hT : Tabs w) (hV : VtIn w V) (hR : RvIn w R) (hrn : R.n ≤ 1000) (h1 : ¬ rangeP 11 2 R) :
    Calls Tryd.prog 26 #[.agg #[.int .u64 23, .int .u64 11, .int .u64 4], .int .u64 18, .int .i64 2, V.v, R.v] w fun e w' => e = .returned (.tuple #[.bool false, .int .i64 2]) ∧ Below w.heap.size w w' := by
  refine (matches_any (P := 23) (Q := 11) (G := 4) (y := 18) (n := 2) w hT (by decide) (by decide) (by decide) (by decide) hV hR hrn).mono ?_
  rintro e w' ⟨hb, ⟨hc, -⟩ | ⟨-, ⟨hr, rfl⟩ | ⟨hr, v, rfl, hv⟩⟩⟩
  · exact absurd chk_s hc
  · exact ⟨rfl, hb⟩
  · exact absurd hr h1
theorem matches_no {V : Vt} {R : Rv} (w : World) (hT : Tabs w) (hV : VtIn w V) (hR : RvIn w R) (hrn : R.n ≤ 1000) (h1 : rangeP 11 2 R) (h2 : ¬ matchP 23 4 18 2 V R) :
    Calls Tryd.prog 26 #[.agg #[.int .u64 23, .int .u64 11, .int .u64 4], .int .u64 18, .int .i64 2, V.v, R.v] w fun e w' => e = .returned (.tuple #[.bool false, .int .i64 0]) ∧ Below w.heap.size w w' := by
  refine (matches_any (P := 23) (Q := 11) (G := 4) (y := 18) (n := 2) w hT (by decide) (by decide) (by decide) (by decide) hV hR hrn).mono ?_
  rintro e w' ⟨hb, ⟨hc, -⟩ | ⟨-, ⟨hr, -⟩ | ⟨hr, v, rfl, hv⟩⟩⟩
  · exact absurd chk_s hc
  · exact absurd h1 hr
  · cases v with
    | false => exact ⟨rfl, hb⟩
    | true => exact absurd (hv.1 rfl) h2
def oddB (b : Nat) : Bo := ⟨none, 0, 0, [], none, 0, 0, [], some ⟨b, 0, none⟩, 1, 1, [⟨none, 0, 0, [], none, 0, 0, []⟩]⟩
theorem oddB_sm (b : Nat) : BoSm (oddB b) := ⟨by simp [oddB], by simp [oddB], (fun R h => by simp [oddB] at h; subst h; exact ⟨Nat.zero_le _, Nat.zero_le _⟩), (fun V h => by cases h)⟩
theorem oddB_no {one : Bool} {b : Nat} : ¬ boothP 23 11 4 18 2 one (oddB b) := fun h => by have := h.lr; simp [oddB] at this
theorem cast_err {B : Bo} {V : Vt} {one : Bool} {er : Int} (w : World) (hT : Tabs w) (hB : BoIn w B) (hs : BoSm B) (hV : VtIn w V) (hn : V.n ≤ 10000) (hm : V.m ≤ 10000) (he : er ≠ 0) (h : ∀ k e', AdmS 23 11 4 18 2 one B V k e' → e' = er) :
    Calls Tryd.prog 19 #[.agg #[.int .u64 23, .int .u64 11, .int .u64 4], .int .u64 18, .int .i64 2, .bool one, B.v, V.v] w fun e w' => e = .returned (.tuple #[.agg #[.slice none 0 0, .slice none 0 0, .slice none 0 0], .int .i64 er]) ∧ Below w.heap.size w w' := by
  refine (cast_any (P := 23) (Q := 11) (G := 4) (y := 18) (n := 2) w hT (by decide) (by decide) (by decide) (by decide) hB hs hV hn hm).mono ?_
  rintro e w' ⟨hb, k, e', ha, ⟨-, rfl⟩ | ⟨h0, -⟩⟩
  · rw [h k e' ha]; exact ⟨rfl, hb⟩
  · exact absurd ((h k e' ha).symm.trans h0) he
theorem cast_fine {V : Vt} {one : Bool} (w : World) (hT : Tabs w) (hV : VtIn w V) (hn : V.n ≤ 10000) (hm : V.m ≤ 10000) (hg : goodV 23 11 4 18 2 one V) :
    Calls Tryd.prog 19 #[.agg #[.int .u64 23, .int .u64 11, .int .u64 4], .int .u64 18, .int .i64 2, .bool one, .agg #[.slice none 0 0, .slice none 0 0, .slice none 0 0], V.v] w fun e w' => (∃ B : Bo, e = .returned (.tuple #[B.v, .int .i64 0]) ∧ BoIn w' B ∧ (B.n = 1 ∧ B.m = 0 ∧ B.k = 0 ∧ SameB B [V] [] []) ∧ ∀ r, r < w.heap.size → offBo r B) ∧ Below w.heap.size w w' := by
  refine (cast_any (P := 23) (Q := 11) (G := 4) (y := 18) (n := 2) (B := nilB) w hT (by decide) (by decide) (by decide) (by decide) (nilB_in w) nilB_sm hV hn hm).mono ?_
  rintro e w' ⟨hb, k, e', ha, h⟩
  obtain ⟨h0, hk⟩ := ha.ok chk_s nilB_ok hg (by simp [nilB, cds])
  rcases h with ⟨h1, -⟩ | ⟨-, ⟨h1, -⟩ | ⟨-, B', rfl, h3, h4, h5, h6, h7, -, h8⟩⟩
  · exact absurd h0 h1
  · rw [hk] at h1; simp [nilB] at h1
  · exact ⟨⟨B', rfl, h3, ⟨h4, h5, h6, h7⟩, h8⟩, hb⟩
theorem chal_seen {B : Bo} {V : Vt} {R : Rv} {one : Bool} (w : World) (hT : Tabs w) (hB : BoIn w B) (h1 : B.n = 1) (h2 : B.m = 0) (h3 : B.k = 0) (hS : SameB B [V] [] []) (hV : VtIn w V) (hR : RvIn w R) (hn : V.n ≤ 1000) (hm : V.m ≤ 1000) (hrn : R.n ≤ 1000) (hrm : R.m ≤ 1000) (hg : goodV 23 11 4 18 2 one V) :
    Calls Tryd.prog 20 #[.agg #[.int .u64 23, .int .u64 11, .int .u64 4], .int .u64 18, .int .i64 2, .bool one, B.v, V.v, R.v] w fun e w' => e = .returned (.tuple #[.agg #[.slice none 0 0, .slice none 0 0, .slice none 0 0], .int .i64 361]) ∧ Below w.heap.size w w' := by
  have hl2 : B.l' = [] := List.eq_nil_of_length_eq_zero (by have := hB.h2.len; omega)
  have hl3 : B.rs = [] := List.eq_nil_of_length_eq_zero (by have := hB.h3.len; omega)
  have hok : boothP 23 11 4 18 2 one B := booth_cast (B := nilB) nilB_ok hg (by simp [nilB, cds]) (by decide) (by rw [h1]; rfl) (by rw [h2]; rfl) (by rw [h3]; rfl) hS
  have hsn : V.cd ∈ cds (B.l ++ B.l') := seen_cast (B := nilB) hS
  have hsm : BoSm B := ⟨by omega, by omega, (fun X h => by rw [hl3] at h; cases h), fun X hX => by
   rw [hl2, List.append_nil] at hX
   obtain ⟨Z, hZ, e⟩ := keys_mem Vt.key hS.k1 hX
   rw [List.mem_singleton] at hZ
   subst hZ
   obtain ⟨e1, -, e3, -⟩ := Vt.same_of_key e
   omega⟩
  refine (chal_any (P := 23) (Q := 11) (G := 4) (y := 18) (n := 2) w hT (by decide) (by decide) (by decide) (by decide) hB hsm hV hR (by omega) (by omega) hrn hrm).mono ?_
  rintro e w' ⟨hb, k, e', ha, h⟩
  have h0 := ha.seen chk_s hok hg hsn
  rcases h with ⟨-, rfl⟩ | ⟨h1, -⟩
  · rw [h0]; exact ⟨rfl, hb⟩
  · rw [h0] at h1; cases h1
theorem chal_no {V : Vt} {R : Rv} {one : Bool} (w : World) (hT : Tabs w) (hV : VtIn w V) (hR : RvIn w R) (hn : V.n ≤ 1000) (hm : V.m ≤ 1000) (hrn : R.n ≤ 1000) (hrm : R.m ≤ 1000) (hg : goodV 23 11 4 18 2 one V) (hno : ¬ matchP 23 4 18 2 V R) :
    Calls Tryd.prog 20 #[.agg #[.int .u64 23, .int .u64 11, .int .u64 4], .int .u64 18, .int .i64 2, .bool one, .agg #[.slice none 0 0, .slice none 0 0, .slice none 0 0], V.v, R.v] w fun e w' => e = .returned (.tuple #[.agg #[.slice none 0 0, .slice none 0 0, .slice none 0 0], .int .i64 362]) ∧ Below w.heap.size w w' := by
  refine (chal_any (P := 23) (Q := 11) (G := 4) (y := 18) (n := 2) (B := nilB) w hT (by decide) (by decide) (by decide) (by decide) (nilB_in w) nilB_sm hV hR (by omega) (by omega) hrn hrm).mono ?_
  rintro e w' ⟨hb, k, e', ha, h⟩
  obtain ⟨h0, hk⟩ := ha.ok chk_s nilB_ok hg (by simp [nilB, cds])
  rcases h with ⟨h1, -⟩ | ⟨-, ⟨-, rfl⟩ | ⟨h1, -⟩⟩
  · exact absurd h0 h1
  · exact ⟨rfl, hb⟩
  · exact absurd h1.2 hno
theorem enc_differ : ∀ r : Nat, r < 11 → encP 23 4 18 1 (r : Int) ≠ encP 23 4 18 0 (r : Int) := by decide +kernel
theorem not_match {V : Vt} {R : Rv} {b : Option Addr} {n c : Nat} (w : World) (hR : RvIn w R) (hms : R.ms = [0, 1]) (h1 : rangeP 11 2 R) (h2 : matchP 23 4 18 2 V R) : ¬ matchP 23 4 18 2 V ⟨b, n, c, [0], R.b, R.m, R.d, R.ns⟩ := by
 intro h3
 have a1 := h2.2 1 (by decide)
 have a2 := h3.2 1 (by decide)
 rw [a1] at a2
 rw [hms] at a2
 have hl : R.ns.length = 2 := by have := hR.h2.len; have := h1.1; omega
 have hmem : R.ns.getD 1 0 ∈ R.ns := by rw [List.getD_eq_getElem?_getD, List.getElem?_eq_getElem (by omega)]; exact List.getElem_mem _
 have hr0 : 0 ≤ R.ns.getD 1 0 := (hR.u2 _ hmem).1
 have hr1 : R.ns.getD 1 0 < 11 := by
  refine Classical.byContradiction fun hc => h1.2.1 ⟨_, hmem, by omega⟩
 have := enc_differ (R.ns.getD 1 0).toNat (by omega)
 rw [Int.toNat_of_nonneg hr0] at this
 exact this a2
end Go.Proofs.YtlbldpkgnonbpaaDoor
