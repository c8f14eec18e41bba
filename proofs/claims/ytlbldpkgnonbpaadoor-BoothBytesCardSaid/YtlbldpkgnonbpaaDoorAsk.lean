/- The checks of a group, of exponents and of numbers: elgamal.check, schnorr.check, proof.check, and the reference's Asked. -/
import Derived.Test.YtlbldpkgnonbpaaDoorGen
import Derived.Test.YtlbldpkgnonbpaaDoorRfs
import Derived.Test.YtlbldpkgnonbpaaDoorBoxed
namespace Go.Proofs.YtlbldpkgnonbpaaDoor
open Go.RowKit Num
set_option linter.unusedSimpArgs false
set_option linter.unusedVariables false

/-- A slice of numbers: nil, or a row of cells. -/
def ShL (w : World) (a : Option Addr) (n c : Nat) (xs : List Int) : Prop :=
  (a = none ∧ n = 0 ∧ c = 0 ∧ xs = []) ∨ ∃ s, a = some ⟨s, 0, none⟩ ∧ n = xs.length ∧ s < w.heap.size ∧ ∀ i, i < xs.length → w.cell? ⟨s, i, none⟩ = some (.int .u64 (xs.getD i 0))
theorem ShL.len {w : World} {a : Option Addr} {n c : Nat} {xs : List Int} (h : ShL w a n c xs) : n = xs.length := by
  rcases h with ⟨_, h1, _, h2⟩ | ⟨s, _, h1, _⟩
  · rw [h1, h2]; rfl
  · exact h1
theorem ShL.keep {w w' : World} {a : Option Addr} {n c : Nat} {xs : List Int} (h : ShL w a n c xs) (hb : Below w.heap.size w w') : ShL w' a n c xs := by
  rcases h with h | ⟨s, h0, h1, h2, h3⟩
  · exact .inl h
  · exact .inr ⟨s, h0, h1, Nat.lt_of_lt_of_le h2 hb.size, fun i hi => (hb.cell (p := ⟨s, i, none⟩) h2).trans (h3 i hi)⟩
theorem ShL.drew {w : World} {a : Option Addr} {n c : Nat} {xs : List Int} (h : ShL w a n c xs) : ShL w.drew a n c xs := h.keep (Below.refl _ _).drew
theorem ShL.alloc {w : World} {a : Option Addr} {n c : Nat} {xs : List Int} (h : ShL w a n c xs) (o : Obj) : ShL (w.alloc o) a n c xs := h.keep ((Below.refl _ _).alloc (Nat.le_refl _) o)
theorem ShL.nil (w : World) : ShL w none 0 0 [] := .inl ⟨rfl, rfl, rfl, rfl⟩
theorem getD_map (xs : List Int) (i : Nat) (h : i < xs.length) : (xs.map (Value.int IntKind.u64)).toArray[i]? = some (.int .u64 (xs.getD i 0)) := by
  simp [h, List.getD_eq_getElem?_getD]
/-- A row that has just been laid. -/
theorem ShL.new (w : World) (xs : List Int) (vs : Array Value) (T : TypeId) (n c : Nat) (hn : n = xs.length) (hv : vs = (xs.map (Value.int IntKind.u64)).toArray) : ShL (w.alloc (.cells vs T)) (some ⟨w.heap.size, 0, none⟩) n c xs := by
  refine .inr ⟨w.heap.size, rfl, hn, by simp, fun i hi => ?_⟩
  rw [World.cell?_alloc_new, hv, getD_map xs i hi]
theorem ShL.at {w : World} {a : Option Addr} {n c : Nat} {xs : List Int} (h : ShL w a n c xs) (k : Nat) (hk : k < n) : ∃ s, a = some ⟨s, 0, none⟩ ∧ w.cell? ⟨s, k, none⟩ = some (.int .u64 (xs.getD k 0)) := by
  rcases h with ⟨_, h1, _, _⟩ | ⟨s, h0, h1, _, h3⟩
  · omega
  · exact ⟨s, h0, h3 k (by omega)⟩

/-- The error of a group, of exponents and of numbers. -/
def askS (P Q G : Int) (es ns : List Int) : Int := if Has P Q G then (if okAll Q es && okAll P ns then 0 else 2) else 300
theorem askS_zero {P Q G : Int} {es ns : List Int} (h : askS P Q G es ns = 0) : Has P Q G ∧ (∀ x, x ∈ es → x < Q) ∧ ∀ x, x ∈ ns → x < P := by
  unfold askS at h
  by_cases hH : Has P Q G
  · rw [if_pos hH] at h
    refine ⟨hH, ?_⟩
    by_cases ho : (okAll Q es && okAll P ns) = true
    · rw [Bool.and_eq_true] at ho
      exact ⟨fun x hx => by simpa using List.all_eq_true.1 ho.1 x hx, fun x hx => by simpa using List.all_eq_true.1 ho.2 x hx⟩
    · rw [if_neg ho] at h; omega
  · rw [if_neg hH] at h; omega
theorem askS_ok {P Q G : Int} {es ns : List Int} (hH : Has P Q G) (h1 : ∀ x, x ∈ es → x < Q) (h2 : ∀ x, x ∈ ns → x < P) : askS P Q G es ns = 0 := by
  rw [askS, if_pos hH, if_pos]
  rw [Bool.and_eq_true]
  exact ⟨List.all_eq_true.2 fun x hx => by simpa using h1 x hx, List.all_eq_true.2 fun x hx => by simpa using h2 x hx⟩
theorem askS_no {P Q G : Int} {es ns : List Int} (hH : ¬ Has P Q G) : askS P Q G es ns = 300 := by rw [askS, if_neg hH]
theorem askS_e {P Q G : Int} {es ns : List Int} (hH : Has P Q G) (h : okAll Q es = false) : askS P Q G es ns = 2 := by rw [askS, if_pos hH, h]; rfl
theorem askS_n {P Q G : Int} {es ns : List Int} (hH : Has P Q G) (h : okAll P ns = false) : askS P Q G es ns = 2 := by rw [askS, if_pos hH, h, Bool.and_false]; rfl
theorem okAll_end (L : Int) (xs : List Int) (k : Nat) (hk : k = xs.length) (h : okAll L (xs.take k) = true) : okAll L xs = true := by
  rw [hk, List.take_length] at h; exact h

set_option maxHeartbeats 1600000 in
theorem echeck_any {P Q G r : Int} {es ns : List Int} {a b : Option Addr} {n c m d : Nat} (w : World) (hP : 0 ≤ P) (hQ : 0 ≤ Q) (hG : 0 ≤ G) (ha : ShL w a n c es) (hb : ShL w b m d ns) (hn : n ≤ 20) (hm : m ≤ 20) (hr : askS P Q G es ns = r) :
    Calls Tryd.prog 71 #[.agg #[.int .u64 P, .int .u64 Q, .int .u64 G], .slice a n c, .slice b m d] w fun e w' => e = .returned (.int .i64 r) ∧ Below w.heap.size w w' := by
  have HR := Lib.hid hr
  clear hr
  have hx0 := Boxed.new w P Q G 49
  have HA := Lib.hid ha
  have HB := Lib.hid hb
  clear ha hb
  by_cases hH : Has P Q G
  case neg =>
    have HZ := Lib.hid (show 300 = r by rw [← HR.out, askS_no hH])
    have HH := Lib.hid hH
    clear hH
    go_enter Tryd.func71, Tryd.ntmps71
    go_wp2_with fail
    refine (form_no P Q G _ hP hQ hG HH.out).mono ?_
    rintro e w1 ⟨rfl, hb1⟩
    go_wp2_with fail
    go_ret
    exact ⟨ret_int HZ.out, ((Below.refl _ _).alloc (Nat.le_refl _) _).trans (hb1.mono (by simp))⟩
  case pos =>
    have HH := Lib.hid hH
    clear hH
    go_enter Tryd.func71, Tryd.ntmps71
    go_wp2_with fail
    refine (form_yes P Q G _ HH.out).mono ?_
    rintro e w1 ⟨rfl, hb1⟩
    have hx1 := hx0.keep hb1
    have HB1 : Below w.heap.size w w1 := ((Below.refl _ _).alloc (Nat.le_refl _) _).trans (hb1.mono (by simp))
    have HA1 := Lib.hid (HA.out.keep HB1)
    have HB2 := Lib.hid (HB.out.keep HB1)
    obtain ⟨g0, g1, g2, gl⟩ := hx1
    clear hb1 hx0
    have hbn := Lib.hid HB1
    clear HB1
    go_wp2_with fail
    go_loop [9, 19] (fun c0 c1 => ∃ k : Nat, k ≤ n ∧ c1 = .int .i64 k ∧ Hid (okAll Q (es.take k) = true)) (fun c0 c1 => n - (intOf c1).toNat)
    case atStart => exact ⟨0, Nat.zero_le _, rfl, rfl⟩
    case round =>
      obtain ⟨k, hk, rfl, HK⟩ := hrel
      by_cases hlt : k < n
      case neg =>
        have HEes := Lib.hid (okAll_end Q es k (by rw [← HA1.out.len]; omega) HK.out)
        go_wp2_with fail
        go_loop [11, 30] (fun c0 c1 => ∃ k : Nat, k ≤ m ∧ c1 = .int .i64 k ∧ Hid (okAll P (ns.take k) = true)) (fun c0 c1 => m - (intOf c1).toNat)
        case atStart => exact ⟨0, Nat.zero_le _, rfl, rfl⟩
        case round =>
          obtain ⟨k, hk, rfl, HK⟩ := hrel
          by_cases hlt : k < m
          case neg =>
            have HEns := Lib.hid (okAll_end P ns k (by rw [← HB2.out.len]; omega) HK.out)
            go_wp2_with fail
            go_ret
            exact ⟨ret_int (by rw [← HR.out, askS, if_pos HH.out, HEes.out, HEns.out]; rfl), hbn.out⟩
          case pos =>
            obtain ⟨s, hsa, hck⟩ := HB2.out.at k hlt
            have hlx : k < ns.length := by rw [← HB2.out.len]; exact hlt
            have hsn := okAll_snoc P ns k hlx
            have hno := okAll_not P ns k hlx
            rw [HK.out] at hsn
            generalize ns.getD k 0 = v at hck hsn hno
            have HN := Lib.hid hno
            have HT := Lib.hid hsn
            clear hno hsn hlx
            subst hsa
            have hk0 : (0 : Int) ≤ (k : Int) := by omega
            have hk1 : (k : Int) < (m : Int) := by omega
            by_cases hv : v < P
            case neg =>
              have hd : decide (v < P) = false := by simpa using hv
              have hd2 : decide (P ≤ v) = true := by simp; omega
              go_wp2_with fail
              go_ret
              exact ⟨ret_int (by rw [← HR.out, askS_n HH.out (HN.out (by omega))]), hbn.out⟩
            case pos =>
              go_wp2_with fail
              go_round
              case rel => exact ⟨k + 1, by omega, by go_num, (by show okAll P (ns.take (k + 1)) = true; rw [HT.out]; simpa using hv)⟩
              case measure => simp [intOf]; omega
      case pos =>
        obtain ⟨s, hsa, hck⟩ := HA1.out.at k hlt
        have hlx : k < es.length := by rw [← HA1.out.len]; exact hlt
        have hsn := okAll_snoc Q es k hlx
        have hno := okAll_not Q es k hlx
        rw [HK.out] at hsn
        generalize es.getD k 0 = v at hck hsn hno
        have HN := Lib.hid hno
        have HT := Lib.hid hsn
        clear hno hsn hlx
        subst hsa
        have hk0 : (0 : Int) ≤ (k : Int) := by omega
        have hk1 : (k : Int) < (n : Int) := by omega
        by_cases hv : v < Q
        case neg =>
          have hd : decide (v < Q) = false := by simpa using hv
          have hd2 : decide (Q ≤ v) = true := by simp; omega
          go_wp2_with fail
          go_ret
          exact ⟨ret_int (by rw [← HR.out, askS_e HH.out (HN.out (by omega))]), hbn.out⟩
        case pos =>
          go_wp2_with fail
          go_round
          case rel => exact ⟨k + 1, by omega, by go_num, (by show okAll Q (es.take (k + 1)) = true; rw [HT.out]; simpa using hv)⟩
          case measure => simp [intOf]; omega

set_option maxHeartbeats 1600000 in
theorem scheck_any {P Q G r : Int} {es ns : List Int} {a b : Option Addr} {n c m d : Nat} (w : World) (hP : 0 ≤ P) (hQ : 0 ≤ Q) (hG : 0 ≤ G) (ha : ShL w a n c es) (hb : ShL w b m d ns) (hn : n ≤ 20) (hm : m ≤ 20) (hr : askS P Q G es ns = r) :
    Calls Tryd.prog 101 #[.agg #[.int .u64 P, .int .u64 Q, .int .u64 G], .slice a n c, .slice b m d] w fun e w' => e = .returned (.int .i64 r) ∧ Below w.heap.size w w' := by
  have HR := Lib.hid hr
  clear hr
  have hx0 := Boxed.new w P Q G 49
  have HA := Lib.hid ha
  have HB := Lib.hid hb
  clear ha hb
  by_cases hH : Has P Q G
  case neg =>
    have HZ := Lib.hid (show 300 = r by rw [← HR.out, askS_no hH])
    have HH := Lib.hid hH
    clear hH
    go_enter Tryd.func101, Tryd.ntmps101
    go_wp2_with fail
    refine (form_no P Q G _ hP hQ hG HH.out).mono ?_
    rintro e w1 ⟨rfl, hb1⟩
    go_wp2_with fail
    go_ret
    exact ⟨ret_int HZ.out, ((Below.refl _ _).alloc (Nat.le_refl _) _).trans (hb1.mono (by simp))⟩
  case pos =>
    have HH := Lib.hid hH
    clear hH
    go_enter Tryd.func101, Tryd.ntmps101
    go_wp2_with fail
    refine (form_yes P Q G _ HH.out).mono ?_
    rintro e w1 ⟨rfl, hb1⟩
    have hx1 := hx0.keep hb1
    have HB1 : Below w.heap.size w w1 := ((Below.refl _ _).alloc (Nat.le_refl _) _).trans (hb1.mono (by simp))
    have HA1 := Lib.hid (HA.out.keep HB1)
    have HB2 := Lib.hid (HB.out.keep HB1)
    obtain ⟨g0, g1, g2, gl⟩ := hx1
    clear hb1 hx0
    have hbn := Lib.hid HB1
    clear HB1
    go_wp2_with fail
    go_loop [9, 19] (fun c0 c1 => ∃ k : Nat, k ≤ n ∧ c1 = .int .i64 k ∧ Hid (okAll Q (es.take k) = true)) (fun c0 c1 => n - (intOf c1).toNat)
    case atStart => exact ⟨0, Nat.zero_le _, rfl, rfl⟩
    case round =>
      obtain ⟨k, hk, rfl, HK⟩ := hrel
      by_cases hlt : k < n
      case neg =>
        have HEes := Lib.hid (okAll_end Q es k (by rw [← HA1.out.len]; omega) HK.out)
        go_wp2_with fail
        go_loop [11, 30] (fun c0 c1 => ∃ k : Nat, k ≤ m ∧ c1 = .int .i64 k ∧ Hid (okAll P (ns.take k) = true)) (fun c0 c1 => m - (intOf c1).toNat)
        case atStart => exact ⟨0, Nat.zero_le _, rfl, rfl⟩
        case round =>
          obtain ⟨k, hk, rfl, HK⟩ := hrel
          by_cases hlt : k < m
          case neg =>
            have HEns := Lib.hid (okAll_end P ns k (by rw [← HB2.out.len]; omega) HK.out)
            go_wp2_with fail
            go_ret
            exact ⟨ret_int (by rw [← HR.out, askS, if_pos HH.out, HEes.out, HEns.out]; rfl), hbn.out⟩
          case pos =>
            obtain ⟨s, hsa, hck⟩ := HB2.out.at k hlt
            have hlx : k < ns.length := by rw [← HB2.out.len]; exact hlt
            have hsn := okAll_snoc P ns k hlx
            have hno := okAll_not P ns k hlx
            rw [HK.out] at hsn
            generalize ns.getD k 0 = v at hck hsn hno
            have HN := Lib.hid hno
            have HT := Lib.hid hsn
            clear hno hsn hlx
            subst hsa
            have hk0 : (0 : Int) ≤ (k : Int) := by omega
            have hk1 : (k : Int) < (m : Int) := by omega
            by_cases hv : v < P
            case neg =>
              have hd : decide (v < P) = false := by simpa using hv
              have hd2 : decide (P ≤ v) = true := by simp; omega
              go_wp2_with fail
              go_ret
              exact ⟨ret_int (by rw [← HR.out, askS_n HH.out (HN.out (by omega))]), hbn.out⟩
            case pos =>
              go_wp2_with fail
              go_round
              case rel => exact ⟨k + 1, by omega, by go_num, (by show okAll P (ns.take (k + 1)) = true; rw [HT.out]; simpa using hv)⟩
              case measure => simp [intOf]; omega
      case pos =>
        obtain ⟨s, hsa, hck⟩ := HA1.out.at k hlt
        have hlx : k < es.length := by rw [← HA1.out.len]; exact hlt
        have hsn := okAll_snoc Q es k hlx
        have hno := okAll_not Q es k hlx
        rw [HK.out] at hsn
        generalize es.getD k 0 = v at hck hsn hno
        have HN := Lib.hid hno
        have HT := Lib.hid hsn
        clear hno hsn hlx
        subst hsa
        have hk0 : (0 : Int) ≤ (k : Int) := by omega
        have hk1 : (k : Int) < (n : Int) := by omega
        by_cases hv : v < Q
        case neg =>
          have hd : decide (v < Q) = false := by simpa using hv
          have hd2 : decide (Q ≤ v) = true := by simp; omega
          go_wp2_with fail
          go_ret
          exact ⟨ret_int (by rw [← HR.out, askS_e HH.out (HN.out (by omega))]), hbn.out⟩
        case pos =>
          go_wp2_with fail
          go_round
          case rel => exact ⟨k + 1, by omega, by go_num, (by show okAll Q (es.take (k + 1)) = true; rw [HT.out]; simpa using hv)⟩
          case measure => simp [intOf]; omega

set_option maxHeartbeats 1600000 in
theorem pcheck_any {P Q G r : Int} {es ns : List Int} {a b : Option Addr} {n c m d : Nat} (w : World) (hP : 0 ≤ P) (hQ : 0 ≤ Q) (hG : 0 ≤ G) (ha : ShL w a n c es) (hb : ShL w b m d ns) (hn : n ≤ 20) (hm : m ≤ 20) (hr : askS P Q G es ns = r) :
    Calls Tryd.prog 74 #[.agg #[.int .u64 P, .int .u64 Q, .int .u64 G], .slice a n c, .slice b m d] w fun e w' => e = .returned (.int .i64 r) ∧ Below w.heap.size w w' := by
  have HR := Lib.hid hr
  clear hr
  have hx0 := Boxed.new w P Q G 49
  have HA := Lib.hid ha
  have HB := Lib.hid hb
  clear ha hb
  by_cases hH : Has P Q G
  case neg =>
    have HZ := Lib.hid (show 300 = r by rw [← HR.out, askS_no hH])
    have HH := Lib.hid hH
    clear hH
    go_enter Tryd.func74, Tryd.ntmps74
    go_wp2_with fail
    refine (form_no P Q G _ hP hQ hG HH.out).mono ?_
    rintro e w1 ⟨rfl, hb1⟩
    go_wp2_with fail
    go_ret
    exact ⟨ret_int HZ.out, ((Below.refl _ _).alloc (Nat.le_refl _) _).trans (hb1.mono (by simp))⟩
  case pos =>
    have HH := Lib.hid hH
    clear hH
    go_enter Tryd.func74, Tryd.ntmps74
    go_wp2_with fail
    refine (form_yes P Q G _ HH.out).mono ?_
    rintro e w1 ⟨rfl, hb1⟩
    have hx1 := hx0.keep hb1
    have HB1 : Below w.heap.size w w1 := ((Below.refl _ _).alloc (Nat.le_refl _) _).trans (hb1.mono (by simp))
    have HA1 := Lib.hid (HA.out.keep HB1)
    have HB2 := Lib.hid (HB.out.keep HB1)
    obtain ⟨g0, g1, g2, gl⟩ := hx1
    clear hb1 hx0
    have hbn := Lib.hid HB1
    clear HB1
    go_wp2_with fail
    go_loop [9, 19] (fun c0 c1 => ∃ k : Nat, k ≤ n ∧ c1 = .int .i64 k ∧ Hid (okAll Q (es.take k) = true)) (fun c0 c1 => n - (intOf c1).toNat)
    case atStart => exact ⟨0, Nat.zero_le _, rfl, rfl⟩
    case round =>
      obtain ⟨k, hk, rfl, HK⟩ := hrel
      by_cases hlt : k < n
      case neg =>
        have HEes := Lib.hid (okAll_end Q es k (by rw [← HA1.out.len]; omega) HK.out)
        go_wp2_with fail
        go_loop [11, 30] (fun c0 c1 => ∃ k : Nat, k ≤ m ∧ c1 = .int .i64 k ∧ Hid (okAll P (ns.take k) = true)) (fun c0 c1 => m - (intOf c1).toNat)
        case atStart => exact ⟨0, Nat.zero_le _, rfl, rfl⟩
        case round =>
          obtain ⟨k, hk, rfl, HK⟩ := hrel
          by_cases hlt : k < m
          case neg =>
            have HEns := Lib.hid (okAll_end P ns k (by rw [← HB2.out.len]; omega) HK.out)
            go_wp2_with fail
            go_ret
            exact ⟨ret_int (by rw [← HR.out, askS, if_pos HH.out, HEes.out, HEns.out]; rfl), hbn.out⟩
          case pos =>
            obtain ⟨s, hsa, hck⟩ := HB2.out.at k hlt
            have hlx : k < ns.length := by rw [← HB2.out.len]; exact hlt
            have hsn := okAll_snoc P ns k hlx
            have hno := okAll_not P ns k hlx
            rw [HK.out] at hsn
            generalize ns.getD k 0 = v at hck hsn hno
            have HN := Lib.hid hno
            have HT := Lib.hid hsn
            clear hno hsn hlx
            subst hsa
            have hk0 : (0 : Int) ≤ (k : Int) := by omega
            have hk1 : (k : Int) < (m : Int) := by omega
            by_cases hv : v < P
            case neg =>
              have hd : decide (v < P) = false := by simpa using hv
              have hd2 : decide (P ≤ v) = true := by simp; omega
              go_wp2_with fail
              go_ret
              exact ⟨ret_int (by rw [← HR.out, askS_n HH.out (HN.out (by omega))]), hbn.out⟩
            case pos =>
              go_wp2_with fail
              go_round
              case rel => exact ⟨k + 1, by omega, by go_num, (by show okAll P (ns.take (k + 1)) = true; rw [HT.out]; simpa using hv)⟩
              case measure => simp [intOf]; omega
      case pos =>
        obtain ⟨s, hsa, hck⟩ := HA1.out.at k hlt
        have hlx : k < es.length := by rw [← HA1.out.len]; exact hlt
        have hsn := okAll_snoc Q es k hlx
        have hno := okAll_not Q es k hlx
        rw [HK.out] at hsn
        generalize es.getD k 0 = v at hck hsn hno
        have HN := Lib.hid hno
        have HT := Lib.hid hsn
        clear hno hsn hlx
        subst hsa
        have hk0 : (0 : Int) ≤ (k : Int) := by omega
        have hk1 : (k : Int) < (n : Int) := by omega
        by_cases hv : v < Q
        case neg =>
          have hd : decide (v < Q) = false := by simpa using hv
          have hd2 : decide (Q ≤ v) = true := by simp; omega
          go_wp2_with fail
          go_ret
          exact ⟨ret_int (by rw [← HR.out, askS_e HH.out (HN.out (by omega))]), hbn.out⟩
        case pos =>
          go_wp2_with fail
          go_round
          case rel => exact ⟨k + 1, by omega, by go_num, (by show okAll Q (es.take (k + 1)) = true; rw [HT.out]; simpa using hv)⟩
          case measure => simp [intOf]; omega


end Go.Proofs.YtlbldpkgnonbpaaDoor
