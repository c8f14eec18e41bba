/- Increasing lists of numbers: shamir.listed; the reference's. -/
import Derived.Test.YtjfaaicbojnpaaaShB
import Derived.IntWalk
namespace Go.Proofs.Ytjfaaicbojnpaaa
open Go.RowKit Num
set_option linter.unusedSimpArgs false
set_option linter.unusedVariables false

/-- Increasing numbers behind a last one. -/
def incS (Q : Int) (last : Int) : List Int → Bool
  | [] => true
  | i :: l => decide (last < i) && numS Q i && incS Q i l
def listS (Q least : Int) (ids : List Int) : Bool := decide (1 ≤ ids.length) && decide (ids.length ≤ 8) && incS Q (least - 1) ids
/-- The last of the first k. -/
def lastOf (least : Int) (ids : List Int) (k : Nat) : Int := if k = 0 then least - 1 else ids.getD (k - 1) 0
theorem drop_cons {ids : List Int} {k : Nat} (h : k < ids.length) : ids.drop k = ids.getD k 0 :: ids.drop (k + 1) := by
  rw [List.drop_eq_getElem_cons h, List.getD_eq_getElem?_getD, List.getElem?_eq_getElem h]; rfl
def I64 (x : Int) : Prop := -9223372036854775808 ≤ x ∧ x ≤ 9223372036854775807
theorem I64.wf {x : Int} (h : (Lit.int .i64 x).wf = true) : I64 x := by
  have h := bounds_i64 h
  exact ⟨h.1, h.2⟩
theorem listS_true {Q least : Int} {ids : List Int} (h : listS Q least ids = true) : 1 ≤ ids.length ∧ ids.length ≤ 8 ∧ incS Q (least - 1) ids = true := by
  simp only [listS, Bool.and_eq_true, decide_eq_true_eq] at h
  exact ⟨h.1.1, h.1.2, h.2⟩
theorem incS_step {Q last x : Int} {l : List Int} (h : numS Q x = true) (h' : last < x) : incS Q last (x :: l) = incS Q x l := by simp [incS, h, h']
theorem incS_mem {Q : Int} : ∀ {last : Int} {ids : List Int}, incS Q last ids = true → ∀ x, x ∈ ids → last < x ∧ numS Q x = true
  | _, [], _, _, hx => by cases hx
  | last, i :: l, h, x, hx => by
    simp only [incS, Bool.and_eq_true, decide_eq_true_eq] at h
    rcases List.mem_cons.1 hx with rfl | hx
    · exact ⟨h.1.1, h.1.2⟩
    · have := incS_mem h.2 x hx
      exact ⟨by omega, this.2⟩
theorem incS_nodup {Q : Int} : ∀ {last : Int} {ids : List Int}, incS Q last ids = true → ids.Nodup
  | _, [], _ => List.nodup_nil
  | last, i :: l, h => by
    simp only [incS, Bool.and_eq_true, decide_eq_true_eq] at h
    exact List.nodup_cons.2 ⟨fun hm => by have := (incS_mem h.2 i hm).1; omega, incS_nodup h.2⟩
theorem incS_app {Q : Int} : ∀ {last : Int} {l m : List Int}, incS Q last (l ++ m) = true → incS Q last l = true
  | _, [], _, _ => rfl
  | last, i :: l, m, h => by
    simp only [List.cons_append, incS, Bool.and_eq_true, decide_eq_true_eq] at h ⊢
    exact ⟨h.1, incS_app h.2⟩

set_option maxRecDepth 100000 in
set_option maxHeartbeats 8000000 in
theorem slisted_any {P Q G least : Int} {a : Option Addr} {n c : Nat} {ids : List Int} {v : Bool} (w : World) (l0 : 0 ≤ least) (l1 : least ≤ 1) (h : ShI .i64 w a n ids) (hn : n ≤ 1000000) (hx : ∀ x, x ∈ ids → I64 x) (hv : listS Q least ids = v) :
    Calls Try.prog 67 #[.agg #[.int .u64 P, .int .u64 Q, .int .u64 G], .slice a n c, .int .i64 least] w fun e w' => e = .returned (.bool v) ∧ Below w.heap.size w w' := by
  have HS := Lib.hid h
  have HL := Lib.hid h.len
  have HX := Lib.hid hx
  have HV := Lib.hid hv
  clear h hx hv
  by_cases h1 : 1 ≤ n
  case neg =>
    have HZ := Lib.hid (show false = v by rw [← HV.out]; have := HL.out; simp [listS]; omega)
    have d1 : decide ((n : Int) < 1) = true := by simp; omega
    have F_g := Lib.hid (show Boxed (w.alloc (.cells #[.int .u64 P, .int .u64 Q, .int .u64 G] 24)) (w.heap.size) P Q G from Boxed.at _ P Q G _ (w.heap.size) (by simp))
    have HBW := Lib.hid (show Below w.heap.size w (w.alloc (.cells #[.int .u64 P, .int .u64 Q, .int .u64 G] 24)) from (Below.refl _ _).alloc (by simp <;> omega) _)
    go_enter Try.func67, Try.ntmps67
    obtain ⟨x0a, x0b, x0c, -⟩ := id F_g.out
    go_wp2_with fail
    go_ret
    exact ⟨ret_bool HZ.out, HBW.out⟩
  case pos =>
    have d1 : decide ((n : Int) < 1) = false := by simp; omega
    by_cases h8 : n ≤ 8
    case neg =>
      have HZ := Lib.hid (show false = v by rw [← HV.out]; have := HL.out; simp [listS]; omega)
      have d2 : decide ((8 : Int) < (n : Int)) = true := by simp; omega
      have F_g := Lib.hid (show Boxed (w.alloc (.cells #[.int .u64 P, .int .u64 Q, .int .u64 G] 24)) (w.heap.size) P Q G from Boxed.at _ P Q G _ (w.heap.size) (by simp))
      have HBW := Lib.hid (show Below w.heap.size w (w.alloc (.cells #[.int .u64 P, .int .u64 Q, .int .u64 G] 24)) from (Below.refl _ _).alloc (by simp <;> omega) _)
      go_enter Try.func67, Try.ntmps67
      obtain ⟨x0a, x0b, x0c, -⟩ := id F_g.out
      go_wp2_with fail
      go_ret
      exact ⟨ret_bool HZ.out, HBW.out⟩
    case pos =>
      have d2 : decide ((8 : Int) < (n : Int)) = false := by simp; omega
      have HQ := Lib.hid (show incS Q (least - 1) ids = v by rw [← HV.out]; have h := HL.out; simp [listS, ← h, h1, h8])
      clear HV
      have F_g := Lib.hid (show Boxed (w.alloc (.cells #[.int .u64 P, .int .u64 Q, .int .u64 G] 24)) (w.heap.size) P Q G from Boxed.at _ P Q G _ (w.heap.size) (by simp))
      have HBW := Lib.hid (show Below w.heap.size w (w.alloc (.cells #[.int .u64 P, .int .u64 Q, .int .u64 G] 24)) from (Below.refl _ _).alloc (by simp <;> omega) _)
      go_enter Try.func67, Try.ntmps67
      go_wp2_with fail
      go_loopw [7, 9, 22] (fun c7 c9 c22 wr => ∃ k : Nat, k ≤ n ∧ c22 = .int .i64 k ∧ ∃ last : Int, c7 = .int .i64 last ∧ Hid (incS Q last (ids.drop k) = v) ∧ Hid (Boxed wr w.heap.size P Q G) ∧ Hid (Below w.heap.size w wr)) (fun _ _ c22 _ => n - (intOf c22).toNat)
      case atStart => exact ⟨0, Nat.zero_le _, rfl, _, rfl, HQ.out, F_g.out, HBW.out⟩
      case round =>
        clear F_g HBW HQ
        obtain ⟨k, hk, rfl, last, rfl, HI, F_g, HBW⟩ := hrel
        by_cases hlt : k < n
        case neg =>
          have HZ := Lib.hid (show true = v by rw [← HI.out, List.drop_of_length_le (by rw [← HL.out]; omega)]; rfl)
          go_wp2_with fail
          go_ret
          exact ⟨ret_bool HZ.out, HBW.out⟩
        case pos =>
          obtain ⟨s, f, hsa, hsl, hck, hmem⟩ := HS.out.at k hlt
          have hck' := (HBW.out.cell (p := ⟨s, f + k, none⟩) hsl).trans hck
          clear hck
          have HD := Lib.hid (drop_cons (ids := ids) (k := k) (by rw [← HL.out]; exact hlt))
          obtain ⟨x, hx⟩ : ∃ x, ids.getD k 0 = x := ⟨_, rfl⟩
          rw [hx] at hck' hmem HD
          obtain ⟨xl, xu⟩ := HX.out x hmem
          clear hmem hx
          subst hsa
          have hk0 : (0 : Int) ≤ (k : Int) := by omega
          have hk1 : (k : Int) < (n : Int) := by omega
          by_cases hlx : last < x
          case neg =>
            have HZ := Lib.hid (show false = v by rw [← HI.out, HD.out]; simp [incS, hlx])
            have d3 : decide (x ≤ last) = true := by simp; omega
            obtain ⟨x0a, x0b, x0c, -⟩ := id F_g.out
            go_wp2_with fail
            go_ret
            exact ⟨ret_bool HZ.out, HBW.out⟩
          case pos =>
            have d3 : decide (x ≤ last) = false := by simp; omega
            cases hnu : numS Q x
            case false =>
              have HZ := Lib.hid (show false = v by rw [← HI.out, HD.out]; simp [incS, hnu])
              have HN := Lib.hid hnu
              clear hnu
              obtain ⟨x0a, x0b, x0c, -⟩ := id F_g.out
              go_wp2_with fail
              clear x0a x0b x0c
              refine (snumbered_any (Q := Q) (v := false) _ xl xu HN.out).mono ?_
              rintro e w5 ⟨rfl, hb5⟩
              replace F_g := Lib.hid (F_g.out.keep hb5)
              replace HBW := Lib.hid (HBW.out.trans (hb5.mono HBW.out.size))
              clear hb5
              obtain ⟨x0a, x0b, x0c, -⟩ := id F_g.out
              go_wp2_with fail
              go_ret
              exact ⟨ret_bool HZ.out, HBW.out⟩
            case true =>
              have HI2 := Lib.hid (show incS Q x (ids.drop (k + 1)) = v by rw [← HI.out, HD.out]; simp [incS, hnu, hlx])
              have HN := Lib.hid hnu
              clear hnu
              obtain ⟨x0a, x0b, x0c, -⟩ := id F_g.out
              go_wp2_with fail
              clear x0a x0b x0c
              refine (snumbered_any (Q := Q) (v := true) _ xl xu HN.out).mono ?_
              rintro e w5 ⟨rfl, hb5⟩
              replace F_g := Lib.hid (F_g.out.keep hb5)
              replace HBW := Lib.hid (HBW.out.trans (hb5.mono HBW.out.size))
              clear hb5
              obtain ⟨x0a, x0b, x0c, -⟩ := id F_g.out
              go_wp2_with fail
              go_roundw
              case rel => exact ⟨k + 1, by omega, by go_num, _, rfl, HI2.out, F_g.out, HBW.out⟩
              case measure => simp [intOf]; omega

set_option maxRecDepth 100000 in
set_option maxHeartbeats 8000000 in
theorem rlisted_any {P Q G least : Int} {a : Option Addr} {n c : Nat} {ids : List Int} {v : Bool} (w : World) (l0 : 0 ≤ least) (l1 : least ≤ 1) (h : ShI .i64 w a n ids) (hn : n ≤ 1000000) (hx : ∀ x, x ∈ ids → I64 x) (hv : listS Q least ids = v) :
    Calls Try.prog 72 #[.agg #[.int .u64 P, .int .u64 Q, .int .u64 G], .slice a n c, .int .i64 least] w fun e w' => e = .returned (.bool v) ∧ Below w.heap.size w w' := by
  have HS := Lib.hid h
  have HL := Lib.hid h.len
  have HX := Lib.hid hx
  have HV := Lib.hid hv
  clear h hx hv
  by_cases h8 : n ≤ 8
  case neg =>
    have HZ := Lib.hid (show false = v by rw [← HV.out]; have := HL.out; simp [listS]; omega)
    have d2 : decide ((n : Int) ≤ 8) = false := by simp; omega
    have d3 : (0 : Int) < (n : Int) := by omega
    have d4 : decide ((1 : Int) ≤ (n : Int)) = true := by simp; omega
    have F_g := Lib.hid (show Boxed (w.alloc (.cells #[.int .u64 P, .int .u64 Q, .int .u64 G] 24)) (w.heap.size) P Q G from Boxed.at _ P Q G _ (w.heap.size) (by simp))
    have HBW := Lib.hid (show Below w.heap.size w (w.alloc (.cells #[.int .u64 P, .int .u64 Q, .int .u64 G] 24)) from (Below.refl _ _).alloc (by simp <;> omega) _)
    go_enter Try.func72, Try.ntmps72
    go_wp2_with fail
    go_loopw [7] (fun c7 wr => c7 = .int .i64 0 ∧ Hid (Below w.heap.size w wr)) (fun _ _ => 0)
    case atStart => exact ⟨rfl, HBW.out⟩
    case round =>
      obtain ⟨hrel, HBW⟩ := hrel
      subst hrel
      go_wp2_with fail
      go_ret
      exact ⟨ret_bool HZ.out, HBW.out⟩
  case pos =>
    have d2 : decide ((n : Int) ≤ 8) = true := by simp; omega
    have F_g := Lib.hid (show Boxed (w.alloc (.cells #[.int .u64 P, .int .u64 Q, .int .u64 G] 24)) (w.heap.size) P Q G from Boxed.at _ P Q G _ (w.heap.size) (by simp))
    have HBW := Lib.hid (show Below w.heap.size w (w.alloc (.cells #[.int .u64 P, .int .u64 Q, .int .u64 G] 24)) from (Below.refl _ _).alloc (by simp <;> omega) _)
    go_enter Try.func72, Try.ntmps72
    go_wp2_with fail
    go_loopw [7] (fun c7 wr => ∃ k : Nat, k ≤ n ∧ c7 = .int .i64 k ∧ Hid (incS Q (least - 1) ids = incS Q (lastOf least ids k) (ids.drop k)) ∧ Hid (least - 1 ≤ lastOf least ids k) ∧ Hid (Boxed wr w.heap.size P Q G) ∧ Hid (Below w.heap.size w wr)) (fun c7 _ => n - (intOf c7).toNat)
    case atStart => exact ⟨0, Nat.zero_le _, rfl, rfl, Int.le_refl _, F_g.out, HBW.out⟩
    case round =>
      clear F_g HBW
      obtain ⟨k, hk, rfl, HI, HLE, F_g, HBW⟩ := hrel
      by_cases hlt : k < n
      case neg =>
        by_cases h1 : 1 ≤ n
        case neg =>
          have HZ := Lib.hid (show false = v by rw [← HV.out]; have := HL.out; simp [listS]; omega)
          have d1 : decide ((1 : Int) ≤ (n : Int)) = false := by simp; omega
          have d5 : decide ((k : Int) < (n : Int)) = false := by simp; omega
          go_wp2_with fail
          go_ret
          exact ⟨ret_bool HZ.out, HBW.out⟩
        case pos =>
          have HZ := Lib.hid (show true = v by rw [← HV.out]; have h := HL.out; simp [listS, ← h, h1, h8]; rw [HI.out, List.drop_of_length_le (by rw [← HL.out]; omega)]; rfl)
          have d1 : decide ((1 : Int) ≤ (n : Int)) = true := by simp; omega
          have d5 : decide ((k : Int) < (n : Int)) = false := by simp; omega
          go_wp2_with fail
          go_ret
          exact ⟨ret_bool HZ.out, HBW.out⟩
      case pos =>
        obtain ⟨s, f, hsa, hsl, hck, hmem⟩ := HS.out.at k hlt
        have hsw : s < w.heap.size := hsl
        have HD := Lib.hid (drop_cons (ids := ids) (k := k) (by rw [← HL.out]; exact hlt))
        obtain ⟨x, hx⟩ : ∃ x, ids.getD k 0 = x := ⟨_, rfl⟩
        rw [hx] at hck hmem HD
        have HEC := Lib.hid hck
        have HLX := Lib.hid (show lastOf least ids (k + 1) = x by simp [lastOf]; rw [← hx, List.getD_eq_getElem?_getD])
        obtain ⟨xl, xu⟩ := HX.out x hmem
        clear hmem hck hx
        have hk0 : (0 : Int) ≤ (k : Int) := by omega
        have hk1 : (k : Int) < (n : Int) := by omega
        have d5 : decide ((k : Int) < (n : Int)) = true := by simp; omega
        have hbad : ∀ (b : Bool), incS Q (lastOf least ids k) (x :: ids.drop (k + 1)) = b → b = v := fun b hb => by
          rw [← HV.out, ← hb, ← HD.out, ← HI.out]; have h := HL.out; simp [listS, ← h, h8]; intro h0; omega
        have HBAD := Lib.hid hbad
        clear hbad
        by_cases hlx : least ≤ x
        case neg =>
          have HZ := Lib.hid (show false = v from HBAD.out false (by have := HLE.out; simp [incS]; intro h; omega))
          have d3 : decide (x < least) = true := by simp; omega
          clear HBAD HI HD
          subst hsa
          go_wp2_with fail
          replace F_g := Lib.hid F_g.out.drew
          replace HBW := Lib.hid HBW.out.drew
          have hS := And.intro F_g.out.s ((HBW.out.cell (p := ⟨s, f + k, none⟩) hsw).trans HEC.out)
          refine wp_region_stage 30 (fun w' => SBox w' w.heap.size P Q G ∧ w'.cell? ⟨s, f + k, none⟩ = some (.int .i64 x)) (by kernel_rfl) ?_
          refine wpAnyB_takeP (i := 0) (some 19) (Op.move (Operand.tmp 1)) 51 (v := ?_) ⟨_, rfl, rfl, rfl, rfl, rfl⟩ (by kernel_rfl) (by kernel_rfl) (by kernel_rfl) (by kernel_rfl) (fun _ _ _ h => h) (fun _ => hS) (fun w' => ?_) ?_
          rotate_left
          · unfold bareOp
            go_simp
            try with_reducible rfl
          simp only [Act.put, List.setIfInBounds_toArray, List.set_cons_zero, List.set_cons_succ]
          refine wpAnyB_takeP (i := 1) (some 20) (Op.move (Operand.tmp 7)) 3 (v := ?_) ⟨_, rfl, rfl, rfl, rfl, rfl⟩ (by kernel_rfl) (by kernel_rfl) (by kernel_rfl) (by kernel_rfl) (fun _ _ _ h => h) (fun _ => hS) (fun w' => ?_) ?_
          rotate_left
          · unfold bareOp
            go_simp
            try with_reducible rfl
          simp only [Act.put, List.setIfInBounds_toArray, List.set_cons_zero, List.set_cons_succ]
          refine wpAnyB_takeP (i := 2) (some 21) (Op.indexAddr 51 (Operand.tmp 19) (Operand.tmp 20)) 0 (v := ?_) ⟨_, rfl, rfl, rfl, rfl, rfl⟩ (by kernel_rfl) (by kernel_rfl) (by kernel_rfl) (by kernel_rfl) (fun _ _ _ h => h) (fun _ => hS) (fun w' => ?_) ?_
          rotate_left
          · unfold bareOp
            go_simp
            try with_reducible rfl
          simp only [Act.put, List.setIfInBounds_toArray, List.set_cons_zero, List.set_cons_succ]
          refine wpAnyB_take (i := 3) (some 22) (Op.load 3 (Operand.tmp 21)) 3 (v := ?_) ⟨_, rfl, rfl, rfl, rfl, rfl⟩ (by kernel_rfl) (by kernel_rfl) (by kernel_rfl) [5, 6, 7, 8, 9, 10, 11, 12, 13, 14, 15, 16, 17, 18, 19, 20, 21, 22, 23, 24, 25, 26, 27, 28, 29, 30] (by kernel_rfl) (fun _ _ _ h => h) hS (fun w' hSw => ?_) ?_
          rotate_left
          · obtain ⟨⟨s0, s1, s2⟩, s3⟩ := hSw
            unfold bareOp
            go_simp
            try with_reducible rfl
          simp only [Act.put, List.setIfInBounds_toArray, List.set_cons_zero, List.set_cons_succ]
          refine wpAnyB_takeP (i := 4) (some 23) (Op.move (Operand.tmp 2)) 3 (v := ?_) ⟨_, rfl, rfl, rfl, rfl, rfl⟩ (by kernel_rfl) (by kernel_rfl) (by kernel_rfl) (by kernel_rfl) (fun _ _ _ h => h) (fun _ => hS) (fun w' => ?_) ?_
          rotate_left
          · unfold bareOp
            go_simp
            try with_reducible rfl
          simp only [Act.put, List.setIfInBounds_toArray, List.set_cons_zero, List.set_cons_succ]
          refine wpAnyB_takeP (i := 5) (some 24) (Op.binOp BinOp.lss 3 (Operand.tmp 22) (Operand.tmp 23) 3) 4 (v := ?_) ⟨_, rfl, rfl, rfl, rfl, rfl⟩ (by kernel_rfl) (by kernel_rfl) (by kernel_rfl) (by kernel_rfl) (fun _ _ _ h => h) (fun _ => hS) (fun w' => ?_) ?_
          rotate_left
          · unfold bareOp
            go_simp
            try with_reducible rfl
          simp only [Act.put, List.setIfInBounds_toArray, List.set_cons_zero, List.set_cons_succ]
          refine wpAnyB_takeP (i := 6) (some 25) (Op.move (Operand.tmp 24)) 4 (v := ?_) ⟨_, rfl, rfl, rfl, rfl, rfl⟩ (by kernel_rfl) (by kernel_rfl) (by kernel_rfl) (by kernel_rfl) (fun _ _ _ h => h) (fun _ => hS) (fun w' => ?_) ?_
          rotate_left
          · unfold bareOp
            go_simp
            try with_reducible rfl
          simp only [Act.put, List.setIfInBounds_toArray, List.set_cons_zero, List.set_cons_succ]
          refine wpAnyB_skip (i := 7) (some 26) (Op.load 24 (Operand.tmp 3)) 24 (some (6, false)) ⟨_, rfl, rfl, rfl, rfl, rfl⟩ rfl (by kernel_rfl) (by kernel_rfl) (by kernel_rfl) (by kernel_rfl) (fun _ _ _ h => h) (fun _ => hS) ?_
          simp only [Act.put, List.setIfInBounds_toArray, List.set_cons_zero, List.set_cons_succ]
          refine wpAnyB_skip (i := 8) (some 27) (Op.move (Operand.tmp 1)) 51 (some (6, false)) ⟨_, rfl, rfl, rfl, rfl, rfl⟩ rfl (by kernel_rfl) (by kernel_rfl) (by kernel_rfl) (by kernel_rfl) (fun _ _ _ h => h) (fun _ => hS) ?_
          simp only [Act.put, List.setIfInBounds_toArray, List.set_cons_zero, List.set_cons_succ]
          refine wpAnyB_skip (i := 9) (some 28) (Op.move (Operand.tmp 7)) 3 (some (6, false)) ⟨_, rfl, rfl, rfl, rfl, rfl⟩ rfl (by kernel_rfl) (by kernel_rfl) (by kernel_rfl) (by kernel_rfl) (fun _ _ _ h => h) (fun _ => hS) ?_
          simp only [Act.put, List.setIfInBounds_toArray, List.set_cons_zero, List.set_cons_succ]
          refine wpAnyB_skip (i := 10) (some 29) (Op.indexAddr 51 (Operand.tmp 27) (Operand.tmp 28)) 0 (some (6, false)) ⟨_, rfl, rfl, rfl, rfl, rfl⟩ rfl (by kernel_rfl) (by kernel_rfl) (by kernel_rfl) (by kernel_rfl) (fun _ _ _ h => h) (fun _ => hS) ?_
          simp only [Act.put, List.setIfInBounds_toArray, List.set_cons_zero, List.set_cons_succ]
          refine wpAnyB_skip (i := 11) (some 30) (Op.load 3 (Operand.tmp 29)) 3 (some (6, false)) ⟨_, rfl, rfl, rfl, rfl, rfl⟩ rfl (by kernel_rfl) (by kernel_rfl) (by kernel_rfl) (by kernel_rfl) (fun _ _ _ h => h) (fun _ => hS) ?_
          simp only [Act.put, List.setIfInBounds_toArray, List.set_cons_zero, List.set_cons_succ]
          refine wpAnyB_skip (i := 12) (some 31) (Op.call { callee := Callee.value (Operand.func 61), args := #[Operand.tmp 26, Operand.tmp 30], argTypes := #[24, 3] }) 4 (some (6, false)) ⟨_, rfl, rfl, rfl, rfl, rfl⟩ rfl (by kernel_rfl) (by kernel_rfl) (by kernel_rfl) (by kernel_rfl) (fun _ _ _ h => h) (fun _ => hS) ?_
          simp only [Act.put, List.setIfInBounds_toArray, List.set_cons_zero, List.set_cons_succ]
          refine wpAnyB_skip (i := 13) (some 32) (Op.unOp UnOp.not 4 (Operand.tmp 31)) 4 (some (6, false)) ⟨_, rfl, rfl, rfl, rfl, rfl⟩ rfl (by kernel_rfl) (by kernel_rfl) (by kernel_rfl) (by kernel_rfl) (fun _ _ _ h => h) (fun _ => hS) ?_
          simp only [Act.put, List.setIfInBounds_toArray, List.set_cons_zero, List.set_cons_succ]
          refine wpAnyB_takeP (i := 14) (some 33) (Op.pick (Operand.tmp 25) (Operand.const (Value.bool true)) (Operand.tmp 32)) 4 (v := ?_) ⟨_, rfl, rfl, rfl, rfl, rfl⟩ (by kernel_rfl) (by kernel_rfl) (by kernel_rfl) (by kernel_rfl) (fun _ _ _ h => h) (fun _ => hS) (fun w' => ?_) ?_
          rotate_left
          · unfold bareOp
            go_simp
            try with_reducible rfl
          simp only [Act.put, List.setIfInBounds_toArray, List.set_cons_zero, List.set_cons_succ]
          refine wpAnyB_takeP (i := 15) (some 34) (Op.move (Operand.tmp 33)) 4 (v := ?_) ⟨_, rfl, rfl, rfl, rfl, rfl⟩ (by kernel_rfl) (by kernel_rfl) (by kernel_rfl) (by kernel_rfl) (fun _ _ _ h => h) (fun _ => hS) (fun w' => ?_) ?_
          rotate_left
          · unfold bareOp
            go_simp
            try with_reducible rfl
          simp only [Act.put, List.setIfInBounds_toArray, List.set_cons_zero, List.set_cons_succ]
          refine wpAnyB_skip (i := 16) (some 35) (Op.move (Operand.tmp 7)) 3 (some (15, false)) ⟨_, rfl, rfl, rfl, rfl, rfl⟩ rfl (by kernel_rfl) (by kernel_rfl) (by kernel_rfl) (by kernel_rfl) (fun _ _ _ h => h) (fun _ => hS) ?_
          simp only [Act.put, List.setIfInBounds_toArray, List.set_cons_zero, List.set_cons_succ]
          refine wpAnyB_skip (i := 17) (some 36) (Op.binOp BinOp.gtr 3 (Operand.tmp 35) (Operand.const (Value.int IntKind.i64 0)) 3) 4 (some (15, false)) ⟨_, rfl, rfl, rfl, rfl, rfl⟩ rfl (by kernel_rfl) (by kernel_rfl) (by kernel_rfl) (by kernel_rfl) (fun _ _ _ h => h) (fun _ => hS) ?_
          simp only [Act.put, List.setIfInBounds_toArray, List.set_cons_zero, List.set_cons_succ]
          refine wpAnyB_skip (i := 18) (some 37) (Op.move (Operand.tmp 36)) 4 (some (15, false)) ⟨_, rfl, rfl, rfl, rfl, rfl⟩ rfl (by kernel_rfl) (by kernel_rfl) (by kernel_rfl) (by kernel_rfl) (fun _ _ _ h => h) (fun _ => hS) ?_
          simp only [Act.put, List.setIfInBounds_toArray, List.set_cons_zero, List.set_cons_succ]
          refine wpAnyB_skip (i := 19) (some 38) (Op.move (Operand.tmp 1)) 51 (some (18, true)) ⟨_, rfl, rfl, rfl, rfl, rfl⟩ rfl (by kernel_rfl) (by kernel_rfl) (by kernel_rfl) (by kernel_rfl) (fun _ _ _ h => h) (fun _ => hS) ?_
          simp only [Act.put, List.setIfInBounds_toArray, List.set_cons_zero, List.set_cons_succ]
          refine wpAnyB_skip (i := 20) (some 39) (Op.move (Operand.tmp 7)) 3 (some (18, true)) ⟨_, rfl, rfl, rfl, rfl, rfl⟩ rfl (by kernel_rfl) (by kernel_rfl) (by kernel_rfl) (by kernel_rfl) (fun _ _ _ h => h) (fun _ => hS) ?_
          simp only [Act.put, List.setIfInBounds_toArray, List.set_cons_zero, List.set_cons_succ]
          refine wpAnyB_skip (i := 21) (some 40) (Op.indexAddr 51 (Operand.tmp 38) (Operand.tmp 39)) 0 (some (18, true)) ⟨_, rfl, rfl, rfl, rfl, rfl⟩ rfl (by kernel_rfl) (by kernel_rfl) (by kernel_rfl) (by kernel_rfl) (fun _ _ _ h => h) (fun _ => hS) ?_
          simp only [Act.put, List.setIfInBounds_toArray, List.set_cons_zero, List.set_cons_succ]
          refine wpAnyB_skip (i := 22) (some 41) (Op.load 3 (Operand.tmp 40)) 3 (some (18, true)) ⟨_, rfl, rfl, rfl, rfl, rfl⟩ rfl (by kernel_rfl) (by kernel_rfl) (by kernel_rfl) (by kernel_rfl) (fun _ _ _ h => h) (fun _ => hS) ?_
          simp only [Act.put, List.setIfInBounds_toArray, List.set_cons_zero, List.set_cons_succ]
          refine wpAnyB_skip (i := 23) (some 42) (Op.move (Operand.tmp 1)) 51 (some (18, true)) ⟨_, rfl, rfl, rfl, rfl, rfl⟩ rfl (by kernel_rfl) (by kernel_rfl) (by kernel_rfl) (by kernel_rfl) (fun _ _ _ h => h) (fun _ => hS) ?_
          simp only [Act.put, List.setIfInBounds_toArray, List.set_cons_zero, List.set_cons_succ]
          refine wpAnyB_skip (i := 24) (some 43) (Op.move (Operand.tmp 7)) 3 (some (18, true)) ⟨_, rfl, rfl, rfl, rfl, rfl⟩ rfl (by kernel_rfl) (by kernel_rfl) (by kernel_rfl) (by kernel_rfl) (fun _ _ _ h => h) (fun _ => hS) ?_
          simp only [Act.put, List.setIfInBounds_toArray, List.set_cons_zero, List.set_cons_succ]
          refine wpAnyB_skip (i := 25) (some 44) (Op.binOp BinOp.sub 3 (Operand.tmp 43) (Operand.const (Value.int IntKind.i64 1)) 3) 3 (some (18, true)) ⟨_, rfl, rfl, rfl, rfl, rfl⟩ rfl (by kernel_rfl) (by kernel_rfl) (by kernel_rfl) (by kernel_rfl) (fun _ _ _ h => h) (fun _ => hS) ?_
          simp only [Act.put, List.setIfInBounds_toArray, List.set_cons_zero, List.set_cons_succ]
          refine wpAnyB_skip (i := 26) (some 45) (Op.indexAddr 51 (Operand.tmp 42) (Operand.tmp 44)) 0 (some (18, true)) ⟨_, rfl, rfl, rfl, rfl, rfl⟩ rfl (by kernel_rfl) (by kernel_rfl) (by kernel_rfl) (by kernel_rfl) (fun _ _ _ h => h) (fun _ => hS) ?_
          simp only [Act.put, List.setIfInBounds_toArray, List.set_cons_zero, List.set_cons_succ]
          refine wpAnyB_skip (i := 27) (some 46) (Op.load 3 (Operand.tmp 45)) 3 (some (18, true)) ⟨_, rfl, rfl, rfl, rfl, rfl⟩ rfl (by kernel_rfl) (by kernel_rfl) (by kernel_rfl) (by kernel_rfl) (fun _ _ _ h => h) (fun _ => hS) ?_
          simp only [Act.put, List.setIfInBounds_toArray, List.set_cons_zero, List.set_cons_succ]
          refine wpAnyB_skip (i := 28) (some 47) (Op.binOp BinOp.leq 3 (Operand.tmp 41) (Operand.tmp 46) 3) 4 (some (18, true)) ⟨_, rfl, rfl, rfl, rfl, rfl⟩ rfl (by kernel_rfl) (by kernel_rfl) (by kernel_rfl) (by kernel_rfl) (fun _ _ _ h => h) (fun _ => hS) ?_
          simp only [Act.put, List.setIfInBounds_toArray, List.set_cons_zero, List.set_cons_succ]
          refine wpAnyB_skip (i := 29) (some 48) (Op.pick (Operand.tmp 37) (Operand.tmp 47) (Operand.const (Value.bool false))) 4 (some (15, false)) ⟨_, rfl, rfl, rfl, rfl, rfl⟩ rfl (by kernel_rfl) (by kernel_rfl) (by kernel_rfl) (by kernel_rfl) (fun _ _ _ h => h) (fun _ => hS) ?_
          simp only [Act.put, List.setIfInBounds_toArray, List.set_cons_zero, List.set_cons_succ]
          refine wpAnyB_only (i := 30) (some 49) (Op.pick (Operand.tmp 34) (Operand.const (Value.bool true)) (Operand.tmp 48)) 4 ⟨_, rfl, rfl, rfl, rfl, rfl⟩ (by kernel_rfl) (fun K hK => ?_)
          unfold bareOp
          go_wp2_with fail
          refine hK.out _ _ (fun h => absurd (h.symm.trans (by kernel_rfl : _ = true)) (by decide)) ?_
          clear hK K
          try simp only [Act.put, List.setIfInBounds_toArray, List.set_cons_zero, List.set_cons_succ]
          refine wpAnyB_done (by kernel_rfl) ?_ _
          go_wp2_with fail
          go_ret
          exact ⟨ret_bool HZ.out, HBW.out⟩
        case pos =>
          have d3 : decide (x < least) = false := by simp; omega
          cases hnu : numS Q x
          case false =>
            have HZ := Lib.hid (show false = v from HBAD.out false (by simp [incS, hnu]))
            have HN := Lib.hid hnu
            clear hnu HBAD HI HD
            subst hsa
            go_wp2_with fail
            replace F_g := Lib.hid F_g.out.drew
            replace HBW := Lib.hid HBW.out.drew
            have hS := And.intro F_g.out.s ((HBW.out.cell (p := ⟨s, f + k, none⟩) hsw).trans HEC.out)
            refine wp_region_stage 30 (fun w' => SBox w' w.heap.size P Q G ∧ w'.cell? ⟨s, f + k, none⟩ = some (.int .i64 x)) (by kernel_rfl) ?_
            refine wpAnyB_takeP (i := 0) (some 19) (Op.move (Operand.tmp 1)) 51 (v := ?_) ⟨_, rfl, rfl, rfl, rfl, rfl⟩ (by kernel_rfl) (by kernel_rfl) (by kernel_rfl) (by kernel_rfl) (fun _ _ _ h => h) (fun _ => hS) (fun w' => ?_) ?_
            rotate_left
            · unfold bareOp
              go_simp
              try with_reducible rfl
            simp only [Act.put, List.setIfInBounds_toArray, List.set_cons_zero, List.set_cons_succ]
            refine wpAnyB_takeP (i := 1) (some 20) (Op.move (Operand.tmp 7)) 3 (v := ?_) ⟨_, rfl, rfl, rfl, rfl, rfl⟩ (by kernel_rfl) (by kernel_rfl) (by kernel_rfl) (by kernel_rfl) (fun _ _ _ h => h) (fun _ => hS) (fun w' => ?_) ?_
            rotate_left
            · unfold bareOp
              go_simp
              try with_reducible rfl
            simp only [Act.put, List.setIfInBounds_toArray, List.set_cons_zero, List.set_cons_succ]
            refine wpAnyB_takeP (i := 2) (some 21) (Op.indexAddr 51 (Operand.tmp 19) (Operand.tmp 20)) 0 (v := ?_) ⟨_, rfl, rfl, rfl, rfl, rfl⟩ (by kernel_rfl) (by kernel_rfl) (by kernel_rfl) (by kernel_rfl) (fun _ _ _ h => h) (fun _ => hS) (fun w' => ?_) ?_
            rotate_left
            · unfold bareOp
              go_simp
              try with_reducible rfl
            simp only [Act.put, List.setIfInBounds_toArray, List.set_cons_zero, List.set_cons_succ]
            refine wpAnyB_take (i := 3) (some 22) (Op.load 3 (Operand.tmp 21)) 3 (v := ?_) ⟨_, rfl, rfl, rfl, rfl, rfl⟩ (by kernel_rfl) (by kernel_rfl) (by kernel_rfl) [5, 6, 7, 8, 9, 10, 11, 12, 13, 14, 15, 16, 17, 18, 19, 20, 21, 22, 23, 24, 25, 26, 27, 28, 29, 30] (by kernel_rfl) (fun _ _ _ h => h) hS (fun w' hSw => ?_) ?_
            rotate_left
            · obtain ⟨⟨s0, s1, s2⟩, s3⟩ := hSw
              unfold bareOp
              go_simp
              try with_reducible rfl
            simp only [Act.put, List.setIfInBounds_toArray, List.set_cons_zero, List.set_cons_succ]
            refine wpAnyB_takeP (i := 4) (some 23) (Op.move (Operand.tmp 2)) 3 (v := ?_) ⟨_, rfl, rfl, rfl, rfl, rfl⟩ (by kernel_rfl) (by kernel_rfl) (by kernel_rfl) (by kernel_rfl) (fun _ _ _ h => h) (fun _ => hS) (fun w' => ?_) ?_
            rotate_left
            · unfold bareOp
              go_simp
              try with_reducible rfl
            simp only [Act.put, List.setIfInBounds_toArray, List.set_cons_zero, List.set_cons_succ]
            refine wpAnyB_takeP (i := 5) (some 24) (Op.binOp BinOp.lss 3 (Operand.tmp 22) (Operand.tmp 23) 3) 4 (v := ?_) ⟨_, rfl, rfl, rfl, rfl, rfl⟩ (by kernel_rfl) (by kernel_rfl) (by kernel_rfl) (by kernel_rfl) (fun _ _ _ h => h) (fun _ => hS) (fun w' => ?_) ?_
            rotate_left
            · unfold bareOp
              go_simp
              try with_reducible rfl
            simp only [Act.put, List.setIfInBounds_toArray, List.set_cons_zero, List.set_cons_succ]
            refine wpAnyB_takeP (i := 6) (some 25) (Op.move (Operand.tmp 24)) 4 (v := ?_) ⟨_, rfl, rfl, rfl, rfl, rfl⟩ (by kernel_rfl) (by kernel_rfl) (by kernel_rfl) (by kernel_rfl) (fun _ _ _ h => h) (fun _ => hS) (fun w' => ?_) ?_
            rotate_left
            · unfold bareOp
              go_simp
              try with_reducible rfl
            simp only [Act.put, List.setIfInBounds_toArray, List.set_cons_zero, List.set_cons_succ]
            refine wpAnyB_takeG (i := 7) (some 26) (Op.load 24 (Operand.tmp 3)) 24 (some (6, false)) (v := ?_) ⟨_, rfl, rfl, rfl, rfl, rfl⟩ rfl (by kernel_rfl) (by kernel_rfl) (by kernel_rfl) [12, 13, 14, 15, 16, 17, 18, 19, 20, 21, 22, 23, 24, 25, 26, 27, 28, 29, 30] (by kernel_rfl) (fun _ _ _ h => h) hS (fun w' hSw => ?_) ?_
            rotate_left
            · obtain ⟨⟨s0, s1, s2⟩, s3⟩ := hSw
              unfold bareOp
              go_simp
              try with_reducible rfl
            simp only [Act.put, List.setIfInBounds_toArray, List.set_cons_zero, List.set_cons_succ]
            refine wpAnyB_takePG (i := 8) (some 27) (Op.move (Operand.tmp 1)) 51 (some (6, false)) (v := ?_) ⟨_, rfl, rfl, rfl, rfl, rfl⟩ rfl (by kernel_rfl) (by kernel_rfl) (by kernel_rfl) (by kernel_rfl) (fun _ _ _ h => h) (fun _ => hS) (fun w' => ?_) ?_
            rotate_left
            · unfold bareOp
              go_simp
              try with_reducible rfl
            simp only [Act.put, List.setIfInBounds_toArray, List.set_cons_zero, List.set_cons_succ]
            refine wpAnyB_takePG (i := 9) (some 28) (Op.move (Operand.tmp 7)) 3 (some (6, false)) (v := ?_) ⟨_, rfl, rfl, rfl, rfl, rfl⟩ rfl (by kernel_rfl) (by kernel_rfl) (by kernel_rfl) (by kernel_rfl) (fun _ _ _ h => h) (fun _ => hS) (fun w' => ?_) ?_
            rotate_left
            · unfold bareOp
              go_simp
              try with_reducible rfl
            simp only [Act.put, List.setIfInBounds_toArray, List.set_cons_zero, List.set_cons_succ]
            refine wpAnyB_takePG (i := 10) (some 29) (Op.indexAddr 51 (Operand.tmp 27) (Operand.tmp 28)) 0 (some (6, false)) (v := ?_) ⟨_, rfl, rfl, rfl, rfl, rfl⟩ rfl (by kernel_rfl) (by kernel_rfl) (by kernel_rfl) (by kernel_rfl) (fun _ _ _ h => h) (fun _ => hS) (fun w' => ?_) ?_
            rotate_left
            · unfold bareOp
              go_simp
              try with_reducible rfl
            simp only [Act.put, List.setIfInBounds_toArray, List.set_cons_zero, List.set_cons_succ]
            refine wpAnyB_takeG (i := 11) (some 30) (Op.load 3 (Operand.tmp 29)) 3 (some (6, false)) (v := ?_) ⟨_, rfl, rfl, rfl, rfl, rfl⟩ rfl (by kernel_rfl) (by kernel_rfl) (by kernel_rfl) [12, 13, 14, 15, 16, 17, 18, 19, 20, 21, 22, 23, 24, 25, 26, 27, 28, 29, 30] (by kernel_rfl) (fun _ _ _ h => h) hS (fun w' hSw => ?_) ?_
            rotate_left
            · obtain ⟨⟨s0, s1, s2⟩, s3⟩ := hSw
              unfold bareOp
              go_simp
              try with_reducible rfl
            simp only [Act.put, List.setIfInBounds_toArray, List.set_cons_zero, List.set_cons_succ]
            refine wpAnyB_onlyG (i := 12) (some 31) (Op.call { callee := Callee.value (Operand.func 61), args := #[Operand.tmp 26, Operand.tmp 30], argTypes := #[24, 3] }) 4 (some (6, false)) ⟨_, rfl, rfl, rfl, rfl, rfl⟩ (by kernel_rfl) rfl (fun K hK => ?_)
            unfold bareOp
            go_wp2_with (go_at_call 61; refine (rnumbered_any (Q := Q) (v := false) _ xl xu HN.out).mono ?_; rintro e w8 ⟨rfl, hb8⟩)
            replace F_g := Lib.hid (F_g.out.keep hb8)
            replace HBW := Lib.hid (HBW.out.trans (hb8.mono HBW.out.size))
            replace hS := And.intro F_g.out.s ((HBW.out.cell (p := ⟨s, f + k, none⟩) hsw).trans HEC.out)
            clear hb8
            refine hK.out _ _ (fun _ => hS) ?_
            clear hK K
            try simp only [Act.put, List.setIfInBounds_toArray, List.set_cons_zero, List.set_cons_succ]
            refine wpAnyB_takePG (i := 13) (some 32) (Op.unOp UnOp.not 4 (Operand.tmp 31)) 4 (some (6, false)) (v := ?_) ⟨_, rfl, rfl, rfl, rfl, rfl⟩ rfl (by kernel_rfl) (by kernel_rfl) (by kernel_rfl) (by kernel_rfl) (fun _ _ _ h => h) (fun _ => hS) (fun w' => ?_) ?_
            rotate_left
            · unfold bareOp
              go_simp
              try with_reducible rfl
            simp only [Act.put, List.setIfInBounds_toArray, List.set_cons_zero, List.set_cons_succ]
            refine wpAnyB_takeP (i := 14) (some 33) (Op.pick (Operand.tmp 25) (Operand.const (Value.bool true)) (Operand.tmp 32)) 4 (v := ?_) ⟨_, rfl, rfl, rfl, rfl, rfl⟩ (by kernel_rfl) (by kernel_rfl) (by kernel_rfl) (by kernel_rfl) (fun _ _ _ h => h) (fun _ => hS) (fun w' => ?_) ?_
            rotate_left
            · unfold bareOp
              go_simp
              try with_reducible rfl
            simp only [Act.put, List.setIfInBounds_toArray, List.set_cons_zero, List.set_cons_succ]
            refine wpAnyB_takeP (i := 15) (some 34) (Op.move (Operand.tmp 33)) 4 (v := ?_) ⟨_, rfl, rfl, rfl, rfl, rfl⟩ (by kernel_rfl) (by kernel_rfl) (by kernel_rfl) (by kernel_rfl) (fun _ _ _ h => h) (fun _ => hS) (fun w' => ?_) ?_
            rotate_left
            · unfold bareOp
              go_simp
              try with_reducible rfl
            simp only [Act.put, List.setIfInBounds_toArray, List.set_cons_zero, List.set_cons_succ]
            refine wpAnyB_skip (i := 16) (some 35) (Op.move (Operand.tmp 7)) 3 (some (15, false)) ⟨_, rfl, rfl, rfl, rfl, rfl⟩ rfl (by kernel_rfl) (by kernel_rfl) (by kernel_rfl) (by kernel_rfl) (fun _ _ _ h => h) (fun _ => hS) ?_
            simp only [Act.put, List.setIfInBounds_toArray, List.set_cons_zero, List.set_cons_succ]
            refine wpAnyB_skip (i := 17) (some 36) (Op.binOp BinOp.gtr 3 (Operand.tmp 35) (Operand.const (Value.int IntKind.i64 0)) 3) 4 (some (15, false)) ⟨_, rfl, rfl, rfl, rfl, rfl⟩ rfl (by kernel_rfl) (by kernel_rfl) (by kernel_rfl) (by kernel_rfl) (fun _ _ _ h => h) (fun _ => hS) ?_
            simp only [Act.put, List.setIfInBounds_toArray, List.set_cons_zero, List.set_cons_succ]
            refine wpAnyB_skip (i := 18) (some 37) (Op.move (Operand.tmp 36)) 4 (some (15, false)) ⟨_, rfl, rfl, rfl, rfl, rfl⟩ rfl (by kernel_rfl) (by kernel_rfl) (by kernel_rfl) (by kernel_rfl) (fun _ _ _ h => h) (fun _ => hS) ?_
            simp only [Act.put, List.setIfInBounds_toArray, List.set_cons_zero, List.set_cons_succ]
            refine wpAnyB_skip (i := 19) (some 38) (Op.move (Operand.tmp 1)) 51 (some (18, true)) ⟨_, rfl, rfl, rfl, rfl, rfl⟩ rfl (by kernel_rfl) (by kernel_rfl) (by kernel_rfl) (by kernel_rfl) (fun _ _ _ h => h) (fun _ => hS) ?_
            simp only [Act.put, List.setIfInBounds_toArray, List.set_cons_zero, List.set_cons_succ]
            refine wpAnyB_skip (i := 20) (some 39) (Op.move (Operand.tmp 7)) 3 (some (18, true)) ⟨_, rfl, rfl, rfl, rfl, rfl⟩ rfl (by kernel_rfl) (by kernel_rfl) (by kernel_rfl) (by kernel_rfl) (fun _ _ _ h => h) (fun _ => hS) ?_
            simp only [Act.put, List.setIfInBounds_toArray, List.set_cons_zero, List.set_cons_succ]
            refine wpAnyB_skip (i := 21) (some 40) (Op.indexAddr 51 (Operand.tmp 38) (Operand.tmp 39)) 0 (some (18, true)) ⟨_, rfl, rfl, rfl, rfl, rfl⟩ rfl (by kernel_rfl) (by kernel_rfl) (by kernel_rfl) (by kernel_rfl) (fun _ _ _ h => h) (fun _ => hS) ?_
            simp only [Act.put, List.setIfInBounds_toArray, List.set_cons_zero, List.set_cons_succ]
            refine wpAnyB_skip (i := 22) (some 41) (Op.load 3 (Operand.tmp 40)) 3 (some (18, true)) ⟨_, rfl, rfl, rfl, rfl, rfl⟩ rfl (by kernel_rfl) (by kernel_rfl) (by kernel_rfl) (by kernel_rfl) (fun _ _ _ h => h) (fun _ => hS) ?_
            simp only [Act.put, List.setIfInBounds_toArray, List.set_cons_zero, List.set_cons_succ]
            refine wpAnyB_skip (i := 23) (some 42) (Op.move (Operand.tmp 1)) 51 (some (18, true)) ⟨_, rfl, rfl, rfl, rfl, rfl⟩ rfl (by kernel_rfl) (by kernel_rfl) (by kernel_rfl) (by kernel_rfl) (fun _ _ _ h => h) (fun _ => hS) ?_
            simp only [Act.put, List.setIfInBounds_toArray, List.set_cons_zero, List.set_cons_succ]
            refine wpAnyB_skip (i := 24) (some 43) (Op.move (Operand.tmp 7)) 3 (some (18, true)) ⟨_, rfl, rfl, rfl, rfl, rfl⟩ rfl (by kernel_rfl) (by kernel_rfl) (by kernel_rfl) (by kernel_rfl) (fun _ _ _ h => h) (fun _ => hS) ?_
            simp only [Act.put, List.setIfInBounds_toArray, List.set_cons_zero, List.set_cons_succ]
            refine wpAnyB_skip (i := 25) (some 44) (Op.binOp BinOp.sub 3 (Operand.tmp 43) (Operand.const (Value.int IntKind.i64 1)) 3) 3 (some (18, true)) ⟨_, rfl, rfl, rfl, rfl, rfl⟩ rfl (by kernel_rfl) (by kernel_rfl) (by kernel_rfl) (by kernel_rfl) (fun _ _ _ h => h) (fun _ => hS) ?_
            simp only [Act.put, List.setIfInBounds_toArray, List.set_cons_zero, List.set_cons_succ]
            refine wpAnyB_skip (i := 26) (some 45) (Op.indexAddr 51 (Operand.tmp 42) (Operand.tmp 44)) 0 (some (18, true)) ⟨_, rfl, rfl, rfl, rfl, rfl⟩ rfl (by kernel_rfl) (by kernel_rfl) (by kernel_rfl) (by kernel_rfl) (fun _ _ _ h => h) (fun _ => hS) ?_
            simp only [Act.put, List.setIfInBounds_toArray, List.set_cons_zero, List.set_cons_succ]
            refine wpAnyB_skip (i := 27) (some 46) (Op.load 3 (Operand.tmp 45)) 3 (some (18, true)) ⟨_, rfl, rfl, rfl, rfl, rfl⟩ rfl (by kernel_rfl) (by kernel_rfl) (by kernel_rfl) (by kernel_rfl) (fun _ _ _ h => h) (fun _ => hS) ?_
            simp only [Act.put, List.setIfInBounds_toArray, List.set_cons_zero, List.set_cons_succ]
            refine wpAnyB_skip (i := 28) (some 47) (Op.binOp BinOp.leq 3 (Operand.tmp 41) (Operand.tmp 46) 3) 4 (some (18, true)) ⟨_, rfl, rfl, rfl, rfl, rfl⟩ rfl (by kernel_rfl) (by kernel_rfl) (by kernel_rfl) (by kernel_rfl) (fun _ _ _ h => h) (fun _ => hS) ?_
            simp only [Act.put, List.setIfInBounds_toArray, List.set_cons_zero, List.set_cons_succ]
            refine wpAnyB_skip (i := 29) (some 48) (Op.pick (Operand.tmp 37) (Operand.tmp 47) (Operand.const (Value.bool false))) 4 (some (15, false)) ⟨_, rfl, rfl, rfl, rfl, rfl⟩ rfl (by kernel_rfl) (by kernel_rfl) (by kernel_rfl) (by kernel_rfl) (fun _ _ _ h => h) (fun _ => hS) ?_
            simp only [Act.put, List.setIfInBounds_toArray, List.set_cons_zero, List.set_cons_succ]
            refine wpAnyB_only (i := 30) (some 49) (Op.pick (Operand.tmp 34) (Operand.const (Value.bool true)) (Operand.tmp 48)) 4 ⟨_, rfl, rfl, rfl, rfl, rfl⟩ (by kernel_rfl) (fun K hK => ?_)
            unfold bareOp
            go_wp2_with fail
            refine hK.out _ _ (fun h => absurd (h.symm.trans (by kernel_rfl : _ = true)) (by decide)) ?_
            clear hK K
            try simp only [Act.put, List.setIfInBounds_toArray, List.set_cons_zero, List.set_cons_succ]
            refine wpAnyB_done (by kernel_rfl) ?_ _
            go_wp2_with fail
            go_ret
            exact ⟨ret_bool HZ.out, HBW.out⟩
          case true =>
            have HN := Lib.hid hnu
            by_cases hk00 : k = 0
            case pos =>
              have HI2 := Lib.hid (show incS Q (least - 1) ids = incS Q (lastOf least ids (k + 1)) (ids.drop (k + 1)) by rw [HI.out, HD.out, HLX.out]; exact incS_step hnu (by simp [lastOf, hk00]; omega))
              have d6 : decide ((0 : Int) < (k : Int)) = false := by simp; omega
              have d6n : decide (0 < k) = false := by simp; omega
              clear hnu HBAD hk00 HI HD
              subst hsa
              go_wp2_with fail
              replace F_g := Lib.hid F_g.out.drew
              replace HBW := Lib.hid HBW.out.drew
              have hS := And.intro F_g.out.s ((HBW.out.cell (p := ⟨s, f + k, none⟩) hsw).trans HEC.out)
              refine wp_region_stage 30 (fun w' => SBox w' w.heap.size P Q G ∧ w'.cell? ⟨s, f + k, none⟩ = some (.int .i64 x)) (by kernel_rfl) ?_
              refine wpAnyB_takeP (i := 0) (some 19) (Op.move (Operand.tmp 1)) 51 (v := ?_) ⟨_, rfl, rfl, rfl, rfl, rfl⟩ (by kernel_rfl) (by kernel_rfl) (by kernel_rfl) (by kernel_rfl) (fun _ _ _ h => h) (fun _ => hS) (fun w' => ?_) ?_
              rotate_left
              · unfold bareOp
                go_simp
                try with_reducible rfl
              simp only [Act.put, List.setIfInBounds_toArray, List.set_cons_zero, List.set_cons_succ]
              refine wpAnyB_takeP (i := 1) (some 20) (Op.move (Operand.tmp 7)) 3 (v := ?_) ⟨_, rfl, rfl, rfl, rfl, rfl⟩ (by kernel_rfl) (by kernel_rfl) (by kernel_rfl) (by kernel_rfl) (fun _ _ _ h => h) (fun _ => hS) (fun w' => ?_) ?_
              rotate_left
              · unfold bareOp
                go_simp
                try with_reducible rfl
              simp only [Act.put, List.setIfInBounds_toArray, List.set_cons_zero, List.set_cons_succ]
              refine wpAnyB_takeP (i := 2) (some 21) (Op.indexAddr 51 (Operand.tmp 19) (Operand.tmp 20)) 0 (v := ?_) ⟨_, rfl, rfl, rfl, rfl, rfl⟩ (by kernel_rfl) (by kernel_rfl) (by kernel_rfl) (by kernel_rfl) (fun _ _ _ h => h) (fun _ => hS) (fun w' => ?_) ?_
              rotate_left
              · unfold bareOp
                go_simp
                try with_reducible rfl
              simp only [Act.put, List.setIfInBounds_toArray, List.set_cons_zero, List.set_cons_succ]
              refine wpAnyB_take (i := 3) (some 22) (Op.load 3 (Operand.tmp 21)) 3 (v := ?_) ⟨_, rfl, rfl, rfl, rfl, rfl⟩ (by kernel_rfl) (by kernel_rfl) (by kernel_rfl) [5, 6, 7, 8, 9, 10, 11, 12, 13, 14, 15, 16, 17, 18, 19, 20, 21, 22, 23, 24, 25, 26, 27, 28, 29, 30] (by kernel_rfl) (fun _ _ _ h => h) hS (fun w' hSw => ?_) ?_
              rotate_left
              · obtain ⟨⟨s0, s1, s2⟩, s3⟩ := hSw
                unfold bareOp
                go_simp
                try with_reducible rfl
              simp only [Act.put, List.setIfInBounds_toArray, List.set_cons_zero, List.set_cons_succ]
              refine wpAnyB_takeP (i := 4) (some 23) (Op.move (Operand.tmp 2)) 3 (v := ?_) ⟨_, rfl, rfl, rfl, rfl, rfl⟩ (by kernel_rfl) (by kernel_rfl) (by kernel_rfl) (by kernel_rfl) (fun _ _ _ h => h) (fun _ => hS) (fun w' => ?_) ?_
              rotate_left
              · unfold bareOp
                go_simp
                try with_reducible rfl
              simp only [Act.put, List.setIfInBounds_toArray, List.set_cons_zero, List.set_cons_succ]
              refine wpAnyB_takeP (i := 5) (some 24) (Op.binOp BinOp.lss 3 (Operand.tmp 22) (Operand.tmp 23) 3) 4 (v := ?_) ⟨_, rfl, rfl, rfl, rfl, rfl⟩ (by kernel_rfl) (by kernel_rfl) (by kernel_rfl) (by kernel_rfl) (fun _ _ _ h => h) (fun _ => hS) (fun w' => ?_) ?_
              rotate_left
              · unfold bareOp
                go_simp
                try with_reducible rfl
              simp only [Act.put, List.setIfInBounds_toArray, List.set_cons_zero, List.set_cons_succ]
              refine wpAnyB_takeP (i := 6) (some 25) (Op.move (Operand.tmp 24)) 4 (v := ?_) ⟨_, rfl, rfl, rfl, rfl, rfl⟩ (by kernel_rfl) (by kernel_rfl) (by kernel_rfl) (by kernel_rfl) (fun _ _ _ h => h) (fun _ => hS) (fun w' => ?_) ?_
              rotate_left
              · unfold bareOp
                go_simp
                try with_reducible rfl
              simp only [Act.put, List.setIfInBounds_toArray, List.set_cons_zero, List.set_cons_succ]
              refine wpAnyB_takeG (i := 7) (some 26) (Op.load 24 (Operand.tmp 3)) 24 (some (6, false)) (v := ?_) ⟨_, rfl, rfl, rfl, rfl, rfl⟩ rfl (by kernel_rfl) (by kernel_rfl) (by kernel_rfl) [12, 13, 14, 15, 16, 17, 18, 19, 20, 21, 22, 23, 24, 25, 26, 27, 28, 29, 30] (by kernel_rfl) (fun _ _ _ h => h) hS (fun w' hSw => ?_) ?_
              rotate_left
              · obtain ⟨⟨s0, s1, s2⟩, s3⟩ := hSw
                unfold bareOp
                go_simp
                try with_reducible rfl
              simp only [Act.put, List.setIfInBounds_toArray, List.set_cons_zero, List.set_cons_succ]
              refine wpAnyB_takePG (i := 8) (some 27) (Op.move (Operand.tmp 1)) 51 (some (6, false)) (v := ?_) ⟨_, rfl, rfl, rfl, rfl, rfl⟩ rfl (by kernel_rfl) (by kernel_rfl) (by kernel_rfl) (by kernel_rfl) (fun _ _ _ h => h) (fun _ => hS) (fun w' => ?_) ?_
              rotate_left
              · unfold bareOp
                go_simp
                try with_reducible rfl
              simp only [Act.put, List.setIfInBounds_toArray, List.set_cons_zero, List.set_cons_succ]
              refine wpAnyB_takePG (i := 9) (some 28) (Op.move (Operand.tmp 7)) 3 (some (6, false)) (v := ?_) ⟨_, rfl, rfl, rfl, rfl, rfl⟩ rfl (by kernel_rfl) (by kernel_rfl) (by kernel_rfl) (by kernel_rfl) (fun _ _ _ h => h) (fun _ => hS) (fun w' => ?_) ?_
              rotate_left
              · unfold bareOp
                go_simp
                try with_reducible rfl
              simp only [Act.put, List.setIfInBounds_toArray, List.set_cons_zero, List.set_cons_succ]
              refine wpAnyB_takePG (i := 10) (some 29) (Op.indexAddr 51 (Operand.tmp 27) (Operand.tmp 28)) 0 (some (6, false)) (v := ?_) ⟨_, rfl, rfl, rfl, rfl, rfl⟩ rfl (by kernel_rfl) (by kernel_rfl) (by kernel_rfl) (by kernel_rfl) (fun _ _ _ h => h) (fun _ => hS) (fun w' => ?_) ?_
              rotate_left
              · unfold bareOp
                go_simp
                try with_reducible rfl
              simp only [Act.put, List.setIfInBounds_toArray, List.set_cons_zero, List.set_cons_succ]
              refine wpAnyB_takeG (i := 11) (some 30) (Op.load 3 (Operand.tmp 29)) 3 (some (6, false)) (v := ?_) ⟨_, rfl, rfl, rfl, rfl, rfl⟩ rfl (by kernel_rfl) (by kernel_rfl) (by kernel_rfl) [12, 13, 14, 15, 16, 17, 18, 19, 20, 21, 22, 23, 24, 25, 26, 27, 28, 29, 30] (by kernel_rfl) (fun _ _ _ h => h) hS (fun w' hSw => ?_) ?_
              rotate_left
              · obtain ⟨⟨s0, s1, s2⟩, s3⟩ := hSw
                unfold bareOp
                go_simp
                try with_reducible rfl
              simp only [Act.put, List.setIfInBounds_toArray, List.set_cons_zero, List.set_cons_succ]
              refine wpAnyB_onlyG (i := 12) (some 31) (Op.call { callee := Callee.value (Operand.func 61), args := #[Operand.tmp 26, Operand.tmp 30], argTypes := #[24, 3] }) 4 (some (6, false)) ⟨_, rfl, rfl, rfl, rfl, rfl⟩ (by kernel_rfl) rfl (fun K hK => ?_)
              unfold bareOp
              go_wp2_with (go_at_call 61; refine (rnumbered_any (Q := Q) (v := true) _ xl xu HN.out).mono ?_; rintro e w8 ⟨rfl, hb8⟩)
              replace F_g := Lib.hid (F_g.out.keep hb8)
              replace HBW := Lib.hid (HBW.out.trans (hb8.mono HBW.out.size))
              replace hS := And.intro F_g.out.s ((HBW.out.cell (p := ⟨s, f + k, none⟩) hsw).trans HEC.out)
              clear hb8
              refine hK.out _ _ (fun _ => hS) ?_
              clear hK K
              try simp only [Act.put, List.setIfInBounds_toArray, List.set_cons_zero, List.set_cons_succ]
              refine wpAnyB_takePG (i := 13) (some 32) (Op.unOp UnOp.not 4 (Operand.tmp 31)) 4 (some (6, false)) (v := ?_) ⟨_, rfl, rfl, rfl, rfl, rfl⟩ rfl (by kernel_rfl) (by kernel_rfl) (by kernel_rfl) (by kernel_rfl) (fun _ _ _ h => h) (fun _ => hS) (fun w' => ?_) ?_
              rotate_left
              · unfold bareOp
                go_simp
                try with_reducible rfl
              simp only [Act.put, List.setIfInBounds_toArray, List.set_cons_zero, List.set_cons_succ]
              refine wpAnyB_takeP (i := 14) (some 33) (Op.pick (Operand.tmp 25) (Operand.const (Value.bool true)) (Operand.tmp 32)) 4 (v := ?_) ⟨_, rfl, rfl, rfl, rfl, rfl⟩ (by kernel_rfl) (by kernel_rfl) (by kernel_rfl) (by kernel_rfl) (fun _ _ _ h => h) (fun _ => hS) (fun w' => ?_) ?_
              rotate_left
              · unfold bareOp
                go_simp
                try with_reducible rfl
              simp only [Act.put, List.setIfInBounds_toArray, List.set_cons_zero, List.set_cons_succ]
              refine wpAnyB_takeP (i := 15) (some 34) (Op.move (Operand.tmp 33)) 4 (v := ?_) ⟨_, rfl, rfl, rfl, rfl, rfl⟩ (by kernel_rfl) (by kernel_rfl) (by kernel_rfl) (by kernel_rfl) (fun _ _ _ h => h) (fun _ => hS) (fun w' => ?_) ?_
              rotate_left
              · unfold bareOp
                go_simp
                try with_reducible rfl
              simp only [Act.put, List.setIfInBounds_toArray, List.set_cons_zero, List.set_cons_succ]
              refine wpAnyB_takePG (i := 16) (some 35) (Op.move (Operand.tmp 7)) 3 (some (15, false)) (v := ?_) ⟨_, rfl, rfl, rfl, rfl, rfl⟩ rfl (by kernel_rfl) (by kernel_rfl) (by kernel_rfl) (by kernel_rfl) (fun _ _ _ h => h) (fun _ => hS) (fun w' => ?_) ?_
              rotate_left
              · unfold bareOp
                go_simp
                try with_reducible rfl
              simp only [Act.put, List.setIfInBounds_toArray, List.set_cons_zero, List.set_cons_succ]
              refine wpAnyB_takePG (i := 17) (some 36) (Op.binOp BinOp.gtr 3 (Operand.tmp 35) (Operand.const (Value.int IntKind.i64 0)) 3) 4 (some (15, false)) (v := ?_) ⟨_, rfl, rfl, rfl, rfl, rfl⟩ rfl (by kernel_rfl) (by kernel_rfl) (by kernel_rfl) (by kernel_rfl) (fun _ _ _ h => h) (fun _ => hS) (fun w' => ?_) ?_
              rotate_left
              · unfold bareOp
                go_simp
                try with_reducible rfl
              simp only [Act.put, List.setIfInBounds_toArray, List.set_cons_zero, List.set_cons_succ]
              refine wpAnyB_takePG (i := 18) (some 37) (Op.move (Operand.tmp 36)) 4 (some (15, false)) (v := ?_) ⟨_, rfl, rfl, rfl, rfl, rfl⟩ rfl (by kernel_rfl) (by kernel_rfl) (by kernel_rfl) (by kernel_rfl) (fun _ _ _ h => h) (fun _ => hS) (fun w' => ?_) ?_
              rotate_left
              · unfold bareOp
                go_simp
                try with_reducible rfl
              simp only [Act.put, List.setIfInBounds_toArray, List.set_cons_zero, List.set_cons_succ]
              refine wpAnyB_skip (i := 19) (some 38) (Op.move (Operand.tmp 1)) 51 (some (18, true)) ⟨_, rfl, rfl, rfl, rfl, rfl⟩ rfl (by kernel_rfl) (by kernel_rfl) (by kernel_rfl) (by kernel_rfl) (fun _ _ _ h => h) (fun _ => hS) ?_
              simp only [Act.put, List.setIfInBounds_toArray, List.set_cons_zero, List.set_cons_succ]
              refine wpAnyB_skip (i := 20) (some 39) (Op.move (Operand.tmp 7)) 3 (some (18, true)) ⟨_, rfl, rfl, rfl, rfl, rfl⟩ rfl (by kernel_rfl) (by kernel_rfl) (by kernel_rfl) (by kernel_rfl) (fun _ _ _ h => h) (fun _ => hS) ?_
              simp only [Act.put, List.setIfInBounds_toArray, List.set_cons_zero, List.set_cons_succ]
              refine wpAnyB_skip (i := 21) (some 40) (Op.indexAddr 51 (Operand.tmp 38) (Operand.tmp 39)) 0 (some (18, true)) ⟨_, rfl, rfl, rfl, rfl, rfl⟩ rfl (by kernel_rfl) (by kernel_rfl) (by kernel_rfl) (by kernel_rfl) (fun _ _ _ h => h) (fun _ => hS) ?_
              simp only [Act.put, List.setIfInBounds_toArray, List.set_cons_zero, List.set_cons_succ]
              refine wpAnyB_skip (i := 22) (some 41) (Op.load 3 (Operand.tmp 40)) 3 (some (18, true)) ⟨_, rfl, rfl, rfl, rfl, rfl⟩ rfl (by kernel_rfl) (by kernel_rfl) (by kernel_rfl) (by kernel_rfl) (fun _ _ _ h => h) (fun _ => hS) ?_
              simp only [Act.put, List.setIfInBounds_toArray, List.set_cons_zero, List.set_cons_succ]
              refine wpAnyB_skip (i := 23) (some 42) (Op.move (Operand.tmp 1)) 51 (some (18, true)) ⟨_, rfl, rfl, rfl, rfl, rfl⟩ rfl (by kernel_rfl) (by kernel_rfl) (by kernel_rfl) (by kernel_rfl) (fun _ _ _ h => h) (fun _ => hS) ?_
              simp only [Act.put, List.setIfInBounds_toArray, List.set_cons_zero, List.set_cons_succ]
              refine wpAnyB_skip (i := 24) (some 43) (Op.move (Operand.tmp 7)) 3 (some (18, true)) ⟨_, rfl, rfl, rfl, rfl, rfl⟩ rfl (by kernel_rfl) (by kernel_rfl) (by kernel_rfl) (by kernel_rfl) (fun _ _ _ h => h) (fun _ => hS) ?_
              simp only [Act.put, List.setIfInBounds_toArray, List.set_cons_zero, List.set_cons_succ]
              refine wpAnyB_skip (i := 25) (some 44) (Op.binOp BinOp.sub 3 (Operand.tmp 43) (Operand.const (Value.int IntKind.i64 1)) 3) 3 (some (18, true)) ⟨_, rfl, rfl, rfl, rfl, rfl⟩ rfl (by kernel_rfl) (by kernel_rfl) (by kernel_rfl) (by kernel_rfl) (fun _ _ _ h => h) (fun _ => hS) ?_
              simp only [Act.put, List.setIfInBounds_toArray, List.set_cons_zero, List.set_cons_succ]
              refine wpAnyB_skip (i := 26) (some 45) (Op.indexAddr 51 (Operand.tmp 42) (Operand.tmp 44)) 0 (some (18, true)) ⟨_, rfl, rfl, rfl, rfl, rfl⟩ rfl (by kernel_rfl) (by kernel_rfl) (by kernel_rfl) (by kernel_rfl) (fun _ _ _ h => h) (fun _ => hS) ?_
              simp only [Act.put, List.setIfInBounds_toArray, List.set_cons_zero, List.set_cons_succ]
              refine wpAnyB_skip (i := 27) (some 46) (Op.load 3 (Operand.tmp 45)) 3 (some (18, true)) ⟨_, rfl, rfl, rfl, rfl, rfl⟩ rfl (by kernel_rfl) (by kernel_rfl) (by kernel_rfl) (by kernel_rfl) (fun _ _ _ h => h) (fun _ => hS) ?_
              simp only [Act.put, List.setIfInBounds_toArray, List.set_cons_zero, List.set_cons_succ]
              refine wpAnyB_skip (i := 28) (some 47) (Op.binOp BinOp.leq 3 (Operand.tmp 41) (Operand.tmp 46) 3) 4 (some (18, true)) ⟨_, rfl, rfl, rfl, rfl, rfl⟩ rfl (by kernel_rfl) (by kernel_rfl) (by kernel_rfl) (by kernel_rfl) (fun _ _ _ h => h) (fun _ => hS) ?_
              simp only [Act.put, List.setIfInBounds_toArray, List.set_cons_zero, List.set_cons_succ]
              refine wpAnyB_takePG (i := 29) (some 48) (Op.pick (Operand.tmp 37) (Operand.tmp 47) (Operand.const (Value.bool false))) 4 (some (15, false)) (v := ?_) ⟨_, rfl, rfl, rfl, rfl, rfl⟩ rfl (by kernel_rfl) (by kernel_rfl) (by kernel_rfl) (by kernel_rfl) (fun _ _ _ h => h) (fun _ => hS) (fun w' => ?_) ?_
              rotate_left
              · unfold bareOp
                go_simp
                try with_reducible rfl
              simp only [Act.put, List.setIfInBounds_toArray, List.set_cons_zero, List.set_cons_succ]
              refine wpAnyB_only (i := 30) (some 49) (Op.pick (Operand.tmp 34) (Operand.const (Value.bool true)) (Operand.tmp 48)) 4 ⟨_, rfl, rfl, rfl, rfl, rfl⟩ (by kernel_rfl) (fun K hK => ?_)
              unfold bareOp
              go_wp2_with fail
              refine hK.out _ _ (fun h => absurd (h.symm.trans (by kernel_rfl : _ = true)) (by decide)) ?_
              clear hK K
              try simp only [Act.put, List.setIfInBounds_toArray, List.set_cons_zero, List.set_cons_succ]
              refine wpAnyB_done (by kernel_rfl) ?_ _
              go_wp2_with fail
              go_roundw
              case rel => exact ⟨k + 1, by omega, by go_num, HI2.out, (by show least - 1 ≤ lastOf least ids (k + 1); rw [HLX.out]; omega), F_g.out, HBW.out⟩
              case measure => simp [intOf]; omega
            case neg =>
              have d6 : decide ((0 : Int) < (k : Int)) = true := by simp; omega
              have d6n : decide (0 < k) = true := by simp; omega
              obtain ⟨s', f', hsa', hsl', hcp, -⟩ := HS.out.at (k - 1) (by omega)
              rw [hsa] at hsa'
              cases hsa'
              obtain ⟨y, hy⟩ : ∃ y, ids.getD (k - 1) 0 = y := ⟨_, rfl⟩
              rw [hy] at hcp
              have HEP := Lib.hid hcp
              have HLY := Lib.hid (show lastOf least ids k = y by simp only [lastOf, hk00, if_false]; exact hy)
              have hw1 : IntKind.i64.wrap ((k : Int) - 1) = (k : Int) - 1 := IntWalk.i64_in _ (by omega)
              have hcast : ((k : Int) - 1) = ((k - 1 : Nat) : Int) := by omega
              have hnat : ((k : Int) - 1).toNat = k - 1 := by omega
              have hk11 : (1 : Int) ≤ (k : Int) := by omega
              have hkm0 : (0 : Int) ≤ (k : Int) - 1 := by omega
              have hkm1 : (k : Int) - 1 < (n : Int) := by omega
              have HC := Lib.hid hcast
              clear hcp hy hcast
              by_cases hyx : y < x
              case neg =>
                have HZ := Lib.hid (show false = v from HBAD.out false (by rw [HLY.out]; simp [incS, hyx]))
                have d7 : decide (x ≤ y) = true := by simp; omega
                clear hnu HBAD HI HD
                subst hsa
                go_wp2_with fail
                replace F_g := Lib.hid F_g.out.drew
                replace HBW := Lib.hid HBW.out.drew
                have hS := And.intro F_g.out.s (And.intro ((HBW.out.cell (p := ⟨s, f + k, none⟩) hsw).trans HEC.out) ((HBW.out.cell (p := ⟨s, f + (k - 1), none⟩) hsw).trans HEP.out))
                refine wp_region_stage 30 (fun w' => SBox w' w.heap.size P Q G ∧ w'.cell? ⟨s, f + k, none⟩ = some (.int .i64 x) ∧ w'.cell? ⟨s, f + (k - 1), none⟩ = some (.int .i64 y)) (by kernel_rfl) ?_
                refine wpAnyB_takeP (i := 0) (some 19) (Op.move (Operand.tmp 1)) 51 (v := ?_) ⟨_, rfl, rfl, rfl, rfl, rfl⟩ (by kernel_rfl) (by kernel_rfl) (by kernel_rfl) (by kernel_rfl) (fun _ _ _ h => h) (fun _ => hS) (fun w' => ?_) ?_
                rotate_left
                · unfold bareOp
                  go_simp
                  try with_reducible rfl
                simp only [Act.put, List.setIfInBounds_toArray, List.set_cons_zero, List.set_cons_succ]
                refine wpAnyB_takeP (i := 1) (some 20) (Op.move (Operand.tmp 7)) 3 (v := ?_) ⟨_, rfl, rfl, rfl, rfl, rfl⟩ (by kernel_rfl) (by kernel_rfl) (by kernel_rfl) (by kernel_rfl) (fun _ _ _ h => h) (fun _ => hS) (fun w' => ?_) ?_
                rotate_left
                · unfold bareOp
                  go_simp
                  try with_reducible rfl
                simp only [Act.put, List.setIfInBounds_toArray, List.set_cons_zero, List.set_cons_succ]
                refine wpAnyB_takeP (i := 2) (some 21) (Op.indexAddr 51 (Operand.tmp 19) (Operand.tmp 20)) 0 (v := ?_) ⟨_, rfl, rfl, rfl, rfl, rfl⟩ (by kernel_rfl) (by kernel_rfl) (by kernel_rfl) (by kernel_rfl) (fun _ _ _ h => h) (fun _ => hS) (fun w' => ?_) ?_
                rotate_left
                · unfold bareOp
                  go_simp
                  try with_reducible rfl
                simp only [Act.put, List.setIfInBounds_toArray, List.set_cons_zero, List.set_cons_succ]
                refine wpAnyB_take (i := 3) (some 22) (Op.load 3 (Operand.tmp 21)) 3 (v := ?_) ⟨_, rfl, rfl, rfl, rfl, rfl⟩ (by kernel_rfl) (by kernel_rfl) (by kernel_rfl) [5, 6, 7, 8, 9, 10, 11, 12, 13, 14, 15, 16, 17, 18, 19, 20, 21, 22, 23, 24, 25, 26, 27, 28, 29, 30] (by kernel_rfl) (fun _ _ _ h => h) hS (fun w' hSw => ?_) ?_
                rotate_left
                · obtain ⟨⟨s0, s1, s2⟩, s3, s4⟩ := hSw
                  unfold bareOp
                  go_simp
                  try with_reducible rfl
                simp only [Act.put, List.setIfInBounds_toArray, List.set_cons_zero, List.set_cons_succ]
                refine wpAnyB_takeP (i := 4) (some 23) (Op.move (Operand.tmp 2)) 3 (v := ?_) ⟨_, rfl, rfl, rfl, rfl, rfl⟩ (by kernel_rfl) (by kernel_rfl) (by kernel_rfl) (by kernel_rfl) (fun _ _ _ h => h) (fun _ => hS) (fun w' => ?_) ?_
                rotate_left
                · unfold bareOp
                  go_simp
                  try with_reducible rfl
                simp only [Act.put, List.setIfInBounds_toArray, List.set_cons_zero, List.set_cons_succ]
                refine wpAnyB_takeP (i := 5) (some 24) (Op.binOp BinOp.lss 3 (Operand.tmp 22) (Operand.tmp 23) 3) 4 (v := ?_) ⟨_, rfl, rfl, rfl, rfl, rfl⟩ (by kernel_rfl) (by kernel_rfl) (by kernel_rfl) (by kernel_rfl) (fun _ _ _ h => h) (fun _ => hS) (fun w' => ?_) ?_
                rotate_left
                · unfold bareOp
                  go_simp
                  try with_reducible rfl
                simp only [Act.put, List.setIfInBounds_toArray, List.set_cons_zero, List.set_cons_succ]
                refine wpAnyB_takeP (i := 6) (some 25) (Op.move (Operand.tmp 24)) 4 (v := ?_) ⟨_, rfl, rfl, rfl, rfl, rfl⟩ (by kernel_rfl) (by kernel_rfl) (by kernel_rfl) (by kernel_rfl) (fun _ _ _ h => h) (fun _ => hS) (fun w' => ?_) ?_
                rotate_left
                · unfold bareOp
                  go_simp
                  try with_reducible rfl
                simp only [Act.put, List.setIfInBounds_toArray, List.set_cons_zero, List.set_cons_succ]
                refine wpAnyB_takeG (i := 7) (some 26) (Op.load 24 (Operand.tmp 3)) 24 (some (6, false)) (v := ?_) ⟨_, rfl, rfl, rfl, rfl, rfl⟩ rfl (by kernel_rfl) (by kernel_rfl) (by kernel_rfl) [12, 13, 14, 15, 16, 17, 18, 19, 20, 21, 22, 23, 24, 25, 26, 27, 28, 29, 30] (by kernel_rfl) (fun _ _ _ h => h) hS (fun w' hSw => ?_) ?_
                rotate_left
                · obtain ⟨⟨s0, s1, s2⟩, s3, s4⟩ := hSw
                  unfold bareOp
                  go_simp
                  try with_reducible rfl
                simp only [Act.put, List.setIfInBounds_toArray, List.set_cons_zero, List.set_cons_succ]
                refine wpAnyB_takePG (i := 8) (some 27) (Op.move (Operand.tmp 1)) 51 (some (6, false)) (v := ?_) ⟨_, rfl, rfl, rfl, rfl, rfl⟩ rfl (by kernel_rfl) (by kernel_rfl) (by kernel_rfl) (by kernel_rfl) (fun _ _ _ h => h) (fun _ => hS) (fun w' => ?_) ?_
                rotate_left
                · unfold bareOp
                  go_simp
                  try with_reducible rfl
                simp only [Act.put, List.setIfInBounds_toArray, List.set_cons_zero, List.set_cons_succ]
                refine wpAnyB_takePG (i := 9) (some 28) (Op.move (Operand.tmp 7)) 3 (some (6, false)) (v := ?_) ⟨_, rfl, rfl, rfl, rfl, rfl⟩ rfl (by kernel_rfl) (by kernel_rfl) (by kernel_rfl) (by kernel_rfl) (fun _ _ _ h => h) (fun _ => hS) (fun w' => ?_) ?_
                rotate_left
                · unfold bareOp
                  go_simp
                  try with_reducible rfl
                simp only [Act.put, List.setIfInBounds_toArray, List.set_cons_zero, List.set_cons_succ]
                refine wpAnyB_takePG (i := 10) (some 29) (Op.indexAddr 51 (Operand.tmp 27) (Operand.tmp 28)) 0 (some (6, false)) (v := ?_) ⟨_, rfl, rfl, rfl, rfl, rfl⟩ rfl (by kernel_rfl) (by kernel_rfl) (by kernel_rfl) (by kernel_rfl) (fun _ _ _ h => h) (fun _ => hS) (fun w' => ?_) ?_
                rotate_left
                · unfold bareOp
                  go_simp
                  try with_reducible rfl
                simp only [Act.put, List.setIfInBounds_toArray, List.set_cons_zero, List.set_cons_succ]
                refine wpAnyB_takeG (i := 11) (some 30) (Op.load 3 (Operand.tmp 29)) 3 (some (6, false)) (v := ?_) ⟨_, rfl, rfl, rfl, rfl, rfl⟩ rfl (by kernel_rfl) (by kernel_rfl) (by kernel_rfl) [12, 13, 14, 15, 16, 17, 18, 19, 20, 21, 22, 23, 24, 25, 26, 27, 28, 29, 30] (by kernel_rfl) (fun _ _ _ h => h) hS (fun w' hSw => ?_) ?_
                rotate_left
                · obtain ⟨⟨s0, s1, s2⟩, s3, s4⟩ := hSw
                  unfold bareOp
                  go_simp
                  try with_reducible rfl
                simp only [Act.put, List.setIfInBounds_toArray, List.set_cons_zero, List.set_cons_succ]
                refine wpAnyB_onlyG (i := 12) (some 31) (Op.call { callee := Callee.value (Operand.func 61), args := #[Operand.tmp 26, Operand.tmp 30], argTypes := #[24, 3] }) 4 (some (6, false)) ⟨_, rfl, rfl, rfl, rfl, rfl⟩ (by kernel_rfl) rfl (fun K hK => ?_)
                unfold bareOp
                go_wp2_with (go_at_call 61; refine (rnumbered_any (Q := Q) (v := true) _ xl xu HN.out).mono ?_; rintro e w8 ⟨rfl, hb8⟩)
                replace F_g := Lib.hid (F_g.out.keep hb8)
                replace HBW := Lib.hid (HBW.out.trans (hb8.mono HBW.out.size))
                replace hS := And.intro F_g.out.s (And.intro ((HBW.out.cell (p := ⟨s, f + k, none⟩) hsw).trans HEC.out) ((HBW.out.cell (p := ⟨s, f + (k - 1), none⟩) hsw).trans HEP.out))
                clear hb8
                refine hK.out _ _ (fun _ => hS) ?_
                clear hK K
                try simp only [Act.put, List.setIfInBounds_toArray, List.set_cons_zero, List.set_cons_succ]
                refine wpAnyB_takePG (i := 13) (some 32) (Op.unOp UnOp.not 4 (Operand.tmp 31)) 4 (some (6, false)) (v := ?_) ⟨_, rfl, rfl, rfl, rfl, rfl⟩ rfl (by kernel_rfl) (by kernel_rfl) (by kernel_rfl) (by kernel_rfl) (fun _ _ _ h => h) (fun _ => hS) (fun w' => ?_) ?_
                rotate_left
                · unfold bareOp
                  go_simp
                  try with_reducible rfl
                simp only [Act.put, List.setIfInBounds_toArray, List.set_cons_zero, List.set_cons_succ]
                refine wpAnyB_takeP (i := 14) (some 33) (Op.pick (Operand.tmp 25) (Operand.const (Value.bool true)) (Operand.tmp 32)) 4 (v := ?_) ⟨_, rfl, rfl, rfl, rfl, rfl⟩ (by kernel_rfl) (by kernel_rfl) (by kernel_rfl) (by kernel_rfl) (fun _ _ _ h => h) (fun _ => hS) (fun w' => ?_) ?_
                rotate_left
                · unfold bareOp
                  go_simp
                  try with_reducible rfl
                simp only [Act.put, List.setIfInBounds_toArray, List.set_cons_zero, List.set_cons_succ]
                refine wpAnyB_takeP (i := 15) (some 34) (Op.move (Operand.tmp 33)) 4 (v := ?_) ⟨_, rfl, rfl, rfl, rfl, rfl⟩ (by kernel_rfl) (by kernel_rfl) (by kernel_rfl) (by kernel_rfl) (fun _ _ _ h => h) (fun _ => hS) (fun w' => ?_) ?_
                rotate_left
                · unfold bareOp
                  go_simp
                  try with_reducible rfl
                simp only [Act.put, List.setIfInBounds_toArray, List.set_cons_zero, List.set_cons_succ]
                refine wpAnyB_takePG (i := 16) (some 35) (Op.move (Operand.tmp 7)) 3 (some (15, false)) (v := ?_) ⟨_, rfl, rfl, rfl, rfl, rfl⟩ rfl (by kernel_rfl) (by kernel_rfl) (by kernel_rfl) (by kernel_rfl) (fun _ _ _ h => h) (fun _ => hS) (fun w' => ?_) ?_
                rotate_left
                · unfold bareOp
                  go_simp
                  try with_reducible rfl
                simp only [Act.put, List.setIfInBounds_toArray, List.set_cons_zero, List.set_cons_succ]
                refine wpAnyB_takePG (i := 17) (some 36) (Op.binOp BinOp.gtr 3 (Operand.tmp 35) (Operand.const (Value.int IntKind.i64 0)) 3) 4 (some (15, false)) (v := ?_) ⟨_, rfl, rfl, rfl, rfl, rfl⟩ rfl (by kernel_rfl) (by kernel_rfl) (by kernel_rfl) (by kernel_rfl) (fun _ _ _ h => h) (fun _ => hS) (fun w' => ?_) ?_
                rotate_left
                · unfold bareOp
                  go_simp
                  try with_reducible rfl
                simp only [Act.put, List.setIfInBounds_toArray, List.set_cons_zero, List.set_cons_succ]
                refine wpAnyB_takePG (i := 18) (some 37) (Op.move (Operand.tmp 36)) 4 (some (15, false)) (v := ?_) ⟨_, rfl, rfl, rfl, rfl, rfl⟩ rfl (by kernel_rfl) (by kernel_rfl) (by kernel_rfl) (by kernel_rfl) (fun _ _ _ h => h) (fun _ => hS) (fun w' => ?_) ?_
                rotate_left
                · unfold bareOp
                  go_simp
                  try with_reducible rfl
                simp only [Act.put, List.setIfInBounds_toArray, List.set_cons_zero, List.set_cons_succ]
                refine wpAnyB_takePG (i := 19) (some 38) (Op.move (Operand.tmp 1)) 51 (some (18, true)) (v := ?_) ⟨_, rfl, rfl, rfl, rfl, rfl⟩ rfl (by kernel_rfl) (by kernel_rfl) (by kernel_rfl) (by kernel_rfl) (fun _ _ _ h => h) (fun _ => hS) (fun w' => ?_) ?_
                rotate_left
                · unfold bareOp
                  go_simp
                  try with_reducible rfl
                simp only [Act.put, List.setIfInBounds_toArray, List.set_cons_zero, List.set_cons_succ]
                refine wpAnyB_takePG (i := 20) (some 39) (Op.move (Operand.tmp 7)) 3 (some (18, true)) (v := ?_) ⟨_, rfl, rfl, rfl, rfl, rfl⟩ rfl (by kernel_rfl) (by kernel_rfl) (by kernel_rfl) (by kernel_rfl) (fun _ _ _ h => h) (fun _ => hS) (fun w' => ?_) ?_
                rotate_left
                · unfold bareOp
                  go_simp
                  try with_reducible rfl
                simp only [Act.put, List.setIfInBounds_toArray, List.set_cons_zero, List.set_cons_succ]
                refine wpAnyB_takePG (i := 21) (some 40) (Op.indexAddr 51 (Operand.tmp 38) (Operand.tmp 39)) 0 (some (18, true)) (v := ?_) ⟨_, rfl, rfl, rfl, rfl, rfl⟩ rfl (by kernel_rfl) (by kernel_rfl) (by kernel_rfl) (by kernel_rfl) (fun _ _ _ h => h) (fun _ => hS) (fun w' => ?_) ?_
                rotate_left
                · unfold bareOp
                  go_simp
                  try with_reducible rfl
                simp only [Act.put, List.setIfInBounds_toArray, List.set_cons_zero, List.set_cons_succ]
                refine wpAnyB_takeG (i := 22) (some 41) (Op.load 3 (Operand.tmp 40)) 3 (some (18, true)) (v := ?_) ⟨_, rfl, rfl, rfl, rfl, rfl⟩ rfl (by kernel_rfl) (by kernel_rfl) (by kernel_rfl) [28, 29, 30] (by kernel_rfl) (fun _ _ _ h => h) hS (fun w' hSw => ?_) ?_
                rotate_left
                · obtain ⟨⟨s0, s1, s2⟩, s3, s4⟩ := hSw
                  unfold bareOp
                  go_simp
                  try with_reducible rfl
                simp only [Act.put, List.setIfInBounds_toArray, List.set_cons_zero, List.set_cons_succ]
                refine wpAnyB_takePG (i := 23) (some 42) (Op.move (Operand.tmp 1)) 51 (some (18, true)) (v := ?_) ⟨_, rfl, rfl, rfl, rfl, rfl⟩ rfl (by kernel_rfl) (by kernel_rfl) (by kernel_rfl) (by kernel_rfl) (fun _ _ _ h => h) (fun _ => hS) (fun w' => ?_) ?_
                rotate_left
                · unfold bareOp
                  go_simp
                  try with_reducible rfl
                simp only [Act.put, List.setIfInBounds_toArray, List.set_cons_zero, List.set_cons_succ]
                refine wpAnyB_takePG (i := 24) (some 43) (Op.move (Operand.tmp 7)) 3 (some (18, true)) (v := ?_) ⟨_, rfl, rfl, rfl, rfl, rfl⟩ rfl (by kernel_rfl) (by kernel_rfl) (by kernel_rfl) (by kernel_rfl) (fun _ _ _ h => h) (fun _ => hS) (fun w' => ?_) ?_
                rotate_left
                · unfold bareOp
                  go_simp
                  try with_reducible rfl
                simp only [Act.put, List.setIfInBounds_toArray, List.set_cons_zero, List.set_cons_succ]
                refine wpAnyB_takePG (i := 25) (some 44) (Op.binOp BinOp.sub 3 (Operand.tmp 43) (Operand.const (Value.int IntKind.i64 1)) 3) 3 (some (18, true)) (v := ?_) ⟨_, rfl, rfl, rfl, rfl, rfl⟩ rfl (by kernel_rfl) (by kernel_rfl) (by kernel_rfl) (by kernel_rfl) (fun _ _ _ h => h) (fun _ => hS) (fun w' => ?_) ?_
                rotate_left
                · unfold bareOp
                  go_simp
                  try with_reducible rfl
                simp only [Act.put, List.setIfInBounds_toArray, List.set_cons_zero, List.set_cons_succ]
                refine wpAnyB_takePG (i := 26) (some 45) (Op.indexAddr 51 (Operand.tmp 42) (Operand.tmp 44)) 0 (some (18, true)) (v := ?_) ⟨_, rfl, rfl, rfl, rfl, rfl⟩ rfl (by kernel_rfl) (by kernel_rfl) (by kernel_rfl) (by kernel_rfl) (fun _ _ _ h => h) (fun _ => hS) (fun w' => ?_) ?_
                rotate_left
                · unfold bareOp
                  go_simp
                  try with_reducible rfl
                simp only [Act.put, List.setIfInBounds_toArray, List.set_cons_zero, List.set_cons_succ]
                refine wpAnyB_takeG (i := 27) (some 46) (Op.load 3 (Operand.tmp 45)) 3 (some (18, true)) (v := ?_) ⟨_, rfl, rfl, rfl, rfl, rfl⟩ rfl (by kernel_rfl) (by kernel_rfl) (by kernel_rfl) [28, 29, 30] (by kernel_rfl) (fun _ _ _ h => h) hS (fun w' hSw => ?_) ?_
                rotate_left
                · obtain ⟨⟨s0, s1, s2⟩, s3, s4⟩ := hSw
                  unfold bareOp
                  go_simp
                  try with_reducible rfl
                simp only [Act.put, List.setIfInBounds_toArray, List.set_cons_zero, List.set_cons_succ]
                refine wpAnyB_takePG (i := 28) (some 47) (Op.binOp BinOp.leq 3 (Operand.tmp 41) (Operand.tmp 46) 3) 4 (some (18, true)) (v := ?_) ⟨_, rfl, rfl, rfl, rfl, rfl⟩ rfl (by kernel_rfl) (by kernel_rfl) (by kernel_rfl) (by kernel_rfl) (fun _ _ _ h => h) (fun _ => hS) (fun w' => ?_) ?_
                rotate_left
                · unfold bareOp
                  go_simp
                  try with_reducible rfl
                simp only [Act.put, List.setIfInBounds_toArray, List.set_cons_zero, List.set_cons_succ]
                refine wpAnyB_takePG (i := 29) (some 48) (Op.pick (Operand.tmp 37) (Operand.tmp 47) (Operand.const (Value.bool false))) 4 (some (15, false)) (v := ?_) ⟨_, rfl, rfl, rfl, rfl, rfl⟩ rfl (by kernel_rfl) (by kernel_rfl) (by kernel_rfl) (by kernel_rfl) (fun _ _ _ h => h) (fun _ => hS) (fun w' => ?_) ?_
                rotate_left
                · unfold bareOp
                  go_simp
                  try with_reducible rfl
                simp only [Act.put, List.setIfInBounds_toArray, List.set_cons_zero, List.set_cons_succ]
                refine wpAnyB_only (i := 30) (some 49) (Op.pick (Operand.tmp 34) (Operand.const (Value.bool true)) (Operand.tmp 48)) 4 ⟨_, rfl, rfl, rfl, rfl, rfl⟩ (by kernel_rfl) (fun K hK => ?_)
                unfold bareOp
                go_wp2_with fail
                refine hK.out _ _ (fun h => absurd (h.symm.trans (by kernel_rfl : _ = true)) (by decide)) ?_
                clear hK K
                try simp only [Act.put, List.setIfInBounds_toArray, List.set_cons_zero, List.set_cons_succ]
                refine wpAnyB_done (by kernel_rfl) ?_ _
                go_wp2_with fail
                go_ret
                exact ⟨ret_bool HZ.out, HBW.out⟩
              case pos =>
                have HI2 := Lib.hid (show incS Q (least - 1) ids = incS Q (lastOf least ids (k + 1)) (ids.drop (k + 1)) by rw [HI.out, HD.out, HLX.out, HLY.out]; simp [incS, hnu, hyx])
                have d7 : decide (x ≤ y) = false := by simp; omega
                clear hnu HBAD HI HD
                subst hsa
                go_wp2_with fail
                replace F_g := Lib.hid F_g.out.drew
                replace HBW := Lib.hid HBW.out.drew
                have hS := And.intro F_g.out.s (And.intro ((HBW.out.cell (p := ⟨s, f + k, none⟩) hsw).trans HEC.out) ((HBW.out.cell (p := ⟨s, f + (k - 1), none⟩) hsw).trans HEP.out))
                refine wp_region_stage 30 (fun w' => SBox w' w.heap.size P Q G ∧ w'.cell? ⟨s, f + k, none⟩ = some (.int .i64 x) ∧ w'.cell? ⟨s, f + (k - 1), none⟩ = some (.int .i64 y)) (by kernel_rfl) ?_
                refine wpAnyB_takeP (i := 0) (some 19) (Op.move (Operand.tmp 1)) 51 (v := ?_) ⟨_, rfl, rfl, rfl, rfl, rfl⟩ (by kernel_rfl) (by kernel_rfl) (by kernel_rfl) (by kernel_rfl) (fun _ _ _ h => h) (fun _ => hS) (fun w' => ?_) ?_
                rotate_left
                · unfold bareOp
                  go_simp
                  try with_reducible rfl
                simp only [Act.put, List.setIfInBounds_toArray, List.set_cons_zero, List.set_cons_succ]
                refine wpAnyB_takeP (i := 1) (some 20) (Op.move (Operand.tmp 7)) 3 (v := ?_) ⟨_, rfl, rfl, rfl, rfl, rfl⟩ (by kernel_rfl) (by kernel_rfl) (by kernel_rfl) (by kernel_rfl) (fun _ _ _ h => h) (fun _ => hS) (fun w' => ?_) ?_
                rotate_left
                · unfold bareOp
                  go_simp
                  try with_reducible rfl
                simp only [Act.put, List.setIfInBounds_toArray, List.set_cons_zero, List.set_cons_succ]
                refine wpAnyB_takeP (i := 2) (some 21) (Op.indexAddr 51 (Operand.tmp 19) (Operand.tmp 20)) 0 (v := ?_) ⟨_, rfl, rfl, rfl, rfl, rfl⟩ (by kernel_rfl) (by kernel_rfl) (by kernel_rfl) (by kernel_rfl) (fun _ _ _ h => h) (fun _ => hS) (fun w' => ?_) ?_
                rotate_left
                · unfold bareOp
                  go_simp
                  try with_reducible rfl
                simp only [Act.put, List.setIfInBounds_toArray, List.set_cons_zero, List.set_cons_succ]
                refine wpAnyB_take (i := 3) (some 22) (Op.load 3 (Operand.tmp 21)) 3 (v := ?_) ⟨_, rfl, rfl, rfl, rfl, rfl⟩ (by kernel_rfl) (by kernel_rfl) (by kernel_rfl) [5, 6, 7, 8, 9, 10, 11, 12, 13, 14, 15, 16, 17, 18, 19, 20, 21, 22, 23, 24, 25, 26, 27, 28, 29, 30] (by kernel_rfl) (fun _ _ _ h => h) hS (fun w' hSw => ?_) ?_
                rotate_left
                · obtain ⟨⟨s0, s1, s2⟩, s3, s4⟩ := hSw
                  unfold bareOp
                  go_simp
                  try with_reducible rfl
                simp only [Act.put, List.setIfInBounds_toArray, List.set_cons_zero, List.set_cons_succ]
                refine wpAnyB_takeP (i := 4) (some 23) (Op.move (Operand.tmp 2)) 3 (v := ?_) ⟨_, rfl, rfl, rfl, rfl, rfl⟩ (by kernel_rfl) (by kernel_rfl) (by kernel_rfl) (by kernel_rfl) (fun _ _ _ h => h) (fun _ => hS) (fun w' => ?_) ?_
                rotate_left
                · unfold bareOp
                  go_simp
                  try with_reducible rfl
                simp only [Act.put, List.setIfInBounds_toArray, List.set_cons_zero, List.set_cons_succ]
                refine wpAnyB_takeP (i := 5) (some 24) (Op.binOp BinOp.lss 3 (Operand.tmp 22) (Operand.tmp 23) 3) 4 (v := ?_) ⟨_, rfl, rfl, rfl, rfl, rfl⟩ (by kernel_rfl) (by kernel_rfl) (by kernel_rfl) (by kernel_rfl) (fun _ _ _ h => h) (fun _ => hS) (fun w' => ?_) ?_
                rotate_left
                · unfold bareOp
                  go_simp
                  try with_reducible rfl
                simp only [Act.put, List.setIfInBounds_toArray, List.set_cons_zero, List.set_cons_succ]
                refine wpAnyB_takeP (i := 6) (some 25) (Op.move (Operand.tmp 24)) 4 (v := ?_) ⟨_, rfl, rfl, rfl, rfl, rfl⟩ (by kernel_rfl) (by kernel_rfl) (by kernel_rfl) (by kernel_rfl) (fun _ _ _ h => h) (fun _ => hS) (fun w' => ?_) ?_
                rotate_left
                · unfold bareOp
                  go_simp
                  try with_reducible rfl
                simp only [Act.put, List.setIfInBounds_toArray, List.set_cons_zero, List.set_cons_succ]
                refine wpAnyB_takeG (i := 7) (some 26) (Op.load 24 (Operand.tmp 3)) 24 (some (6, false)) (v := ?_) ⟨_, rfl, rfl, rfl, rfl, rfl⟩ rfl (by kernel_rfl) (by kernel_rfl) (by kernel_rfl) [12, 13, 14, 15, 16, 17, 18, 19, 20, 21, 22, 23, 24, 25, 26, 27, 28, 29, 30] (by kernel_rfl) (fun _ _ _ h => h) hS (fun w' hSw => ?_) ?_
                rotate_left
                · obtain ⟨⟨s0, s1, s2⟩, s3, s4⟩ := hSw
                  unfold bareOp
                  go_simp
                  try with_reducible rfl
                simp only [Act.put, List.setIfInBounds_toArray, List.set_cons_zero, List.set_cons_succ]
                refine wpAnyB_takePG (i := 8) (some 27) (Op.move (Operand.tmp 1)) 51 (some (6, false)) (v := ?_) ⟨_, rfl, rfl, rfl, rfl, rfl⟩ rfl (by kernel_rfl) (by kernel_rfl) (by kernel_rfl) (by kernel_rfl) (fun _ _ _ h => h) (fun _ => hS) (fun w' => ?_) ?_
                rotate_left
                · unfold bareOp
                  go_simp
                  try with_reducible rfl
                simp only [Act.put, List.setIfInBounds_toArray, List.set_cons_zero, List.set_cons_succ]
                refine wpAnyB_takePG (i := 9) (some 28) (Op.move (Operand.tmp 7)) 3 (some (6, false)) (v := ?_) ⟨_, rfl, rfl, rfl, rfl, rfl⟩ rfl (by kernel_rfl) (by kernel_rfl) (by kernel_rfl) (by kernel_rfl) (fun _ _ _ h => h) (fun _ => hS) (fun w' => ?_) ?_
                rotate_left
                · unfold bareOp
                  go_simp
                  try with_reducible rfl
                simp only [Act.put, List.setIfInBounds_toArray, List.set_cons_zero, List.set_cons_succ]
                refine wpAnyB_takePG (i := 10) (some 29) (Op.indexAddr 51 (Operand.tmp 27) (Operand.tmp 28)) 0 (some (6, false)) (v := ?_) ⟨_, rfl, rfl, rfl, rfl, rfl⟩ rfl (by kernel_rfl) (by kernel_rfl) (by kernel_rfl) (by kernel_rfl) (fun _ _ _ h => h) (fun _ => hS) (fun w' => ?_) ?_
                rotate_left
                · unfold bareOp
                  go_simp
                  try with_reducible rfl
                simp only [Act.put, List.setIfInBounds_toArray, List.set_cons_zero, List.set_cons_succ]
                refine wpAnyB_takeG (i := 11) (some 30) (Op.load 3 (Operand.tmp 29)) 3 (some (6, false)) (v := ?_) ⟨_, rfl, rfl, rfl, rfl, rfl⟩ rfl (by kernel_rfl) (by kernel_rfl) (by kernel_rfl) [12, 13, 14, 15, 16, 17, 18, 19, 20, 21, 22, 23, 24, 25, 26, 27, 28, 29, 30] (by kernel_rfl) (fun _ _ _ h => h) hS (fun w' hSw => ?_) ?_
                rotate_left
                · obtain ⟨⟨s0, s1, s2⟩, s3, s4⟩ := hSw
                  unfold bareOp
                  go_simp
                  try with_reducible rfl
                simp only [Act.put, List.setIfInBounds_toArray, List.set_cons_zero, List.set_cons_succ]
                refine wpAnyB_onlyG (i := 12) (some 31) (Op.call { callee := Callee.value (Operand.func 61), args := #[Operand.tmp 26, Operand.tmp 30], argTypes := #[24, 3] }) 4 (some (6, false)) ⟨_, rfl, rfl, rfl, rfl, rfl⟩ (by kernel_rfl) rfl (fun K hK => ?_)
                unfold bareOp
                go_wp2_with (go_at_call 61; refine (rnumbered_any (Q := Q) (v := true) _ xl xu HN.out).mono ?_; rintro e w8 ⟨rfl, hb8⟩)
                replace F_g := Lib.hid (F_g.out.keep hb8)
                replace HBW := Lib.hid (HBW.out.trans (hb8.mono HBW.out.size))
                replace hS := And.intro F_g.out.s (And.intro ((HBW.out.cell (p := ⟨s, f + k, none⟩) hsw).trans HEC.out) ((HBW.out.cell (p := ⟨s, f + (k - 1), none⟩) hsw).trans HEP.out))
                clear hb8
                refine hK.out _ _ (fun _ => hS) ?_
                clear hK K
                try simp only [Act.put, List.setIfInBounds_toArray, List.set_cons_zero, List.set_cons_succ]
                refine wpAnyB_takePG (i := 13) (some 32) (Op.unOp UnOp.not 4 (Operand.tmp 31)) 4 (some (6, false)) (v := ?_) ⟨_, rfl, rfl, rfl, rfl, rfl⟩ rfl (by kernel_rfl) (by kernel_rfl) (by kernel_rfl) (by kernel_rfl) (fun _ _ _ h => h) (fun _ => hS) (fun w' => ?_) ?_
                rotate_left
                · unfold bareOp
                  go_simp
                  try with_reducible rfl
                simp only [Act.put, List.setIfInBounds_toArray, List.set_cons_zero, List.set_cons_succ]
                refine wpAnyB_takeP (i := 14) (some 33) (Op.pick (Operand.tmp 25) (Operand.const (Value.bool true)) (Operand.tmp 32)) 4 (v := ?_) ⟨_, rfl, rfl, rfl, rfl, rfl⟩ (by kernel_rfl) (by kernel_rfl) (by kernel_rfl) (by kernel_rfl) (fun _ _ _ h => h) (fun _ => hS) (fun w' => ?_) ?_
                rotate_left
                · unfold bareOp
                  go_simp
                  try with_reducible rfl
                simp only [Act.put, List.setIfInBounds_toArray, List.set_cons_zero, List.set_cons_succ]
                refine wpAnyB_takeP (i := 15) (some 34) (Op.move (Operand.tmp 33)) 4 (v := ?_) ⟨_, rfl, rfl, rfl, rfl, rfl⟩ (by kernel_rfl) (by kernel_rfl) (by kernel_rfl) (by kernel_rfl) (fun _ _ _ h => h) (fun _ => hS) (fun w' => ?_) ?_
                rotate_left
                · unfold bareOp
                  go_simp
                  try with_reducible rfl
                simp only [Act.put, List.setIfInBounds_toArray, List.set_cons_zero, List.set_cons_succ]
                refine wpAnyB_takePG (i := 16) (some 35) (Op.move (Operand.tmp 7)) 3 (some (15, false)) (v := ?_) ⟨_, rfl, rfl, rfl, rfl, rfl⟩ rfl (by kernel_rfl) (by kernel_rfl) (by kernel_rfl) (by kernel_rfl) (fun _ _ _ h => h) (fun _ => hS) (fun w' => ?_) ?_
                rotate_left
                · unfold bareOp
                  go_simp
                  try with_reducible rfl
                simp only [Act.put, List.setIfInBounds_toArray, List.set_cons_zero, List.set_cons_succ]
                refine wpAnyB_takePG (i := 17) (some 36) (Op.binOp BinOp.gtr 3 (Operand.tmp 35) (Operand.const (Value.int IntKind.i64 0)) 3) 4 (some (15, false)) (v := ?_) ⟨_, rfl, rfl, rfl, rfl, rfl⟩ rfl (by kernel_rfl) (by kernel_rfl) (by kernel_rfl) (by kernel_rfl) (fun _ _ _ h => h) (fun _ => hS) (fun w' => ?_) ?_
                rotate_left
                · unfold bareOp
                  go_simp
                  try with_reducible rfl
                simp only [Act.put, List.setIfInBounds_toArray, List.set_cons_zero, List.set_cons_succ]
                refine wpAnyB_takePG (i := 18) (some 37) (Op.move (Operand.tmp 36)) 4 (some (15, false)) (v := ?_) ⟨_, rfl, rfl, rfl, rfl, rfl⟩ rfl (by kernel_rfl) (by kernel_rfl) (by kernel_rfl) (by kernel_rfl) (fun _ _ _ h => h) (fun _ => hS) (fun w' => ?_) ?_
                rotate_left
                · unfold bareOp
                  go_simp
                  try with_reducible rfl
                simp only [Act.put, List.setIfInBounds_toArray, List.set_cons_zero, List.set_cons_succ]
                refine wpAnyB_takePG (i := 19) (some 38) (Op.move (Operand.tmp 1)) 51 (some (18, true)) (v := ?_) ⟨_, rfl, rfl, rfl, rfl, rfl⟩ rfl (by kernel_rfl) (by kernel_rfl) (by kernel_rfl) (by kernel_rfl) (fun _ _ _ h => h) (fun _ => hS) (fun w' => ?_) ?_
                rotate_left
                · unfold bareOp
                  go_simp
                  try with_reducible rfl
                simp only [Act.put, List.setIfInBounds_toArray, List.set_cons_zero, List.set_cons_succ]
                refine wpAnyB_takePG (i := 20) (some 39) (Op.move (Operand.tmp 7)) 3 (some (18, true)) (v := ?_) ⟨_, rfl, rfl, rfl, rfl, rfl⟩ rfl (by kernel_rfl) (by kernel_rfl) (by kernel_rfl) (by kernel_rfl) (fun _ _ _ h => h) (fun _ => hS) (fun w' => ?_) ?_
                rotate_left
                · unfold bareOp
                  go_simp
                  try with_reducible rfl
                simp only [Act.put, List.setIfInBounds_toArray, List.set_cons_zero, List.set_cons_succ]
                refine wpAnyB_takePG (i := 21) (some 40) (Op.indexAddr 51 (Operand.tmp 38) (Operand.tmp 39)) 0 (some (18, true)) (v := ?_) ⟨_, rfl, rfl, rfl, rfl, rfl⟩ rfl (by kernel_rfl) (by kernel_rfl) (by kernel_rfl) (by kernel_rfl) (fun _ _ _ h => h) (fun _ => hS) (fun w' => ?_) ?_
                rotate_left
                · unfold bareOp
                  go_simp
                  try with_reducible rfl
                simp only [Act.put, List.setIfInBounds_toArray, List.set_cons_zero, List.set_cons_succ]
                refine wpAnyB_takeG (i := 22) (some 41) (Op.load 3 (Operand.tmp 40)) 3 (some (18, true)) (v := ?_) ⟨_, rfl, rfl, rfl, rfl, rfl⟩ rfl (by kernel_rfl) (by kernel_rfl) (by kernel_rfl) [28, 29, 30] (by kernel_rfl) (fun _ _ _ h => h) hS (fun w' hSw => ?_) ?_
                rotate_left
                · obtain ⟨⟨s0, s1, s2⟩, s3, s4⟩ := hSw
                  unfold bareOp
                  go_simp
                  try with_reducible rfl
                simp only [Act.put, List.setIfInBounds_toArray, List.set_cons_zero, List.set_cons_succ]
                refine wpAnyB_takePG (i := 23) (some 42) (Op.move (Operand.tmp 1)) 51 (some (18, true)) (v := ?_) ⟨_, rfl, rfl, rfl, rfl, rfl⟩ rfl (by kernel_rfl) (by kernel_rfl) (by kernel_rfl) (by kernel_rfl) (fun _ _ _ h => h) (fun _ => hS) (fun w' => ?_) ?_
                rotate_left
                · unfold bareOp
                  go_simp
                  try with_reducible rfl
                simp only [Act.put, List.setIfInBounds_toArray, List.set_cons_zero, List.set_cons_succ]
                refine wpAnyB_takePG (i := 24) (some 43) (Op.move (Operand.tmp 7)) 3 (some (18, true)) (v := ?_) ⟨_, rfl, rfl, rfl, rfl, rfl⟩ rfl (by kernel_rfl) (by kernel_rfl) (by kernel_rfl) (by kernel_rfl) (fun _ _ _ h => h) (fun _ => hS) (fun w' => ?_) ?_
                rotate_left
                · unfold bareOp
                  go_simp
                  try with_reducible rfl
                simp only [Act.put, List.setIfInBounds_toArray, List.set_cons_zero, List.set_cons_succ]
                refine wpAnyB_takePG (i := 25) (some 44) (Op.binOp BinOp.sub 3 (Operand.tmp 43) (Operand.const (Value.int IntKind.i64 1)) 3) 3 (some (18, true)) (v := ?_) ⟨_, rfl, rfl, rfl, rfl, rfl⟩ rfl (by kernel_rfl) (by kernel_rfl) (by kernel_rfl) (by kernel_rfl) (fun _ _ _ h => h) (fun _ => hS) (fun w' => ?_) ?_
                rotate_left
                · unfold bareOp
                  go_simp
                  try with_reducible rfl
                simp only [Act.put, List.setIfInBounds_toArray, List.set_cons_zero, List.set_cons_succ]
                refine wpAnyB_takePG (i := 26) (some 45) (Op.indexAddr 51 (Operand.tmp 42) (Operand.tmp 44)) 0 (some (18, true)) (v := ?_) ⟨_, rfl, rfl, rfl, rfl, rfl⟩ rfl (by kernel_rfl) (by kernel_rfl) (by kernel_rfl) (by kernel_rfl) (fun _ _ _ h => h) (fun _ => hS) (fun w' => ?_) ?_
                rotate_left
                · unfold bareOp
                  go_simp
                  try with_reducible rfl
                simp only [Act.put, List.setIfInBounds_toArray, List.set_cons_zero, List.set_cons_succ]
                refine wpAnyB_takeG (i := 27) (some 46) (Op.load 3 (Operand.tmp 45)) 3 (some (18, true)) (v := ?_) ⟨_, rfl, rfl, rfl, rfl, rfl⟩ rfl (by kernel_rfl) (by kernel_rfl) (by kernel_rfl) [28, 29, 30] (by kernel_rfl) (fun _ _ _ h => h) hS (fun w' hSw => ?_) ?_
                rotate_left
                · obtain ⟨⟨s0, s1, s2⟩, s3, s4⟩ := hSw
                  unfold bareOp
                  go_simp
                  try with_reducible rfl
                simp only [Act.put, List.setIfInBounds_toArray, List.set_cons_zero, List.set_cons_succ]
                refine wpAnyB_takePG (i := 28) (some 47) (Op.binOp BinOp.leq 3 (Operand.tmp 41) (Operand.tmp 46) 3) 4 (some (18, true)) (v := ?_) ⟨_, rfl, rfl, rfl, rfl, rfl⟩ rfl (by kernel_rfl) (by kernel_rfl) (by kernel_rfl) (by kernel_rfl) (fun _ _ _ h => h) (fun _ => hS) (fun w' => ?_) ?_
                rotate_left
                · unfold bareOp
                  go_simp
                  try with_reducible rfl
                simp only [Act.put, List.setIfInBounds_toArray, List.set_cons_zero, List.set_cons_succ]
                refine wpAnyB_takePG (i := 29) (some 48) (Op.pick (Operand.tmp 37) (Operand.tmp 47) (Operand.const (Value.bool false))) 4 (some (15, false)) (v := ?_) ⟨_, rfl, rfl, rfl, rfl, rfl⟩ rfl (by kernel_rfl) (by kernel_rfl) (by kernel_rfl) (by kernel_rfl) (fun _ _ _ h => h) (fun _ => hS) (fun w' => ?_) ?_
                rotate_left
                · unfold bareOp
                  go_simp
                  try with_reducible rfl
                simp only [Act.put, List.setIfInBounds_toArray, List.set_cons_zero, List.set_cons_succ]
                refine wpAnyB_only (i := 30) (some 49) (Op.pick (Operand.tmp 34) (Operand.const (Value.bool true)) (Operand.tmp 48)) 4 ⟨_, rfl, rfl, rfl, rfl, rfl⟩ (by kernel_rfl) (fun K hK => ?_)
                unfold bareOp
                go_wp2_with fail
                refine hK.out _ _ (fun h => absurd (h.symm.trans (by kernel_rfl : _ = true)) (by decide)) ?_
                clear hK K
                try simp only [Act.put, List.setIfInBounds_toArray, List.set_cons_zero, List.set_cons_succ]
                refine wpAnyB_done (by kernel_rfl) ?_ _
                go_wp2_with fail
                go_roundw
                case rel => exact ⟨k + 1, by omega, by go_num, HI2.out, (by show least - 1 ≤ lastOf least ids (k + 1); rw [HLX.out]; omega), F_g.out, HBW.out⟩
                case measure => simp [intOf]; omega

set_option maxHeartbeats 1000000 in
theorem rgreatids_any {a : Option Addr} {n c : Nat} {v : Bool} (w : World) (hv : decide (100 < n) = v) :
    Calls Try.prog 28 #[.slice a n c] w fun e w' => e = .returned (.bool v) ∧ w = w' := by
  have HZ := Lib.hid (show decide ((100 : Int) < (n : Int)) = v by rw [← hv]; congr 1; apply propext; omega)
  clear hv
  go_enter Try.func28, Try.ntmps28
  go_wp2_with fail
  go_ret
  exact ⟨ret_bool HZ.out, rfl⟩
end Go.Proofs.Ytjfaaicbojnpaaa
