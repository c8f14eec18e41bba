/- schnorr.Challenge, schnorr.nonce; the reference's Nonce. -/
import Derived.Test.YtmcpfinnhgbcpaaDoorSigA
import Derived.Test.YtmcpfinnhgbcpaaDoorRefOf
namespace Go.Proofs.YtmcpfinnhgbcpaaDoor
open Go Go.RowKit Num Sha
set_option linter.unusedSimpArgs false
set_option linter.unusedVariables false

/-- A text in memory, beside the tables of the digest. -/
structure Txt (w : World) (a : Option Addr) (n : Nat) (T : List Int) : Prop where
  tabs : Tabs w
  sh : ShI .u8 w a n T
  by8 : ByteL T
theorem Txt.keep {w w' : World} {a : Option Addr} {n : Nat} {T : List Int} (h : Txt w a n T) (hb : Below w.heap.size w w') : Txt w' a n T := ⟨h.tabs.below hb, h.sh.keep hb, h.by8⟩
theorem Boxed.under {w w' : World} {B n : Nat} {P Q G : Int} (h : Boxed w B P Q G) (hb : Below n w w') (hn : B < n) : Boxed w' B P Q G :=
  ⟨(hb.cell (p := ⟨B, 0, none⟩) hn).trans h.c0, (hb.cell (p := ⟨B, 1, none⟩) hn).trans h.c1, (hb.cell (p := ⟨B, 2, none⟩) hn).trans h.c2, Nat.lt_of_lt_of_le h.lt hb.size⟩
theorem Boxed.laid {w w' : World} {B b q : Nat} {k : IntKind} {ys : List Int} {P Q G : Int} (h : Boxed w B P Q G) (hL : Laid k w w' b q ys) (hn : B ≠ b) : Boxed w' B P Q G :=
  ⟨(hL.cell _ _ hn).trans h.c0, (hL.cell _ _ hn).trans h.c1, (hL.cell _ _ hn).trans h.c2, by rw [hL.size]; exact h.lt⟩

/-- The code of a text that is too long, behind the other checks. -/
def lgS (a : Int) (n : Nat) : Int := if a = 0 then (if 8000 < n then 4 else 0) else a
theorem lgS_zero {a : Int} {n : Nat} (h : lgS a n = 0) : a = 0 ∧ n ≤ 8000 := by
  unfold lgS at h
  by_cases ha : a = 0
  · rw [if_pos ha] at h
    by_cases hn : 8000 < n
    · rw [if_pos hn] at h; omega
    · exact ⟨ha, by omega⟩
  · rw [if_neg ha] at h; exact absurd h ha
/-- The exponent of the digest of numbers and a text. -/
def chV (Q : Int) (ns T : List Int) : Int := beN ((shaS (flat8 ns ++ T)).take 8) % Q
theorem chV_range {Q : Int} (h : 0 < Q) (ns T : List Int) : 0 ≤ chV Q ns T ∧ chV Q ns T < Q := ⟨Int.emod_nonneg _ (by omega), Int.emod_lt_of_pos _ h⟩
/-- The nonce of a signature. -/
def noV (Q x : Int) (T : List Int) : Int := beN ((shaS (flat8 [x] ++ T)).take 8) % (Q - 1) + 1
theorem noV_range {Q : Int} (h : 2 ≤ Q) (x : Int) (T : List Int) : 0 ≤ noV Q x T ∧ noV Q x T < Q := by
  have h0 := Int.emod_nonneg (beN ((shaS (flat8 [x] ++ T)).take 8)) (b := Q - 1) (by omega)
  have h1 := Int.emod_lt_of_pos (beN ((shaS (flat8 [x] ++ T)).take 8)) (b := Q - 1) (by omega)
  exact ⟨by unfold noV; omega, by unfold noV; omega⟩

set_option maxRecDepth 100000 in
set_option maxHeartbeats 4000000 in
theorem schallenge_any {P Q G y r v c : Int} {tx : Option Addr} {n cp : Nat} {T : List Int} (w : World) (hT : Txt w tx n T) (hP : 0 ≤ P) (hQ : 0 ≤ Q) (hG : 0 ≤ G) (uy : U64 y) (ur : U64 r) (hn : n ≤ 8100) (h : RetS (lgS (askS P Q G [] [y, r]) n) (chV Q [y, r] T) v c) :
    Calls Tryd.prog 17 #[.agg #[.int .u64 P, .int .u64 Q, .int .u64 G], .int .u64 y, .int .u64 r, .slice tx n cp] w fun e w' => e = .returned (.tuple #[.int .u64 v, .int .i64 c]) ∧ Below w.heap.size w w' := by
  have HT := Lib.hid hT
  have HTL := Lib.hid hT.sh.len
  have HUS := Lib.hid (show ∀ x, x ∈ [y, r] → U64 x from fun x hx => by simp at hx; rcases hx with rfl | rfl <;> assumption)
  clear hT uy ur
  rcases h with ⟨h, hv, rfl⟩ | ⟨h, rfl, hc⟩
  · obtain ⟨h, hn8⟩ := lgS_zero h
    obtain ⟨hH, -, -⟩ := askS_zero h
    have HR := Lib.hid h
    have hd : decide ((8000 : Int) < (n : Int)) = false := by simp; omega
    have hdn : decide (8000 < n) = false := by simp; omega
    clear h
    obtain ⟨D, hD⟩ : ∃ D, shaS (flat8 [y, r] ++ T) = D := ⟨_, rfl⟩
    have HLD := Lib.hid (show D.length = 32 by rw [← hD, shaS_len])
    have HBD := Lib.hid (show Bytes D by rw [← hD]; exact shaS_bytes _)
    have HD := Lib.hid hD
    have HV := Lib.hid (show beN (D.take 8) % Q = v by rw [hv, chV, hD])
    clear hD hv
    obtain ⟨p5, p3, hQ', pq, g2, gP⟩ := id hH
    have hP1 : 1 ≤ P := by omega
    have hGM : G < 2147483648 := by omega
    have q3 : Q < 1073741824 := by omega
    have q2 : 2 ≤ Q := by omega
    have HH := Lib.hid hH
    clear hH pq
    have F_g := Lib.hid (show Boxed ((w.alloc (.cells #[.int .u64 P, .int .u64 Q, .int .u64 G] 24)).alloc (.cells #[.int .u64 y, .int .u64 r] 22)) (w.heap.size) P Q G from (Boxed.at _ P Q G _ (w.heap.size) (by simp)).alloc _)
    have F_ns := Lib.hid (show ShL ((w.alloc (.cells #[.int .u64 P, .int .u64 Q, .int .u64 G] 24)).alloc (.cells #[.int .u64 y, .int .u64 r] 22)) (some ⟨w.heap.size + 1, 0, none⟩) 2 2 [y, r] from ShL.laid _ [y, r] _ _ (w.heap.size + 1) _ _ (by simp) rfl rfl)
    have HBW := Lib.hid (show Below w.heap.size w ((w.alloc (.cells #[.int .u64 P, .int .u64 Q, .int .u64 G] 24)).alloc (.cells #[.int .u64 y, .int .u64 r] 22)) from ((Below.refl _ _).alloc (by simp <;> omega) _).alloc (by simp <;> omega) _)
    go_enter Tryd.func17, Tryd.ntmps17
    obtain ⟨x0a, x0b, x0c, -⟩ := id F_g.out
    go_wp2_with fail
    clear x0a x0b x0c
    refine (scheck_any _ hP hQ hG (ShL.nil _) F_ns.out (by simp) (by simp) HR.out).mono ?_
    rintro e w1 ⟨rfl, hb1⟩
    replace F_g := Lib.hid (F_g.out.keep hb1)
    replace HBW := Lib.hid (HBW.out.trans (hb1.mono HBW.out.size))
    clear hb1
    clear F_ns
    obtain ⟨x0a, x0b, x0c, -⟩ := id F_g.out
    go_wp2_with fail
    clear x0a x0b x0c
    have F_ms := Lib.hid (ShL.laid w1 [y, r] _ 22 _ 2 2 rfl rfl rfl)
    replace F_g := Lib.hid (F_g.out.alloc (.cells #[.int .u64 y, .int .u64 r] 22))
    replace HBW := Lib.hid (HBW.out.alloc HBW.out.size (.cells #[.int .u64 y, .int .u64 r] 22))
    have HLG := Lib.hid (show w.heap.size < (w1.alloc (.cells #[.int .u64 y, .int .u64 r] 22)).heap.size from F_g.out.lt)
    have HLW := Lib.hid (show w.heap.size ≤ (w1.alloc (.cells #[.int .u64 y, .int .u64 r] 22)).heap.size from HBW.out.size)
    refine (sbytes_any _ F_ms.out HUS.out (by simp)).mono ?_
    rintro e w2 ⟨v2, rfl, O2, hb2⟩
    have HLE := Lib.hid hb2.size
    replace F_g := Lib.hid (F_g.out.keep hb2)
    replace HBW := Lib.hid (HBW.out.trans (hb2.mono HBW.out.size))
    clear hb2
    clear F_ms
    go_wp2_with (at_builtin; refine wpL_append_sh rfl _ _ rfl (w1.alloc (.cells #[.int .u64 y, .int .u64 r] 22)).heap.size _ (flat8 [y, r]) T tx n cp rfl rfl O2 (HT.out.keep HBW.out).sh (by omega) (by rw [flat8_len]; simp) HLE.out ?_; intro v3 w3 hown hgr; have hb3 := Below.grown (Below.refl (w1.alloc (.cells #[.int .u64 y, .int .u64 r] 22)).heap.size _) hgr HLE.out (fun k hk => (World.ownsRow.lt O2 k hk).1); have O3 := hown; replace F_g := Lib.hid (F_g.out.under hb3 HLG.out); replace HBW := Lib.hid (HBW.out.trans (hb3.mono HLW.out)); clear hown hgr; simp only [Act.put, List.setIfInBounds_toArray, List.set_cons_zero, List.set_cons_succ])
    obtain ⟨a3, c3, rfl, S3⟩ := O3.shi
    clear HLG HLW HLE O2 O3
    refine (dSum_any _ (HT.out.keep HBW.out).tabs S3 (by have := HTL.out; rw [List.length_append, flat8_len]; simp; omega) ((flat8_bytes _).append HT.out.by8)).mono ?_
    rintro e w4 ⟨he, hb4⟩
    replace F_g := Lib.hid (F_g.out.keep hb4)
    replace HBW := Lib.hid (HBW.out.trans (hb4.mono HBW.out.size))
    clear hb4
    rw [HD.out] at he
    subst he
    clear S3
    go_wp2_with (first
      | (refine wpL_allocArr rfl 81 .u8 32 rfl (by kernel_rfl) ?_; intro wd hd'; have ne_g_d := Nat.ne_of_lt F_g.out.lt; have le_d := HBW.out.size; replace F_g := Lib.hid (F_g.out.keep (hd'.below _ (Nat.le_refl _))); have F_d := Lib.hid hd'.arr; replace HBW := Lib.hid (HBW.out.trans (hd'.below _ HBW.out.size)); clear hd'; simp only [Act.put, List.setIfInBounds_toArray, List.set_cons_zero, List.set_cons_succ])
      | (refine wpL_storeArr rfl 81 .u8 _ _ _ D _ rfl rfl rfl rfl (by rw [HLD.out]; kernel_rfl) F_d.out (by rw [HLD.out]; rfl) ?_; intro ws hs'; replace F_g := Lib.hid (F_g.out.laid hs' ne_g_d); replace F_d := Lib.hid (F_d.out.whole hs'); replace HBW := Lib.hid (HBW.out.trans (hs'.below _ le_d)); clear hs'; obtain ⟨x0a, x0b, x0c, -⟩ := id F_g.out)
      | (refine wpL_loadArr rfl 81 .u8 _ _ _ 32 5 rfl rfl Tryd.underlying81 (by rw [HLD.out]; kernel_rfl) F_d.out ?_; simp only [Act.put, List.setIfInBounds_toArray, List.set_cons_zero, List.set_cons_succ]))
    clear x0a x0b x0c
    refine (fromDigest_ok P Q G v D _ HH.out (by rw [HLD.out]; decide) HBD.out HV.out).mono ?_
    rintro e w7 ⟨rfl, hb7⟩
    replace F_g := Lib.hid (F_g.out.keep hb7)
    replace HBW := Lib.hid (HBW.out.trans (hb7.mono HBW.out.size))
    clear hb7
    go_wp2_with fail
    go_ret2
    exact ⟨rfl, HBW.out⟩
  · by_cases ha : askS P Q G [] [y, r] = 0
    · have hn8 : 8000 < n := by
        by_cases h8 : 8000 < n
        · exact h8
        · exact absurd (by unfold lgS; rw [if_pos ha, if_neg h8]) h
      obtain rfl : c = 4 := by rw [hc]; unfold lgS; rw [if_pos ha, if_pos hn8]
      have HR := Lib.hid ha
      have hd : decide ((8000 : Int) < (n : Int)) = true := by simp; omega
      have hdn : decide (8000 < n) = true := by simp; omega
      clear h hc ha
      have F_g := Lib.hid (show Boxed ((w.alloc (.cells #[.int .u64 P, .int .u64 Q, .int .u64 G] 24)).alloc (.cells #[.int .u64 y, .int .u64 r] 22)) (w.heap.size) P Q G from (Boxed.at _ P Q G _ (w.heap.size) (by simp)).alloc _)
      have F_ns := Lib.hid (show ShL ((w.alloc (.cells #[.int .u64 P, .int .u64 Q, .int .u64 G] 24)).alloc (.cells #[.int .u64 y, .int .u64 r] 22)) (some ⟨w.heap.size + 1, 0, none⟩) 2 2 [y, r] from ShL.laid _ [y, r] _ _ (w.heap.size + 1) _ _ (by simp) rfl rfl)
      have HBW := Lib.hid (show Below w.heap.size w ((w.alloc (.cells #[.int .u64 P, .int .u64 Q, .int .u64 G] 24)).alloc (.cells #[.int .u64 y, .int .u64 r] 22)) from ((Below.refl _ _).alloc (by simp <;> omega) _).alloc (by simp <;> omega) _)
      go_enter Tryd.func17, Tryd.ntmps17
      obtain ⟨x0a, x0b, x0c, -⟩ := id F_g.out
      go_wp2_with fail
      clear x0a x0b x0c
      refine (scheck_any _ hP hQ hG (ShL.nil _) F_ns.out (by simp) (by simp) HR.out).mono ?_
      rintro e w1 ⟨rfl, hb1⟩
      replace F_g := Lib.hid (F_g.out.keep hb1)
      replace HBW := Lib.hid (HBW.out.trans (hb1.mono HBW.out.size))
      clear hb1
      obtain ⟨x0a, x0b, x0c, -⟩ := id F_g.out
      go_wp2_with fail
      go_ret2
      exact ⟨rfl, HBW.out⟩
    · have hc' : c = askS P Q G [] [y, r] := by rw [hc]; unfold lgS; rw [if_neg ha]
      have hnc : c ≠ 0 := by rw [hc']; exact ha
      have hn1 : (c != 0) = true := by simpa using hnc
      have HR := Lib.hid hc'.symm
      clear h hc ha hc' hnc
      have F_g := Lib.hid (show Boxed ((w.alloc (.cells #[.int .u64 P, .int .u64 Q, .int .u64 G] 24)).alloc (.cells #[.int .u64 y, .int .u64 r] 22)) (w.heap.size) P Q G from (Boxed.at _ P Q G _ (w.heap.size) (by simp)).alloc _)
      have F_ns := Lib.hid (show ShL ((w.alloc (.cells #[.int .u64 P, .int .u64 Q, .int .u64 G] 24)).alloc (.cells #[.int .u64 y, .int .u64 r] 22)) (some ⟨w.heap.size + 1, 0, none⟩) 2 2 [y, r] from ShL.laid _ [y, r] _ _ (w.heap.size + 1) _ _ (by simp) rfl rfl)
      have HBW := Lib.hid (show Below w.heap.size w ((w.alloc (.cells #[.int .u64 P, .int .u64 Q, .int .u64 G] 24)).alloc (.cells #[.int .u64 y, .int .u64 r] 22)) from ((Below.refl _ _).alloc (by simp <;> omega) _).alloc (by simp <;> omega) _)
      go_enter Tryd.func17, Tryd.ntmps17
      obtain ⟨x0a, x0b, x0c, -⟩ := id F_g.out
      go_wp2_with fail
      clear x0a x0b x0c
      refine (scheck_any _ hP hQ hG (ShL.nil _) F_ns.out (by simp) (by simp) HR.out).mono ?_
      rintro e w1 ⟨rfl, hb1⟩
      replace F_g := Lib.hid (F_g.out.keep hb1)
      replace HBW := Lib.hid (HBW.out.trans (hb1.mono HBW.out.size))
      clear hb1
      obtain ⟨x0a, x0b, x0c, -⟩ := id F_g.out
      go_wp2_with fail
      go_ret2
      exact ⟨rfl, HBW.out⟩

end Go.Proofs.YtmcpfinnhgbcpaaDoor
