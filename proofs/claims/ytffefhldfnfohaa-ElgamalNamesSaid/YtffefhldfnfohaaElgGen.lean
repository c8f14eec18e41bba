/- What the functions of elgamal and of the reference hand back, whatever they are asked. -/
import Derived.Test.YtffefhldfnfohaaRelC
namespace Go.Proofs.Ytffefhldfnfohaa
open Go.RowKit Num
set_option linter.unusedSimpArgs false
set_option linter.unusedVariables false

theorem invS_range {m a r : Int} (h : InvS m a true r) : 0 ≤ r ∧ r < m := by
  rcases h with ⟨-, h⟩ | ⟨h, -⟩
  · exact ⟨h.1, h.2.1⟩
  · cases h

def EncS (P Q G y m x a b e : Int) : Prop := (askS P Q G [m, x] [y] = 0 ∧ powm G x P = a ∧ powm G m P * powm y x P % P = b ∧ e = 0) ∨ (askS P Q G [m, x] [y] ≠ 0 ∧ a = 0 ∧ b = 0 ∧ e = askS P Q G [m, x] [y])
theorem EncS.exists (P Q G y m x : Int) : ∃ a b e, EncS P Q G y m x a b e := by
  by_cases h : askS P Q G [m, x] [y] = 0
  · exact ⟨_, _, _, .inl ⟨h, rfl, rfl, rfl⟩⟩
  · exact ⟨_, _, _, .inr ⟨h, rfl, rfl, rfl⟩⟩
theorem encrypt_gen {P Q G y m x a b e' : Int} (w : World) (hP : 0 ≤ P) (hQ : 0 ≤ Q) (hG : 0 ≤ G) (y0 : 0 ≤ y) (m0 : 0 ≤ m) (x0 : 0 ≤ x) (h : EncS P Q G y m x a b e') :
    Calls Try.prog 19 #[.agg #[.int .u64 P, .int .u64 Q, .int .u64 G], .int .u64 y, .int .u64 m, .int .u64 x] w fun e w' => e = .returned (.tuple #[.agg #[.int .u64 a, .int .u64 b], .int .i64 e']) ∧ Below w.heap.size w w' := by
  rcases h with ⟨h, ha, hb, rfl⟩ | ⟨h, rfl, rfl, rfl⟩
  · obtain ⟨hH, he, hn⟩ := askS_zero h
    exact encrypt_ok w hH y0 (hn y (by simp)) m0 (he m (by simp)) x0 (he x (by simp)) ha hb
  · exact encrypt_bad w hP hQ hG rfl h
theorem rEncrypt_gen {P Q G y m x a b e' : Int} (w : World) (hP : 0 ≤ P) (hQ : 0 ≤ Q) (hG : 0 ≤ G) (y0 : 0 ≤ y) (m0 : 0 ≤ m) (x0 : 0 ≤ x) (h : EncS P Q G y m x a b e') :
    Calls Try.prog 20 #[.agg #[.int .u64 P, .int .u64 Q, .int .u64 G], .int .u64 y, .int .u64 m, .int .u64 x] w fun e w' => e = .returned (.tuple #[.agg #[.int .u64 a, .int .u64 b], .int .i64 e']) ∧ Below w.heap.size w w' := by
  rcases h with ⟨h, ha, hb, rfl⟩ | ⟨h, rfl, rfl, rfl⟩
  · obtain ⟨hH, he, hn⟩ := askS_zero h
    exact rEncrypt_ok w hH y0 (hn y (by simp)) m0 (he m (by simp)) x0 (he x (by simp)) ha hb
  · exact rEncrypt_bad w hP hQ hG rfl h

def AddS (P Q G a b c d x y e : Int) : Prop := (askS P Q G [] [a, b, c, d] = 0 ∧ a * c % P = x ∧ b * d % P = y ∧ e = 0) ∨ (askS P Q G [] [a, b, c, d] ≠ 0 ∧ x = 0 ∧ y = 0 ∧ e = askS P Q G [] [a, b, c, d])
theorem AddS.exists (P Q G a b c d : Int) : ∃ x y e, AddS P Q G a b c d x y e := by
  by_cases h : askS P Q G [] [a, b, c, d] = 0
  · exact ⟨_, _, _, .inl ⟨h, rfl, rfl, rfl⟩⟩
  · exact ⟨_, _, _, .inr ⟨h, rfl, rfl, rfl⟩⟩
theorem eAdd_gen {P Q G a b c d x y e' : Int} (w : World) (hP : 0 ≤ P) (hQ : 0 ≤ Q) (hG : 0 ≤ G) (a0 : 0 ≤ a) (b0 : 0 ≤ b) (c0 : 0 ≤ c) (d0 : 0 ≤ d) (h : AddS P Q G a b c d x y e') :
    Calls Try.prog 13 #[.agg #[.int .u64 P, .int .u64 Q, .int .u64 G], .agg #[.int .u64 a, .int .u64 b], .agg #[.int .u64 c, .int .u64 d]] w fun e w' => e = .returned (.tuple #[.agg #[.int .u64 x, .int .u64 y], .int .i64 e']) ∧ Below w.heap.size w w' := by
  rcases h with ⟨h, ha, hb, rfl⟩ | ⟨h, rfl, rfl, rfl⟩
  · obtain ⟨hH, he, hn⟩ := askS_zero h
    exact eAdd_ok w hH a0 (hn a (by simp)) b0 (hn b (by simp)) c0 (hn c (by simp)) d0 (hn d (by simp)) ha hb
  · exact eAdd_bad w hP hQ hG rfl h
theorem rAdd_gen {P Q G a b c d x y e' : Int} (w : World) (hP : 0 ≤ P) (hQ : 0 ≤ Q) (hG : 0 ≤ G) (a0 : 0 ≤ a) (b0 : 0 ≤ b) (c0 : 0 ≤ c) (d0 : 0 ≤ d) (h : AddS P Q G a b c d x y e') :
    Calls Try.prog 14 #[.agg #[.int .u64 P, .int .u64 Q, .int .u64 G], .agg #[.int .u64 a, .int .u64 b], .agg #[.int .u64 c, .int .u64 d]] w fun e w' => e = .returned (.tuple #[.agg #[.int .u64 x, .int .u64 y], .int .i64 e']) ∧ Below w.heap.size w w' := by
  rcases h with ⟨h, ha, hb, rfl⟩ | ⟨h, rfl, rfl, rfl⟩
  · obtain ⟨hH, he, hn⟩ := askS_zero h
    exact rAdd_ok w hH a0 (hn a (by simp)) b0 (hn b (by simp)) c0 (hn c (by simp)) d0 (hn d (by simp)) ha hb
  · exact rAdd_bad w hP hQ hG rfl h

def ValS (P Q G a b : Int) (r : Bool) (e : Int) : Prop := (askS P Q G [] [a, b] = 0 ∧ (r = true ↔ Mem P Q a ∧ Mem P Q b) ∧ e = 0) ∨ (askS P Q G [] [a, b] ≠ 0 ∧ r = false ∧ e = askS P Q G [] [a, b])
theorem ValS.exists (P Q G a b : Int) : ∃ r e, ValS P Q G a b r e := by
  classical
  by_cases h : askS P Q G [] [a, b] = 0
  · exact ⟨decide (Mem P Q a ∧ Mem P Q b), _, .inl ⟨h, by simp, rfl⟩⟩
  · exact ⟨_, _, .inr ⟨h, rfl, rfl⟩⟩
theorem evalid_gen {P Q G a b e' : Int} {r : Bool} (w : World) (hP : 0 ≤ P) (hQ : 0 ≤ Q) (hG : 0 ≤ G) (a0 : 0 ≤ a) (b0 : 0 ≤ b) (h : ValS P Q G a b r e') :
    Calls Try.prog 21 #[.agg #[.int .u64 P, .int .u64 Q, .int .u64 G], .agg #[.int .u64 a, .int .u64 b]] w fun e w' => e = .returned (.tuple #[.bool r, .int .i64 e']) ∧ Below w.heap.size w w' := by
  classical
  rcases h with ⟨h, hr, rfl⟩ | ⟨h, rfl, rfl⟩
  · obtain ⟨hH, he, hn⟩ := askS_zero h
    exact evalid_ok w hH a0 (hn a (by simp)) b0 (hn b (by simp)) (u := decide (Mem P Q a)) (v := decide (Mem P Q b)) (by simp) (by simp) (by rw [Bool.eq_iff_iff, hr]; simp)
  · exact evalid_bad w hP hQ hG rfl h
theorem rValid_gen {P Q G a b e' : Int} {r : Bool} (w : World) (hP : 0 ≤ P) (hQ : 0 ≤ Q) (hG : 0 ≤ G) (a0 : 0 ≤ a) (b0 : 0 ≤ b) (h : ValS P Q G a b r e') :
    Calls Try.prog 22 #[.agg #[.int .u64 P, .int .u64 Q, .int .u64 G], .agg #[.int .u64 a, .int .u64 b]] w fun e w' => e = .returned (.tuple #[.bool r, .int .i64 e']) ∧ Below w.heap.size w w' := by
  classical
  rcases h with ⟨h, hr, rfl⟩ | ⟨h, rfl, rfl⟩
  · obtain ⟨hH, he, hn⟩ := askS_zero h
    exact rValid_ok w hH a0 (hn a (by simp)) b0 (hn b (by simp)) (u := decide (Mem P Q a)) (v := decide (Mem P Q b)) (by simp) (by simp) (by rw [Bool.eq_iff_iff, hr]; simp)
  · exact rValid_bad w hP hQ hG rfl h

def StripS (P Q G a b p r e : Int) : Prop := (askS P Q G [] [a, b, p] = 0 ∧ ∃ ok u, InvS P p ok u ∧ ((ok = true ∧ b * u % P = r ∧ e = 0) ∨ (ok = false ∧ r = 0 ∧ e = 6))) ∨ (askS P Q G [] [a, b, p] ≠ 0 ∧ r = 0 ∧ e = askS P Q G [] [a, b, p])
theorem StripS.exists (P Q G a b p : Int) : ∃ r e, StripS P Q G a b p r e := by
  by_cases h : askS P Q G [] [a, b, p] = 0
  · obtain ⟨ok, u, hi⟩ := InvS.exists P p (by have := (askS_zero h).1.1; omega)
    cases ok
    · exact ⟨_, _, .inl ⟨h, _, _, hi, .inr ⟨rfl, rfl, rfl⟩⟩⟩
    · exact ⟨_, _, .inl ⟨h, _, _, hi, .inl ⟨rfl, rfl, rfl⟩⟩⟩
  · exact ⟨_, _, .inr ⟨h, rfl, rfl⟩⟩
theorem estrip_gen {P Q G a b p r e' : Int} (w : World) (hP : 0 ≤ P) (hQ : 0 ≤ Q) (hG : 0 ≤ G) (a0 : 0 ≤ a) (b0 : 0 ≤ b) (p0 : 0 ≤ p) (h : StripS P Q G a b p r e') :
    Calls Try.prog 25 #[.agg #[.int .u64 P, .int .u64 Q, .int .u64 G], .agg #[.int .u64 a, .int .u64 b], .int .u64 p] w fun e w' => e = .returned (.tuple #[.int .u64 r, .int .i64 e']) ∧ Below w.heap.size w w' := by
  rcases h with ⟨h, ok, u, hi, ⟨rfl, hr, rfl⟩ | ⟨rfl, rfl, rfl⟩⟩ | ⟨h, rfl, rfl⟩
  · obtain ⟨hH, he, hn⟩ := askS_zero h
    obtain ⟨u0, uP⟩ := invS_range hi
    exact estrip_ok w hH a0 (hn a (by simp)) b0 (hn b (by simp)) p0 (hn p (by simp)) hi u0 uP hr
  · obtain ⟨hH, he, hn⟩ := askS_zero h
    exact estrip_none w hH a0 (hn a (by simp)) b0 (hn b (by simp)) p0 (hn p (by simp)) hi
  · exact estrip_bad w hP hQ hG rfl h
theorem rStrip_gen {P Q G a b p r e' : Int} (w : World) (hP : 0 ≤ P) (hQ : 0 ≤ Q) (hG : 0 ≤ G) (a0 : 0 ≤ a) (b0 : 0 ≤ b) (p0 : 0 ≤ p) (h : StripS P Q G a b p r e') :
    Calls Try.prog 26 #[.agg #[.int .u64 P, .int .u64 Q, .int .u64 G], .agg #[.int .u64 a, .int .u64 b], .int .u64 p] w fun e w' => e = .returned (.tuple #[.int .u64 r, .int .i64 e']) ∧ Below w.heap.size w w' := by
  rcases h with ⟨h, ok, u, hi, ⟨rfl, hr, rfl⟩ | ⟨rfl, rfl, rfl⟩⟩ | ⟨h, rfl, rfl⟩
  · obtain ⟨hH, he, hn⟩ := askS_zero h
    obtain ⟨u0, uP⟩ := invS_range hi
    exact rStrip_ok w hH a0 (hn a (by simp)) b0 (hn b (by simp)) p0 (hn p (by simp)) hi u0 uP hr
  · obtain ⟨hH, he, hn⟩ := askS_zero h
    exact rStrip_none w hH a0 (hn a (by simp)) b0 (hn b (by simp)) p0 (hn p (by simp)) hi
  · exact rStrip_bad w hP hQ hG rfl h

def RefS (P Q G y a b x c d e : Int) : Prop := (askS P Q G [x] [y, a, b] = 0 ∧ a * powm G x P % P = c ∧ b * (powm G 0 P * powm y x P % P) % P = d ∧ e = 0) ∨ (askS P Q G [x] [y, a, b] ≠ 0 ∧ c = 0 ∧ d = 0 ∧ e = askS P Q G [x] [y, a, b])
theorem RefS.exists (P Q G y a b x : Int) : ∃ c d e, RefS P Q G y a b x c d e := by
  by_cases h : askS P Q G [x] [y, a, b] = 0
  · exact ⟨_, _, _, .inl ⟨h, rfl, rfl, rfl⟩⟩
  · exact ⟨_, _, _, .inr ⟨h, rfl, rfl, rfl⟩⟩
theorem erefresh_gen {P Q G y a b x c d e' : Int} (w : World) (hP : 0 ≤ P) (hQ : 0 ≤ Q) (hG : 0 ≤ G) (y0 : 0 ≤ y) (a0 : 0 ≤ a) (b0 : 0 ≤ b) (x0 : 0 ≤ x) (h : RefS P Q G y a b x c d e') :
    Calls Try.prog 23 #[.agg #[.int .u64 P, .int .u64 Q, .int .u64 G], .int .u64 y, .agg #[.int .u64 a, .int .u64 b], .int .u64 x] w fun e w' => e = .returned (.tuple #[.agg #[.int .u64 c, .int .u64 d], .int .i64 e']) ∧ Below w.heap.size w w' := by
  rcases h with ⟨h, ha, hb, rfl⟩ | ⟨h, rfl, rfl, rfl⟩
  · obtain ⟨hH, he, hn⟩ := askS_zero h
    exact erefresh_ok w hH y0 (hn y (by simp)) a0 (hn a (by simp)) b0 (hn b (by simp)) x0 (he x (by simp)) rfl rfl ha hb
  · exact erefresh_bad w hP hQ hG rfl h
theorem rRefresh_gen {P Q G y a b x c d e' : Int} (w : World) (hP : 0 ≤ P) (hQ : 0 ≤ Q) (hG : 0 ≤ G) (y0 : 0 ≤ y) (a0 : 0 ≤ a) (b0 : 0 ≤ b) (x0 : 0 ≤ x) (h : RefS P Q G y a b x c d e') :
    Calls Try.prog 24 #[.agg #[.int .u64 P, .int .u64 Q, .int .u64 G], .int .u64 y, .agg #[.int .u64 a, .int .u64 b], .int .u64 x] w fun e w' => e = .returned (.tuple #[.agg #[.int .u64 c, .int .u64 d], .int .i64 e']) ∧ Below w.heap.size w w' := by
  rcases h with ⟨h, ha, hb, rfl⟩ | ⟨h, rfl, rfl, rfl⟩
  · obtain ⟨hH, he, hn⟩ := askS_zero h
    exact rRefresh_ok w hH y0 (hn y (by simp)) a0 (hn a (by simp)) b0 (hn b (by simp)) x0 (he x (by simp)) rfl rfl ha hb
  · exact rRefresh_bad w hP hQ hG rfl h

def DecS (P Q G x a b most n e : Int) : Prop :=
  (askS P Q G [x] [a, b] = 0 ∧ ((0 ≤ most ∧ most ≤ 4096 ∧ ∃ ok u, InvS P (powm a x P) ok u ∧ ((ok = true ∧ LogS P G (b * u % P) most n e) ∨ (ok = false ∧ n = 0 ∧ e = 6))) ∨ ((most < 0 ∨ 4096 < most) ∧ n = 0 ∧ e = 2))) ∨
  (askS P Q G [x] [a, b] ≠ 0 ∧ n = 0 ∧ e = askS P Q G [x] [a, b])
theorem DecS.exists {P Q G x a b : Int} (most : Int) : ∃ n e, DecS P Q G x a b most n e := by
  by_cases h : askS P Q G [x] [a, b] = 0
  · by_cases hm : 0 ≤ most ∧ most ≤ 4096
    · obtain ⟨hH, -, -⟩ := askS_zero h
      obtain ⟨ok, u, hi⟩ := InvS.exists P (powm a x P) (by have := hH.1; omega)
      cases ok
      · exact ⟨_, _, .inl ⟨h, .inl ⟨hm.1, hm.2, _, _, hi, .inr ⟨rfl, rfl, rfl⟩⟩⟩⟩
      · obtain ⟨n, e, hl⟩ := LogS.exists P G (b * u % P) most
        exact ⟨n, e, .inl ⟨h, .inl ⟨hm.1, hm.2, _, _, hi, .inl ⟨rfl, hl⟩⟩⟩⟩
    · exact ⟨_, _, .inl ⟨h, .inr ⟨by omega, rfl, rfl⟩⟩⟩
  · exact ⟨_, _, .inr ⟨h, rfl, rfl⟩⟩
theorem edecrypt_gen {P Q G x a b most n e' : Int} (w : World) (hP : 0 ≤ P) (hQ : 0 ≤ Q) (hG : 0 ≤ G) (x0 : 0 ≤ x) (a0 : 0 ≤ a) (b0 : 0 ≤ b) (h : DecS P Q G x a b most n e') :
    Calls Try.prog 27 #[.agg #[.int .u64 P, .int .u64 Q, .int .u64 G], .int .u64 x, .agg #[.int .u64 a, .int .u64 b], .int .i64 most] w fun e w' => e = .returned (.tuple #[.int .i64 n, .int .i64 e']) ∧ Below w.heap.size w w' := by
  rcases h with ⟨h, ⟨m0, m1, ok, u, hi, ⟨rfl, hl⟩ | ⟨rfl, rfl, rfl⟩⟩ | ⟨hm, rfl, rfl⟩⟩ | ⟨h, rfl, rfl⟩
  · obtain ⟨hH, he, hn⟩ := askS_zero h
    obtain ⟨u0, uP⟩ := invS_range hi
    exact edecrypt_ok w hH x0 (he x (by simp)) a0 (hn a (by simp)) b0 (hn b (by simp)) m0 m1 rfl hi u0 uP rfl hl
  · obtain ⟨hH, he, hn⟩ := askS_zero h
    exact edecrypt_none w hH x0 (he x (by simp)) a0 (hn a (by simp)) b0 (hn b (by simp)) m0 m1 rfl hi
  · obtain ⟨hH, he, hn⟩ := askS_zero h
    exact edecrypt_far w hH x0 (he x (by simp)) a0 (hn a (by simp)) b0 (hn b (by simp)) hm
  · exact edecrypt_bad w hP hQ hG rfl h
theorem rDecrypt_gen {P Q G x a b most n e' : Int} (w : World) (hP : 0 ≤ P) (hQ : 0 ≤ Q) (hG : 0 ≤ G) (x0 : 0 ≤ x) (a0 : 0 ≤ a) (b0 : 0 ≤ b) (h : DecS P Q G x a b most n e') :
    Calls Try.prog 28 #[.agg #[.int .u64 P, .int .u64 Q, .int .u64 G], .int .u64 x, .agg #[.int .u64 a, .int .u64 b], .int .i64 most] w fun e w' => e = .returned (.tuple #[.int .i64 n, .int .i64 e']) ∧ Below w.heap.size w w' := by
  rcases h with ⟨h, ⟨m0, m1, ok, u, hi, ⟨rfl, hl⟩ | ⟨rfl, rfl, rfl⟩⟩ | ⟨hm, rfl, rfl⟩⟩ | ⟨h, rfl, rfl⟩
  · obtain ⟨hH, he, hn⟩ := askS_zero h
    obtain ⟨u0, uP⟩ := invS_range hi
    exact rDecrypt_ok w hH x0 (he x (by simp)) a0 (hn a (by simp)) b0 (hn b (by simp)) m0 m1 rfl hi u0 uP rfl hl
  · obtain ⟨hH, he, hn⟩ := askS_zero h
    exact rDecrypt_none w hH x0 (he x (by simp)) a0 (hn a (by simp)) b0 (hn b (by simp)) m0 m1 rfl hi
  · obtain ⟨hH, he, hn⟩ := askS_zero h
    exact rDecrypt_far w hH x0 (he x (by simp)) a0 (hn a (by simp)) b0 (hn b (by simp)) hm
  · exact rDecrypt_bad w hP hQ hG rfl h
end Go.Proofs.Ytffefhldfnfohaa
