/- GroupForms: the statement: for every input the law returns true, and the arguments read as before. -/
import Derived.Test.YtjdfjgphjdcnmaaRefD
import Derived.Test.YtjdfjgphjdcnmaaOpen
import Derived.Test.YtjdfjgphjdcnmaaRows
namespace Go.Proofs.Ytjdfjgphjdcnmaa.lawForms
open Go.ChangeShapes Go.WideShapes Go.ChangeAt Go.RowKit Num

set_option maxHeartbeats 1600000 in
theorem walk (P Q G n : Int) (w : World) (uP : U64 P) (uQ : U64 Q) (uG : U64 G) (un : U64 n) :
    Calls Try.prog 3 #[.agg #[.int .u64 P, .int .u64 Q, .int .u64 G], .int .u64 n] w fun e w' => e = .returned (.bool true) ∧ Below w.heap.size w w' := by
  have hP := uP.1
  have hQ := uQ.1
  have hG := uG.1
  have hn := un.1
  obtain ⟨r, hr⟩ : ∃ r : Bool, r = true ↔ Pr n := by
    by_cases h : Pr n
    · exact ⟨true, by simp [h]⟩
    · exact ⟨false, by simp [h]⟩
  have HR := Lib.hid hr
  clear hr
  obtain ⟨c, hc⟩ := ValidS.exists P Q G
  have HC := Lib.hid hc
  clear hc
  by_cases hs : n < 2147483648
  · go_enter Try.func3, Try.ntmps3
    go_wp2_with fail
    refine (isPrime_small n r _ hn hs HR.out).mono ?_
    rintro e w1 ⟨rfl, rfl⟩
    go_wp2_with fail
    refine (rIsPrime_small n r _ hn hs HR.out).mono ?_
    rintro e w1 ⟨rfl, rfl⟩
    go_wp2_with fail
    go_region_held3 (fun w' => w'.cell? ⟨w.heap.size, 0, none⟩ = some (.int .u64 P) ∧ w'.cell? ⟨w.heap.size, 1, none⟩ = some (.int .u64 Q) ∧ w'.cell? ⟨w.heap.size, 2, none⟩ = some (.int .u64 G))
      (first | go_keep | (refine ⟨?_, ?_, ?_⟩ <;> (rw [hc _ _ (by first | omega | (simp <;> omega))]; first | assumption | go_simp)))
      (first
        | (go_at_call 16; refine (form_any P Q G _ hP hQ hG).mono ?_; rintro e w1 ⟨rfl, hb1⟩; obtain ⟨hc, hf⟩ := bcell hb1; have hz := hb1.size; try simp only [World.size_alloc, World.size_drew] at hz)
        | (go_at_call 17; refine (rForm_any P Q G _ hP hG).mono ?_; rintro e w2 ⟨rfl, hb2⟩; obtain ⟨hc, hf⟩ := bcell hb2; have hz := hb2.size; try simp only [World.size_alloc, World.size_drew] at hz)
        | (go_at_call 18; refine (gcheck_any P Q G c _ hP hQ hG HC.out).mono ?_; rintro e w3 ⟨rfl, hb3⟩; obtain ⟨hc, hf⟩ := bcell hb3; have hz := hb3.size; try simp only [World.size_alloc, World.size_drew] at hz)
        | (go_at_call 19; refine (rCheck_any P Q G c _ hP hQ hG HC.out).mono ?_; rintro e w4 ⟨rfl, hb4⟩; obtain ⟨hc, hf⟩ := bcell hb4; have hz := hb4.size; try simp only [World.size_alloc, World.size_drew] at hz)
        | (go_at_call 20; refine (default_any _).mono ?_; rintro e w5 ⟨rfl, hb5⟩; obtain ⟨hc, hf⟩ := bcell hb5; have hz := hb5.size; try simp only [World.size_alloc, World.size_drew] at hz)
        | (go_at_call 21; refine (rDefault_any _).mono ?_; rintro e w6 ⟨rfl, hb6⟩; obtain ⟨hc, hf⟩ := bcell hb6; have hz := hb6.size; try simp only [World.size_alloc, World.size_drew] at hz)
      )
    go_wp2_with fail
    go_ret
    exact ⟨rfl, (by repeat (first | exact Below.refl _ _ | apply Below.drew | (refine Below.alloc ?_ (by first | omega | (simp <;> omega)) _) | (refine Below.trans ?_ (hb6.mono (by first | omega | (simp <;> omega)))) | (refine Below.trans ?_ (hb5.mono (by first | omega | (simp <;> omega)))) | (refine Below.trans ?_ (hb4.mono (by first | omega | (simp <;> omega)))) | (refine Below.trans ?_ (hb3.mono (by first | omega | (simp <;> omega)))) | (refine Below.trans ?_ (hb2.mono (by first | omega | (simp <;> omega)))) | (refine Below.trans ?_ (hb1.mono (by first | omega | (simp <;> omega))))))⟩
  · have hs' : 2147483648 ≤ n := by omega
    clear hs
    go_enter Try.func3, Try.ntmps3
    go_wp2_with fail
    refine (isPrime_great n _ hs').mono ?_
    rintro e w1 ⟨rfl, rfl⟩
    go_wp2_with fail
    refine (rIsPrime_great n _ hs').mono ?_
    rintro e w1 ⟨rfl, rfl⟩
    go_wp2_with fail
    go_region_held3 (fun w' => w'.cell? ⟨w.heap.size, 0, none⟩ = some (.int .u64 P) ∧ w'.cell? ⟨w.heap.size, 1, none⟩ = some (.int .u64 Q) ∧ w'.cell? ⟨w.heap.size, 2, none⟩ = some (.int .u64 G))
      (first | go_keep | (refine ⟨?_, ?_, ?_⟩ <;> (rw [hc _ _ (by first | omega | (simp <;> omega))]; first | assumption | go_simp)))
      (first
        | (go_at_call 16; refine (form_any P Q G _ hP hQ hG).mono ?_; rintro e w1 ⟨rfl, hb1⟩; obtain ⟨hc, hf⟩ := bcell hb1; have hz := hb1.size; try simp only [World.size_alloc, World.size_drew] at hz)
        | (go_at_call 17; refine (rForm_any P Q G _ hP hG).mono ?_; rintro e w2 ⟨rfl, hb2⟩; obtain ⟨hc, hf⟩ := bcell hb2; have hz := hb2.size; try simp only [World.size_alloc, World.size_drew] at hz)
        | (go_at_call 18; refine (gcheck_any P Q G c _ hP hQ hG HC.out).mono ?_; rintro e w3 ⟨rfl, hb3⟩; obtain ⟨hc, hf⟩ := bcell hb3; have hz := hb3.size; try simp only [World.size_alloc, World.size_drew] at hz)
        | (go_at_call 19; refine (rCheck_any P Q G c _ hP hQ hG HC.out).mono ?_; rintro e w4 ⟨rfl, hb4⟩; obtain ⟨hc, hf⟩ := bcell hb4; have hz := hb4.size; try simp only [World.size_alloc, World.size_drew] at hz)
        | (go_at_call 20; refine (default_any _).mono ?_; rintro e w5 ⟨rfl, hb5⟩; obtain ⟨hc, hf⟩ := bcell hb5; have hz := hb5.size; try simp only [World.size_alloc, World.size_drew] at hz)
        | (go_at_call 21; refine (rDefault_any _).mono ?_; rintro e w6 ⟨rfl, hb6⟩; obtain ⟨hc, hf⟩ := bcell hb6; have hz := hb6.size; try simp only [World.size_alloc, World.size_drew] at hz)
      )
    go_wp2_with fail
    go_ret
    exact ⟨rfl, (by repeat (first | exact Below.refl _ _ | apply Below.drew | (refine Below.alloc ?_ (by first | omega | (simp <;> omega)) _) | (refine Below.trans ?_ (hb6.mono (by first | omega | (simp <;> omega)))) | (refine Below.trans ?_ (hb5.mono (by first | omega | (simp <;> omega)))) | (refine Below.trans ?_ (hb4.mono (by first | omega | (simp <;> omega)))) | (refine Below.trans ?_ (hb3.mono (by first | omega | (simp <;> omega)))) | (refine Below.trans ?_ (hb2.mono (by first | omega | (simp <;> omega)))) | (refine Below.trans ?_ (hb1.mono (by first | omega | (simp <;> omega))))))⟩


set_option maxRecDepth 100000 in
theorem lifted (os : Os) (started : os.Started) (H : Type) (enc : TypeId × Value → H) :
    ReturnsInHanded {} Try.checked os 3 .any (Rows.groupFormsSpec.pre6 enc Try.prog Try.f3 Rows.groupFormsRow.domain false) (Rows.groupFormsSpec.post enc Try.prog Try.f3 false true false false) := by
  refine returnsInHanded_of_change (C := Try.checked) own started (by kernel_rfl) Try.func3
    (ChangeSpec.witness6 (enc := enc) (C := Try.checked) false ⟨#[], #[.agg #[.int .u64 0, .int .u64 0, .int .u64 0], .int .u64 0], []⟩ 8 (by kernel_rfl) (by kernel_rfl) (by kernel_rfl) (by kernel_rfl)) ?_
  intro W base args ds gs before hval0 hW _ _
  have hval : ∀ (j : Nat) t v, Try.f3.params[j]? = some t → args[j]? = some v → Value.okWide Try.prog W .any base t v := hval0
  have hW' := hW
  obtain ⟨p, q, hA0, hV, rfl, hfz, hnd⟩ := hW
  have hA : DataW.TrodAll enc Try.prog W 0 (fun _ => true) true Try.f3.params.toList args.toList ds p := hA0
  rw [Try.params3] at hA hval
  have hK := hA
  obtain ⟨v0, vs0, d0, ds0, p0, q0, hargs, rfl, rfl, h0, r0⟩ := trodAll_cons hA
  obtain ⟨v1, vs1, d1, ds1, p1, q1, rfl, rfl, rfl, h1, r1⟩ := trodAll_cons r0
  obtain ⟨rfl, rfl, rfl⟩ := trodAll_nil r1
  obtain rfl : args = #[v0, v1] := by cases args; simp_all
  obtain ⟨rfl, rfl⟩ := trodVars_none hV
  obtain ⟨P, Q, G, rfl, uP, uQ, uG⟩ := open_group (hval 0 24 v0 rfl rfl) h0
  obtain ⟨n, rfl, un⟩ := open_u64 (hval 1 22 v1 rfl rfl) h1
  clear hA0 hval0
  refine (walk P Q G n W uP uQ uG un).mono fun e W' ⟨he, bel⟩ => ?_
  subst he
  exact ⟨_, rfl, _, _, _, [], _, [], hW', trodAll_mk1 (shut_bool Try.underlying4 _), trodAll_stays laidOut (by kernel_rfl) hK bel, rfl, bel.frame _, fun h => by cases h⟩

theorem over : Rows.groupFormsRow.holds Try.pinned (OpenSpec.ofChange Rows.groupFormsSpec) :=
  OpenClaim.holds_of_wide 3 Try.f3 rfl rfl rfl rfl rfl rfl rfl ⟨rfl, rfl, rfl, rfl, rfl⟩ rfl rfl rfl rfl rfl (by kernel_rfl) Try.func3 (by kernel_rfl)
    (of_decide_eq_true (by kernel_rfl)) (by unfold Func.isWrapper; first | (rw [if_pos (by decide +kernel)]; kernel_rfl) | (rw [if_neg (by decide +kernel)]; exact ⟨rfl, rfl⟩))
    (fun os started H enc _ => lifted os started H enc)

theorem proved : Rows.GroupFormsSaid := over
#print axioms proved
end Go.Proofs.Ytjdfjgphjdcnmaa.lawForms
