/- What the shares of chosen trustees join to. -/
import Derived.Test.YtjfaaicbojnpaaaChosen
import Derived.Test.YtjfaaicbojnpaaaLagrB
import Derived.Test.YtjfaaicbojnpaaaRowI
namespace Go.Proofs.Ytjfaaicbojnpaaa
open Go.ChangeShapes Go.WideShapes Go.ChangeAt Go.RowKit Num
set_option linter.unusedSimpArgs false
set_option linter.unusedVariables false

section
variable {H : Type} {enc : TypeId × Value → H} {w : World} {base : Nat} {held : Bool} {r : Reach} {b0 : Nat} {v : Value} {d : DataW H} {p : List MemPlace} {spare : Nat → Bool}
set_option maxRecDepth 100000 in
theorem open_u8 (hv : Value.okWide Try.prog w r b0 5 v) (h : DataW.Trod enc Try.prog w base spare held 5 v d p) : ∃ x : Int, v = .int .u8 x ∧ 0 ≤ x ∧ x < 256 := by
  obtain ⟨x, rfl, rfl, rfl, wx⟩ := open_int Try.underlying5 hv h
  have := bounds_u8 wx
  exact ⟨x, rfl, this.1, by omega⟩

end
theorem incS_of {Q : Int} : ∀ {l : List Int} {last : Int}, l.Pairwise (· < ·) → (∀ x, x ∈ l → last < x ∧ numS Q x = true) → incS Q last l = true
  | [], _, _, _ => rfl
  | x :: l, last, hp, h => by
    obtain ⟨h1, h2⟩ := List.pairwise_cons.1 hp
    have hx := h x (by simp)
    rw [incS_step hx.2 hx.1]
    exact incS_of h2 (fun y hy => ⟨h1 y hy, (h y (by simp [hy])).2⟩)
/-- The chosen as a list of places. -/
def places (m : Int) (t : Nat) : List Nat := (List.range t).filter (bitS m)
theorem places_lt {m : Int} {t i : Nat} (h : i ∈ places m t) : i < t := by
  rw [places, List.mem_filter, List.mem_range] at h; exact h.1
theorem chosenI_inc {Q m : Int} {t : Nat} (t8 : t ≤ 8) (tQ : (t : Int) < Q) : incS Q 0 (chosenI m t) = true := by
  refine incS_of ?_ ?_
  · rw [chosenI, List.pairwise_map]
    exact (List.pairwise_lt_range.filter _).imp (fun h => by omega)
  · intro x hx
    rw [chosenI, List.mem_map] at hx
    obtain ⟨i, hi, rfl⟩ := hx
    have := places_lt hi
    refine ⟨by omega, by simp [numS]; omega⟩
theorem chosen_listed {Q m : Int} {t : Nat} (t8 : t ≤ 8) (tQ : (t : Int) < Q) (h1 : 1 ≤ (chosenI m t).length) : listS Q 1 (chosenI m t) = true := by
  have h8 := chosenI_le m t
  have hi := chosenI_inc (Q := Q) (m := m) t8 tQ
  simp [listS, h1, hi]; omega
theorem chosen_val {Q m : Int} {xs : List Int} {t : Nat} : ∀ k, k < (chosenI m t).length → (chosenV m (sharesS Q xs t) t).getD k 0 = valS Q ((chosenI m t).getD k 0) xs := fun k hk => by
  have hp : k < (places m t).length := by simpa [chosenI, places] using hk
  have e1 : (chosenI m t).getD k 0 = ((places m t)[k] : Int) + 1 := by
    rw [getD_at hk]; simp [chosenI, places]
  have hk2 : k < (chosenV m (sharesS Q xs t) t).length := by rw [chosen_len]; exact hk
  have e2 : (chosenV m (sharesS Q xs t) t).getD k 0 = (sharesS Q xs t).getD ((places m t)[k]) 0 := by
    rw [getD_at hk2]; simp [chosenV, places]
  rw [e1, e2, share_at (places_lt (List.getElem_mem hp))]
theorem chosenV_below {Q m : Int} {xs : List Int} {t : Nat} (hQ : 0 < Q) (t8 : t ≤ 8) (h1 : 1 ≤ (chosenI m t).length) : belowS Q (chosenV m (sharesS Q xs t) t) = true := by
  have h8 := chosenI_le m t
  have hl := chosen_len m (sharesS Q xs t) t
  simp only [belowS, Bool.and_eq_true, decide_eq_true_eq, okAll, List.all_eq_true]
  refine ⟨⟨by omega, by omega⟩, fun x hx => ?_⟩
  rw [chosenV, List.mem_map] at hx
  obtain ⟨i, hi, rfl⟩ := hx
  rw [share_at (places_lt hi)]
  exact (valS_range _ hQ xs).2
theorem chosenV_u {Q m : Int} {xs : List Int} {t : Nat} (hQ : 0 < Q) (hQ2 : Q < 18446744073709551616) : ∀ x, x ∈ chosenV m (sharesS Q xs t) t → U64 x := fun x hx => by
  rw [chosenV, List.mem_map] at hx
  obtain ⟨i, hi, rfl⟩ := hx
  rw [share_at (places_lt hi)]
  have := valS_range ((i : Int) + 1) hQ xs
  exact ⟨this.1, by omega⟩
theorem chosenI_i {m : Int} {t : Nat} (t8 : t ≤ 8) : ∀ x, x ∈ chosenI m t → I64 x := fun x hx => by
  rw [chosenI, List.mem_map] at hx
  obtain ⟨i, hi, rfl⟩ := hx
  have := places_lt hi
  constructor <;> omega
/-- The weights of the chosen. -/
theorem chosen_weights {P Q G m : Int} {t : Nat} {L : Int} {zs : List Int} (hV : Valid P Q G) (t8 : t ≤ 8) (tQ : (t : Int) < Q) (h1 : 1 ≤ (chosenI m t).length) (hl : zs.length = (chosenI m t).length) (hb : belowS L zs = true) :
    ∃ ws, pairedS P Q G L (chosenI m t) zs = (0, ws) ∧ wAll Q (chosenI m t) (chosenI m t) = some ws := by
  have hli := chosen_listed t8 tQ h1
  have hbd := list_bd hli
  have hu : Units Q (chosenI m t) := units_prime hV.2.2.1 (fun x hx => by
    obtain ⟨k, hk, rfl⟩ := List.mem_iff_getElem.1 hx
    have := hbd k hk
    rw [getD_at hk] at this
    exact ⟨this.1, this.2.1⟩)
  obtain ⟨ws, hw⟩ := wAll_ex hu (chosenI m t) (fun x hx => hx)
  exact ⟨ws, by simp only [pairedS, hV.1, hli, hl, hb, if_true, decide_true, Bool.and_self]; exact weightsS_some hV.1 hli hw, hw⟩
/-- A threshold of shares joins to the secret. -/
theorem joins {P Q G m : Int} {t : Nat} {xs : List Int} (hV : Valid P Q G) (hbl : belowS Q xs = true) (t8 : t ≤ 8) (tQ : (t : Int) < Q) (hlx : xs.length ≤ (chosenI m t).length) : joinS P Q G (chosenI m t) (chosenV m (sharesS Q xs t) t) = (valS Q 0 xs, 0) := by
  have q2 := hV.2.2.1.1
  have h1 : 1 ≤ (chosenI m t).length := Nat.le_trans (belowS_true hbl).1 hlx
  obtain ⟨ws, hp, hw⟩ := chosen_weights (L := Q) hV t8 tQ h1 (chosen_len m _ t) (chosenV_below (by omega) t8 h1)
  have hli := chosen_listed t8 tQ h1
  have hj := join_val (by omega) (incS_nodup (listS_true hli).2.2) (units_of_wAll hw) (chosen_len m _ t) hlx (fun k hk => chosen_val k hk) hw
  rw [joinS, hp]
  simp only [if_true]
  rw [hj]
theorem val0_head {Q : Int} {xs : List Int} (h : belowS Q xs = true) (hx : ∀ x, x ∈ xs → U64 x) : valS Q 0 xs = xs.getD 0 0 := by
  have hb := belowS_bd h hx
  have hl := (belowS_true h).1
  cases xs with
  | nil => simp at hl
  | cons y l => simpa using val_zero (hb y (by simp)).1 (hb y (by simp)).2
end Go.Proofs.Ytjfaaicbojnpaaa
