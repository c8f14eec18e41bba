/- GroupLogs: the statement: for every input the law returns true, and the arguments read as before. -/
import Derived.Test.YtjdfjgphjdcnmaaRefOf
import Derived.Test.YtjdfjgphjdcnmaaOpenD
import Derived.Test.YtjdfjgphjdcnmaaBoxed
import Derived.Test.YtjdfjgphjdcnmaaRows
namespace Go.Proofs.Ytjdfjgphjdcnmaa.lawLogs
open Go.ChangeShapes Go.WideShapes Go.ChangeAt Go.RowKit Num
set_option linter.unusedSimpArgs false
set_option linter.unusedVariables false

set_option maxRecDepth 100000 in
set_option maxHeartbeats 1600000 in
theorem walk (P Q G a most : Int) (bs : List Int) (w : World) (uP : U64 P) (uQ : U64 Q) (uG : U64 G) (ua : U64 a) (um : -9223372036854775808 ≤ most ∧ most ≤ 9223372036854775807) (ud : bs.length = 32 ∧ Bytes bs) :
    Calls Try.prog 4 #[.agg #[.int .u64 P, .int .u64 Q, .int .u64 G], .int .u64 a, .int .i64 most, .agg (byteV bs)] w fun e w' => e = .returned (.bool true) ∧ Below w.heap.size w w' := by
  have hP := uP.1
  have hQ := uQ.1
  have hG := uG.1
  have ha := ua.1
  obtain ⟨n, e1, hHA⟩ := RetL.exists P Q G a most
  have HA := Lib.hid hHA
  clear hHA
  obtain ⟨v, e2, hHF⟩ := RetS.exists (checkS P Q G 0 []) (beN (bs.take 8) % Q)
  have HF := Lib.hid hHF
  clear hHF
  have HL2 := Lib.hid ud.1
  have HL := Lib.hid (show 8 ≤ bs.length by have := ud.1; omega)
  have HB := Lib.hid ud.2
  clear ud
  have HI := Lib.hid (show (Try.prog.info? 34).map (·.size) = some (byteV bs).size by rw [byteV_size, HL2.out]; kernel_rfl)
  have hx0 := (Boxed.new w P Q G 24).alloc (.cells (byteV bs) 34)
  have hrow0 : ((w.alloc (.cells #[.int .u64 P, .int .u64 Q, .int .u64 G] 24)).alloc (.cells (byteV bs) 34)).heap[w.heap.size + 1]? = some (.cells (byteV bs) 34) := by
    have e : w.heap.size + 1 = (w.alloc (.cells #[.int .u64 P, .int .u64 Q, .int .u64 G] 24)).heap.size := by simp
    rw [e]
    show ((World.alloc _ _).heap.push _)[_]? = _
    rw [Array.getElem?_push, if_pos rfl]
  clear um
  go_enter Try.func4, Try.ntmps4
  go_wp2_with fail
  refine (log_gen hP hQ hG _ HA.out).mono ?_
  rintro e w1 ⟨rfl, hb1⟩
  have hx1 : Boxed w1 (w.heap.size) P Q G := Boxed.keep (by repeat (first | exact hx0 | apply Boxed.drew | apply Boxed.alloc)) hb1
  have gc0 := hx1.c0
  have gc1 := hx1.c1
  have gc2 := hx1.c2
  have gcl := hx1.lt
  have hz := hb1.size
  try simp only [World.size_alloc, World.size_drew] at hz
  have hrow1 : w1.heap[w.heap.size + 1]? = some (.cells (byteV bs) 34) := by rw [hb1.block _ (by first | omega | (simp <;> omega))]; exact hrow0
  go_wp2_with fail
  refine (rLog_gen _ hP hG HA.out).mono ?_
  rintro e w2 ⟨rfl, hb2⟩
  have hx2 : Boxed w2 (w.heap.size) P Q G := Boxed.keep (by repeat (first | exact hx1 | apply Boxed.drew | apply Boxed.alloc)) hb2
  have gc0 := hx2.c0
  have gc1 := hx2.c1
  have gc2 := hx2.c2
  have gcl := hx2.lt
  have hz := hb2.size
  try simp only [World.size_alloc, World.size_drew] at hz
  have hrow2 : w2.heap[w.heap.size + 1]? = some (.cells (byteV bs) 34) := by rw [hb2.block _ (by first | omega | (simp <;> omega))]; exact hrow1
  go_wp2_with (refine wpList_load_row rfl 34 _ rfl (w.heap.size + 1) rfl 34 _ _ _ hrow2 Try.underlying34 rfl HI.out ?_)
  refine (fromDigest_gen hP hQ hG _ HL.out HB.out HF.out).mono ?_
  rintro e w3 ⟨rfl, hb3⟩
  have hx3 : Boxed w3 (w.heap.size) P Q G := Boxed.keep (by repeat (first | exact hx2 | apply Boxed.drew | apply Boxed.alloc)) hb3
  have gc0 := hx3.c0
  have gc1 := hx3.c1
  have gc2 := hx3.c2
  have gcl := hx3.lt
  have hz := hb3.size
  try simp only [World.size_alloc, World.size_drew] at hz
  have hrow3 : w3.heap[w.heap.size + 1]? = some (.cells (byteV bs) 34) := by rw [hb3.block _ (by first | omega | (simp <;> omega))]; exact hrow2
  go_wp2_with (refine wpList_load_row rfl 34 _ rfl (w.heap.size + 1) rfl 34 _ _ _ hrow3 Try.underlying34 rfl HI.out ?_)
  refine (rFromDigest_gen _ hP hG HL2.out HB.out HF.out).mono ?_
  rintro e w4 ⟨rfl, hb4⟩
  have hx4 : Boxed w4 (w.heap.size) P Q G := Boxed.keep (by repeat (first | exact hx3 | apply Boxed.drew | apply Boxed.alloc)) hb4
  have gc0 := hx4.c0
  have gc1 := hx4.c1
  have gc2 := hx4.c2
  have gcl := hx4.lt
  have hz := hb4.size
  try simp only [World.size_alloc, World.size_drew] at hz
  go_wp2_with fail
  go_ret
  exact ⟨rfl, (by repeat (first | exact Below.refl _ _ | apply Below.drew | (refine Below.alloc ?_ (by first | omega | (simp <;> omega)) _) | (refine Below.trans ?_ (hb4.mono (by first | omega | (simp <;> omega)))) | (refine Below.trans ?_ (hb3.mono (by first | omega | (simp <;> omega)))) | (refine Below.trans ?_ (hb2.mono (by first | omega | (simp <;> omega)))) | (refine Below.trans ?_ (hb1.mono (by first | omega | (simp <;> omega))))))⟩


set_option maxRecDepth 100000 in
theorem lifted (os : Os) (started : os.Started) (H : Type) (enc : TypeId × Value → H) :
    ReturnsInHanded {} Try.checked os 4 .any (Rows.groupLogsSpec.pre6 enc Try.prog Try.f4 Rows.groupLogsRow.domain false) (Rows.groupLogsSpec.post enc Try.prog Try.f4 false true false false) := by
  refine returnsInHanded_of_change (C := Try.checked) own started (by kernel_rfl) Try.func4
    (ChangeSpec.witness6 (enc := enc) (C := Try.checked) false ⟨#[], #[.agg #[.int .u64 0, .int .u64 0, .int .u64 0], .int .u64 0, .int .i64 0, .agg (Array.replicate 32 (.int .u8 0))], []⟩ 8 (by kernel_rfl) (by kernel_rfl) (by kernel_rfl) (by kernel_rfl)) ?_
  intro W base args ds gs before hval0 hW _ _
  have hval : ∀ (j : Nat) t v, Try.f4.params[j]? = some t → args[j]? = some v → Value.okWide Try.prog W .any base t v := hval0
  have hW' := hW
  obtain ⟨p, q, hA0, hV, rfl, hfz, hnd⟩ := hW
  have hA : DataW.TrodAll enc Try.prog W 0 (fun _ => true) true Try.f4.params.toList args.toList ds p := hA0
  rw [Try.params4] at hA hval
  have hK := hA
  obtain ⟨v0, vs0, d0, ds0, p0, q0, hargs, rfl, rfl, h0, r0⟩ := trodAll_cons hA
  obtain ⟨v1, vs1, d1, ds1, p1, q1, rfl, rfl, rfl, h1, r1⟩ := trodAll_cons r0
  obtain ⟨v2, vs2, d2, ds2, p2, q2, rfl, rfl, rfl, h2, r2⟩ := trodAll_cons r1
  obtain ⟨v3, vs3, d3, ds3, p3, q3, rfl, rfl, rfl, h3, r3⟩ := trodAll_cons r2
  obtain ⟨rfl, rfl, rfl⟩ := trodAll_nil r3
  obtain rfl : args = #[v0, v1, v2, v3] := by cases args; simp_all
  obtain ⟨rfl, rfl⟩ := trodVars_none hV
  obtain ⟨P, Q, G, rfl, uP, uQ, uG⟩ := open_group (hval 0 24 v0 rfl rfl) h0
  obtain ⟨a, rfl, ua⟩ := open_u64 (hval 1 22 v1 rfl rfl) h1
  obtain ⟨most, rfl, um⟩ := open_i64 (hval 2 3 v2 rfl rfl) h2
  obtain ⟨bs, rfl, ud⟩ := open_d32 (hval 3 34 v3 rfl rfl) h3
  clear hA0 hval0
  refine (walk P Q G a most bs W uP uQ uG ua um ud).mono fun e W' ⟨he, bel⟩ => ?_
  subst he
  exact ⟨_, rfl, _, _, _, [], _, [], hW', trodAll_mk1 (shut_bool Try.underlying4 _), trodAll_stays laidOut (by kernel_rfl) hK bel, rfl, bel.frame _, fun h => by cases h⟩

theorem over : Rows.groupLogsRow.holds Try.pinned (OpenSpec.ofChange Rows.groupLogsSpec) :=
  OpenClaim.holds_of_wide 4 Try.f4 rfl rfl rfl rfl rfl rfl rfl ⟨rfl, rfl, rfl, rfl, rfl⟩ rfl rfl rfl rfl rfl (by kernel_rfl) Try.func4 (by kernel_rfl)
    (of_decide_eq_true (by kernel_rfl)) (by unfold Func.isWrapper; first | (rw [if_pos (by decide +kernel)]; kernel_rfl) | (rw [if_neg (by decide +kernel)]; exact ⟨rfl, rfl⟩))
    (fun os started H enc _ => lifted os started H enc)

theorem proved : Rows.GroupLogsSaid := over
#print axioms proved
end Go.Proofs.Ytjdfjgphjdcnmaa.lawLogs
