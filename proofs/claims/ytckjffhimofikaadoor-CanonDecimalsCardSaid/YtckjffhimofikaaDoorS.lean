/- FormatFloat, walked: it makes the text of what ftoa64 writes. -/
import Derived.Test.YtckjffhimofikaaDoorR
import Derived.Test.YtckjffhimofikaaDoorFlt
namespace Go.Proofs.YtckjffhimofikaaDoor.S
open Go.RowKit Go.Proofs.YtckjffhimofikaaDoorW.PrintWords Go.Proofs.YtckjffhimofikaaDoor.A Go.Proofs.YtckjffhimofikaaDoor.B Go.Proofs.YtckjffhimofikaaDoor.C Go.Proofs.YtckjffhimofikaaDoor.FF Go.Proofs.YtckjffhimofikaaDoor.KBase Go.Proofs.YtckjffhimofikaaDoor.J Go.Proofs.YtckjffhimofikaaDoor.L Go.Proofs.YtckjffhimofikaaDoor.P Go.Proofs.YtckjffhimofikaaDoorW.PrintLast Go.Proofs.YtckjffhimofikaaDoorW.PrintMore
set_option linter.unusedSimpArgs false
set_option linter.unusedVariables false
attribute [local go_sem] max2_int min2_int max_two min_two

theorem make_row (w : World) : (Instr.makeSlice 31 (.int .i64 0) (.int .i64 24)).run Tryd.prog w = .ok (.slice (some ⟨w.heap.size, 0, none⟩) 0 24) (w.alloc (.cells (madeCells #[.int .u8 0] 24) 5)) := by
  obtain ⟨i, h1, hz⟩ := Option.map_eq_some_iff.1 L.info5
  simp only [Prod.mk.injEq] at hz
  obtain ⟨h2, h3, h4⟩ := hz
  have := run_make (P := Tryd.prog) w 31 5 i _ Tryd.underlying31 h1 h2 .i64 .i64 0 24 (by omega) (by omega) (by rw [h4]; omega) (by omega)
  rw [h3] at this
  simpa [Value.cells] using this
theorem row_none (w : World) : Kd.R (Kd.int .u8) 5 (w.alloc (.cells (madeCells #[.int .u8 0] 24) 5)) w.heap.size (fun _ => True) (.slice (some ⟨w.heap.size, 0, none⟩) 0 24) [] := by
  have h2 : (w.alloc (.cells (madeCells #[.int .u8 0] 24) 5)).ownsRow w.heap.size 5 1 (.slice (some ⟨w.heap.size, 0, none⟩) 0 24) ([] : List Int).length (encs (Value.int .u8) []) := by
    have e : (List.replicate 24 (0 : Int)).length = 24 := by simp
    have h0 := own_made' w w.heap.size 5 .u8 24 (Nat.le_refl _) (by omega)
    rw [e] at h0
    have h1 := own_take (m := 0) h0 (Nat.zero_le _)
    simpa [encs] using h1
  exact Kd.R_of_own (h1 := fun _ => rfl) h2 (fun _ _ => trivial)
set_option maxRecDepth 100000 in
set_option maxHeartbeats 1000000 in
theorem format_calls (b : Nat) (xs : List Int) (w : World)
    (hF : ∀ v W, Below w.heap.size w W → Kd.R (Kd.int .u8) 5 W w.heap.size (fun _ => True) v [] → Calls Tryd.prog 13 #[v, .float .f64 b, .int .u8 102, .int .i64 (-1)] W fun e w' => ∃ v', e = .returned v' ∧ Kd.R (Kd.int .u8) 5 w' w.heap.size (fun _ => True) v' xs ∧ Below w.heap.size W w') :
    Calls Tryd.prog 9 #[.float .f64 b, .int .u8 102, .int .i64 (-1), .int .i64 64] w fun e w' => e = .returned (.string (strOfNums xs)) ∧ Below w.heap.size w w' := by
  have HF := Aside0.mk hF
  clear hF
  have inner : Calls Tryd.prog 11 #[.float .f64 b, .int .u8 102, .int .i64 (-1), .int .i64 64] w fun e w' => e = .returned (.string (strOfNums xs)) ∧ Below w.heap.size w w' := by
    have hm := make_row
    have FM := Aside0.mk (HF.out (.slice (some ⟨w.heap.size, 0, none⟩) 0 24) (w.alloc (.cells (madeCells #[.int .u8 0] 24) 5)) (below_alloc (Below.refl _ _) _) (row_none w))
    have HB := Aside0.mk (below_alloc (Below.refl w.heap.size w) (.cells (madeCells #[.int .u8 0] 24) 5))
    clear HF
    go_enter Tryd.func11, Tryd.ntmps11
    go_wp2_with (go_at_call 13; (with_reducible refine FM.out.mono ?_); rintro e' W3 ⟨v', rfl, hR, hb⟩; obtain ⟨A, c, rfl⟩ := Kd.R_slice hR; have hc : ∀ W : World, W = W3 → (convert 31 9 (.slice A xs.length c)).run Tryd.prog W = .ok (.string (strOfNums xs)) W := (fun W e => by rw [e]; exact Kd.C_string Tryd.underlying31 Tryd.underlying5 Tryd.underlying9 (Kd.R_reads' hR).2.2); have hc := hc W3 rfl; have HB3 := Aside0.mk (HB.out.trans hb); clear hR hb)
    go_ret
    exact ⟨rfl, HB3.out⟩
  have HI := Aside0.mk inner
  clear inner HF
  go_enter Tryd.func9, Tryd.ntmps9
  go_wp2_with (go_at_call 11; (with_reducible refine HI.out.mono ?_); rintro e' W3 ⟨rfl, hb⟩; have HB3 := Aside0.mk hb; clear hb)
  go_ret
  exact ⟨rfl, HB3.out⟩
end Go.Proofs.YtckjffhimofikaaDoor.S
