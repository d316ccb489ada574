/- canon.Number, walked. -/
import Derived.Test.YtckjffhimofikaaDoorS
namespace Go.Proofs.YtckjffhimofikaaDoor.T
open Go.RowKit Go.Proofs.YtckjffhimofikaaDoorF Go.Proofs.YtckjffhimofikaaDoorW.PrintWords Go.Proofs.YtckjffhimofikaaDoor.A Go.Proofs.YtckjffhimofikaaDoor.KBase Go.Proofs.YtckjffhimofikaaDoorW.PrintLast Go.Proofs.YtckjffhimofikaaDoorW.PrintMore
set_option linter.unusedSimpArgs false
set_option linter.unusedVariables false
attribute [local go_sem high] run_feq run_fne run_flt_lt run_flt_le run_flt_gt run_flt_ge

abbrev e0 : ByteArray := ⟨#[]⟩
theorem number_out (b : Nat) (w : World) (h : flt_ge b 0 = false ∨ flt_le b 4607182418800017408 = false) :
    Calls Tryd.prog 6 #[.float .f64 b] w fun e w' => e = .returned (.tuple #[.string e0, .bool false]) ∧ Below w.heap.size w w' := by
  cases h1 : flt_ge b 0
  · go_enter Tryd.func6, Tryd.ntmps6
    go_wp2
    go_ret2
    exact ⟨rfl, Below.refl _ _⟩
  · have h2 : flt_le b 4607182418800017408 = false := by
      rcases h with h | h
      · rw [h] at h1; cases h1
      · exact h
    clear h
    go_enter Tryd.func6, Tryd.ntmps6
    go_wp2
    go_ret2
    exact ⟨rfl, Below.refl _ _⟩
theorem number_in (b : Nat) (S : ByteArray) (w : World) (h1 : flt_ge b 0 = true) (h2 : flt_le b 4607182418800017408 = true) (h0 : 0 < S.size) (hl : S.size ≤ 1000)
    (hF : Calls Tryd.prog 9 #[.float .f64 b, .int .u8 102, .int .i64 (-1), .int .i64 64] w fun e w' => e = .returned (.string S) ∧ Below w.heap.size w w') :
    Calls Tryd.prog 6 #[.float .f64 b] w fun e w' => e = .returned (if (S[0]'h0) = 45 ∨ 11 < S.size then .tuple #[.string e0, .bool false] else .tuple #[.string S, .bool true]) ∧ Below w.heap.size w w' := by
  have HF := Aside0.mk hF
  clear hF
  obtain ⟨r, hr⟩ : ∃ r : Value, r = (if (S[0]'h0) = 45 ∨ 11 < S.size then .tuple #[.string e0, .bool false] else .tuple #[.string S, .bool true]) := ⟨_, rfl⟩
  rw [← hr]
  have HR := Aside0.mk hr
  clear hr
  by_cases c1 : (S[0]'h0) = 45
  · have HC := Aside0.mk (Or.inl (b := 11 < S.size) c1)
    have t1 : (((S[0]'h0).toNat : Int) == 45) = true := by rw [c1]; rfl
    clear c1
    go_enter Tryd.func6, Tryd.ntmps6
    go_wp2_with (go_at_call 9; (with_reducible refine HF.out.mono ?_); rintro e' W3 ⟨rfl, hb⟩; have HB3 := Aside0.mk hb; clear hb)
    go_ret2
    exact ⟨by rw [HR.out, if_pos HC.out]; rfl, HB3.out⟩
  · have t1 : (((S[0]'h0).toNat : Int) == 45) = false := by
      simp only [beq_eq_false_iff_ne, ne_eq]
      intro e
      apply c1
      apply UInt8.toNat_inj.1
      have : ((45 : UInt8).toNat : Int) = 45 := rfl
      omega
    by_cases c2 : 11 < S.size
    · have HC := Aside0.mk (Or.inr (a := (S[0]'h0) = 45) c2)
      have t2 : decide ((11 : Int) < S.size) = true := decide_eq_true (by omega)
      clear c1 c2
      go_enter Tryd.func6, Tryd.ntmps6
      go_wp2_with (go_at_call 9; (with_reducible refine HF.out.mono ?_); rintro e' W3 ⟨rfl, hb⟩; have HB3 := Aside0.mk hb; clear hb)
      go_ret2
      exact ⟨by rw [HR.out, if_pos HC.out]; rfl, HB3.out⟩
    · have HC := Aside0.mk (not_or.2 ⟨c1, c2⟩)
      have t2 : decide ((11 : Int) < S.size) = false := decide_eq_false (by omega)
      clear c1 c2
      go_enter Tryd.func6, Tryd.ntmps6
      go_wp2_with (go_at_call 9; (with_reducible refine HF.out.mono ?_); rintro e' W3 ⟨rfl, hb⟩; have HB3 := Aside0.mk hb; clear hb)
      go_ret2
      exact ⟨by rw [HR.out, if_neg HC.out]; rfl, HB3.out⟩
end Go.Proofs.YtckjffhimofikaaDoor.T
