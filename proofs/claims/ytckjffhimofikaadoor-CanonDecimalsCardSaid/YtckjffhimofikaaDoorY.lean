/- gatehouselaw05.CanonNumber, walked. -/
import Derived.Test.YtckjffhimofikaaDoorV
import Derived.Test.YtckjffhimofikaaDoorX
namespace Go.Proofs.YtckjffhimofikaaDoor.Y
open Go.RowKit Go.Proofs.YtckjffhimofikaaDoorF Go.Proofs.YtckjffhimofikaaDoorW.PrintWords Go.Proofs.YtckjffhimofikaaDoor.A Go.Proofs.YtckjffhimofikaaDoor.C Go.Proofs.YtckjffhimofikaaDoor.FF Go.Proofs.YtckjffhimofikaaDoor.KBase Go.Proofs.YtckjffhimofikaaDoor.J Go.Proofs.YtckjffhimofikaaDoor.U Go.Proofs.YtckjffhimofikaaDoor.W Go.Proofs.YtckjffhimofikaaDoorW.PrintLast Go.Proofs.YtckjffhimofikaaDoorW.PrintMore
set_option linter.unusedSimpArgs false
set_option linter.unusedVariables false
set_option maxRecDepth 4000

/-- The tables stand as Go lays them. -/
def Env (w : World) : Prop := ∃ H L, TabOk H L ∧ Tabs H L w
theorem Env.below {w w' : World} (h : Env w) (hb : Below w.heap.size w w') : Env w' := by
  obtain ⟨H, L, h1, h2⟩ := h
  exact ⟨H, L, h1, h2.below hb⟩
/-- FormatFloat of what ftoa64 writes. -/
theorem format_of {b : Nat} {xs : List Int} {w : World} (hE : Env w)
    (hF : ∀ H L, TabOk H L → (∀ i, 2 ^ 63 ≤ H i ∧ H i < 2 ^ 64 ∧ L i < 2 ^ 64) → ∀ (base : Nat) (v : Value) (W : World), base ≤ W.heap.size → 1 ≤ base → Kd.R (Kd.int .u8) 5 W base (fun _ => True) v [] → (∀ W', Below base W W' → Tabs H L W') → Calls Tryd.prog 13 #[v, .float .f64 b, .int .u8 102, .int .i64 (-1)] W fun e w' => ∃ v', e = .returned v' ∧ Kd.R (Kd.int .u8) 5 w' base (fun _ => True) v' xs ∧ Below base W w') :
    Calls Tryd.prog 9 #[.float .f64 b, .int .u8 102, .int .i64 (-1), .int .i64 64] w fun e w' => e = .returned (.string (strOfNums xs)) ∧ Below w.heap.size w w' := by
  obtain ⟨H, L, h1, h2⟩ := hE
  exact S.format_calls b xs w (fun v W hb hR => hF H L h1 h2.big w.heap.size v W hb.size (by have := h2.size; omega) hR (fun W' hb' => h2.below (hb.trans hb')))
theorem str_size (xs : List Int) : (strOfNums xs).size = xs.length := strOfNums_size xs
theorem str_get0 (a : Int) (l : List Int) (h : 0 < (strOfNums (a :: l)).size) : (strOfNums (a :: l))[0]'h = UInt8.ofNat a.toNat := rfl
/-- canon.Number of a float between 0 and 1, by FormatFloat's bytes. -/
theorem number_of {b : Nat} {a : Int} {l : List Int} {w : World} (h1 : flt_ge b 0 = true) (h2 : flt_le b 4607182418800017408 = true) (hl : l.length ≤ 900)
    (hF : Calls Tryd.prog 9 #[.float .f64 b, .int .u8 102, .int .i64 (-1), .int .i64 64] w fun e w' => e = .returned (.string (strOfNums (a :: l))) ∧ Below w.heap.size w w') :
    Calls Tryd.prog 6 #[.float .f64 b] w fun e w' => e = .returned (if UInt8.ofNat a.toNat = 45 ∨ 10 < l.length then .tuple #[.string W.e0, .bool false] else .tuple #[.string (strOfNums (a :: l)), .bool true]) ∧ Below w.heap.size w w' := by
  have hs : (strOfNums (a :: l)).size = l.length + 1 := str_size _
  have h0 : 0 < (strOfNums (a :: l)).size := by omega
  have h := T.number_in b (strOfNums (a :: l)) w h1 h2 h0 (by omega) hF
  rw [str_get0, hs] at h
  refine h.mono fun e w' ⟨h3, h4⟩ => ⟨?_, h4⟩
  rw [h3]
  by_cases c : UInt8.ofNat a.toNat = 45 ∨ 10 < l.length
  · rw [if_pos c, if_pos (by rcases c with c | c; exact .inl c; exact .inr (by omega))]
  · rw [if_neg c, if_neg (by intro h; apply c; rcases h with h | h; exact .inl h; exact .inr (by omega))]
set_option maxRecDepth 100000 in
/-- The law, where both answers are one. -/
theorem law_of (b : Nat) (S : ByteArray) (ok : Bool) (w : World) (h6 : Calls Tryd.prog 6 #[.float .f64 b] w fun e w' => e = .returned (.tuple #[.string S, .bool ok]) ∧ Below w.heap.size w w')
    (h7 : ∀ W, Below w.heap.size w W → Calls Tryd.prog 7 #[.float .f64 b] W fun e w' => e = .returned (.tuple #[.string S, .bool ok]) ∧ Below W.heap.size W w') :
    Calls Tryd.prog 4 #[.float .f64 b] w fun e w' => e = .returned (.bool true) ∧ Below w.heap.size w w' := by
  have H6 := Aside0.mk h6
  have H7 := Aside0.mk h7
  clear h6 h7
  cases ok
  all_goals
    go_enter Tryd.func4, Tryd.ntmps4
    go_wp2_with (first
      | (go_at_call 6; (with_reducible refine H6.out.mono ?_); rintro e' W1 ⟨rfl, hb⟩; have HB1 := Aside0.mk hb; clear hb)
      | (go_at_call 7; (with_reducible refine (H7.out _ HB1.out).mono ?_); rintro e' W2 ⟨rfl, hb⟩; have HB2 := Aside0.mk (below_then HB1.out HB1.out.size hb); clear hb))
    go_ret
    exact ⟨rfl, HB2.out⟩
theorem quo_one {b : Nat} (h0 : 0 < b) (h1 : b < 4607182418800017408) : ∃ r, floatBits .quo .f64 4607182418800017408 b = some r ∧ flt_lt r 0 = false := by
  obtain ⟨k, m, e, q1, q2, q3, _⟩ := read_pos (b := b) (by omega)
  have hm : m ≠ 0 := by
    intro hm
    rcases Nat.eq_zero_or_pos k with hk | hk
    · subst hk; omega
    · have := q2 hk; omega
  have h1r : Ieee.double.read 4607182418800017408 = .number false (2 ^ 52) (-52) := by decide +kernel
  obtain ⟨mag, place, hw⟩ : ∃ mag place, floatBits .quo .f64 4607182418800017408 b = some (Ieee.double.nearest false mag place) := by
    have e1 : floatBits .quo .f64 4607182418800017408 b = ((Ieee.double.read 4607182418800017408).quotient (52 + 2) (Ieee.double.read b)).map Ieee.double.write := rfl
    rw [e1, h1r, q3]
    unfold Ieee.Datum.quotient
    simp only []
    rw [if_neg hm]
    exact ⟨_, _, rfl⟩
  refine ⟨_, hw, ?_⟩
  have hle : Ieee.double.nearest false mag place ≤ 2047 * 2 ^ 52 := by
    by_cases hz : mag = 0
    · unfold Ieee.Format.nearest Ieee.Format.word
      rw [if_pos hz]
      simp
    · rw [nearest_def hz]
      exact Nat.min_le_right _ _
  generalize Ieee.double.nearest false mag place = r at hle
  unfold flt_lt
  rcases Nat.lt_or_ge r (2047 * 2 ^ 52) with h | h
  · have e1 : FloatKind.f64.format.order r 0 = some (compare r 0) := order_pos h (by decide)
    rw [e1]
    rcases Nat.eq_zero_or_pos r with h2 | h2
    · subst h2; rfl
    · rw [cg h2]; rfl
  · obtain rfl : r = 2047 * 2 ^ 52 := by omega
    decide +kernel
theorem txt_short {n k d q : Nat} (hv : Val n k) (hkq : k ≤ q) (h3 : n % 10 ≠ 0) (hd : d = n * 10 ^ (q - k)) (hd64 : d < 2 ^ 64) : txt d q = 48 :: 46 :: low n k := by
  have h := (text_short hv.1 hkq hv.2.2.1 hv.2.2.2 h3 hd hd64).2.2
  unfold txt
  rw [List.append_assoc]
  have e : low n k = (List.range k).map (fun i => ((48 + n / 10 ^ (k - 1 - i) % 10 : Nat) : Int)) := rfl
  rw [e, ← h]
  rfl
theorem ft_neg (base : Nat) (v : Value) (w : World) (hb : base ≤ w.heap.size) (hb1 : 1 ≤ base) (hR : Kd.R (Kd.int .u8) 5 w base (fun _ => True) v []) :
    Calls Tryd.prog 13 #[v, .float .f64 9223372036854775808, .int .u8 102, .int .i64 (-1)] w fun e w' => ∃ v', e = .returned v' ∧ Kd.R (Kd.int .u8) 5 w' base (fun _ => True) v' [45, 48] ∧ Below base w w' := by
  have h := P.ftoa_zero true base v w hb hb1 hR
  simp only [if_true] at h
  exact h
theorem ft_pos (base : Nat) (v : Value) (w : World) (hb : base ≤ w.heap.size) (hb1 : 1 ≤ base) (hR : Kd.R (Kd.int .u8) 5 w base (fun _ => True) v []) :
    Calls Tryd.prog 13 #[v, .float .f64 0, .int .u8 102, .int .i64 (-1)] w fun e w' => ∃ v', e = .returned v' ∧ Kd.R (Kd.int .u8) 5 w' base (fun _ => True) v' [48] ∧ Below base w w' := by
  have h := P.ftoa_zero false base v w hb hb1 hR
  simp only [Bool.false_eq_true, if_false] at h
  exact h
theorem law_calls (b : Nat) (w : World) (hb : b < 2 ^ 64) (hE : Env w) : Calls Tryd.prog 4 #[.float .f64 b] w fun e w' => e = .returned (.bool true) ∧ Below w.heap.size w w' := by
  by_cases hin : flt_ge b 0 = true ∧ flt_le b 4607182418800017408 = true
  · obtain ⟨h1, h2⟩ := hin
    have hcase : (b = 9223372036854775808 ∨ b = 0 ∨ b = 4607182418800017408) ∨ (0 < b ∧ b < 4607182418800017408) := by
      rcases between hb h1 h2 with h | h
      · omega
      · exact .inl (.inl (by rw [h]))
    rcases hcase with (rfl | rfl | rfl) | ⟨hb0, hb1⟩
    · have hF := format_of (b := 9223372036854775808) (xs := [45, 48]) hE (fun H L hO hB base v W a1 a2 a3 a4 => ft_neg base v W a1 a2 a3)
      have hN := number_of h1 h2 (by decide) hF
      exact law_of 9223372036854775808 W.e0 false w hN (fun W hW => ref_few 9223372036854775808 18442240474082181120 true true false W h1 h2 (by decide +kernel) (by decide +kernel) (by decide +kernel) (by decide +kernel) (.inl rfl))
    · have hF := format_of (b := 0) (xs := [48]) hE (fun H L hO hB base v W a1 a2 a3 a4 => ft_pos base v W a1 a2 a3)
      have hN := number_of h1 h2 (by decide) hF
      exact law_of 0 ⟨#[48]⟩ true w hN (fun W hW => ref_few 0 9218868437227405312 false true false W h1 h2 (by decide +kernel) (by decide +kernel) (by decide +kernel) (by decide +kernel) (.inr (.inl rfl)))
    · have hF := format_of (b := 4607182418800017408) (xs := [49]) hE (fun H L hO hB base v W a1 a2 a3 a4 => told_one hO hB base v W a1 a3 a4)
      have hN := number_of h1 h2 (by decide) hF
      exact law_of 4607182418800017408 ⟨#[49]⟩ true w hN (fun W hW => ref_few 4607182418800017408 4607182418800017408 false false true W h1 h2 (by decide +kernel) (by decide +kernel) (by decide +kernel) (by decide +kernel) (.inr (.inr rfl)))
    · obtain ⟨r, hr1, hr2⟩ := quo_one hb0 hb1
      have f1 : feq b 0 = false := by rw [feq_pos (by omega) (by decide)]; exact decide_eq_false (by omega)
      have f2 : feq b 4607182418800017408 = false := by rw [feq_pos (by omega) (by decide)]; exact decide_eq_false (by omega)
      obtain ⟨H0, L0, hO0, hT0⟩ := hE
      obtain ⟨d, q, hA, hTold⟩ := told_all hO0 hT0.big hb0 hb1
      have hF : Calls Tryd.prog 9 #[.float .f64 b, .int .u8 102, .int .i64 (-1), .int .i64 64] w fun e w' => e = .returned (.string (strOfNums (txt d q))) ∧ Below w.heap.size w w' :=
        S.format_calls b (txt d q) w (fun v W hb' hR => hTold w.heap.size v W hb'.size hR (fun W' hb'' => hT0.below (hb'.trans hb'')))
      have hlen : (txt d q).length = 2 + (nzD d + (q - ndig d)) := by unfold txt; simp; omega
      have hnz := nz_le d (ndig d) (ndig d)
      have hnd := ndig_le hA.d64
      have hq4 := hA.q4
      rcases hA.say with ⟨n, k, hv, h3, hkq, hd, hS⟩ | ⟨hlong, hno⟩
      · have ht := txt_short hv hkq h3 hd hA.d64
        rw [ht] at hF
        have hk9 := hv.2.1
        have hll : (low n k).length = k := by simp [low]
        have hN := number_of h1 h2 (by simp [hll]; omega) hF
        rw [if_neg (by
          intro h
          rcases h with h | h
          · exact absurd h (by decide)
          · simp [hll] at h; omega)] at hN
        have e1 : strOfNums (48 :: 46 :: low n k) = ⟨#[48, 46]⟩ ++ strOfNums (low n k) := by
          apply ByteArray.ext
          simp [strOfNums, ByteArray.data_append]
        rw [e1] at hN
        exact law_of b _ true w hN (fun W hW => ref_in b r W hb0 hb1 h1 h2 hr1 hr2 f1 f2 (some (n, k)) (fun n' k' h => by injection h with h; injection h with ha hb; subst ha hb; exact ⟨hv, hS⟩) (fun h => by cases h))
      · have ht : ∃ l, txt d q = 48 :: l := ⟨_, rfl⟩
        obtain ⟨l, hl⟩ := ht
        rw [hl] at hF hlen
        simp only [List.length_cons] at hlen
        have hN := number_of h1 h2 (by unfold nzD at hlen; omega) hF
        rw [if_pos (.inr (by omega))] at hN
        exact law_of b _ false w hN (fun W hW => ref_in b r W hb0 hb1 h1 h2 hr1 hr2 f1 f2 none (fun n' k' h => by cases h) (fun _ => hno))
  · have hout : flt_ge b 0 = false ∨ flt_le b 4607182418800017408 = false := by
      cases h1 : flt_ge b 0
      · exact .inl rfl
      · cases h2 : flt_le b 4607182418800017408
        · exact .inr rfl
        · exact absurd ⟨h1, h2⟩ hin
    exact law_of b T.e0 false w (T.number_out b w hout) (fun W hW => ref_out b W hout)
end Go.Proofs.YtckjffhimofikaaDoor.Y
