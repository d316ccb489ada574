/- fmtEFG at 'f', walked. -/
import Derived.Test.YtckjffhimofikaaDoorL
namespace Go.Proofs.YtckjffhimofikaaDoor.L
open Go.RowKit Go.Proofs.YtckjffhimofikaaDoorW.PrintWords Go.Proofs.YtckjffhimofikaaDoor.A Go.Proofs.YtckjffhimofikaaDoor.B Go.Proofs.YtckjffhimofikaaDoor.C Go.Proofs.YtckjffhimofikaaDoor.FF Go.Proofs.YtckjffhimofikaaDoor.KBase Go.Proofs.YtckjffhimofikaaDoor.J Go.Proofs.YtckjffhimofikaaDoorW.PrintLast Go.Proofs.YtckjffhimofikaaDoorW.PrintMore
set_option linter.unusedSimpArgs false
set_option linter.unusedVariables false
attribute [local go_sem] max2_int min2_int max_two min_two


set_option maxRecDepth 100000 in
set_option maxHeartbeats 4000000 in
theorem fmt_zero (neg : Bool) (g base : Nat) (v : Value) (w : World) (hS : St 0 0 g base w v [] w) :
    Calls Tryd.prog 18 #[v, .bool neg, .slice none 0 0, .int .i64 0, .int .i64 0, .int .i64 (-1), .int .u8 102, .bool true] w fun e w' => ∃ v', e = .returned v' ∧ St 0 0 g base w v' (if neg then [45, 48] else [48]) w' := by
  have HS := Aside0.mk hS
  clear hS
  cases neg
  · go_enter Tryd.func18, Tryd.ntmps18
    go_wp2_with ((with_reducible refine gate_builtin (b := .append) (xs := #[.tmp 209, .tmp 210]) rfl ?_); at_builtin; refine Kd.R_append (Kd.int .u8) (w0 := w) base rfl (.tmp 209) (.tmp 210) 31 5 (.int .u8 0) 1 rfl Tryd.underlying31 info5 rfl (by decide) (by decide) v [] 48 [.int .u8 48] (fun k => k ≠ g) (fun _ => False) rfl rfl rfl (fun _ hk => hk.elim) (fun k hk => by have h1 := HS.out.big; have h2 := HS.out.hg; omega) HS.out.row HS.out.below (Nat.le_trans HS.out.hb HS.out.big) (by simp only [List.length_append, List.length_replicate, List.length_map, List.length_range, List.length_cons, List.length_nil]; omega) ?_; intro v1 W1 hR hB hG _; have HS1 := Aside0.mk (HS.out.app hR hB hG); clear hR hB hG)
    go_ret
    exact ⟨_, rfl, HS1.out⟩
  · go_enter Tryd.func18, Tryd.ntmps18
    go_upto_region 55 with ((with_reducible refine gate_builtin (b := .append) (xs := #[.tmp 179, .tmp 180]) rfl ?_); at_builtin; refine Kd.R_append (Kd.int .u8) (w0 := w) base rfl (.tmp 179) (.tmp 180) 31 5 (.int .u8 0) 1 rfl Tryd.underlying31 info5 rfl (by decide) (by decide) v [] 45 [.int .u8 45] (fun k => k ≠ g) (fun _ => False) rfl rfl rfl (fun _ hk => hk.elim) (fun k hk => by have h1 := HS.out.big; have h2 := HS.out.hg; omega) HS.out.row HS.out.below (Nat.le_trans HS.out.hb HS.out.big) (by simp only [List.length_append, List.length_replicate, List.length_map, List.length_range, List.length_cons, List.length_nil]; omega) ?_; intro v1 W1 hR hB hG _; have HS1 := Aside0.mk (HS.out.app hR hB hG); clear hR hB hG)
    go_wp2_with ((with_reducible refine gate_builtin (b := .append) (xs := #[.tmp 209, .tmp 210]) rfl ?_); at_builtin; refine Kd.R_append (Kd.int .u8) (w0 := w) base rfl (.tmp 209) (.tmp 210) 31 5 (.int .u8 0) 1 rfl Tryd.underlying31 info5 rfl (by decide) (by decide) v1 [45] 48 [.int .u8 48] (fun k => k ≠ g) (fun _ => False) rfl rfl rfl (fun _ hk => hk.elim) (fun k hk => by have h1 := HS1.out.big; have h2 := HS1.out.hg; omega) HS1.out.row HS1.out.below (Nat.le_trans HS1.out.hb HS1.out.big) (by simp only [List.length_append, List.length_replicate, List.length_map, List.length_range, List.length_cons, List.length_nil]; omega) ?_; intro v2 W2 hR hB hG _; have HS2 := Aside0.mk (HS1.out.app hR hB hG); clear hR hB hG)
    go_ret
    exact ⟨_, rfl, HS2.out⟩
set_option maxRecDepth 100000 in
set_option maxHeartbeats 4000000 in
theorem fmt_one (g base : Nat) (v : Value) (w : World) (hS : St 1 1 g base w v [] w) :
    Calls Tryd.prog 18 #[v, .bool false, .slice (some ⟨g, 0, none⟩) 32 32, .int .i64 1, .int .i64 1, .int .i64 0, .int .u8 102, .bool true] w fun e w' => ∃ v', e = .returned v' ∧ St 1 1 g base w v' [49] w' := by
  have HS := Aside0.mk hS
  clear hS
  go_enter Tryd.func18, Tryd.ntmps18
  go_upto_region 58 with fail
  go_loopw [0, 25, 191] (fun u0 u25 u191 wr => ∃ j : Nat, j ≤ 1 ∧ u191 = .int .i64 j ∧ Aside0 (St 1 1 g base w u0 (List.replicate j 49) wr)) (fun _ _ u191 _ => 1 - (intOf u191).toNat)
  case atStart => exact ⟨0, by omega, rfl, HS⟩
  case round =>
    clear HS
    obtain ⟨j, hj, rfl, HS3⟩ := hrel
    by_cases hlt : j < 1
    · obtain rfl : j = 0 := by omega
      have hcell : wr.cell? ⟨g, 0, none⟩ = some (.int .u8 49) := HS3.out.digs 0 (by omega)
      go_wp2_with ((with_reducible refine gate_builtin (b := .append) (xs := #[.tmp 195, .tmp 197]) rfl ?_); at_builtin; refine Kd.R_append (Kd.int .u8) (w0 := w) base rfl (.tmp 195) (.tmp 197) 31 5 (.int .u8 0) 1 rfl Tryd.underlying31 info5 rfl (by decide) (by decide) u0 [] 49 [.int .u8 49] (fun k => k ≠ g) (fun _ => False) rfl rfl rfl (fun _ hk => hk.elim) (fun k hk => by have h1 := HS3.out.big; have h2 := HS3.out.hg; omega) HS3.out.row HS3.out.below (Nat.le_trans HS3.out.hb HS3.out.big) (by simp only [List.length_append, List.length_replicate, List.length_map, List.length_range, List.length_cons, List.length_nil]; omega) ?_; intro v4 W4 hR hB hG _; have HS4 := Aside0.mk (HS3.out.app hR hB hG); clear hR hB hG)
      go_roundw
      case rel => exact ⟨1, by omega, by go_num, HS4⟩
      case measure => simp [intOf]
    · obtain rfl : j = 1 := by omega
      go_wp2
      go_loopw [0, 203] (fun u0 u203 wr => u203 = .int .i64 0 ∧ Aside0 (St 1 1 g base w u0 [49] wr)) (fun _ _ _ => 0)
      case atStart => exact ⟨rfl, HS3⟩
      case round =>
        clear HS3
        obtain ⟨rfl, HS3⟩ := hrel
        go_wp2
        go_ret
        exact ⟨_, rfl, HS3.out⟩
end Go.Proofs.YtckjffhimofikaaDoor.L
