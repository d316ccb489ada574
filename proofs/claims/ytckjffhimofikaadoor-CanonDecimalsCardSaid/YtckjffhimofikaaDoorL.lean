/- fmtEFG at 'f', walked. -/
import Derived.Test.YtckjffhimofikaaDoorJ
namespace Go.Proofs.YtckjffhimofikaaDoor.L
open Go.RowKit Go.Proofs.YtckjffhimofikaaDoorW.PrintWords Go.Proofs.YtckjffhimofikaaDoor.A Go.Proofs.YtckjffhimofikaaDoor.B Go.Proofs.YtckjffhimofikaaDoor.C Go.Proofs.YtckjffhimofikaaDoor.FF Go.Proofs.YtckjffhimofikaaDoor.KBase Go.Proofs.YtckjffhimofikaaDoor.J Go.Proofs.YtckjffhimofikaaDoorW.PrintLast Go.Proofs.YtckjffhimofikaaDoorW.PrintMore
set_option linter.unusedSimpArgs false
set_option linter.unusedVariables false
attribute [local go_sem] max2_int min2_int max_two min_two

theorem info5 : (Tryd.prog.info? 5).map (fun i => (i.zero, i.size, i.bytes)) = some (some (.int .u8 0), 1, 1) := by kernel_rfl
/-- What is written so far. -/
structure St (d nd g base : Nat) (w : World) (v : Value) (xs : List Int) (W : World) : Prop where
  row : Kd.R (Kd.int .u8) 5 W base (fun k => k ≠ g) v xs
  digs : Digs d nd g W
  below : Below base w W
  big : w.heap.size ≤ W.heap.size
  hg : g < w.heap.size
  hb : base ≤ w.heap.size
theorem St.app {d nd g base : Nat} {w W W1 : World} {v v1 : Value} {xs ys : List Int} (h : St d nd g base w v xs W) (hR : Kd.R (Kd.int .u8) 5 W1 base (fun k => k ≠ g) v1 ys) (hB : Below base w W1) (hg : W.grownBy W1 v.ownBlock) : St d nd g base w v1 ys W1 :=
  ⟨hR, fun i hi => by
    have hblk := hg.block g (Nat.lt_of_lt_of_le h.hg h.big) (fun e => h.row.1 g e.symm rfl)
    have := h.digs i hi
    unfold World.cell? at this ⊢
    rw [hblk]
    exact this, hB, Nat.le_trans h.big hg.size, h.hg, h.hb⟩
theorem rep_snoc (k : Nat) : List.replicate k (48 : Int) ++ [48] = List.replicate (k + 1) 48 := (List.replicate_succ' ..).symm

set_option maxRecDepth 100000 in
set_option maxHeartbeats 4000000 in
theorem fmt_calls (d nd g nz z base : Nat) (v : Value) (w : World) (hn2 : nd ≤ 20) (hnz : nz ≤ nd) (hz : z ≤ 400) (hpos : 0 < nz + z) (hS : St d nd g base w v [] w) :
    Calls Tryd.prog 18 #[v, .bool false, .slice (some ⟨g, 0, none⟩) 32 32, .int .i64 (-(z : Int)), .int .i64 (nz : Nat), .int .i64 ((nz : Int) + z), .int .u8 102, .bool true] w fun e w' => ∃ v', e = .returned v' ∧ St d nd g base w v' ([48, 46] ++ List.replicate z 48 ++ (List.range nz).map (fun i => ((48 + d / 10 ^ (nd - 1 - i) % 10 : Nat) : Int))) w' := by
  have HS := Aside0.mk hS
  have k1 : decide ((z : Int) < 0) = false := decide_eq_false (by omega)
  have k2 : decide (0 < (nz : Int) + z) = true := decide_eq_true (by omega)
  clear hS
  go_enter Tryd.func18, Tryd.ntmps18
  go_upto_region 67 with ((with_reducible refine gate_builtin (b := .append) (xs := #[.tmp 209, .tmp 210]) rfl ?_); at_builtin; refine Kd.R_append (Kd.int .u8) (w0 := w) base rfl (.tmp 209) (.tmp 210) 31 5 (.int .u8 0) 1 rfl Tryd.underlying31 info5 rfl (by decide) (by decide) v [] 48 [.int .u8 48] (fun k => k ≠ g) (fun _ => False) rfl rfl rfl (fun _ hk => hk.elim) (fun k hk => by have h1 := HS.out.big; have h2 := HS.out.hg; omega) HS.out.row HS.out.below (Nat.le_trans HS.out.hb HS.out.big) (by simp only [List.length_append, List.length_replicate, List.length_map, List.length_range, List.length_cons, List.length_nil]; omega) ?_; intro v1 W1 hR hB hG _; have HS1 := Aside0.mk (HS.out.app hR hB hG); clear hR hB hG)
  go_upto_region 69 with ((with_reducible refine gate_builtin (b := .append) (xs := #[.tmp 214, .tmp 215]) rfl ?_); at_builtin; refine Kd.R_append (Kd.int .u8) (w0 := w) base rfl (.tmp 214) (.tmp 215) 31 5 (.int .u8 0) 1 rfl Tryd.underlying31 info5 rfl (by decide) (by decide) v1 [48] 46 [.int .u8 46] (fun k => k ≠ g) (fun _ => False) rfl rfl rfl (fun _ hk => hk.elim) (fun k hk => by have h1 := HS1.out.big; have h2 := HS1.out.hg; omega) HS1.out.row HS1.out.below (Nat.le_trans HS1.out.hb HS1.out.big) (by simp only [List.length_append, List.length_replicate, List.length_map, List.length_range, List.length_cons, List.length_nil]; omega) ?_; intro v2 W2 hR hB hG _; have HS2 := Aside0.mk (HS1.out.app hR hB hG); clear hR hB hG)
  clear HS HS1
  have e1 : (if 0 < z then (z : Int) else 0) = z := by split <;> omega
  have e2 : (if (z : Int) < nz + z then (z : Int) else nz + z) = z := by split <;> omega
  have e4 : (if 0 < nz then (nz : Int) else 0) = nz := by split <;> omega
  have e5 : -(z : Int) + z = 0 := by omega
  have e6 : (nz : Int) + z - z = nz := by omega
  go_upto_region 73 with fail
  clear e1 e2 e4 e5 e6 k1 k2
  go_wp2
  go_loopw [0, 240] (fun u0 u240 wr => ∃ k : Nat, k ≤ z ∧ u240 = .int .i64 k ∧ Aside0 (St d nd g base w u0 ([48, 46] ++ List.replicate k 48) wr)) (fun _ u240 _ => z - (intOf u240).toNat)
  case atStart => exact ⟨0, by omega, rfl, HS2⟩
  case round =>
    clear HS2
    obtain ⟨k, hk, rfl, HS3⟩ := hrel
    by_cases hlt : k < z
    · have hlt' : (k : Int) < z := by omega
      go_wp2_with ((with_reducible refine gate_builtin (b := .append) (xs := #[.tmp 242, .tmp 243]) rfl ?_); at_builtin; refine Kd.R_append (Kd.int .u8) (w0 := w) base rfl (.tmp 242) (.tmp 243) 31 5 (.int .u8 0) 1 rfl Tryd.underlying31 info5 rfl (by decide) (by decide) u0 ([48, 46] ++ List.replicate k 48) 48 [.int .u8 48] (fun k => k ≠ g) (fun _ => False) rfl rfl rfl (fun _ hk => hk.elim) (fun k hk => by have h1 := HS3.out.big; have h2 := HS3.out.hg; omega) HS3.out.row HS3.out.below (Nat.le_trans HS3.out.hb HS3.out.big) (by simp only [List.length_append, List.length_replicate, List.length_map, List.length_range, List.length_cons, List.length_nil]; omega) ?_; intro v4 W4 hR hB hG _; have HS4 := Aside0.mk (HS3.out.app hR hB hG); clear hR hB hG)
      go_roundw
      case rel => exact ⟨k + 1, by omega, by go_num, ⟨by have := HS4.out; rw [List.append_assoc, rep_snoc] at this; exact this⟩⟩
      case measure => simp [intOf]; omega
    · obtain rfl : k = z := by omega
      have hlt' : ¬ ((k : Int) < k) := by omega
      go_wp2
      go_loopw [0, 30, 247] (fun u0 u30 u247 wr => ∃ j : Nat, j ≤ nz ∧ u247 = .int .i64 j ∧ Aside0 (St d nd g base w u0 ([48, 46] ++ List.replicate k 48 ++ (List.range j).map (fun i => ((48 + d / 10 ^ (nd - 1 - i) % 10 : Nat) : Int))) wr)) (fun _ _ u247 _ => nz - (intOf u247).toNat)
      case atStart => exact ⟨0, by omega, rfl, ⟨by simpa using HS3.out⟩⟩
      case round =>
        clear HS3
        obtain ⟨j, hj, rfl, HS3⟩ := hrel
        by_cases hlt : j < nz
        · have hlt' : (j : Int) < nz := by omega
          obtain ⟨dg, hdg⟩ : ∃ dg : Nat, dg = 48 + d / 10 ^ (nd - 1 - j) % 10 := ⟨_, rfl⟩
          have hcell : wr.cell? ⟨g, j, none⟩ = some (.int .u8 (dg : Nat)) := by rw [hdg]; exact HS3.out.digs j (by omega)
          have HDG := Aside0.mk hdg
          have hj32 : (j : Int) < 32 := by omega
          clear hdg
          go_wp2_with ((with_reducible refine gate_builtin (b := .append) (xs := #[.tmp 250, .tmp 257]) rfl ?_); at_builtin; refine Kd.R_append (Kd.int .u8) (w0 := w) base rfl (.tmp 250) (.tmp 257) 31 5 (.int .u8 0) 1 rfl Tryd.underlying31 info5 rfl (by decide) (by decide) u0 ([48, 46] ++ List.replicate k 48 ++ (List.range j).map (fun i => ((48 + d / 10 ^ (nd - 1 - i) % 10 : Nat) : Int))) (dg : Int) [.int .u8 (dg : Int)] (fun k => k ≠ g) (fun _ => False) rfl rfl rfl (fun _ hk => hk.elim) (fun k hk => by have h1 := HS3.out.big; have h2 := HS3.out.hg; omega) HS3.out.row HS3.out.below (Nat.le_trans HS3.out.hb HS3.out.big) (by simp only [List.length_append, List.length_replicate, List.length_map, List.length_range, List.length_cons, List.length_nil]; omega) ?_; intro v4 W4 hR hB hG _; have HS4 := Aside0.mk (HS3.out.app hR hB hG); clear hR hB hG)
          go_roundw
          case rel => exact ⟨j + 1, by omega, by go_num, ⟨by have := HS4.out; rw [List.append_assoc] at this; rw [List.range_succ, List.map_append, List.map_singleton, ← HDG.out]; exact this⟩⟩
          case measure => simp [intOf]; omega
        · obtain rfl : j = nz := by omega
          go_wp2
          go_loopw [0, 261] (fun u0 u261 wr => u261 = .int .i64 0 ∧ Aside0 (St d nd g base w u0 ([48, 46] ++ List.replicate k 48 ++ (List.range j).map (fun i => ((48 + d / 10 ^ (nd - 1 - i) % 10 : Nat) : Int))) wr)) (fun _ _ _ => 0)
          case atStart => exact ⟨rfl, HS3⟩
          case round =>
            clear HS3
            obtain ⟨rfl, HS3⟩ := hrel
            go_wp2
            go_ret
            exact ⟨_, rfl, HS3.out⟩
end Go.Proofs.YtckjffhimofikaaDoor.L
