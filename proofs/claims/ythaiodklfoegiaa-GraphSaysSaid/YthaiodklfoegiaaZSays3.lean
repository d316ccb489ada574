/- Several texts of this session in one file, in their build order: CClasses, MSubj, MAbout, PGx29, PGx1, PGx30, PGx31, MAllowsPure, MAllow, PGx34, MIdx, MAllows, MRelPure, MAbout2, MRel, CMasks, CClone. -/
import Derived.Test.YthaiodklfoegiaaZSays2
import Derived.Test.YthaiodklfoegiaaZSays1
import Derived.WalkSpells
/- graph.classes, walked. -/
namespace Go.Proofs.Ythaiodklfoegiaa.CClasses
open Go.RowKit Go.Proofs.YthaiodklfoegiaaW.PrintWords Go.Proofs.YthaiodklfoegiaaW.PrintLast Go.Proofs.YthaiodklfoegiaaW.PrintMore Go.Proofs.Ythaiodklfoegiaa.BMap Go.Proofs.Ythaiodklfoegiaa.BRow Go.Proofs.Ythaiodklfoegiaa.GDiffer Go.Proofs.Ythaiodklfoegiaa.GBlk Go.Proofs.Ythaiodklfoegiaa.CPure Go.Proofs.Ythaiodklfoegiaa.MLines Go.Proofs.Ythaiodklfoegiaa.MSide Go.Proofs.Ythaiodklfoegiaa.MPol Go.Maps
open Go.Proofs.Ythaiodklfoegiaa Go.Proofs.Ythaiodklfoegiaa.PG

/-- A map of lines and two rows of numbers of one's own. -/
structure Cl (w wr : World) (v4 v5 : Value) (L4 L5 : List Int) (f : List Int → Option Int) (n : Nat) : Prop where
  map : MapL wr w.heap.size f n
  r4 : Kd.R (Kd.int .i64) 3 wr w.heap.size (fun b => b ≠ w.heap.size) v4 L4
  r5 : Kd.R (Kd.int .i64) 3 wr w.heap.size (fun b => b ≠ w.heap.size) v5 L5
  apart : ∀ b, v4.ownBlock = some b → v5.ownBlock ≠ some b
  below : Below w.heap.size w wr
namespace Cl
variable {w wr w1 : World} {v4 v5 v' : Value} {L4 L5 : List Int} {f : List Int → Option Int} {n : Nat}
theorem move (h : Cl w wr v4 v5 L4 L5 f n) (hb : Below wr.heap.size wr w1) : Cl w w1 v4 v5 L4 L5 f n :=
  ⟨h.map.below hb, Kd.R_below h.r4 hb, Kd.R_below h.r5 hb, h.apart, below_then h.below h.below.size hb⟩
theorem okR {e base : Nat} {W : World} {ok : Nat → Prop} {v : Value} {xs : List Int} {ok' : Nat → Prop} (h : Kd.R (Kd.int .i64) e W base ok v xs) (h' : ∀ k, v.ownBlock = some k → ok' k) : Kd.R (Kd.int .i64) e W base ok' v xs := ⟨h', h.2⟩
theorem ltR {e base : Nat} {W : World} {ok : Nat → Prop} {v : Value} {xs : List Int} (h : Kd.R (Kd.int .i64) e W base ok v xs) (k : Nat) (hk : v.ownBlock = some k) : k < W.heap.size := (Kd.R_bound h).1 k hk |>.2.2.1
theorem app5 {L : List Int} (h : Cl w wr v4 v5 L4 L5 f n) (hr : Kd.R (Kd.int .i64) 3 w1 w.heap.size (fun b => b ≠ w.heap.size) v' L) (hb : Below w.heap.size w w1) (hg : wr.grownBy w1 v5.ownBlock) (hat : v'.ownBlock = v5.ownBlock ∨ ∃ b, v'.ownBlock = some b ∧ wr.heap.size ≤ b) : Cl w w1 v4 v' L4 L f n where
  map := h.map.grown hg (fun e => h.r5.1 _ e.symm rfl)
  r4 := Kd.R_mono (Kd.R_grown (okR (ok' := fun b => b ≠ w.heap.size ∧ v5.ownBlock ≠ some b) h.r4 (fun k hk => ⟨h.r4.1 k hk, h.apart k hk⟩)) hg (fun k hk => hk.2.symm)) (fun k hk => hk.1)
  r5 := hr
  apart := fun b hb => by
    rcases hat with e | ⟨g, e, hge⟩
    · rw [e]; exact h.apart b hb
    · rw [e]; intro k; have := ltR h.r4 b hb; have := Option.some.inj k; omega
  below := hb
theorem app4 {L : List Int} (h : Cl w wr v4 v5 L4 L5 f n) (hr : Kd.R (Kd.int .i64) 3 w1 w.heap.size (fun b => b ≠ w.heap.size) v' L) (hb : Below w.heap.size w w1) (hg : wr.grownBy w1 v4.ownBlock) (hat : v'.ownBlock = v4.ownBlock ∨ ∃ b, v'.ownBlock = some b ∧ wr.heap.size ≤ b) : Cl w w1 v' v5 L L5 f n where
  map := h.map.grown hg (fun e => h.r4.1 _ e.symm rfl)
  r5 := Kd.R_mono (Kd.R_grown (okR (ok' := fun b => b ≠ w.heap.size ∧ v4.ownBlock ≠ some b) h.r5 (fun k hk => ⟨h.r5.1 k hk, fun e => h.apart k e hk⟩)) hg (fun k hk => hk.2.symm)) (fun k hk => hk.1)
  r4 := hr
  apart := fun b hb => by
    rcases hat with e | ⟨g, e, hge⟩
    · rw [e] at hb; exact h.apart b hb
    · rw [e] at hb; intro k; have := ltR h.r5 b k; have := Option.some.inj hb; omega
  below := hb
theorem put {f' : List Int → Option Int} {n' : Nat} (h : Cl w wr v4 v5 L4 L5 f n) (hM : MapL w1 w.heap.size f' n') (hg : wr.grownBy w1 (some w.heap.size)) : Cl w w1 v4 v5 L4 L5 f' n' where
  map := hM
  r4 := Kd.R_grown h.r4 hg (fun k hk e => hk (Option.some.inj e))
  r5 := Kd.R_grown h.r5 hg (fun k hk e => hk (Option.some.inj e))
  apart := h.apart
  below := h.below.grown hg h.below.size (fun k hk => by cases hk; exact Nat.le_refl _)
end Cl

theorem map_ne {κ β : Type} {kenc : κ → Value} {venc : β → Value} {ok : κ → Prop} {w : World} {b n : Nat} {f : κ → Option β} (h : MapF kenc venc ok w b f n) {g t : Nat} {cs : Array Value} (hS : Stays w g cs t) : g ≠ b := by
  rintro rfl
  obtain ⟨es, cl, l, h2, _⟩ := h.out
  have h1 : w.heap[g]? = some (.cells cs t (0, 0)) := hS
  rw [h1] at h2
  cases h2
theorem zero65' : ∃ cur : Array Value, cur.size = 64 ∧ ∀ w : World, (zeroValue 65).run Try.prog w = .ok (.agg cur) w := ⟨Array.replicate 64 (.int .u16 0), by simp, fun w => by kernel_rfl⟩
theorem i65 : (Try.prog.info? 65).map (·.size) = some 64 := by kernel_rfl
theorem look_line {w : World} {b : Nat} {f : List Int → Option Int} {n : Nat} (hM : MapL w b f n) {l : List Int} (hl : lineOk l) (v : Array Value) (hv : v = (nums .u16 l).toArray) : (Instr.lookup 102 (.map (some b)) (.agg v) false).run Try.prog w = .ok (.int .i64 ((f l).getD 0)) w := by
  subst hv
  have hq := hM.lookup line_key Try.underlying102 (zero3 w) hl false
  have e : ((f l).map (Value.int IntKind.i64)).getD (.int .i64 0) = .int .i64 ((f l).getD 0) := by cases f l <;> rfl
  simp only [Bool.false_eq_true, if_false, e] at hq
  exact hq

set_option maxHeartbeats 2000000 in
set_option maxRecDepth 100000 in
theorem classes_calls (A : Option Addr) (c : Nat) (ls : List (List Int)) (w : World) (hC : kLine.C w A ls.length ls) (hok : ∀ l ∈ ls, lineOk l) (hl : ls.length ≤ 64) :
    Calls Try.prog 49 #[.slice A ls.length c] w fun e w' => ∃ v4 v5, e = .returned (.tuple #[v4, v5]) ∧ Kd.R (Kd.int .i64) 3 w' w.heap.size (fun _ => True) v4 (numsOf ls) ∧ Kd.R (Kd.int .i64) 3 w' w.heap.size (fun _ => True) v5 (firstsOf ls) ∧ Below w.heap.size w w' := by
  have HC := Aside0.mk hC
  have HOK := Aside0.mk hok
  have HLL := Aside0.mk hl
  have hmax : ls.length ≤ 9223372036854775807 := hC.2.1
  clear hC hok hl
  have hmm := @run_makeMap Try.prog
  go_enter Try.func49, Try.ntmps49
  go_wp2
  clear hmm
  obtain ⟨cur, hcur, hz⟩ := zero65'
  have HCUR := Aside0.mk hcur
  clear hcur
  go_loopw [4, 5, 12] (fun u4 u5 u12 wr => ∃ (k : Nat) (f : List Int → Option Int) (n : Nat), k ≤ ls.length ∧ u12 = .int .i64 k ∧ Aside0 (Cl w wr u4 u5 (numsOf (ls.take k)) (firstsOf (ls.take k)) f n) ∧ Aside0 (∀ l, (l ∈ ls.take k → f l = some (num (ls.take k) l)) ∧ (l ∉ ls.take k → f l = none))) (fun _ _ u12 _ => ls.length - (intOf u12).toNat)
  case atStart => exact ⟨0, _, _, Nat.zero_le _, rfl, ⟨⟨MapF.made w, Kd.R_nil _ _ _ _ _, Kd.R_nil _ _ _ _ _, fun b h => by simp [Value.ownBlock] at h, (Below.refl _ _).alloc (Nat.le_refl _) _⟩⟩, ⟨fun l => by simp⟩⟩
  case round =>
    obtain ⟨k, f, n, hk, rfl, HR, HF⟩ := hrel
    by_cases hlt : k < ls.length
    · obtain ⟨ad, cs, e0, hl, hK, hcell⟩ := Kd.C_get HC.out ([] : List Int) (k : Int) (by omega) (by omega)
      cases e0
      have hlo := HOK.out (ls[k]) (List.getElem_mem hlt)
      have hget : ls.getD (k : Int).toNat [] = ls[k] := by simp [hlt]
      rw [hget] at hK
      obtain ⟨_, rfl⟩ := Kd.arr_cells hK
      have htk : ls.take (k + 1) = ls.take k ++ [ls[k]] := List.take_succ_eq_append_getElem hlt
      obtain ⟨x, hxx⟩ : ∃ x, x = ls[k] := ⟨_, rfl⟩
      rw [← hxx] at hcell hlo htk
      have hcw : ∀ (j : Nat) (v : Value), (nums .u16 x)[j]? = some v → wr.cell? ((ad.add (k * 64)).add j) = some v := by
        intro j v hj
        have : w.cell? (ad.add (k * 64 + j)) = some v := hcell j v hj
        rw [← add_add] at this
        rw [HR.out.below.cell (World.block_lt_of_cell? w _ this)]
        exact this
      have hsz : (nums .u16 x).length = 64 := by rw [nums_length, hlo.1]
      have hfx := HF.out x
      have hlen : (ls.take k).length = k := by rw [List.length_take]; omega
      have h64 := HLL.out
      have hnl : (numsOf (ls.take k)).length = k := by rw [numsOf, List.length_map, hlen]
      have hfl : (firstsOf (ls.take k)).length ≤ k := by rw [firstsOf_length]; have := uniq_length (ls.take k); omega
      have hlim4 : ((numsOf (ls.take k)).length + 1) * 8 ≤ 140737488355328 := by omega
      have hlim5 : ((firstsOf (ls.take k)).length + 1) * 8 ≤ 140737488355328 := by omega
      have hnew : ls.take (k + 1) = ls.take k ++ [x] := htk
      have hl4 : numsOf (ls.take (k + 1)) = numsOf (ls.take k) ++ [num (ls.take (k + 1)) x] := by rw [htk]; exact numsOf_snoc _ _
      have hl5o : x ∈ ls.take k → firstsOf (ls.take (k + 1)) = firstsOf (ls.take k) := fun h => by rw [htk, firstsOf_old h]
      have hl5n : x ∉ ls.take k → firstsOf (ls.take (k + 1)) = firstsOf (ls.take k) ++ [(k : Int)] := fun h => by rw [htk, firstsOf_new h, hlen]
      have hnum : ∀ y, y ∈ ls.take k → num (ls.take (k + 1)) y = num (ls.take k) y := fun y hy => by rw [htk]; exact num_old hy
      have hnn : x ∉ ls.take k → num (ls.take (k + 1)) x = (((firstsOf (ls.take k)).length + 1 : Nat) : Int) := fun h => by rw [htk, num_new h, firstsOf_length]
      have hmem : ∀ y, y ∈ ls.take (k + 1) ↔ y ∈ ls.take k ∨ y = x := fun y => by rw [htk, List.mem_append, List.mem_singleton]
      have hpos := num_pos (ls.take k) x
      have hle : x ∈ ls.take k → num (ls.take k) x ≤ k := fun h => by have h1 := num_le h; have h2 := uniq_length (ls.take k); omega
      generalize numsOf (ls.take k) = L4 at *
      generalize firstsOf (ls.take k) = L5 at *
      have HCW := Aside0.mk hcw
      have HLO := Aside0.mk hlo
      have HSZ := Aside0.mk hsz
      have HFX := Aside0.mk hfx
      have HLIM4 := Aside0.mk hlim4
      have HLIM5 := Aside0.mk hlim5
      have HL4 := Aside0.mk hl4
      have HL5o := Aside0.mk hl5o
      have HL5n := Aside0.mk hl5n
      have HNUM := Aside0.mk hnum
      have HNN := Aside0.mk hnn
      have HMEM := Aside0.mk hmem
      have HPOS := Aside0.mk hpos
      have HLE := Aside0.mk hle
      clear hl hK hcell hget hcw hlo hsz hfx hlim4 hlim5 hl4 hl5o hl5n hnum hnn hmem hpos hle htk hxx hnl hfl hnew hlen h64
      have c0' : (k : Int) < ls.length := by omega
      have HSA := Aside0.mk (show (nums .u16 x).toArray.size = cur.size by rw [List.size_toArray, HSZ.out, HCUR.out])
      have HIA := Aside0.mk (show (Try.prog.info? 65).map (·.size) = some (nums .u16 x).toArray.size by rw [List.size_toArray, HSZ.out]; exact i65)
      have HIL := Aside0.mk (show (Try.prog.info? 65).map (·.size) = some (nums .u16 x).length by rw [HSZ.out]; exact i65)
      have HOA := Aside0.mk (show (nums .u16 x).toArray.all (·.oneCell') = true by rw [Array.all_eq_true_iff_forall_mem]; intro u hu; exact nums_one _ _ u (by simpa using hu))
      go_upto_region 6 with (first | ((with_reducible refine gate_dst (N := 16) rfl ?_); refine wpList_load_at rfl 65 (.tmp 15) rfl (ad.add (k * 64)) ?hx (nums .u16 x) HCW.out _ Try.underlying65 rfl HIL.out ?_; (case hx => rfl)) | ((with_reducible refine gate_store (t := 65) (p := 8) (v := .tmp 16) rfl ?_); refine wpList_store_var rfl 65 (.tmp 8) (.tmp 16) rfl wr.heap.size (nums .u16 x).toArray ?hx ?hy (cs := cur) (t := 65) (heap_alloc_new wr _) HSA.out HIA.out HOA.out ?_; (case hx => rfl); (case hy => rfl)))
      (try simp only [Act.put])
      have hb2 : Below wr.heap.size wr ((wr.alloc (.cells cur 65)).setCells wr.heap.size 0 (nums .u16 x).toArray.toList) := setCells_below (below_alloc (Below.refl _ _) _) (Nat.le_refl _) _
      have hS2 : Stays ((wr.alloc (.cells cur 65)).setCells wr.heap.size 0 (nums .u16 x).toArray.toList) wr.heap.size (nums .u16 x).toArray 65 := setCells_var (vs := (nums .u16 x).toArray) (heap_alloc_new wr _) (by rw [List.size_toArray, HSZ.out, HCUR.out])
      have hR2 := HR.out.move hb2
      obtain ⟨W2, hW2⟩ : ∃ W2, W2 = ((wr.alloc (.cells cur 65)).setCells wr.heap.size 0 (nums .u16 x).toArray.toList) := ⟨_, rfl⟩
      obtain ⟨g8, hg8⟩ : ∃ g8, g8 = wr.heap.size := ⟨_, rfl⟩
      rw [← hW2] at hS2 hR2 ⊢
      rw [← hg8] at hS2 ⊢
      obtain ⟨xa, hxa⟩ : ∃ xa, xa = (nums .u16 x).toArray := ⟨_, rfl⟩
      rw [← hxa] at hS2
      have HXA := Aside0.mk hxa
      have hxs : (Try.prog.info? 65).map (·.size) = some xa.size := by rw [hxa, List.size_toArray, HSZ.out]; exact i65
      have HXS := Aside0.mk hxs
      have HS2 := Aside0.mk hS2
      have HR2 := Aside0.mk hR2
      clear hb2 hS2 hR2 hW2 hg8 hxa hxs
      by_cases hin : x ∈ ls.take k
      · have hlk := look_line HR2.out.map HLO.out xa HXA.out
        have hfx := HFX.out.1 hin
        rw [hfx, Option.getD_some] at hlk
        have hp := HPOS.out
        generalize hqq : num (ls.take k) x = q at *
        have hq0 : (q == (0 : Int)) = false := by rw [beq_eq_false_iff_ne]; omega
        have HIN := Aside0.mk hin
        have HQQ := Aside0.mk hqq
        have HFX2 := Aside0.mk hfx
        clear hp hfx hqq hin
        go_wp2_with (first | ((with_reducible refine gate_dst (N := 18) rfl ?_); refine wpList_load_blk rfl 65 (.tmp 8) rfl g8 ?hx xa 65 HS2.out _ Try.underlying65 rfl HXS.out ?_; (case hx => rfl)) | ((with_reducible refine gate_dst (N := 31) rfl ?_); refine wpList_load_blk rfl 65 (.tmp 8) rfl g8 ?hx xa 65 HS2.out _ Try.underlying65 rfl HXS.out ?_; (case hx => rfl)) | ((with_reducible refine gate_builtin (b := .append) (xs := #[.tmp 29, .tmp 33]) rfl ?_); at_builtin; refine Kd.R_append (Kd.int .i64) (w0 := w) w.heap.size rfl (.tmp 29) (.tmp 33) 23 3 (.int .i64 0) 8 rfl Try.underlying23 info3 rfl (by decide) (by decide) u4 L4 q [.int .i64 q] (fun b => b ≠ w.heap.size) (fun _ => False) rfl rfl rfl (fun _ hk => hk.elim) (fun k hk e => by have := HR2.out.map.lt; omega) HR2.out.r4 HR2.out.below HR2.out.below.size HLIM4.out ?_; intro v8 w8 hR8 hB8 hg8 hat8; have HR8 := Aside0.mk (HR2.out.app4 hR8 hB8 hg8 hat8); clear hR8 hB8 hg8 hat8))
        go_roundw
        case rel => exact ⟨k + 1, f, n, by omega, by go_num, ⟨by rw [HL4.out, HNUM.out x HIN.out, HQQ.out, HL5o.out HIN.out]; exact HR8.out⟩, ⟨fun l => ⟨fun hl => by
          have hl2 : l ∈ ls.take k := by
            rcases (HMEM.out l).1 hl with h | h
            · exact h
            · rw [h]; exact HIN.out
          rw [HNUM.out l hl2]; exact (HF.out l).1 hl2, fun hl => (HF.out l).2 (fun h => hl ((HMEM.out l).2 (.inl h)))⟩⟩⟩
        case measure => simp [intOf]; omega
      · have hlk := look_line HR2.out.map HLO.out xa HXA.out
        have hfx := HFX.out.2 hin
        rw [hfx, Option.getD_none] at hlk
        have HNIN := Aside0.mk hin
        clear hfx hin
        go_upto_region 8 with (first | ((with_reducible refine gate_dst (N := 18) rfl ?_); refine wpList_load_blk rfl 65 (.tmp 8) rfl g8 ?hx xa 65 HS2.out _ Try.underlying65 rfl HXS.out ?_; (case hx => rfl)) | ((with_reducible refine gate_builtin (b := .append) (xs := #[.tmp 21, .tmp 23]) rfl ?_); at_builtin; refine Kd.R_append (Kd.int .i64) (w0 := w) w.heap.size rfl (.tmp 21) (.tmp 23) 23 3 (.int .i64 0) 8 rfl Try.underlying23 info3 rfl (by decide) (by decide) u5 L5 (k : Int) [.int .i64 k] (fun b => b ≠ w.heap.size) (fun _ => False) rfl rfl rfl (fun _ hk => hk.elim) (fun k hk e => by have := HR2.out.map.lt; omega) HR2.out.r5 HR2.out.below HR2.out.below.size HLIM5.out ?_; intro v8 w8 hR8 hB8 hg8 hat8; have HR8 := Aside0.mk (HR2.out.app5 hR8 hB8 hg8 hat8); have HS8 := Aside0.mk (show Stays w8 g8 xa 65 from (hg8.block _ (Array.getElem?_eq_some_iff.1 HS2.out).1 (Kd.R_ne HR2.out.r5 HS2.out (by decide))).trans HS2.out); clear hR8 hB8 hg8 hat8))
        clear hlk
        obtain ⟨A8, c8, e8⟩ := Kd.R_slice HR8.out.r5
        obtain ⟨m, hm⟩ : ∃ m, m = (L5 ++ [(k : Int)]).length := ⟨_, rfl⟩
        rw [← hm] at e8
        subst e8
        have hm1 : m = L5.length + 1 := by rw [hm]; simp
        have HMM := Aside0.mk hm1
        clear hm hm1
        obtain ⟨w9, hrun, hM9, hg9⟩ := HR8.out.map.update line_key Try.underlying102 HLO.out (m : Int)
        have hrun9 : (Instr.mapUpdate 102 (.map (some w.heap.size)) (.agg xa) (.int .i64 (m : Int))).run Try.prog w8 = .ok () w9 := by rw [HXA.out]; exact hrun
        have HR9 := Aside0.mk (HR8.out.put hM9 hg9)
        have HS9 := Aside0.mk (show Stays w9 g8 xa 65 from (hg9.block _ (Array.getElem?_eq_some_iff.1 HS8.out).1 (fun e => map_ne HR8.out.map HS8.out (Option.some.inj e))).trans HS8.out)
        clear hrun hM9 hg9
        go_upto_region 9 with (first | ((with_reducible refine gate_dst (N := 26) rfl ?_); refine wpList_load_blk rfl 65 (.tmp 8) rfl g8 ?hx xa 65 HS8.out _ Try.underlying65 rfl HXS.out ?_; (case hx => rfl)))
        clear hrun9
        have hlk := look_line HR9.out.map HLO.out xa HXA.out
        rw [upd_same, Option.getD_some] at hlk
        go_wp2_with (first | ((with_reducible refine gate_dst (N := 31) rfl ?_); refine wpList_load_blk rfl 65 (.tmp 8) rfl g8 ?hx xa 65 HS9.out _ Try.underlying65 rfl HXS.out ?_; (case hx => rfl)) | ((with_reducible refine gate_builtin (b := .append) (xs := #[.tmp 29, .tmp 33]) rfl ?_); at_builtin; refine Kd.R_append (Kd.int .i64) (w0 := w) w.heap.size rfl (.tmp 29) (.tmp 33) 23 3 (.int .i64 0) 8 rfl Try.underlying23 info3 rfl (by decide) (by decide) u4 L4 (m : Int) [.int .i64 m] (fun b => b ≠ w.heap.size) (fun _ => False) rfl rfl rfl (fun _ hk => hk.elim) (fun k hk e => by have := HR9.out.map.lt; omega) HR9.out.r4 HR9.out.below HR9.out.below.size HLIM4.out ?_; intro v10 w10 hR10 hB10 hg10 hat10; have HR10 := Aside0.mk (HR9.out.app4 hR10 hB10 hg10 hat10); clear hR10 hB10 hg10 hat10))
        go_roundw
        case rel => exact ⟨k + 1, _, _, by omega, by go_num, ⟨by rw [HL4.out, HNN.out HNIN.out, ← HMM.out, HL5n.out HNIN.out]; exact HR10.out⟩, ⟨fun l => ⟨fun hl => by
          by_cases e : l = x
          · rw [e, upd_same, HNN.out HNIN.out, HMM.out]
          · have hl2 : l ∈ ls.take k := by
              rcases (HMEM.out l).1 hl with h | h
              · exact h
              · exact absurd h e
            rw [upd_other _ _ e, HNUM.out l hl2]; exact (HF.out l).1 hl2, fun hl => by
          have e : l ≠ x := fun e => hl ((HMEM.out l).2 (.inr e))
          rw [upd_other _ _ e]; exact (HF.out l).2 (fun h => hl ((HMEM.out l).2 (.inl h)))⟩⟩⟩
        case measure => simp [intOf]; omega
    · have hkk : k = ls.length := by omega
      subst hkk
      have hfin := HR.out
      rw [List.take_length] at hfin
      have HFI := Aside0.mk hfin
      clear hfin
      obtain ⟨A4, c4, e4⟩ := Kd.R_slice HFI.out.r4
      obtain ⟨A5, c5, e5⟩ := Kd.R_slice HFI.out.r5
      go_wp2
      go_ret2
      exact ⟨_, _, rfl, Kd.R_mono HFI.out.r4 (fun _ _ => trivial), Kd.R_mono HFI.out.r5 (fun _ _ => trivial), HFI.out.below⟩
end Go.Proofs.Ythaiodklfoegiaa.CClasses

/- mean.subject. -/
namespace Go.Proofs.Ythaiodklfoegiaa.MPol
open Go.RowKit Go.Proofs.YthaiodklfoegiaaW.PrintWords Go.Proofs.YthaiodklfoegiaaW.PrintLast Go.Proofs.YthaiodklfoegiaaW.PrintMore Go.Proofs.Ythaiodklfoegiaa.BMap Go.Proofs.Ythaiodklfoegiaa.BRow Go.Proofs.Ythaiodklfoegiaa.MLines Go.Proofs.Ythaiodklfoegiaa.MPut Go.Proofs.Ythaiodklfoegiaa.MClose Go.Proofs.Ythaiodklfoegiaa.MConcat Go.Proofs.Ythaiodklfoegiaa.MStand Go.Proofs.Ythaiodklfoegiaa.MSide Go.Maps
open Go.Proofs.Ythaiodklfoegiaa Go.Proofs.Ythaiodklfoegiaa.PG Go.Proofs.YthaiodklfoegiaaF

/-- A value of one cell into a cell. -/
theorem wpList_store_one {P : Program} {w : World} {ops : Array Oper} {rest : List Oper} {op : Oper} {a : Act} {Q : Exit → Act → World → Prop} (hgd : op.guard = none) (ty : TypeId) (x y : Operand) (ho : op.op = .store ty x y) (b o : Nat) (v : Value) (hv : v.cells = #[v]) (h1 : v.oneCell' = true)
    (hx : a.eval x = .pointer (some ⟨b, o, none⟩)) (hy : a.eval y = v) (ht : w.there b o 1) (hi : (P.info? ty).map (·.size) = some 1) (h : wpList P ops Q rest (a.put op.dst undef) (w.setCell ⟨b, o, none⟩ v)) : wpList P ops Q (op :: rest) a w := by
  refine wpList_plain hgd fun K hK => ?_
  have hrun : (storeVar ty ⟨b, o, none⟩ v).run P w = .ok () (w.setCell ⟨b, o, none⟩ v) := by
    have := run_storeCells_cells (P := P) b o [v] 0 w (fun j hj => by simpa using (ht j (by simpa using hj)).1) (fun j hj => by simpa using (ht j (by simpa using hj)).2) (fun u hu => by rw [List.mem_singleton.1 hu]; exact h1)
    cases hq : P.info? ty with
    | none => simp [hq] at hi
    | some i =>
      have hs : i.size = 1 := by simpa [hq] using hi
      simp only [Nat.add_zero, World.setCells] at this
      simp [storeVar, sizeOf, typeInfo, hq, hv, hs, this]
  unfold Oper.wp execOp
  simp only [ho, hx, hy, Instr.storeAt, Instr.sureAddr, Sem.run_bind, Sem.run_pure, Result.andThen_ok, hrun]
  exact hK _ _ h
theorem z54 (w : World) : (zeroValue 54).run Try.prog w = .ok (.agg #[.string ⟨#[]⟩, .float .f64 0]) w := by kernel_rfl
theorem i54 : (Try.prog.info? 54).map (·.size) = some 2 := by kernel_rfl
theorem i52 : (Try.prog.info? 52).map (·.size) = some 1 := by kernel_rfl

theorem trust_skip {d : PolD} {s : ByteArray} {k : Nat} (hk : k < d.subs.length) (h : ∀ x ∈ d.subs.take k, x.f0 ≠ s) (he : d.subs[k].f0 = s) : d.trust s = some d.subs[k].f1 := by
  unfold PolD.trust
  have e : d.subs = d.subs.take k ++ d.subs[k] :: d.subs.drop (k + 1) := by rw [← List.drop_eq_getElem_cons hk, List.take_append_drop]
  have e2 : d.subs.find? (fun x => decide (x.f0 = s)) = some d.subs[k] := by
    rw [congrArg (List.find? (fun x => decide (x.f0 = s))) e, List.find?_append, List.find?_eq_none.2 (fun x hx => by simpa using h x hx), Option.none_or, List.find?_cons_of_pos (by simpa using he)]
  rw [e2]
  rfl
theorem trust_none {d : PolD} {s : ByteArray} (h : ∀ x ∈ d.subs, x.f0 ≠ s) : d.trust s = none := by
  unfold PolD.trust
  rw [List.find?_eq_none.2 (fun x hx => by simpa using h x hx)]
  rfl

set_option maxHeartbeats 4000000 in
set_option maxRecDepth 100000 in
theorem subject_calls (p : Pol) (s : ByteArray) (w : World) (hp : p.In w) (hd : p.d.Ok) (hs : okS s) :
    Calls Try.prog 60 #[.agg p.cells, .string s] w fun e w' => ∃ v, e = .returned (.tuple #[.agg v, .bool (p.d.trust s).isSome]) ∧ SideOf w' (p.d.trust s).isSome v s ((p.d.trust s).getD 0) (p.d.who s) ∧ Below w.heap.size w w' := by
  obtain ⟨d, A0, c0, A1, c1, A2, c2, A3, c3, A4, c4, A5, c5, A6, c6, A7, c7, A8, c8, A9, c9, A10, c10⟩ := p
  have hmax : d.subs.length ≤ 9223372036854775807 := hp.h1.2.1
  have HP := Aside0.mk hp
  have HD := Aside0.mk hd
  have HS := Aside0.mk hs
  clear hd hp hs
  have hT := Two.start (Pol.mk d A0 c0 A1 c1 A2 c2 A3 c3 A4 c4 A5 c5 A6 c6 A7 c7 A8 c8 A9 c9 A10 c10) w
  have e1 := hT.s0.cell 1
  simp only [Pol.cells, List.getElem?_toArray, List.getElem?_cons_zero, List.getElem?_cons_succ, noneV] at e1
  have HT := Aside0.mk hT
  clear hT
  have hz := z95
  have hPost : ∀ v W, (∃ v', v = v' ∧ SideOf W (d.trust s).isSome v' s ((d.trust s).getD 0) (d.who s)) → True := fun _ _ _ => trivial
  clear hPost
  unfold Pol.cells
  unfold Pol.cells noneV at HT
  simp only [] at HT e1 ⊢
  go_enter Try.func60, Try.ntmps60
  go_wp2
  clear e1
  go_loopw [12] (fun u wr => ∃ k : Nat, k ≤ d.subs.length ∧ u = .int .i64 k ∧ Aside0 (Two (Pol.mk d A0 c0 A1 c1 A2 c2 A3 c3 A4 c4 A5 c5 A6 c6 A7 c7 A8 c8 A9 c9 A10 c10) w wr noneV) ∧ Aside0 (∀ x ∈ d.subs.take k, x.f0 ≠ s)) (fun u _ => d.subs.length - (intOf u).toNat)
  case atStart => exact ⟨0, Nat.zero_le _, rfl, HT, ⟨by simp⟩⟩
  case round =>
    obtain ⟨k, hk, rfl, HR, HN⟩ := hrel
    by_cases hlt : k < d.subs.length
    · obtain ⟨ad, e0, hx0, hx1⟩ := at_T54 (HP.out.below HR.out.below).h1 (k : Int) (by omega) (by simp only []; omega)
      have hget : rd_T54 d.subs (k : Int) = d.subs[k] := by simp [rd_T54, hlt]
      simp only [hget, Int.toNat_natCast] at hx0 hx1
      have e0 : A1 = some ad := e0
      subst e0
      have htk : d.subs.take (k + 1) = d.subs.take k ++ [d.subs[k]] := List.take_succ_eq_append_getElem hlt
      have htr := trust_skip (s := s) hlt HN.out
      obtain ⟨x, hxx⟩ : ∃ x, x = d.subs[k] := ⟨_, rfl⟩
      rw [← hxx] at hx0 hx1 htk htr
      have HTK := Aside0.mk htk
      have HTR := Aside0.mk htr
      have hcw : ∀ (j : Nat) (v : Value), ([.string x.f0, .float .f64 x.f1] : List Value)[j]? = some v → wr.cell? ((ad.add (k * 2)).add j) = some v := by
        intro j v hj
        have hj2 : j < 2 := (List.getElem?_eq_some_iff.1 hj).1
        have : j = 0 ∨ j = 1 := by omega
        rcases this with rfl | rfl
        · obtain rfl : Value.string x.f0 = v := by simpa using hj
          rw [Addr.add_zero']; exact hx0
        · obtain rfl : Value.float .f64 x.f1 = v := by simpa using hj
          rw [add_add, add_field _ _ 1 (by omega)]; exact hx1
      have HCW := Aside0.mk hcw
      have c0' : (k : Int) < d.subs.length := by omega
      clear hx0 hx1 hget htk htr hxx hcw
      go_upto_region 4 with (first | ((with_reducible refine gate_dst (N := 15) rfl ?_); refine wpList_load_at rfl 54 (.tmp 14) rfl (ad.add (k * 2)) ?hx [.string x.f0, .float .f64 x.f1] HCW.out _ Try.underlying54 rfl i54 ?_; (case hx => rfl); refine wpList_alloc_store rfl rfl 54 7 (.tmp 15) rfl rfl rfl #[.string ⟨#[]⟩, .float .f64 0] #[.string x.f0, .float .f64 x.f1] _ (z54 _) rfl i54 rfl (by simp [Value.oneCell']) ?hy ?hp ?_; (case hy => rfl); (case hp => rfl)))
      simp only [Act.put, List.setIfInBounds_toArray, List.set_cons_succ, List.set_cons_zero]
      have hS2 := heap_alloc_new wr (.cells #[.string x.f0, .float .f64 x.f1] 54)
      have hT2 := HR.out.move (below_alloc (Below.refl _ wr) (.cells #[.string x.f0, .float .f64 x.f1] 54))
      obtain ⟨W2, hW2⟩ : ∃ W2, W2 = wr.alloc (.cells #[.string x.f0, .float .f64 x.f1] 54) := ⟨_, rfl⟩
      obtain ⟨g7, hg7⟩ : ∃ g7, g7 = wr.heap.size := ⟨_, rfl⟩
      rw [← hg7] at hS2 ⊢
      rw [← hW2] at hS2 hT2 ⊢
      have hS2 : Stays W2 g7 #[.string x.f0, .float .f64 x.f1] 54 := hS2
      have x0 : W2.cell? ⟨g7, 0, none⟩ = some (.string x.f0) := hS2.cell 0
      have e5 := hT2.s0.cell 5
      have e6 := hT2.s0.cell 6
      simp only [Pol.cells, List.getElem?_toArray, List.getElem?_cons_zero, List.getElem?_cons_succ] at e5 e6
      have HT2 := Aside0.mk hT2
      have HS2 := Aside0.mk hS2
      clear hS2 hT2 hW2 hg7
      by_cases he : x.f0 = s
      · have hq : (x.f0.toList == s.toList) = true := by rw [he]; exact beq_self_eq_true _
        have HTR2 := Aside0.mk (HTR.out he)
        clear he
        go_upto_region 6 with (first | (go_at_call 75; (with_reducible refine (stand_calls s A5 c5 d.mem A6 c6 d.inh _ (HP.out.below HT2.out.below).h5 (HP.out.below HT2.out.below).h6 HS.out (fun q hq => (List.mem_append.1 hq).elim (HD.out.mem q) (HD.out.inh q)) (by have := HD.out.lmem; have := HD.out.linh; omega)).mono ?_); rintro e w3 ⟨b, rfl, hS, hge, hb3⟩; have HT3 := Aside0.mk (HT2.out.move hb3); have HS3 := Aside0.mk (HS2.out.below hb3); have HSET := Aside0.mk hS; have HLT := Aside0.mk hS.lt; have HNE := Aside0.mk (show b ≠ w.heap.size + 1 by have := (Array.getElem?_eq_some_iff.1 HT2.out.s1).1; omega); clear hS hge hb3) | ((with_reducible refine gate_dst (N := 8) rfl ?_); refine wpList_alloc_store rfl rfl 95 8 (.tmp 25) rfl rfl rfl noneV (sideV s 0 b) _ (z95 _) rfl i95 rfl (by simp [sideV, Value.oneCell']) ?hy ?hp ?_; (case hy => rfl); (case hp => rfl)))
        simp only [Act.put, List.setIfInBounds_toArray, List.set_cons_succ, List.set_cons_zero]
        have hS4 := heap_alloc_new w3 (.cells (sideV s 0 b) 95)
        have hb4 := below_alloc (Below.refl _ w3) (.cells (sideV s 0 b) 95)
        have hT4 := HT3.out.move hb4
        have hS7 := HS3.out.below hb4
        have hSET4 := HSET.out.below hb4
        obtain ⟨W4, hW4⟩ : ∃ W4, W4 = w3.alloc (.cells (sideV s 0 b) 95) := ⟨_, rfl⟩
        obtain ⟨g8, hg8⟩ : ∃ g8, g8 = w3.heap.size := ⟨_, rfl⟩
        rw [← hg8] at hS4 ⊢
        rw [← hW4] at hS4 hT4 hS7 hSET4 ⊢
        have hb8 : b ≠ g8 := by rw [hg8]; exact Nat.ne_of_lt HLT.out
        have h18 : w.heap.size + 1 < g8 := by rw [hg8]; exact (Array.getElem?_eq_some_iff.1 HT3.out.s1).1
        have hS4 : Stays W4 g8 (sideV s 0 b) 95 := hS4
        have x1 : W4.cell? ⟨g7, 1, none⟩ = some (.float .f64 x.f1) := hS7.cell 1
        have hth : W4.there g8 1 1 := fun j hj => by
          obtain rfl : j = 0 := by omega
          exact ⟨by rw [hS4.cell]; rfl, MPut.frozen_of_row hS4 _⟩
        have hS5 : Stays (W4.setCell ⟨g8, 1, none⟩ (.float .f64 x.f1)) g8 (sideV s x.f1 b) 95 := blk_put hS4 1 _ rfl
        have h15 : Stays (W4.setCell ⟨g8, 1, none⟩ (.float .f64 x.f1)) (w.heap.size + 1) noneV 95 := (Below.heap_setCell _ _ _ _ (by show w.heap.size + 1 ≠ g8; omega)).trans hT4.s1
        have hset5 : IsSet (W4.setCell ⟨g8, 1, none⟩ (.float .f64 x.f1)) b (d.who s) := by
          obtain ⟨f, n, hM, hf⟩ := hSET4
          exact ⟨f, n, hM.setCell (by show g8 ≠ b; exact hb8.symm) _, hf⟩
        have hbel5 : Below w.heap.size w (W4.setCell ⟨g8, 1, none⟩ (.float .f64 x.f1)) := below_set hT4.below (by omega)
        have HTH := Aside0.mk hth
        have HS5 := Aside0.mk hS5
        have H15 := Aside0.mk h15
        have HSET5 := Aside0.mk hset5
        have HBEL := Aside0.mk hbel5
        clear hS4 hb4 hT4 hS7 hSET4 hW4 hg8 hth hS5 h15 hset5 hbel5
        go_wp2_with (first | ((with_reducible refine gate_store (t := 52) (p := 28) (v := .tmp 27) rfl ?_); refine wpList_store_one rfl 52 (.tmp 28) (.tmp 27) rfl g8 1 (.float .f64 x.f1) rfl rfl ?hx ?hy HTH.out i52 ?_; (case hx => rfl); (case hy => rfl)) | ((with_reducible refine gate_dst (N := 29) rfl ?_); refine wpList_load_blk rfl 95 (.tmp 8) rfl g8 ?hx (sideV s x.f1 b) 95 HS5.out _ Try.underlying95 rfl i95 ?_; (case hx => rfl); refine wpList_store_var rfl 95 (.tmp 4) (.tmp 29) rfl (w.heap.size + 1) (sideV s x.f1 b) ?hx ?hy H15.out rfl i95 (by simp [sideV, Value.oneCell']) ?_; (case hx => rfl); (case hy => rfl)))
        (try simp only [Exit.inBlock, Exit.then])
        refine bodyPost_ret (results_ct rfl _ _ (w.heap.size + 1) 95 (sideV s x.f1 b) (0, 0) _ rfl (setCells_var H15.out rfl) Try.underlying95 rfl i95) rfl ?_
        rw [HTR2.out]
        exact ⟨sideV s x.f1 b, rfl, ⟨fun _ => ⟨b, rfl, setCells_set HSET5.out HNE.out _⟩, fun e => (by cases e)⟩, setCells_below HBEL.out (by omega) _⟩
      · have hq : (x.f0.toList == s.toList) = false := by
          rw [Bool.eq_false_iff]
          intro e
          rw [beq_iff_eq, ByteArray.toList_eq, ByteArray.toList_eq] at e
          exact he (ByteArray.ext (Array.toList_inj.mp e))
        have HE := Aside0.mk he
        clear he
        go_wp2
        go_roundw
        case rel => exact ⟨k + 1, by omega, by go_num, HT2, ⟨fun y hy => by rw [HTK.out, List.mem_append, List.mem_singleton] at hy; rcases hy with hy | rfl; exact HN.out y hy; exact HE.out⟩⟩
        case measure => simp [intOf]; omega
    · have hkk : k = d.subs.length := by omega
      subst hkk
      have htn := trust_none (d := d) (s := s) (fun x hx => HN.out x (by rw [List.take_length]; exact hx))
      have HTN := Aside0.mk htn
      clear htn
      go_wp2_with (first | ((with_reducible refine gate_store (t := 95) (p := 4) (v := .tmp 31) rfl ?_); refine wpList_store_var rfl 95 (.tmp 4) (.tmp 31) rfl (w.heap.size + 1) noneV ?hx ?hy HR.out.s1 rfl i95 (by simp [noneV, Value.oneCell']) ?_; (case hx => rfl); (case hy => rfl)))
      (try simp only [Exit.inBlock, Exit.then])
      refine bodyPost_ret (results_ct rfl _ _ (w.heap.size + 1) 95 noneV (0, 0) _ rfl (setCells_var HR.out.s1 rfl) Try.underlying95 rfl i95) rfl ?_
      rw [HTN.out]
      exact ⟨noneV, rfl, ⟨fun e => (by cases e), fun _ => rfl⟩, setCells_below HR.out.below (by omega) _⟩
end Go.Proofs.Ythaiodklfoegiaa.MPol

/- mean.about. -/
namespace Go.Proofs.Ythaiodklfoegiaa.MPol
open Go.RowKit Go.Proofs.YthaiodklfoegiaaW.PrintWords Go.Proofs.YthaiodklfoegiaaW.PrintLast Go.Proofs.YthaiodklfoegiaaW.PrintMore Go.Proofs.Ythaiodklfoegiaa.BMap Go.Proofs.Ythaiodklfoegiaa.BRow Go.Proofs.Ythaiodklfoegiaa.MLines Go.Proofs.Ythaiodklfoegiaa.MPut Go.Proofs.Ythaiodklfoegiaa.MClose Go.Proofs.Ythaiodklfoegiaa.MConcat Go.Proofs.Ythaiodklfoegiaa.MStand Go.Proofs.Ythaiodklfoegiaa.MSide Go.Maps
open Go.Proofs.Ythaiodklfoegiaa Go.Proofs.Ythaiodklfoegiaa.PG Go.Proofs.YthaiodklfoegiaaF

/-- about's variables. -/
structure Abt (p : Pol) (w W : World) (v1 v2 : Array Value) (b1 b2 : Nat) (R1 R2 : ByteArray → Prop) : Prop where
  below : Below w.heap.size w W
  s0 : Stays W w.heap.size p.cells 39
  s1 : Stays W (w.heap.size + 1) v1 95
  s2 : Stays W (w.heap.size + 1 + 1) v2 95
  set1 : IsSet W b1 R1
  set2 : IsSet W b2 R2
theorem Abt.move {p : Pol} {w W W1 : World} {v1 v2 : Array Value} {b1 b2 : Nat} {R1 R2 : ByteArray → Prop} (h : Abt p w W v1 v2 b1 b2 R1 R2) (hb : Below W.heap.size W W1) : Abt p w W1 v1 v2 b1 b2 R1 R2 :=
  ⟨below_then h.below h.below.size hb, h.s0.below hb, h.s1.below hb, h.s2.below hb, h.set1.below hb, h.set2.below hb⟩
theorem Abt.start (p : Pol) (w : World) (v1 v2 : Array Value) {b1 b2 : Nat} {R1 R2 : ByteArray → Prop} (h1 : IsSet w b1 R1) (h2 : IsSet w b2 R2) : Abt p w (((w.alloc (.cells p.cells 39)).alloc (.cells v1 95)).alloc (.cells v2 95)) v1 v2 b1 b2 R1 R2 := by
  have hb1 : Below w.heap.size w (w.alloc (.cells p.cells 39)) := below_alloc (Below.refl _ _) _
  have hb2 := below_alloc hb1 (.cells v1 95)
  have hb3 := below_alloc hb2 (.cells v2 95)
  have e1 := heap_alloc_new (w.alloc (.cells p.cells 39)) (.cells v1 95)
  have e2 := heap_alloc_new ((w.alloc (.cells p.cells 39)).alloc (.cells v1 95)) (.cells v2 95)
  rw [World.size_alloc] at e1
  rw [World.size_alloc, World.size_alloc] at e2
  exact ⟨hb3, (Below.heap_alloc _ _ _ (by simp only [World.size_alloc]; omega)).trans ((Below.heap_alloc _ _ _ (by simp only [World.size_alloc]; omega)).trans (heap_alloc_new w _)), (Below.heap_alloc _ _ _ (by simp only [World.size_alloc]; omega)).trans e1, e2, h1.below hb3, h2.below hb3⟩
theorem Abt.grown {p : Pol} {w W W1 : World} {v1 v2 : Array Value} {b1 b2 : Nat} {R1 R2 : ByteArray → Prop} (h : Abt p w W v1 v2 b1 b2 R1 R2) {row : Option Nat} (hg : W.grownBy W1 row) (hb : Below w.heap.size w W1) (h0 : some w.heap.size ≠ row) (h1 : some (w.heap.size + 1) ≠ row) (h2 : some (w.heap.size + 1 + 1) ≠ row) (h3 : some b1 ≠ row) (h4 : some b2 ≠ row) : Abt p w W1 v1 v2 b1 b2 R1 R2 := by
  have mv : ∀ {b : Nat} {R : ByteArray → Prop}, IsSet W b R → some b ≠ row → IsSet W1 b R := by
    rintro b R ⟨f, n, hM, hf⟩ hne
    exact ⟨f, n, hM.grown hg hne, hf⟩
  exact ⟨hb, (hg.block _ (Array.getElem?_eq_some_iff.1 h.s0).1 h0).trans h.s0, (hg.block _ (Array.getElem?_eq_some_iff.1 h.s1).1 h1).trans h.s1, (hg.block _ (Array.getElem?_eq_some_iff.1 h.s2).1 h2).trans h.s2, mv h.set1 h3, mv h.set2 h4⟩
theorem z78v (w : World) : (zeroValue 78).run Try.prog w = .ok (.agg #[(.bool false), (.string ⟨#[]⟩), (.string ⟨#[]⟩), (.slice none 0 0), (.int .i8 0), (.float .f64 0)]) w := by kernel_rfl
theorem speaks_go (r : S78) (A3 : Option Addr) (c3 : Nat) (n1 : ByteArray) (t1 b1 : Nat) (R1 : ByteArray → Prop) (n2 : ByteArray) (t2 b2 : Nat) (R2 : ByteArray → Prop) (w : World) (q : Bool) (hq : speaksB r R1 R2 t1 = q)
    (hC : Kd.C Kd.string w A3 r.f3.length r.f3) (hc : r.f3.length ≤ c3) (h1 : IsSet w b1 R1) (h2 : IsSet w b2 R2) (o1 : okS r.f1) (o2 : okS r.f2) (v1 v2 : Array Value) (hv1 : v1 = sideV n1 t1 b1) (hv2 : v2 = sideV n2 t2 b2) :
    Calls Try.prog 78 #[.agg (ruleV r A3 c3), .agg v1, .agg v2] w fun e w' => e = .returned (.bool q) ∧ Below w.heap.size w w' := by
  subst hq; subst hv1; subst hv2; exact speaks_calls r A3 c3 n1 t1 b1 R1 n2 t2 b2 R2 w hC hc h1 h2 o1 o2

set_option maxHeartbeats 800000 in
set_option maxRecDepth 100000 in
theorem about_calls (p : Pol) (n1 : ByteArray) (t1 b1 : Nat) (R1 : ByteArray → Prop) (n2 : ByteArray) (t2 b2 : Nat) (R2 : ByteArray → Prop) (w : World) (hp : p.In w) (hd : p.d.Ok) (h1 : IsSet w b1 R1) (h2 : IsSet w b2 R2) :
    Calls Try.prog 64 #[.agg p.cells, .agg (sideV n1 t1 b1), .agg (sideV n2 t2 b2)] w fun e w' => ∃ v, e = .returned v ∧ ∃ A c, v = .slice A (p.d.rules.filter fun r => speaksB r R1 R2 t1).length c ∧ (p.d.rules.filter fun r => speaksB r R1 R2 t1).length ≤ c ∧ Kd.C k78 w' A (p.d.rules.filter fun r => speaksB r R1 R2 t1).length (p.d.rules.filter fun r => speaksB r R1 R2 t1) ∧ Below w.heap.size w w' := by
  obtain ⟨d, A0, c0, A1, c1, A2, c2, A3, c3, A4, c4, A5, c5, A6, c6, A7, c7, A8, c8, A9, c9, A10, c10⟩ := p
  have hmax : d.rules.length ≤ 9223372036854775807 := hp.h9.2.1
  have hlt1 := h1.lt
  have hlt2 := h2.lt
  have HP := Aside0.mk hp
  have HD := Aside0.mk hd
  have hA := Abt.start (Pol.mk d A0 c0 A1 c1 A2 c2 A3 c3 A4 c4 A5 c5 A6 c6 A7 c7 A8 c8 A9 c9 A10 c10) w (sideV n1 t1 b1) (sideV n2 t2 b2) h1 h2
  have e9 := hA.s0.cell 9
  simp only [Pol.cells, List.getElem?_toArray, List.getElem?_cons_zero, List.getElem?_cons_succ] at e9
  have HA := Aside0.mk hA
  clear hA hp hd h1 h2
  unfold Pol.cells
  unfold Pol.cells at HA
  obtain ⟨v1, hv1⟩ : ∃ v1, v1 = sideV n1 t1 b1 := ⟨_, rfl⟩
  obtain ⟨v2, hv2⟩ : ∃ v2, v2 = sideV n2 t2 b2 := ⟨_, rfl⟩
  have sz1 : v1.size = 3 := by rw [hv1]; rfl
  have sz2 : v2.size = 3 := by rw [hv2]; rfl
  rw [← hv1, ← hv2] at HA ⊢
  rw [← hv1, ← hv2] at e9
  have HV1 := Aside0.mk hv1
  have HV2 := Aside0.mk hv2
  have HSZ1 := Aside0.mk sz1
  have HSZ2 := Aside0.mk sz2
  clear hv1 hv2 sz1 sz2
  simp only [] at HA e9 ⊢
  go_enter Try.func64, Try.ntmps64
  go_wp2
  clear e9
  go_loopw [7, 13] (fun u7 u13 wr => ∃ k : Nat, k ≤ d.rules.length ∧ u13 = .int .i64 k ∧ Aside0 (Abt (Pol.mk d A0 c0 A1 c1 A2 c2 A3 c3 A4 c4 A5 c5 A6 c6 A7 c7 A8 c8 A9 c9 A10 c10) w wr v1 v2 b1 b2 R1 R2) ∧ Aside0 (OwnRow (k78.K w) 78 6 wr w.heap.size u7 ((d.rules.take k).filter fun r => speaksB r R1 R2 t1))) (fun _ u13 _ => d.rules.length - (intOf u13).toNat)
  case atStart => exact ⟨0, Nat.zero_le _, rfl, HA, ⟨OwnRow.none_ _ _ _ _ _⟩⟩
  case round =>
    obtain ⟨k, hk, rfl, HR, HRow⟩ := hrel
    obtain ⟨Ao, co, rfl, hlo⟩ := HRow.out.slice_
    by_cases hlt : k < d.rules.length
    · obtain ⟨ad, cs, e0, hcl, hK, hcell⟩ := Kd.C_get HP.out.h9 z78 (k : Int) (by omega) (by simp only []; omega)
      have e0 : A9 = some ad := e0
      subst e0
      have hget : d.rules.getD (k : Int).toNat z78 = d.rules[k] := by simp [hlt]
      have hK : k78.K w d.rules[k] cs := by rw [← hget]; exact hK
      have htk : d.rules.take (k + 1) = d.rules.take k ++ [d.rules[k]] := List.take_succ_eq_append_getElem hlt
      have hro := HD.out.rules d.rules[k] (List.getElem_mem hlt)
      obtain ⟨x, hxx⟩ : ∃ x, x = d.rules[k] := ⟨_, rfl⟩
      rw [← hxx] at hK htk hro
      obtain ⟨A3', c3', rfl, l3, g3⟩ := k78_open hK
      have hcw : ∀ (j : Nat) (v : Value), ([.bool x.f0, .string x.f1, .string x.f2, .slice A3' x.f3.length c3', .int .i8 x.f4, .float .f64 x.f5] : List Value)[j]? = some v → wr.cell? ((ad.add (k * 6)).add j) = some v := by
        intro j v hj
        have h0 := hcell j v hj
        have h0 : w.cell? (ad.add (k * 6 + j)) = some v := h0
        rw [add_add]
        exact pw_cell_below HR.out.below h0
      have HCW := Aside0.mk hcw
      have HTK := Aside0.mk htk
      have HRO := Aside0.mk hro
      have HL3 := Aside0.mk l3
      have HG3 := Aside0.mk g3
      have HK := Aside0.mk hK
      have c0' : (k : Int) < d.rules.length := by omega
      clear hcell hK hget htk hro hxx hcw hcl l3 g3
      go_upto_region 5 with (first | ((with_reducible refine gate_dst (N := 16) rfl ?_); refine wpList_load_at rfl 78 (.tmp 15) rfl (ad.add (k * 6)) ?hx [.bool x.f0, .string x.f1, .string x.f2, .slice A3' x.f3.length c3', .int .i8 x.f4, .float .f64 x.f5] HCW.out _ Try.underlying78 rfl i78 ?_; (case hx => rfl); refine wpList_alloc_store rfl rfl 78 9 (.tmp 16) rfl rfl rfl #[(.bool false), (.string ⟨#[]⟩), (.string ⟨#[]⟩), (.slice none 0 0), (.int .i8 0), (.float .f64 0)] (ruleV x A3' c3') _ (z78v _) rfl i78 rfl (by simp [ruleV, Value.oneCell']) ?hy ?hp ?_; (case hy => rfl); (case hp => rfl)))
      simp only [Act.put, List.setIfInBounds_toArray, List.set_cons_succ, List.set_cons_zero]
      have hS2 := heap_alloc_new wr (.cells (ruleV x A3' c3') 78)
      have hb2 := below_alloc (Below.refl _ wr) (.cells (ruleV x A3' c3') 78)
      have hA2 := HR.out.move hb2
      have hR2 := HRow.out.below hb2
      obtain ⟨W2, hW2⟩ : ∃ W2, W2 = wr.alloc (.cells (ruleV x A3' c3') 78) := ⟨_, rfl⟩
      obtain ⟨g9, hg9⟩ : ∃ g9, g9 = wr.heap.size := ⟨_, rfl⟩
      rw [← hg9] at hS2 ⊢
      rw [← hW2] at hS2 hA2 hR2 ⊢
      have hS2 : Stays W2 g9 (ruleV x A3' c3') 78 := hS2
      have HA2 := Aside0.mk hA2
      have HR2 := Aside0.mk hR2
      have HS2 := Aside0.mk hS2
      clear hS2 hA2 hR2 hW2 hg9 hb2
      obtain ⟨q, hq⟩ : ∃ q, speaksB x R1 R2 t1 = q := ⟨_, rfl⟩
      have HQ := Aside0.mk hq
      clear hq
      go_upto_if 20 with (first | ((with_reducible refine gate_dst (N := 17) rfl ?_); refine wpList_load_blk rfl 78 (.tmp 9) rfl g9 ?hx (ruleV x A3' c3') 78 HS2.out _ Try.underlying78 rfl i78 ?_; (case hx => rfl)) | ((with_reducible refine gate_dst (N := 18) rfl ?_); refine wpList_load_blk rfl 95 (.tmp 4) rfl (w.heap.size + 1) ?hx v1 95 HA2.out.s1 _ Try.underlying95 rfl (by rw [HSZ1.out]; exact i95) ?_; (case hx => rfl)) | ((with_reducible refine gate_dst (N := 19) rfl ?_); refine wpList_load_blk rfl 95 (.tmp 5) rfl (w.heap.size + 1 + 1) ?hx v2 95 HA2.out.s2 _ Try.underlying95 rfl (by rw [HSZ2.out]; exact i95) ?_; (case hx => rfl)) | (go_at_call 78; (with_reducible refine (speaks_go x A3' c3' n1 t1 b1 R1 n2 t2 b2 R2 _ q HQ.out (Kd.C_below HG3.out HA2.out.below) HL3.out HA2.out.set1 HA2.out.set2 HRO.out.1 HRO.out.2 v1 v2 HV1.out HV2.out).mono ?_); rintro e w3 ⟨rfl, hb3⟩; have HA3 := Aside0.mk (HA2.out.move hb3); have HR3 := Aside0.mk (HR2.out.below hb3); have HS3 := Aside0.mk (HS2.out.below hb3); clear hb3))
      have hlim : (((d.rules.take k).filter fun r => speaksB r R1 R2 t1).length + 1) * 80 ≤ 140737488355328 := by
        have h1 := List.length_filter_le (fun r => speaksB r R1 R2 t1) (d.rules.take k)
        rw [List.length_take] at h1
        have h2 := HD.out.lrules
        omega
      have HLIM := Aside0.mk hlim
      clear hlim
      have hfil : (d.rules.take (k + 1)).filter (fun r => speaksB r R1 R2 t1) = (d.rules.take k).filter (fun r => speaksB r R1 R2 t1) ++ if q = true then [x] else [] := by
        rw [HTK.out, List.filter_append, List.filter_cons, HQ.out]
        cases q <;> simp
      have HFIL := Aside0.mk hfil
      clear hfil
      obtain ⟨L, hL⟩ : ∃ L, L = (d.rules.take k).filter (fun r => speaksB r R1 R2 t1) := ⟨_, rfl⟩
      rw [← hL] at HR3 HLIM HFIL hlo ⊢
      have HLL := Aside0.mk hL
      clear hL
      have HNB := Aside0.mk (fun (b : Nat) (hb : b < w.heap.size) => show some b ≠ (Value.slice Ao L.length co).ownBlock from fun e => by
        obtain ⟨inner, ho, _⟩ := HR3.out
        have := own_base ho b e.symm
        omega)
      cases q with
      | true =>
        go_wp2_with (first | ((with_reducible refine gate_dst (N := 22) rfl ?_); refine wpList_load_blk rfl 78 (.tmp 9) rfl g9 ?hx #[.bool x.f0, .string x.f1, .string x.f2, .slice A3' x.f3.length c3', .int .i8 x.f4, .float .f64 x.f5] 78 HS3.out _ Try.underlying78 rfl i78 ?_; (case hx => rfl)) | ((with_reducible refine gate_builtin (b := .append) (xs := #[.tmp 21, .tmp 23]) rfl ?_); at_builtin; refine OwnRow.append (w0 := w) w.heap.size rfl (.tmp 21) (.tmp 23) 36 78 (.agg #[(.bool false), (.string ⟨#[]⟩), (.string ⟨#[]⟩), (.slice none 0 0), (.int .i8 0), (.float .f64 0)]) 6 80 rfl Try.underlying36 info78 rfl (by decide) (by decide) _ L x [.bool x.f0, .string x.f1, .string x.f2, .slice A3' x.f3.length c3', .int .i8 x.f4, .float .f64 x.f5] rfl rfl HK.out rfl (k78.K_one HK.out) HR3.out HA3.out.below HA3.out.below.size HLIM.out ?_; intro v8 w8 hR8 hB8 hg8 hat8; have HR8 := Aside0.mk hR8; have HA8 := Aside0.mk (HA3.out.grown hg8 hB8 (HR3.out.ne_block HA3.out.s0 (by decide)) (HR3.out.ne_block HA3.out.s1 (by decide)) (HR3.out.ne_block HA3.out.s2 (by decide)) (HNB.out _ hlt1) (HNB.out _ hlt2)); clear hR8 hB8 hg8 hat8))
        go_roundw
        case rel => exact ⟨k + 1, by omega, by go_num, HA8, ⟨by rw [HFIL.out, if_pos rfl]; exact HR8.out⟩⟩
        case measure => simp [intOf]; omega
      | false =>
        go_wp2
        go_roundw
        case rel => exact ⟨k + 1, by omega, by go_num, HA3, ⟨by rw [HFIL.out, if_neg (by simp), List.append_nil]; exact HR3.out⟩⟩
        case measure => simp [intOf]; omega
    · have hkk : k = d.rules.length := by omega
      subst hkk
      have hfin := HRow.out
      have hle := hlo
      rw [List.take_length] at hfin hle
      obtain ⟨A5, c5', e5, h5, hreads⟩ := hfin.reads
      have hC : Kd.C k78 wr A5 (d.rules.filter fun r => speaksB r R1 R2 t1).length (d.rules.filter fun r => speaksB r R1 R2 t1) := hreads.imp_ (Below.refl _ _) (fun p c hp => k78.K_below HR.out.below hp)
      rw [List.take_length]
      have HE5 := Aside0.mk e5
      clear hfin hle hreads e5
      go_wp2
      go_ret
      exact ⟨_, rfl, A5, c5', HE5.out, h5, hC, HR.out.below⟩
end Go.Proofs.Ythaiodklfoegiaa.MPol

namespace Go.Proofs.Ythaiodklfoegiaa.PG
open Go.Proofs.YthaiodklfoegiaaF
attribute [local go_sem high] run_feq run_fne run_flt_lt run_flt_le run_flt_gt run_flt_ge
open Go.RowKit Go.Proofs.YthaiodklfoegiaaW.PrintWords Go.Proofs.YthaiodklfoegiaaW.PrintLast Go.Proofs.YthaiodklfoegiaaW.PrintMore
attribute [local go_sem] max2_int min2_int max_two min_two max_three min_three max_four min_four   -- for this text's walks alone
set_option linter.unusedVariables false
set_option linter.unusedSimpArgs false

/-! ### mean_names: function 76 -/
def mean_names.f (k : Nat) (a0_0 : Bool) (a0_1 : ByteArray) (a0_2 : ByteArray) (l0_3 : List ByteArray) (a0_4 : Int) (a0_5 : Nat) (a1 : ByteArray) : Option (Bool) := if (l0_3.length : Int) = 0 then (some true) else ((slices_Contains_string_string.f k l0_3 a1).bind fun t242 => (some t242))
theorem mean_names.mono : ∀ a0 a1 a2 a3 a4 a5 a6 k, LeO (mean_names.f k a0 a1 a2 a3 a4 a5 a6) (mean_names.f (k + 1) a0 a1 a2 a3 a4 a5 a6) := by
  intro a0 a1 a2 a3 a4 a5 a6 k
  unfold mean_names.f
  repeat' first
      | (with_reducible exact slices_Contains_string_string.mono _ _ _)
      | (with_reducible exact LeO.refl _)
      | (with_reducible exact LeO.none _)
      | (with_reducible refine LeO.ite ?_ ?_)
      | (with_reducible refine LeO.bind ?_ (fun _ => ?_))
      | exact slices_Contains_string_string.mono _ _ _
      | exact LeO.none _
      | refine LeO.ite ?_ ?_
      | refine LeO.bind ?_ (fun _ => ?_)
set_option maxHeartbeats 8000000 in
set_option maxRecDepth 100000 in
theorem mean_names.calls (k : Nat) (a0_0 : Bool) (a0_1 : ByteArray) (a0_2 : ByteArray) (A0_3 : Option Addr) (c0_3 : Nat) (l0_3 : List ByteArray) (a0_4 : Int) (a0_5 : Nat) (a1 : ByteArray) (r : Bool) (w : World) (hr0_3 : Kd.C Kd.string w A0_3 l0_3.length l0_3) (hc0_3 : l0_3.length ≤ c0_3) (h : mean_names.f k a0_0 a0_1 a0_2 l0_3 a0_4 a0_5 a1 = some r) :
    Calls Try.prog 76 #[.agg #[.bool a0_0, .string a0_1, .string a0_2, .slice A0_3 l0_3.length c0_3, .int .i8 a0_4, .float .f64 a0_5], .string a1] w fun e w' => e = .returned (.bool r) ∧ Below w.heap.size w w' := by
  have hu78 := Try.underlying78
  have HR0_3 := Aside0.mk hr0_3
  have HC0_3 := Aside0.mk hc0_3
  clear hr0_3 hc0_3
  have HB := Aside0.mk (Below.refl w.heap.size w)
  have H : (if (l0_3.length : Int) = 0 then (some true) else ((slices_Contains_string_string.f k l0_3 a1).bind fun t242 => (some t242))) = some r := h
  clear h
  by_cases c3 : (l0_3.length : Int) = 0
  · rw [if_pos c3] at H
    have c3b0 : ((l0_3.length : Int) == 0) = true := beq_iff_eq.mpr c3
    have c3b1 : ((l0_3.length : Int) != 0) = false := bne_eq_false_iff_eq.mpr c3
    clear c3
    obtain rfl := Option.some.inj H
    go_enter Try.func76, Try.ntmps76
    go_wp2_with (first | ((with_reducible refine gate_dst (N := 2) rfl ?_); refine box_event ?hg (N := 2) ?hd (cs := #[.bool a0_0, .string a0_1, .string a0_2, .slice A0_3 l0_3.length c0_3, .int .i8 a0_4, .float .f64 a0_5]) (t := 78) ?hr ?_; (case hd => rfl); (case hg => rfl); (case hr => first | (go_simp; done) | (go_simp; rfl)); intro gb241 hg w4 hbox hb; have n0_ := Aside0.mk (below_step (by repeat (first | (with_reducible first | exact HB.out | apply below_alloc | apply pw_below_drewN | apply below_drew1) | exact HB.out)) hb); have n1_ := Aside0.mk (hbox); have n2_ := Aside0.mk ((by rw [hg]; exact (below_size (by repeat (first | (with_reducible first | exact HB.out | apply below_alloc | apply pw_below_drewN | apply below_drew1) | exact HB.out))) : w.heap.size ≤ gb241)); have n3_ := Aside0.mk ((by rw [hg]; exact (below_size (by repeat (first | (with_reducible first | exact HB.out | apply below_alloc | apply pw_below_drewN | apply below_drew1) | exact HB.out))) : w.heap.size ≤ gb241)); clear HB; have HB := n0_; have BK241 := n1_; have GW241 := n2_; have GE241 := n3_; clear n0_ n1_ n2_ n3_; clear hb hbox hg; have hcz5_0 : w4.cell? ⟨gb241, 0, none⟩ = some (.bool a0_0) := (blk_cell BK241.out 0).trans rfl; have hcz5_1 : w4.cell? ⟨gb241, 1, none⟩ = some (.string a0_1) := (blk_cell BK241.out 1).trans rfl; have hcz5_2 : w4.cell? ⟨gb241, 2, none⟩ = some (.string a0_2) := (blk_cell BK241.out 2).trans rfl; have hcz5_3 : w4.cell? ⟨gb241, 3, none⟩ = some (.slice A0_3 l0_3.length c0_3) := (blk_cell BK241.out 3).trans rfl; have hcz5_4 : w4.cell? ⟨gb241, 4, none⟩ = some (.int .i8 a0_4) := (blk_cell BK241.out 4).trans rfl; have hcz5_5 : w4.cell? ⟨gb241, 5, none⟩ = some (.float .f64 a0_5) := (blk_cell BK241.out 5).trans rfl; have hfz5_0 := blk_frozen BK241.out 0; have hfz5_1 := blk_frozen BK241.out 1; have hfz5_2 := blk_frozen BK241.out 2; have hfz5_3 := blk_frozen BK241.out 3; have hfz5_4 := blk_frozen BK241.out 4; have hfz5_5 := blk_frozen BK241.out 5))
    go_ret
    exact ⟨by first | rfl | (simp [errW_none, errW_some] <;> rfl) | (simp [*, errW_none, errW_some] <;> rfl), by repeat (first | (with_reducible first | exact HB.out | apply below_alloc | apply pw_below_drewN | apply below_drew1 | refine below_set ?_ GE241.out) | exact HB.out)⟩
  · rw [if_neg c3] at H
    have c3b0 : ((l0_3.length : Int) == 0) = false := beq_eq_false_iff_ne.mpr c3
    have c3b1 : ((l0_3.length : Int) != 0) = true := bne_iff_ne.mpr c3
    have c3b2 : ¬ (l0_3 = []) := fun h_ => c3 (by rw [h_]; rfl)
    replace H := Option.bind_eq_some_iff.mp H
    obtain ⟨t242, A60, H⟩ := H
    replace H : (some t242) = some r := H
    have A6 := Aside0.mk A60
    clear A60
    obtain rfl := Option.some.inj H
    go_enter Try.func76, Try.ntmps76
    go_wp2_with (first | ((with_reducible refine gate_dst (N := 2) rfl ?_); refine box_event ?hg (N := 2) ?hd (cs := #[.bool a0_0, .string a0_1, .string a0_2, .slice A0_3 l0_3.length c0_3, .int .i8 a0_4, .float .f64 a0_5]) (t := 78) ?hr ?_; (case hd => rfl); (case hg => rfl); (case hr => first | (go_simp; done) | (go_simp; rfl)); intro gb241 hg w7 hbox hb; have n0_ := Aside0.mk (below_step (by repeat (first | (with_reducible first | exact HB.out | apply below_alloc | apply pw_below_drewN | apply below_drew1) | exact HB.out)) hb); have n1_ := Aside0.mk (hbox); have n2_ := Aside0.mk ((by rw [hg]; exact (below_size (by repeat (first | (with_reducible first | exact HB.out | apply below_alloc | apply pw_below_drewN | apply below_drew1) | exact HB.out))) : w.heap.size ≤ gb241)); have n3_ := Aside0.mk ((by rw [hg]; exact (below_size (by repeat (first | (with_reducible first | exact HB.out | apply below_alloc | apply pw_below_drewN | apply below_drew1) | exact HB.out))) : w.heap.size ≤ gb241)); clear HB; have HB := n0_; have BK241 := n1_; have GW241 := n2_; have GE241 := n3_; clear n0_ n1_ n2_ n3_; clear hb hbox hg; have hcz8_0 : w7.cell? ⟨gb241, 0, none⟩ = some (.bool a0_0) := (blk_cell BK241.out 0).trans rfl; have hcz8_1 : w7.cell? ⟨gb241, 1, none⟩ = some (.string a0_1) := (blk_cell BK241.out 1).trans rfl; have hcz8_2 : w7.cell? ⟨gb241, 2, none⟩ = some (.string a0_2) := (blk_cell BK241.out 2).trans rfl; have hcz8_3 : w7.cell? ⟨gb241, 3, none⟩ = some (.slice A0_3 l0_3.length c0_3) := (blk_cell BK241.out 3).trans rfl; have hcz8_4 : w7.cell? ⟨gb241, 4, none⟩ = some (.int .i8 a0_4) := (blk_cell BK241.out 4).trans rfl; have hcz8_5 : w7.cell? ⟨gb241, 5, none⟩ = some (.float .f64 a0_5) := (blk_cell BK241.out 5).trans rfl; have hfz8_0 := blk_frozen BK241.out 0; have hfz8_1 := blk_frozen BK241.out 1; have hfz8_2 := blk_frozen BK241.out 2; have hfz8_3 := blk_frozen BK241.out 3; have hfz8_4 := blk_frozen BK241.out 4; have hfz8_5 := blk_frozen BK241.out 5) | (go_at_call 62; (with_reducible refine (slices_Contains_string_string.calls k _ _ l0_3 a1 t242 _ ?side1 ?side2 A6.out).mono ?_); (case side1 => repeat (first | exact (Kd.C_below HR0_3.out HB.out) | (with_reducible refine Kd.C_alloc ?_ _) | (with_reducible refine Kd.C_drewN ?_ _) | (with_reducible refine Kd.C_drew ?_))); (case side2 => exact HC0_3.out); rintro e w' ⟨rfl, ⟨nd, rfl⟩⟩))
    go_ret
    exact ⟨by first | rfl | (simp [errW_none, errW_some] <;> rfl) | (simp [*, errW_none, errW_some] <;> rfl), by repeat (first | (with_reducible first | exact HB.out | apply below_alloc | apply pw_below_drewN | apply below_drew1 | refine below_set ?_ GE241.out) | exact HB.out)⟩

end Go.Proofs.Ythaiodklfoegiaa.PG

namespace Go.Proofs.Ythaiodklfoegiaa.PG
open Go.Proofs.YthaiodklfoegiaaF
attribute [local go_sem high] run_feq run_fne run_flt_lt run_flt_le run_flt_gt run_flt_ge
open Go.RowKit Go.Proofs.YthaiodklfoegiaaW.PrintWords Go.Proofs.YthaiodklfoegiaaW.PrintLast Go.Proofs.YthaiodklfoegiaaW.PrintMore
attribute [local go_sem] max2_int min2_int max_two min_two max_three min_three max_four min_four   -- for this text's walks alone
set_option linter.unusedVariables false
set_option linter.unusedSimpArgs false

theorem eqA28 (d : Nat) (w : World) (x0 y0 : ByteArray) (x1 y1 : ByteArray) (x2 y2 : ByteArray) :
    (Op.equalIn (d + 2) 28 (.agg #[.string x0, .string x1, .string x2]) (.agg #[.string y0, .string y1, .string y2])).run Try.prog w = .ok (x0.toList == y0.toList && (x1.toList == y1.toList && (x2.toList == y2.toList))) w := by
  refine eqA_of Try.underlying28 (by kernel_rfl) ?_
  refine eqf_cons (by rfl) (by go_simp; rfl) (by go_simp; rfl) (by go_simp) ?_
  refine eqf_cons (by rfl) (by go_simp; rfl) (by go_simp; rfl) (by go_simp) ?_
  exact eqf_last (by rfl) (by go_simp; rfl) (by go_simp; rfl) (by go_simp)
end Go.Proofs.Ythaiodklfoegiaa.PG

namespace Go.Proofs.Ythaiodklfoegiaa.PG
open Go.Proofs.YthaiodklfoegiaaF
attribute [local go_sem high] run_feq run_fne run_flt_lt run_flt_le run_flt_gt run_flt_ge
open Go.RowKit Go.Proofs.YthaiodklfoegiaaW.PrintWords Go.Proofs.YthaiodklfoegiaaW.PrintLast Go.Proofs.YthaiodklfoegiaaW.PrintMore
attribute [local go_sem] max2_int min2_int max_two min_two max_three min_three max_four min_four   -- for this text's walks alone
set_option linter.unusedVariables false
set_option linter.unusedSimpArgs false

attribute [local go_sem high] eqA28
/-! ### api_Triple_84: function 84 -/
def api_Triple_84.l0 : Nat → List (S28) → Int → Int → ByteArray → ByteArray → ByteArray → Option (Int)
  | 0, _, _, _, _, _, _ => none
  | k + 1, x0, x7, x8, x244000, x244001, x244002 => if x8 < x7 then (if 0 ≤ x8 then (if x8 < (x0.length : Int) then (if (x244000.toList == (((rd_T28 x0 x8).f0).toList) && (x244001.toList == (((rd_T28 x0 x8).f1).toList) && (x244002.toList == (((rd_T28 x0 x8).f2).toList)))) = true then (some x8) else (api_Triple_84.l0 k x0 x7 (wrap64 (x8 + 1)) x244000 x244001 x244002)) else (none)) else (none)) else (some (-1))
def api_Triple_84.f (k : Nat) (l0 : List (S28)) (a1_0 : ByteArray) (a1_1 : ByteArray) (a1_2 : ByteArray) : Option (Int) := api_Triple_84.l0 k l0 (l0.length : Int) 0 a1_0 a1_1 a1_2
theorem api_Triple_84.mono_l : ∀ k, (∀ y0 y1 y2 y3 y4 y5, LeO (api_Triple_84.l0 k y0 y1 y2 y3 y4 y5) (api_Triple_84.l0 (k + 1) y0 y1 y2 y3 y4 y5))
  | 0 => fun _ _ _ _ _ _ r h => by simp [api_Triple_84.l0] at h
  | k + 1 => by
    have ih0 := api_Triple_84.mono_l k
    · intro y0 y1 y2 y3 y4 y5
      unfold api_Triple_84.l0
      repeat' first
      | (with_reducible exact ih0 _ _ _ _ _ _)
      | (with_reducible exact LeO.refl _)
      | (with_reducible exact LeO.none _)
      | (with_reducible refine LeO.ite ?_ ?_)
      | (with_reducible refine LeO.bind ?_ (fun _ => ?_))
      | exact ih0 _ _ _ _ _ _
      | exact LeO.none _
      | refine LeO.ite ?_ ?_
      | refine LeO.bind ?_ (fun _ => ?_)
theorem api_Triple_84.mono : ∀ a0 a1 a2 a3 k, LeO (api_Triple_84.f k a0 a1 a2 a3) (api_Triple_84.f (k + 1) a0 a1 a2 a3) := by
  intro a0 a1 a2 a3 k
  have ih0 := api_Triple_84.mono_l k
  unfold api_Triple_84.f
  repeat' first
      | (with_reducible exact ih0 _ _ _ _ _ _)
      | (with_reducible exact LeO.refl _)
      | (with_reducible exact LeO.none _)
      | (with_reducible refine LeO.ite ?_ ?_)
      | (with_reducible refine LeO.bind ?_ (fun _ => ?_))
      | exact ih0 _ _ _ _ _ _
      | exact LeO.none _
      | refine LeO.ite ?_ ?_
      | refine LeO.bind ?_ (fun _ => ?_)
set_option maxHeartbeats 8000000 in
set_option maxRecDepth 100000 in
theorem api_Triple_84.calls (k : Nat) (A0 : Option Addr) (c0 : Nat) (l0 : List (S28)) (a1_0 : ByteArray) (a1_1 : ByteArray) (a1_2 : ByteArray) (r : Int) (w : World) (hr0 : Kd.C k28 w A0 l0.length l0) (hc0 : l0.length ≤ c0) (h : api_Triple_84.f k l0 a1_0 a1_1 a1_2 = some r) :
    Calls Try.prog 84 #[.slice A0 l0.length c0, .agg #[.string a1_0, .string a1_1, .string a1_2]] w fun e w' => e = .returned (.int .i64 r) ∧ Below w.heap.size w w' := by
  have hu28 := Try.underlying28
  have HR0 := Aside0.mk hr0
  have HC0 := Aside0.mk hc0
  clear hr0 hc0
  have HB := Aside0.mk (Below.refl w.heap.size w)
  have H : (api_Triple_84.l0 k l0 (l0.length : Int) 0 a1_0 a1_1 a1_2) = some r := h
  clear h
  have H' := Aside0.mk H
  clear H
  go_enter Try.func84, Try.ntmps84
  go_wp2_with (first | ((with_reducible refine gate_dst (N := 3) rfl ?_); refine box_event ?hg (N := 3) ?hd (cs := #[.string a1_0, .string a1_1, .string a1_2]) (t := 28) ?hr ?_; (case hd => rfl); (case hg => rfl); (case hr => first | (go_simp; done) | (go_simp; rfl)); intro gb243 hg w3 hbox hb; have n0_ := Aside0.mk (below_step (by repeat (first | (with_reducible first | exact HB.out | apply below_alloc | apply pw_below_drewN | apply below_drew1) | exact HB.out)) hb); have n1_ := Aside0.mk (hbox); have n2_ := Aside0.mk ((by rw [hg]; exact (below_size (by repeat (first | (with_reducible first | exact HB.out | apply below_alloc | apply pw_below_drewN | apply below_drew1) | exact HB.out))) : w.heap.size ≤ gb243)); have n3_ := Aside0.mk ((by rw [hg]; exact (below_size (by repeat (first | (with_reducible first | exact HB.out | apply below_alloc | apply pw_below_drewN | apply below_drew1) | exact HB.out))) : w.heap.size ≤ gb243)); clear HB; have HB := n0_; have BK243 := n1_; have GW243 := n2_; have GE243 := n3_; clear n0_ n1_ n2_ n3_; clear hb hbox hg))
  repeat (go_quiet (first | ((with_reducible refine gate_dst (N := 3) rfl ?_); refine box_event ?hg (N := 3) ?hd (cs := #[.string a1_0, .string a1_1, .string a1_2]) (t := 28) ?hr ?_; (case hd => rfl); (case hg => rfl); (case hr => first | (go_simp; done) | (go_simp; rfl)); intro gb243 hg w3 hbox hb; have n0_ := Aside0.mk (below_step (by repeat (first | (with_reducible first | exact HB.out | apply below_alloc | apply pw_below_drewN | apply below_drew1) | exact HB.out)) hb); have n1_ := Aside0.mk (hbox); have n2_ := Aside0.mk ((by rw [hg]; exact (below_size (by repeat (first | (with_reducible first | exact HB.out | apply below_alloc | apply pw_below_drewN | apply below_drew1) | exact HB.out))) : w.heap.size ≤ gb243)); have n3_ := Aside0.mk ((by rw [hg]; exact (below_size (by repeat (first | (with_reducible first | exact HB.out | apply below_alloc | apply pw_below_drewN | apply below_drew1) | exact HB.out))) : w.heap.size ≤ gb243)); clear HB; have HB := n0_; have BK243 := n1_; have GW243 := n2_; have GE243 := n3_; clear n0_ n1_ n2_ n3_; clear hb hbox hg)); try go_wp2_with (first | ((with_reducible refine gate_dst (N := 3) rfl ?_); refine box_event ?hg (N := 3) ?hd (cs := #[.string a1_0, .string a1_1, .string a1_2]) (t := 28) ?hr ?_; (case hd => rfl); (case hg => rfl); (case hr => first | (go_simp; done) | (go_simp; rfl)); intro gb243 hg w3 hbox hb; have n0_ := Aside0.mk (below_step (by repeat (first | (with_reducible first | exact HB.out | apply below_alloc | apply pw_below_drewN | apply below_drew1) | exact HB.out)) hb); have n1_ := Aside0.mk (hbox); have n2_ := Aside0.mk ((by rw [hg]; exact (below_size (by repeat (first | (with_reducible first | exact HB.out | apply below_alloc | apply pw_below_drewN | apply below_drew1) | exact HB.out))) : w.heap.size ≤ gb243)); have n3_ := Aside0.mk ((by rw [hg]; exact (below_size (by repeat (first | (with_reducible first | exact HB.out | apply below_alloc | apply pw_below_drewN | apply below_drew1) | exact HB.out))) : w.heap.size ≤ gb243)); clear HB; have HB := n0_; have BK243 := n1_; have GW243 := n2_; have GE243 := n3_; clear n0_ n1_ n2_ n3_; clear hb hbox hg)))
  go_loopg [8] k (fun kq v8 w' => ∃ (x8_1 : Int), v8 = .int .i64 x8_1 ∧ Aside0 (api_Triple_84.l0 kq l0 (l0.length : Int) x8_1 a1_0 a1_1 a1_2 = some r) ∧ Aside0 (kq ≤ k) ∧ Aside0 (w'.heap[gb243]? = some (.cells #[.string a1_0, .string a1_1, .string a1_2] 28 (0, 0))) ∧ Aside0 (Below w.heap.size w w'))
  case atStart => exact ⟨(0), (by first | rfl | (simp; done) | (simp [*]; done)), H', ⟨Nat.le_refl _⟩, ⟨by (with_reducible repeat (first | refine blk_drewN ?_ _ | refine blk_drew ?_ | refine blk_alloc ?_ _)); exact BK243.out⟩, ⟨by repeat (first | (with_reducible first | exact HB.out | apply below_alloc | apply pw_below_drewN | apply below_drew1 | refine below_set ?_ GE243.out) | exact HB.out)⟩⟩
  case round =>
    clear H'
    try clear p2
    obtain ⟨x8_1, rfl, HA, HK1, BK243, HB⟩ := hrel
    cases gk with
    | zero => exact absurd HA.out (by simp [api_Triple_84.l0])
    | succ k1 =>
      have H := HA.out
      clear HA
      simp only [api_Triple_84.l0] at H
      by_cases c4 : x8_1 < (l0.length : Int)
      · rw [if_pos c4] at H
        have c4b0 : decide (x8_1 < (l0.length : Int)) = true := decide_eq_true c4
        clear c4
        by_cases c5 : 0 ≤ x8_1
        · rw [if_pos c5] at H
          have c5b0 : decide (0 ≤ x8_1) = true := decide_eq_true c5
          clear c5
          by_cases c6 : x8_1 < (l0.length : Int)
          · rw [if_pos c6] at H
            have c6b0 : decide (x8_1 < (l0.length : Int)) = true := decide_eq_true c6
            clear c6
            by_cases c7 : (a1_0.toList == (((rd_T28 l0 x8_1).f0).toList) && (a1_1.toList == (((rd_T28 l0 x8_1).f1).toList) && (a1_2.toList == (((rd_T28 l0 x8_1).f2).toList)))) = true
            · rw [if_pos c7] at H
              have c7b0 : (a1_0.toList == (((rd_T28 l0 x8_1).f0).toList) && (a1_1.toList == (((rd_T28 l0 x8_1).f1).toList) && (a1_2.toList == (((rd_T28 l0 x8_1).f2).toList)))) = true := c7
              (try (have c7b1 : decide (a1_0.toList = (((rd_T28 l0 x8_1).f0).toList) && (a1_1.toList == (((rd_T28 l0 x8_1).f1).toList) && (a1_2.toList == (((rd_T28 l0 x8_1).f2).toList)))) = true := by simpa using c7))
              (try (have c7b2 : (a1_0.toList == (((rd_T28 l0 x8_1).f0).toList) && (a1_1.toList == (((rd_T28 l0 x8_1).f1).toList) && (a1_2.toList == (((rd_T28 l0 x8_1).f2).toList)))) = true := by simpa using c7))
              clear c7
              obtain rfl := Option.some.inj H
              have hcz8_0 : wr.cell? ⟨gb243, 0, none⟩ = some (.string a1_0) := (blk_cell BK243.out 0).trans rfl
              have hcz8_1 : wr.cell? ⟨gb243, 1, none⟩ = some (.string a1_1) := (blk_cell BK243.out 1).trans rfl
              have hcz8_2 : wr.cell? ⟨gb243, 2, none⟩ = some (.string a1_2) := (blk_cell BK243.out 2).trans rfl
              have hfz8_0 := blk_frozen BK243.out 0
              have hfz8_1 := blk_frozen BK243.out 1
              have hfz8_2 := blk_frozen BK243.out 2
              have p244 : 0 ≤ (x8_1 : Int) := of_decide_eq_true (by first | (with_reducible assumption) | assumption)
              have q244 : x8_1 < (l0.length : Int) := of_decide_eq_true (by first | (with_reducible assumption) | assumption)
              obtain ⟨ad244, e244, hx244_0, hx244_1, hx244_2⟩ := at_T28 HR0.out x8_1 p244 q244
              cases e244
              replace hx244_0 := (HB.out.cell (World.block_lt_of_cell? w _ hx244_0)).trans hx244_0
              replace hx244_1 := (HB.out.cell (World.block_lt_of_cell? w _ hx244_1)).trans hx244_1
              replace hx244_2 := (HB.out.cell (World.block_lt_of_cell? w _ hx244_2)).trans hx244_2
              replace p244 := eq_true p244
              replace q244 := eq_true q244
              go_wp2
              repeat (go_quiet (fail); try go_wp2)
              go_ret
              exact ⟨by first | rfl | (simp [errW_none, errW_some] <;> rfl) | (simp [*, errW_none, errW_some] <;> rfl), by repeat (first | (with_reducible first | exact HB.out | apply below_alloc | apply pw_below_drewN | apply below_drew1 | refine below_set ?_ GE243.out) | exact HB.out)⟩
            · rw [if_neg c7] at H
              have c7b0 : (a1_0.toList == (((rd_T28 l0 x8_1).f0).toList) && (a1_1.toList == (((rd_T28 l0 x8_1).f1).toList) && (a1_2.toList == (((rd_T28 l0 x8_1).f2).toList)))) = false := by simpa using c7
              (try (have c7b1 : decide (a1_0.toList = (((rd_T28 l0 x8_1).f0).toList) && (a1_1.toList == (((rd_T28 l0 x8_1).f1).toList) && (a1_2.toList == (((rd_T28 l0 x8_1).f2).toList)))) = false := by simpa using c7))
              (try (have c7b2 : (a1_0.toList == (((rd_T28 l0 x8_1).f0).toList) && (a1_1.toList == (((rd_T28 l0 x8_1).f1).toList) && (a1_2.toList == (((rd_T28 l0 x8_1).f2).toList)))) = false := by simpa using c7))
              (try (have c7b3 : ¬ (a1_0.toList = (((rd_T28 l0 x8_1).f0).toList) && (a1_1.toList == (((rd_T28 l0 x8_1).f1).toList) && (a1_2.toList == (((rd_T28 l0 x8_1).f2).toList)))) := by simpa using c7))
              clear c7
              have H' := Aside0.mk H
              clear H
              have hcz9_0 : wr.cell? ⟨gb243, 0, none⟩ = some (.string a1_0) := (blk_cell BK243.out 0).trans rfl
              have hcz9_1 : wr.cell? ⟨gb243, 1, none⟩ = some (.string a1_1) := (blk_cell BK243.out 1).trans rfl
              have hcz9_2 : wr.cell? ⟨gb243, 2, none⟩ = some (.string a1_2) := (blk_cell BK243.out 2).trans rfl
              have hfz9_0 := blk_frozen BK243.out 0
              have hfz9_1 := blk_frozen BK243.out 1
              have hfz9_2 := blk_frozen BK243.out 2
              have p244 : 0 ≤ (x8_1 : Int) := of_decide_eq_true (by first | (with_reducible assumption) | assumption)
              have q244 : x8_1 < (l0.length : Int) := of_decide_eq_true (by first | (with_reducible assumption) | assumption)
              obtain ⟨ad244, e244, hx244_0, hx244_1, hx244_2⟩ := at_T28 HR0.out x8_1 p244 q244
              cases e244
              replace hx244_0 := (HB.out.cell (World.block_lt_of_cell? w _ hx244_0)).trans hx244_0
              replace hx244_1 := (HB.out.cell (World.block_lt_of_cell? w _ hx244_1)).trans hx244_1
              replace hx244_2 := (HB.out.cell (World.block_lt_of_cell? w _ hx244_2)).trans hx244_2
              replace p244 := eq_true p244
              replace q244 := eq_true q244
              go_wp2
              repeat (go_quiet (fail); try go_wp2)
              go_roundg k1
              case measure => have := HK1.out; omega
              case rel => exact ⟨(wrap64 (x8_1 + 1)), (by first | rfl | (simp; done) | (simp [*]; done)), H', ⟨by have := HK1.out; omega⟩, ⟨by (with_reducible repeat (first | refine blk_drewN ?_ _ | refine blk_drew ?_ | refine blk_alloc ?_ _)); exact BK243.out⟩, ⟨by repeat (first | (with_reducible first | exact HB.out | apply below_alloc | apply pw_below_drewN | apply below_drew1 | refine below_set ?_ GE243.out) | exact HB.out)⟩⟩
          · rw [if_neg c6] at H
            exact absurd H (by simp)
        · rw [if_neg c5] at H
          exact absurd H (by simp)
      · rw [if_neg c4] at H
        have c4b0 : decide (x8_1 < (l0.length : Int)) = false := decide_eq_false c4
        clear c4
        obtain rfl := Option.some.inj H
        go_wp2
        repeat (go_quiet (fail); try go_wp2)
        go_ret
        exact ⟨by first | rfl | (simp [errW_none, errW_some] <;> rfl) | (simp [*, errW_none, errW_some] <;> rfl), by repeat (first | (with_reducible first | exact HB.out | apply below_alloc | apply pw_below_drewN | apply below_drew1 | refine below_set ?_ GE243.out) | exact HB.out)⟩

end Go.Proofs.Ythaiodklfoegiaa.PG

namespace Go.Proofs.Ythaiodklfoegiaa.PG
open Go.Proofs.YthaiodklfoegiaaF
attribute [local go_sem high] run_feq run_fne run_flt_lt run_flt_le run_flt_gt run_flt_ge
open Go.RowKit Go.Proofs.YthaiodklfoegiaaW.PrintWords Go.Proofs.YthaiodklfoegiaaW.PrintLast Go.Proofs.YthaiodklfoegiaaW.PrintMore
attribute [local go_sem] max2_int min2_int max_two min_two max_three min_three max_four min_four   -- for this text's walks alone
set_option linter.unusedVariables false
set_option linter.unusedSimpArgs false

/-! ### api_Triple_77: function 77 -/
def api_Triple_77.f (k : Nat) (l0 : List (S28)) (a1_0 : ByteArray) (a1_1 : ByteArray) (a1_2 : ByteArray) : Option (Bool) := (api_Triple_84.f k l0 a1_0 a1_1 a1_2).bind fun t246 => (some (decide (t246 ≥ 0)))
theorem api_Triple_77.mono : ∀ a0 a1 a2 a3 k, LeO (api_Triple_77.f k a0 a1 a2 a3) (api_Triple_77.f (k + 1) a0 a1 a2 a3) := by
  intro a0 a1 a2 a3 k
  unfold api_Triple_77.f
  repeat' first
      | (with_reducible exact api_Triple_84.mono _ _ _ _ _)
      | (with_reducible exact LeO.refl _)
      | (with_reducible exact LeO.none _)
      | (with_reducible refine LeO.ite ?_ ?_)
      | (with_reducible refine LeO.bind ?_ (fun _ => ?_))
      | exact api_Triple_84.mono _ _ _ _ _
      | exact LeO.none _
      | refine LeO.ite ?_ ?_
      | refine LeO.bind ?_ (fun _ => ?_)
set_option maxHeartbeats 8000000 in
set_option maxRecDepth 100000 in
theorem api_Triple_77.calls (k : Nat) (A0 : Option Addr) (c0 : Nat) (l0 : List (S28)) (a1_0 : ByteArray) (a1_1 : ByteArray) (a1_2 : ByteArray) (r : Bool) (w : World) (hr0 : Kd.C k28 w A0 l0.length l0) (hc0 : l0.length ≤ c0) (h : api_Triple_77.f k l0 a1_0 a1_1 a1_2 = some r) :
    Calls Try.prog 77 #[.slice A0 l0.length c0, .agg #[.string a1_0, .string a1_1, .string a1_2]] w fun e w' => e = .returned (.bool r) ∧ Below w.heap.size w w' := by
  have hu28 := Try.underlying28
  have HR0 := Aside0.mk hr0
  have HC0 := Aside0.mk hc0
  clear hr0 hc0
  have HB := Aside0.mk (Below.refl w.heap.size w)
  have H : ((api_Triple_84.f k l0 a1_0 a1_1 a1_2).bind fun t246 => (some (decide (t246 ≥ 0)))) = some r := h
  clear h
  replace H := Option.bind_eq_some_iff.mp H
  obtain ⟨t246, A30, H⟩ := H
  replace H : (some (decide (t246 ≥ 0))) = some r := H
  have A3 := Aside0.mk A30
  clear A30
  obtain rfl := Option.some.inj H
  go_enter Try.func77, Try.ntmps77
  go_wp2_with (first | ((with_reducible refine gate_dst (N := 3) rfl ?_); refine box_event ?hg (N := 3) ?hd (cs := #[.string a1_0, .string a1_1, .string a1_2]) (t := 28) ?hr ?_; (case hd => rfl); (case hg => rfl); (case hr => first | (go_simp; done) | (go_simp; rfl)); intro gb245 hg w4 hbox hb; have n0_ := Aside0.mk (below_step (by repeat (first | (with_reducible first | exact HB.out | apply below_alloc | apply pw_below_drewN | apply below_drew1) | exact HB.out)) hb); have n1_ := Aside0.mk (hbox); have n2_ := Aside0.mk ((by rw [hg]; exact (below_size (by repeat (first | (with_reducible first | exact HB.out | apply below_alloc | apply pw_below_drewN | apply below_drew1) | exact HB.out))) : w.heap.size ≤ gb245)); have n3_ := Aside0.mk ((by rw [hg]; exact (below_size (by repeat (first | (with_reducible first | exact HB.out | apply below_alloc | apply pw_below_drewN | apply below_drew1) | exact HB.out))) : w.heap.size ≤ gb245)); clear HB; have HB := n0_; have BK245 := n1_; have GW245 := n2_; have GE245 := n3_; clear n0_ n1_ n2_ n3_; clear hb hbox hg; have hcz5_0 : w4.cell? ⟨gb245, 0, none⟩ = some (.string a1_0) := (blk_cell BK245.out 0).trans rfl; have hcz5_1 : w4.cell? ⟨gb245, 1, none⟩ = some (.string a1_1) := (blk_cell BK245.out 1).trans rfl; have hcz5_2 : w4.cell? ⟨gb245, 2, none⟩ = some (.string a1_2) := (blk_cell BK245.out 2).trans rfl; have hfz5_0 := blk_frozen BK245.out 0; have hfz5_1 := blk_frozen BK245.out 1; have hfz5_2 := blk_frozen BK245.out 2) | ((with_reducible refine gate_callee (f := 84) rfl ?_); refine goesL_ (some 7) rfl rfl Try.func84 (by kernel_rfl) rfl #[.slice A0 l0.length c0, .agg #[.string a1_0, .string a1_1, .string a1_2]] rfl (by (try simp only [List.map_toArray, List.map_cons, List.map_nil]); first | done | rfl | (simp only [List.length_drop, List.length_take]; rfl)) ?_; (with_reducible refine (api_Triple_84.calls k _ _ l0 a1_0 a1_1 a1_2 t246 _ ?side1 ?side2 A3.out).mono ?_); (case side1 => repeat (first | exact (Kd.C_below HR0.out HB.out) | (with_reducible refine Kd.C_alloc ?_ _) | (with_reducible refine Kd.C_drewN ?_ _) | (with_reducible refine Kd.C_drew ?_))); (case side2 => exact HC0.out); rintro e w6 ⟨rfl, hb⟩; refine ⟨_, rfl, ?_⟩; have n0_ := Aside0.mk (blk_below (g := gb245) (o := .cells #[.string a1_0, .string a1_1, .string a1_2] 28 (0, 0)) (by (with_reducible repeat (first | refine blk_drewN ?_ _ | refine blk_drew ?_ | refine blk_alloc ?_ _)); exact BK245.out) hb); have n1_ := Aside0.mk (below_step (by repeat (first | (with_reducible first | exact HB.out | apply below_alloc | apply pw_below_drewN | apply below_drew1 | refine below_set ?_ GE245.out) | exact HB.out)) hb); clear BK245; clear HB; have BK245 := n0_; have HB := n1_; clear n0_ n1_; (try clear hb); (try clear hb2); (try clear hk); (try clear hi)))
  go_ret
  exact ⟨by first | rfl | (simp [errW_none, errW_some] <;> rfl) | (simp [*, errW_none, errW_some] <;> rfl), by repeat (first | (with_reducible first | exact HB.out | apply below_alloc | apply pw_below_drewN | apply below_drew1 | refine below_set ?_ GE245.out) | exact HB.out)⟩

end Go.Proofs.Ythaiodklfoegiaa.PG

/- mean.allows, in plain words. -/
namespace Go.Proofs.Ythaiodklfoegiaa.MPol
open Go.RowKit Go.Proofs.YthaiodklfoegiaaW.PrintWords Go.Proofs.YthaiodklfoegiaaW.PrintLast Go.Proofs.YthaiodklfoegiaaW.PrintMore Go.Proofs.Ythaiodklfoegiaa.MLines Go.Proofs.Ythaiodklfoegiaa.MSide
open Go.Proofs.Ythaiodklfoegiaa Go.Proofs.Ythaiodklfoegiaa.PG Go.Proofs.YthaiodklfoegiaaF

theorem beq_str (a b : ByteArray) : (a.toList == b.toList) = decide (a = b) := by
  rw [Bool.eq_iff_iff, decide_eq_true_iff, beq_iff_eq, ByteArray.toList_eq, ByteArray.toList_eq]
  exact ⟨fun h => ByteArray.ext (Array.toList_inj.mp h), fun h => by rw [h]⟩
/-- Names a rule an action? -/
def namesP (r : S78) (a : ByteArray) : Prop := r.f3 = [] ∨ a ∈ r.f3
/-- Do rules allow an action? -/
def mayP (rules : List S78) (a : ByteArray) : Prop := (∃ r ∈ rules, namesP r a) ∧ ∀ r ∈ rules, namesP r a → r.f0 = false
open Classical in
noncomputable def allowsF (rules : List S78) (exc : List S28) (t : S28) : Bool := decide (mayP rules t.f2 ∧ t ∉ exc)

theorem names_f (r : S78) (a : ByteArray) (hl : r.f3.length ≤ 9223372036854775807) : ∃ b, Ev (fun k => mean_names.f k r.f0 r.f1 r.f2 r.f3 r.f4 r.f5 a) b ∧ (b = true ↔ namesP r a) := by
  unfold mean_names.f namesP
  by_cases h : r.f3 = []
  · rw [h]
    exact ⟨true, Ev.congr (f := fun _ => some true) (fun k => by simp) (Ev.now _), by simp⟩
  · have hne : ¬ ((r.f3.length : Int) = 0) := by
      intro e
      exact h (List.eq_nil_of_length_eq_zero (by omega))
    refine ⟨_, Ev.congr (f := fun k => (slices_Contains_string_string.f k r.f3 a).bind fun t => some t) (fun k => by rw [if_neg hne]) (Ev.bind (f := fun _ t => some t) (VPure.contains_f r.f3 a hl) (Ev.now _)), ?_⟩
    rw [decide_eq_true_iff, mem_nm]
    simp [h]
theorem triple_l0 (l : List S28) (t : S28) (hl : l.length ≤ 9223372036854775807) : ∀ (d n : Nat), n + d = l.length → ∃ i : Int, Ev (fun k => api_Triple_84.l0 k l l.length n t.f0 t.f1 t.f2) i ∧ (0 ≤ i ↔ t ∈ l.drop n)
  | 0, n, h => by
    rw [List.drop_eq_nil_of_le (by omega)]
    refine ⟨-1, Ev.step (f := fun _ => some (-1)) (fun k => ?_) (Ev.now _), by simp⟩
    simp only [api_Triple_84.l0]
    rw [if_neg (by omega)]
  | d + 1, n, h => by
    have hlt : n < l.length := by omega
    have hrd : rd_T28 l (n : Int) = l[n] := by simp [rd_T28, hlt]
    have hdr : l.drop n = l[n] :: l.drop (n + 1) := List.drop_eq_getElem_cons hlt
    by_cases he : t = l[n]
    · refine ⟨n, Ev.step (f := fun _ => some (n : Int)) (fun k => ?_) (Ev.now _), by rw [hdr, he]; exact ⟨fun _ => List.mem_cons_self, fun _ => by omega⟩⟩
      simp only [api_Triple_84.l0]
      rw [if_pos (by omega), if_pos (by omega), if_pos (by omega), hrd, if_pos (by rw [← he]; simp)]
    · obtain ⟨i, h1, h2⟩ := triple_l0 l t hl d (n + 1) (by omega)
      refine ⟨i, Ev.step (fun k => ?_) h1, by rw [h2, hdr, List.mem_cons]; simp [he]⟩
      have hne : ¬ ((t.f0.toList == l[n].f0.toList && (t.f1.toList == l[n].f1.toList && (t.f2.toList == l[n].f2.toList))) = true) := by
        rw [beq_str, beq_str, beq_str]
        simp only [Bool.and_eq_true, decide_eq_true_eq]
        rintro ⟨a, b, c⟩
        refine he ?_
        cases t; cases hx : l[n]; rw [hx] at a b c; simp only at a b c; subst a; subst b; subst c; rfl
      simp only [api_Triple_84.l0]
      rw [if_pos (by omega), if_pos (by omega), if_pos (by omega), hrd, if_neg hne, Go.Proofs.Ythaiodklfoegiaa.VPure.w64n hlt hl]
theorem excepted_f (l : List S28) (t : S28) (hl : l.length ≤ 9223372036854775807) : ∃ b, Ev (fun k => api_Triple_77.f k l t.f0 t.f1 t.f2) b ∧ (b = true ↔ t ∈ l) := by
  obtain ⟨i, h1, h2⟩ := triple_l0 l t hl l.length 0 (by omega)
  rw [List.drop_zero] at h2
  exact ⟨_, Ev.bind (f := fun _ t => some (decide (t ≥ 0))) h1 (Ev.now _), by rw [decide_eq_true_iff]; exact h2⟩

theorem bool_is {b q : Bool} {p : Prop} [Decidable p] (h : b = true ↔ p) (hq : decide p = q) : b = q := by
  subst hq
  rw [Bool.eq_iff_iff, decide_eq_true_iff]
  exact h
open Classical in
theorem names_go (r : S78) (A3 : Option Addr) (c3 : Nat) (a : ByteArray) (w : World) (q : Bool) (hq : decide (namesP r a) = q) (h : Kd.C Kd.string w A3 r.f3.length r.f3) (hc : r.f3.length ≤ c3) :
    Calls Try.prog 76 #[.agg (ruleV r A3 c3), .string a] w fun e w' => e = .returned (.bool q) ∧ Below w.heap.size w w' := by
  obtain ⟨b, h1, h2⟩ := names_f r a h.2.1
  obtain rfl := bool_is h2 hq
  obtain ⟨k, hk⟩ := h1.rounds
  exact mean_names.calls k r.f0 r.f1 r.f2 A3 c3 r.f3 r.f4 r.f5 a _ w h hc hk
open Classical in
theorem excepted_go (A : Option Addr) (c : Nat) (l : List S28) (t : S28) (w : World) (q : Bool) (hq : decide (t ∈ l) = q) (h : Kd.C k28 w A l.length l) (hc : l.length ≤ c) :
    Calls Try.prog 77 #[.slice A l.length c, .agg #[.string t.f0, .string t.f1, .string t.f2]] w fun e w' => e = .returned (.bool q) ∧ Below w.heap.size w w' := by
  obtain ⟨b, h1, h2⟩ := excepted_f l t h.2.1
  obtain rfl := bool_is h2 hq
  obtain ⟨k, hk⟩ := h1.rounds
  exact api_Triple_77.calls k A c l t.f0 t.f1 t.f2 _ w h hc hk
end Go.Proofs.Ythaiodklfoegiaa.MPol

/- mean.allows. -/
namespace Go.Proofs.Ythaiodklfoegiaa.MPol
open Go.RowKit Go.Proofs.YthaiodklfoegiaaW.PrintWords Go.Proofs.YthaiodklfoegiaaW.PrintLast Go.Proofs.YthaiodklfoegiaaW.PrintMore Go.Proofs.Ythaiodklfoegiaa.BMap Go.Proofs.Ythaiodklfoegiaa.BRow Go.Proofs.Ythaiodklfoegiaa.MLines Go.Proofs.Ythaiodklfoegiaa.MPut Go.Proofs.Ythaiodklfoegiaa.MClose Go.Proofs.Ythaiodklfoegiaa.MConcat Go.Proofs.Ythaiodklfoegiaa.MStand Go.Proofs.Ythaiodklfoegiaa.MSide Go.Maps
open Go.Proofs.Ythaiodklfoegiaa Go.Proofs.Ythaiodklfoegiaa.PG Go.Proofs.YthaiodklfoegiaaF

def tripV (t : S28) : Array Value := #[.string t.f0, .string t.f1, .string t.f2]
/-- allows' variables. -/
structure Alw (p : Pol) (w W : World) (t : S28) : Prop where
  below : Below w.heap.size w W
  s0 : Stays W w.heap.size p.cells 39
  s1 : Stays W (w.heap.size + 1) (tripV t) 28
theorem Alw.move {p : Pol} {w W W1 : World} {t : S28} (h : Alw p w W t) (hb : Below W.heap.size W W1) : Alw p w W1 t := ⟨below_then h.below h.below.size hb, h.s0.below hb, h.s1.below hb⟩
theorem Alw.start (p : Pol) (w : World) (t : S28) : Alw p w ((w.alloc (.cells p.cells 39)).alloc (.cells (tripV t) 28)) t := by
  have hb1 : Below w.heap.size w (w.alloc (.cells p.cells 39)) := below_alloc (Below.refl _ _) _
  have e1 := heap_alloc_new (w.alloc (.cells p.cells 39)) (.cells (tripV t) 28)
  rw [World.size_alloc] at e1
  exact ⟨below_alloc hb1 _, (Below.heap_alloc _ _ _ (by simp only [World.size_alloc]; omega)).trans (heap_alloc_new w _), e1⟩
open Classical in
theorem allowsF_iff (rules : List S78) (exc : List S28) (t : S28) : allowsF rules exc t = true ↔ mayP rules t.f2 ∧ t ∉ exc := by unfold allowsF; exact decide_eq_true_iff
theorem i28 : (Try.prog.info? 28).map (·.size) = some 3 := by kernel_rfl
theorem i4 : (Try.prog.info? 4).map (·.size) = some 1 := by kernel_rfl

open Classical in
set_option maxHeartbeats 1000000 in
set_option maxRecDepth 100000 in
theorem allows_calls (p : Pol) (A : Option Addr) (c : Nat) (l1 : List S78) (t : S28) (w : World) (hC : Kd.C k78 w A l1.length l1) (hE : Kd.C k28 w p.A10 p.d.exc.length p.d.exc) (hc : p.d.exc.length ≤ p.c10) (q : Bool) (hq : allowsF l1 p.d.exc t = q) :
    Calls Try.prog 63 #[.agg p.cells, .slice A l1.length c, .agg (tripV t)] w fun e w' => e = .returned (.bool q) ∧ Below w.heap.size w w' := by
  have hmax : l1.length ≤ 9223372036854775807 := hC.2.1
  have HC := Aside0.mk hC
  have HE := Aside0.mk hE
  have HCC := Aside0.mk hc
  have HQ := Aside0.mk hq
  have hA := Alw.start p w t
  have HA := Aside0.mk hA
  clear hA hC hE hc hq
  have hpv : ∃ pv, pv = p.cells := ⟨_, rfl⟩
  unfold Pol.cells tripV
  unfold Pol.cells tripV at HA
  clear hpv
  go_enter Try.func63, Try.ntmps63
  go_wp2
  go_loopw [7, 12] (fun u7 u12 wr => ∃ (k : Nat) (y : Bool), k ≤ l1.length ∧ u12 = .int .i64 k ∧ u7 = .bool y ∧ Aside0 (Alw p w wr t) ∧ Aside0 (y = true ↔ ∃ r ∈ l1.take k, namesP r t.f2) ∧ Aside0 (∀ r ∈ l1.take k, namesP r t.f2 → r.f0 = false)) (fun _ u12 _ => l1.length - (intOf u12).toNat)
  case atStart => exact ⟨0, false, Nat.zero_le _, rfl, rfl, HA, ⟨by simp⟩, ⟨by simp⟩⟩
  case round =>
    obtain ⟨k, y, hk, rfl, rfl, HR, HY, HN⟩ := hrel
    by_cases hlt : k < l1.length
    · obtain ⟨ad, cs, e0, hcl, hK, hcell⟩ := Kd.C_get HC.out z78 (k : Int) (by omega) (by omega)
      subst e0
      have hget : l1.getD (k : Int).toNat z78 = l1[k] := by simp [hlt]
      have hK : k78.K w l1[k] cs := by rw [← hget]; exact hK
      have htk : l1.take (k + 1) = l1.take k ++ [l1[k]] := List.take_succ_eq_append_getElem hlt
      have hin : l1[k] ∈ l1 := List.getElem_mem hlt
      obtain ⟨x, hxx⟩ : ∃ x, x = l1[k] := ⟨_, rfl⟩
      rw [← hxx] at hK htk hin
      obtain ⟨A3', c3', rfl, l3, g3⟩ := k78_open hK
      have hcw : ∀ (j : Nat) (v : Value), ([.bool x.f0, .string x.f1, .string x.f2, .slice A3' x.f3.length c3', .int .i8 x.f4, .float .f64 x.f5] : List Value)[j]? = some v → wr.cell? ((ad.add (k * 6)).add j) = some v := by
        intro j v hj
        have h0 : w.cell? (ad.add (k * 6 + j)) = some v := hcell j v hj
        rw [add_add]
        exact pw_cell_below HR.out.below h0
      have HCW := Aside0.mk hcw
      have HTK := Aside0.mk htk
      have HIN := Aside0.mk hin
      have HL3 := Aside0.mk l3
      have HG3 := Aside0.mk g3
      have c0' : (k : Int) < l1.length := by omega
      clear hcell hK hget htk hin hxx hcw hcl l3 g3
      go_upto_region 5 with (first | ((with_reducible refine gate_dst (N := 15) rfl ?_); refine wpList_load_at rfl 78 (.tmp 14) rfl (ad.add (k * 6)) ?hx [.bool x.f0, .string x.f1, .string x.f2, .slice A3' x.f3.length c3', .int .i8 x.f4, .float .f64 x.f5] HCW.out _ Try.underlying78 rfl i78 ?_; (case hx => rfl); refine wpList_alloc_store rfl rfl 78 9 (.tmp 15) rfl rfl rfl #[(.bool false), (.string ⟨#[]⟩), (.string ⟨#[]⟩), (.slice none 0 0), (.int .i8 0), (.float .f64 0)] (ruleV x A3' c3') _ (z78v _) rfl i78 rfl (by simp [ruleV, Value.oneCell']) ?hy ?hp ?_; (case hy => rfl); (case hp => rfl)))
      simp only [Act.put, List.setIfInBounds_toArray, List.set_cons_succ, List.set_cons_zero]
      have hS2 := heap_alloc_new wr (.cells (ruleV x A3' c3') 78)
      have hA2 := HR.out.move (below_alloc (Below.refl _ wr) (.cells (ruleV x A3' c3') 78))
      obtain ⟨W2, hW2⟩ : ∃ W2, W2 = wr.alloc (.cells (ruleV x A3' c3') 78) := ⟨_, rfl⟩
      obtain ⟨g9, hg9⟩ : ∃ g9, g9 = wr.heap.size := ⟨_, rfl⟩
      rw [← hg9] at hS2 ⊢
      rw [← hW2] at hS2 hA2 ⊢
      have hS2 : Stays W2 g9 (ruleV x A3' c3') 78 := hS2
      have e2 : W2.cell? ⟨w.heap.size + 1, 2, none⟩ = some (.string t.f2) := hA2.s1.cell 2
      have HA2 := Aside0.mk hA2
      have HS2 := Aside0.mk hS2
      clear hS2 hA2 hW2 hg9
      obtain ⟨nb, hnb⟩ : ∃ nb, decide (namesP x t.f2) = nb := ⟨_, rfl⟩
      have HNB := Aside0.mk hnb
      clear hnb
      obtain ⟨db, hdb⟩ : ∃ db, x.f0 = db := ⟨_, rfl⟩
      have HDB := Aside0.mk hdb
      clear hdb
      have WALK : True := trivial
      cases nb with
      | false =>
        go_wp2_with (first | ((with_reducible refine gate_dst (N := 16) rfl ?_); refine wpList_load_blk rfl 78 (.tmp 9) rfl g9 ?hx (ruleV x A3' c3') 78 HS2.out _ Try.underlying78 rfl i78 ?_; (case hx => rfl)) | (go_at_call 76; (with_reducible refine (names_go x A3' c3' t.f2 _ _ HNB.out (Kd.C_below HG3.out HA2.out.below) HL3.out).mono ?_); rintro e w3 ⟨rfl, hb3⟩; have HA3 := Aside0.mk (HA2.out.move hb3); clear hb3))
        go_roundw
        case rel => exact ⟨k + 1, y, by omega, by go_num, rfl, HA3, ⟨by rw [HTK.out, HY.out]; simp [of_decide_eq_false HNB.out]⟩, ⟨fun r hr hn => by rw [HTK.out, List.mem_append, List.mem_singleton] at hr; rcases hr with hr | rfl; exact HN.out r hr hn; exact absurd hn (of_decide_eq_false HNB.out)⟩⟩
        case measure => simp [intOf]; omega
      | true =>
        cases db with
        | true =>
          go_wp2_with (first | ((with_reducible refine gate_dst (N := 16) rfl ?_); refine wpList_load_blk rfl 78 (.tmp 9) rfl g9 ?hx (ruleV x A3' c3') 78 HS2.out _ Try.underlying78 rfl i78 ?_; (case hx => rfl)) | (go_at_call 76; (with_reducible refine (names_go x A3' c3' t.f2 _ _ HNB.out (Kd.C_below HG3.out HA2.out.below) HL3.out).mono ?_); rintro e w3 ⟨rfl, hb3⟩; have x0 : w3.cell? ⟨g9, 0, none⟩ = some (.bool true) := ((HS2.out.below hb3).cell 0).trans (by simp [ruleV, HDB.out]); have HA3 := Aside0.mk (HA2.out.move hb3); clear hb3))
          go_ret
          refine ⟨?_, HA3.out.below⟩
          have hqf : q = false := by
            rw [← HQ.out]
            refine decide_eq_false ?_
            rintro ⟨⟨-, h2⟩, -⟩
            have := h2 x HIN.out (of_decide_eq_true HNB.out)
            rw [HDB.out] at this
            cases this
          rw [hqf]
          rfl
        | false =>
          go_wp2_with (first | ((with_reducible refine gate_dst (N := 16) rfl ?_); refine wpList_load_blk rfl 78 (.tmp 9) rfl g9 ?hx (ruleV x A3' c3') 78 HS2.out _ Try.underlying78 rfl i78 ?_; (case hx => rfl)) | (go_at_call 76; (with_reducible refine (names_go x A3' c3' t.f2 _ _ HNB.out (Kd.C_below HG3.out HA2.out.below) HL3.out).mono ?_); rintro e w3 ⟨rfl, hb3⟩; have x0 : w3.cell? ⟨g9, 0, none⟩ = some (.bool false) := ((HS2.out.below hb3).cell 0).trans (by simp [ruleV, HDB.out]); have HA3 := Aside0.mk (HA2.out.move hb3); clear hb3))
          go_roundw
          case rel => exact ⟨k + 1, true, by omega, by go_num, rfl, HA3, ⟨by rw [HTK.out]; exact ⟨fun _ => ⟨x, by simp, of_decide_eq_true HNB.out⟩, fun _ => rfl⟩⟩, ⟨fun r hr hn => by rw [HTK.out, List.mem_append, List.mem_singleton] at hr; rcases hr with hr | rfl; exact HN.out r hr hn; exact HDB.out⟩⟩
          case measure => simp [intOf]; omega
    · have hkk : k = l1.length := by omega
      subst hkk
      have hY := HY.out
      have hN := HN.out
      rw [List.take_length] at hY hN
      have HY2 := Aside0.mk hY
      have HN2 := Aside0.mk hN
      clear hY hN
      have e10 := HR.out.s0.cell 10
      simp only [Pol.cells, List.getElem?_toArray, List.getElem?_cons_zero, List.getElem?_cons_succ] at e10
      have f0 : wr.cell? ⟨w.heap.size + 1, 0, none⟩ = some (.string t.f0) := HR.out.s1.cell 0
      have f1 : wr.cell? ⟨w.heap.size + 1, 1, none⟩ = some (.string t.f1) := HR.out.s1.cell 1
      have f2 : wr.cell? ⟨w.heap.size + 1, 2, none⟩ = some (.string t.f2) := HR.out.s1.cell 2
      obtain ⟨xb, hxb⟩ : ∃ xb, decide (t ∈ p.d.exc) = xb := ⟨_, rfl⟩
      have HXB := Aside0.mk hxb
      clear hxb
      have hqv : q = (y && !xb) := by
        rw [← HQ.out, Bool.eq_iff_iff, Bool.and_eq_true, Bool.not_eq_true', HY2.out, ← HXB.out, decide_eq_false_iff_not]
        rw [allowsF_iff]
        exact ⟨fun h => ⟨h.1.1, h.2⟩, fun h => ⟨⟨h.1, HN2.out⟩, h.2⟩⟩
      have HQV := Aside0.mk hqv
      clear hqv
      cases y with
      | false =>
        go_wp2
        go_ret
        refine ⟨?_, HR.out.below⟩
        rw [HQV.out]
        rfl
      | true =>
        go_wp2_with (first | (go_at_call 77; (with_reducible refine (excepted_go p.A10 p.c10 p.d.exc t _ _ HXB.out (Kd.C_below HE.out HR.out.below) HCC.out).mono ?_); rintro e w3 ⟨rfl, hb3⟩; have HA3 := Aside0.mk (HR.out.move hb3); clear hb3))
        go_ret
        refine ⟨?_, HA3.out.below⟩
        rw [HQV.out]
        rfl
end Go.Proofs.Ythaiodklfoegiaa.MPol

namespace Go.Proofs.Ythaiodklfoegiaa.PG
open Go.Proofs.YthaiodklfoegiaaF
attribute [local go_sem high] run_feq run_fne run_flt_lt run_flt_le run_flt_gt run_flt_ge
open Go.RowKit Go.Proofs.YthaiodklfoegiaaW.PrintWords Go.Proofs.YthaiodklfoegiaaW.PrintLast Go.Proofs.YthaiodklfoegiaaW.PrintMore
attribute [local go_sem] max2_int min2_int max_two min_two max_three min_three max_four min_four   -- for this text's walks alone
set_option linter.unusedVariables false
set_option linter.unusedSimpArgs false

/-! ### mean_once: function 74 -/
def mean_once.l0 : Nat → List ByteArray → List ByteArray → Int → Int → Option (List ByteArray)
  | 0, _, _, _, _ => none
  | k + 1, x3, x6, x7, x8 => if x8 < x7 then (if 0 ≤ x8 then (if x8 < (x6.length : Int) then ((slices_Contains_string_string.f k x3 (rdOf ByteArray.empty x6 x8)).bind fun t255 => (if t255 = true then (mean_once.l0 k x3 x6 x7 (wrap64 (x8 + 1))) else (if x3.length < 8796093022208 then (mean_once.l0 k (x3 ++ [rdOf ByteArray.empty x6 x8]) x6 x7 (wrap64 (x8 + 1))) else (none)))) else (none)) else (none)) else (some x3)
def mean_once.f (k : Nat) (l0 : List ByteArray) : Option (List ByteArray) := mean_once.l0 k ([] : List ByteArray) l0 (l0.length : Int) 0
theorem mean_once.mono_l : ∀ k, (∀ y0 y1 y2 y3, LeO (mean_once.l0 k y0 y1 y2 y3) (mean_once.l0 (k + 1) y0 y1 y2 y3))
  | 0 => fun _ _ _ _ r h => by simp [mean_once.l0] at h
  | k + 1 => by
    have ih0 := mean_once.mono_l k
    · intro y0 y1 y2 y3
      unfold mean_once.l0
      repeat' first
      | (with_reducible exact ih0 _ _ _ _)
      | (with_reducible exact slices_Contains_string_string.mono _ _ _)
      | (with_reducible exact LeO.refl _)
      | (with_reducible exact LeO.none _)
      | (with_reducible refine LeO.ite ?_ ?_)
      | (with_reducible refine LeO.bind ?_ (fun _ => ?_))
      | exact ih0 _ _ _ _
      | exact slices_Contains_string_string.mono _ _ _
      | exact LeO.none _
      | refine LeO.ite ?_ ?_
      | refine LeO.bind ?_ (fun _ => ?_)
theorem mean_once.mono : ∀ a0 k, LeO (mean_once.f k a0) (mean_once.f (k + 1) a0) := by
  intro a0 k
  have ih0 := mean_once.mono_l k
  unfold mean_once.f
  repeat' first
      | (with_reducible exact ih0 _ _ _ _)
      | (with_reducible exact slices_Contains_string_string.mono _ _ _)
      | (with_reducible exact LeO.refl _)
      | (with_reducible exact LeO.none _)
      | (with_reducible refine LeO.ite ?_ ?_)
      | (with_reducible refine LeO.bind ?_ (fun _ => ?_))
      | exact ih0 _ _ _ _
      | exact slices_Contains_string_string.mono _ _ _
      | exact LeO.none _
      | refine LeO.ite ?_ ?_
      | refine LeO.bind ?_ (fun _ => ?_)
set_option maxHeartbeats 8000000 in
set_option maxRecDepth 100000 in
theorem mean_once.calls (k : Nat) (A0 : Option Addr) (c0 : Nat) (l0 : List ByteArray) (r : List ByteArray) (w : World) (hr0 : Kd.C Kd.string w A0 l0.length l0) (hc0 : l0.length ≤ c0) (h : mean_once.f k l0 = some r) :
    Calls Try.prog 74 #[.slice A0 l0.length c0] w fun e w' => ∃ v0_ : Value, e = .returned (v0_) ∧ Kd.R Kd.string 9 w' w.heap.size (fun _ => True) v0_ r ∧ Below w.heap.size w w' := by
  have HR0 := Aside0.mk hr0
  have HC0 := Aside0.mk hc0
  clear hr0 hc0
  have HB := Aside0.mk (Below.refl w.heap.size w)
  have H : (mean_once.l0 k ([] : List ByteArray) l0 (l0.length : Int) 0) = some r := h
  clear h
  have H' := Aside0.mk H
  clear H
  go_enter Try.func74, Try.ntmps74
  go_wp2
  go_loopg [3, 8] k (fun kq v3 v8 w' => ∃ (x3_1 : List ByteArray) (x8_1 : Int), v8 = .int .i64 x8_1 ∧ Aside0 (mean_once.l0 kq x3_1 l0 (l0.length : Int) x8_1 = some r) ∧ Aside0 (kq ≤ k) ∧ Aside0 (Kd.R Kd.string 9 w' w.heap.size (fun _ => True) v3 x3_1) ∧ Aside0 (Below w.heap.size w w'))
  case atStart => exact ⟨(([] : List ByteArray)), (0), (by first | rfl | (simp; done) | (simp [*]; done)), H', ⟨Nat.le_refl _⟩, ⟨by first | exact Kd.R_nil _ _ _ _ _ | exact Kd.N_nil _ _ _ _ _ | exact Kd.V_nil _ _ _ _ _ | exact Kd.Q_nil _ _ _ _ _ | exact Kd.S_nil _ _ _ _ _⟩, ⟨by repeat (first | (with_reducible first | exact HB.out | apply below_alloc | apply pw_below_drewN | apply below_drew1) | exact HB.out)⟩⟩
  case round =>
    clear H'
    obtain ⟨x3_1, x8_1, rfl, HA, HK1, HO_3, HB⟩ := hrel
    cases gk with
    | zero => exact absurd HA.out (by simp [mean_once.l0])
    | succ k1 =>
      have H := HA.out
      clear HA
      simp only [mean_once.l0] at H
      by_cases c2 : x8_1 < (l0.length : Int)
      · rw [if_pos c2] at H
        have c2b0 : decide (x8_1 < (l0.length : Int)) = true := decide_eq_true c2
        clear c2
        by_cases c3 : 0 ≤ x8_1
        · rw [if_pos c3] at H
          have c3b0 : decide (0 ≤ x8_1) = true := decide_eq_true c3
          clear c3
          by_cases c4 : x8_1 < (l0.length : Int)
          · rw [if_pos c4] at H
            have c4b0 : decide (x8_1 < (l0.length : Int)) = true := decide_eq_true c4
            clear c4
            replace H := Option.bind_eq_some_iff.mp H
            obtain ⟨t255, A50, H⟩ := H
            replace H : (if t255 = true then (mean_once.l0 k1 x3_1 l0 (l0.length : Int) (wrap64 (x8_1 + 1))) else (if x3_1.length < 8796093022208 then (mean_once.l0 k1 (x3_1 ++ [rdOf ByteArray.empty l0 x8_1]) l0 (l0.length : Int) (wrap64 (x8_1 + 1))) else (none))) = some r := H
            have A5 := Aside0.mk A50
            clear A50
            by_cases c6 : t255 = true
            · subst c6
              have H1 : (mean_once.l0 k1 x3_1 l0 (l0.length : Int) (wrap64 (x8_1 + 1))) = some r := by rw [if_pos rfl] at H; exact H
              clear H
              have H := H1
              clear H1
              have H' := Aside0.mk H
              clear H
              have p254 : 0 ≤ (x8_1 : Int) := of_decide_eq_true (by first | (with_reducible assumption) | assumption)
              have q254 : x8_1 < (l0.length : Int) := of_decide_eq_true (by first | (with_reducible assumption) | assumption)
              obtain ⟨ad254, e254, hx254_0⟩ := Kd.at_string HR0.out x8_1 p254 q254
              cases e254
              replace hx254_0 := (HB.out.cell (World.block_lt_of_cell? w _ hx254_0)).trans hx254_0
              replace p254 := eq_true p254
              replace q254 := eq_true q254
              obtain ⟨Ao7, co7, eo7⟩ := Kd.R_slice HO_3.out
              subst eo7
              go_wp2_with (first | ((with_reducible refine gate_callee (f := 62) rfl ?_); refine goesL_ (some 14) rfl rfl Try.func62 (by kernel_rfl) rfl #[.slice Ao7 x3_1.length co7, .string (rdOf ByteArray.empty l0 x8_1)] rfl (by (try simp only [List.map_toArray, List.map_cons, List.map_nil]); first | done | rfl | (simp only [List.length_drop, List.length_take]; rfl)) ?_; (with_reducible refine (slices_Contains_string_string.calls k1 _ _ x3_1 (rdOf ByteArray.empty l0 x8_1) true _ ?side1 ?side2 A5.out).mono ?_); (case side1 => repeat (first | exact (Kd.R_reads' HO_3.out).2.2 | (with_reducible refine Kd.C_alloc ?_ _) | (with_reducible refine Kd.C_drewN ?_ _) | (with_reducible refine Kd.C_drew ?_))); (case side2 => exact (Kd.R_reads' HO_3.out).2.1); rintro e w' ⟨rfl, ⟨nd, rfl⟩⟩; refine ⟨_, rfl, ?_⟩))
              go_roundg k1
              case measure => have := HK1.out; omega
              case rel => exact ⟨(x3_1), (wrap64 (x8_1 + 1)), (by first | rfl | (simp; done) | (simp [*]; done)), H', ⟨by have := HK1.out; omega⟩, ⟨by (with_reducible repeat (first | apply Kd.R_alloc | apply Kd.R_drewN | apply Kd.R_drew)); exact HO_3.out⟩, ⟨by repeat (first | (with_reducible first | exact HB.out | apply below_alloc | apply pw_below_drewN | apply below_drew1) | exact HB.out)⟩⟩
            · replace c6 := Bool.eq_false_iff.mpr c6
              subst c6
              have H1 : (if x3_1.length < 8796093022208 then (mean_once.l0 k1 (x3_1 ++ [rdOf ByteArray.empty l0 x8_1]) l0 (l0.length : Int) (wrap64 (x8_1 + 1))) else (none)) = some r := by rw [if_neg (show ¬ (false = true) by decide)] at H; exact H
              clear H
              have H := H1
              clear H1
              by_cases c8 : x3_1.length < 8796093022208
              · rw [if_pos c8] at H
                have LMc8 := Aside0.mk c8
                clear c8
                obtain ⟨y256, hy256⟩ : ∃ y_ : List ByteArray, y_ = (x3_1 ++ [rdOf ByteArray.empty l0 x8_1]) := ⟨_, rfl⟩
                replace H : (mean_once.l0 k1 y256 l0 (l0.length : Int) (wrap64 (x8_1 + 1))) = some r := by first | (rw [hy256]; with_reducible exact H) | (have H2_ := (Option.bind_some _ _).symm.trans H; rw [hy256]; with_reducible exact H2_) | (have H2_ := (Option.bind_some _ _).symm.trans H; with_reducible exact H2_) | with_reducible exact H | (rw [hy256]; exact H) | exact H
                have Ny256 := Aside0.mk hy256
                clear hy256
                have H' := Aside0.mk H
                clear H
                have p254 : 0 ≤ (x8_1 : Int) := of_decide_eq_true (by first | (with_reducible assumption) | assumption)
                have q254 : x8_1 < (l0.length : Int) := of_decide_eq_true (by first | (with_reducible assumption) | assumption)
                obtain ⟨ad254, e254, hx254_0⟩ := Kd.at_string HR0.out x8_1 p254 q254
                cases e254
                replace hx254_0 := (HB.out.cell (World.block_lt_of_cell? w _ hx254_0)).trans hx254_0
                replace p254 := eq_true p254
                replace q254 := eq_true q254
                obtain ⟨Ao9, co9, eo9⟩ := Kd.R_slice HO_3.out
                subst eo9
                go_wp2_with (first | ((with_reducible refine gate_callee (f := 62) rfl ?_); refine goesL_ (some 14) rfl rfl Try.func62 (by kernel_rfl) rfl #[.slice Ao9 x3_1.length co9, .string (rdOf ByteArray.empty l0 x8_1)] rfl (by (try simp only [List.map_toArray, List.map_cons, List.map_nil]); first | done | rfl | (simp only [List.length_drop, List.length_take]; rfl)) ?_; (with_reducible refine (slices_Contains_string_string.calls k1 _ _ x3_1 (rdOf ByteArray.empty l0 x8_1) false _ ?side1 ?side2 A5.out).mono ?_); (case side1 => repeat (first | exact (Kd.R_reads' HO_3.out).2.2 | (with_reducible refine Kd.C_alloc ?_ _) | (with_reducible refine Kd.C_drewN ?_ _) | (with_reducible refine Kd.C_drew ?_))); (case side2 => exact (Kd.R_reads' HO_3.out).2.1); rintro e w' ⟨rfl, ⟨nd, rfl⟩⟩; refine ⟨_, rfl, ?_⟩) | ((with_reducible refine gate_builtin (b := .append) (xs := #[.tmp 16, .tmp 18]) rfl ?_); at_builtin; refine Kd.R_append Kd.string (w0 := w) w.heap.size rfl (.tmp 16) (.tmp 18) 22 9 (.string ⟨#[]⟩) 16 rfl Try.underlying22 info9 rfl (by decide) (by omega) (.slice Ao9 x3_1.length co9) x3_1 (rdOf ByteArray.empty l0 x8_1) [.string (rdOf ByteArray.empty l0 x8_1)] (fun _ => True) (fun _ => False) rfl rfl ?aP (fun _ hk => hk.elim) ?aF ?aO ?aB ?aS ?aL ?_; (case aP => exact rfl); (case aB => exact (by repeat (first | (with_reducible first | exact HB.out | apply below_alloc | apply pw_below_drewN | apply below_drew1) | exact HB.out))); (case aF => exact (fun _ _ => trivial)); (case aO => exact (by (with_reducible repeat (first | apply Kd.R_alloc | apply Kd.R_drewN | apply Kd.R_drew)); exact HO_3.out)); (case aS => exact (below_size (by repeat (first | (with_reducible first | exact HB.out | apply below_alloc | apply pw_below_drewN | apply below_drew1) | exact HB.out)))); (case aL => have := LMc8.out; omega); intro v257 w10 ho hb hg hat; rw [← Ny256.out] at ho; have n0_ := Aside0.mk (hb); have n1_ := Aside0.mk (ho); clear HB; clear HO_3; have HB := n0_; have HO258 := n1_; clear n0_ n1_; clear ho hb hg hat))
                go_roundg k1
                case measure => have := HK1.out; omega
                case rel => exact ⟨(y256), (wrap64 (x8_1 + 1)), (by first | rfl | (simp; done) | (simp [*]; done)), H', ⟨by have := HK1.out; omega⟩, ⟨by (with_reducible repeat (first | apply Kd.R_alloc | apply Kd.R_drewN | apply Kd.R_drew)); exact HO258.out⟩, ⟨by repeat (first | (with_reducible first | exact HB.out | apply below_alloc | apply pw_below_drewN | apply below_drew1) | exact HB.out)⟩⟩
              · rw [if_neg c8] at H
                exact absurd H (by simp)
          · rw [if_neg c4] at H
            exact absurd H (by simp)
        · rw [if_neg c3] at H
          exact absurd H (by simp)
      · rw [if_neg c2] at H
        have c2b0 : decide (x8_1 < (l0.length : Int)) = false := decide_eq_false c2
        clear c2
        obtain rfl := Option.some.inj H
        go_wp2
        go_ret
        exact ⟨_, by first | rfl | (simp [errW_none, errW_some] <;> rfl) | (simp [*, errW_none, errW_some] <;> rfl), by (with_reducible repeat (first | apply Kd.R_alloc | apply Kd.R_drewN | apply Kd.R_drew)); exact HO_3.out, by repeat (first | (with_reducible first | exact HB.out | apply below_alloc | apply pw_below_drewN | apply below_drew1) | exact HB.out)⟩

end Go.Proofs.Ythaiodklfoegiaa.PG

/- slices.IndexFunc of the subjects; mean.once. -/
namespace Go.Proofs.Ythaiodklfoegiaa.MPol
open Go.RowKit Go.Proofs.YthaiodklfoegiaaW.PrintWords Go.Proofs.YthaiodklfoegiaaW.PrintLast Go.Proofs.YthaiodklfoegiaaW.PrintMore Go.Proofs.Ythaiodklfoegiaa.BMap Go.Proofs.Ythaiodklfoegiaa.BRow Go.Proofs.Ythaiodklfoegiaa.MLines Go.Proofs.Ythaiodklfoegiaa.MPut Go.Proofs.Ythaiodklfoegiaa.MClose Go.Proofs.Ythaiodklfoegiaa.MConcat Go.Proofs.Ythaiodklfoegiaa.MStand Go.Proofs.Ythaiodklfoegiaa.MSide Go.Maps
open Go.Proofs.Ythaiodklfoegiaa Go.Proofs.Ythaiodklfoegiaa.PG Go.Proofs.YthaiodklfoegiaaF

set_option maxHeartbeats 1000000 in
set_option maxRecDepth 100000 in
theorem same_calls (n : ByteArray) (f g : Nat) (s : ByteArray) (w : World) (h : w.cell? ⟨g, 0, none⟩ = some (.string s)) (q : Bool) (hq : decide (n = s) = q) :
    Calls Try.prog 73 #[.agg #[.string n, .float .f64 f], .pointer (some ⟨g, 0, none⟩)] w fun e w' => e = .returned (.bool q) ∧ Below w.heap.size w w' := by
  have hb := beq_str n s
  rw [hq] at hb
  have h2 : (w.alloc (.cells #[.string n, .float .f64 f] 54)).cell? ⟨g, 0, none⟩ = some (.string s) := pw_cell_below (below_alloc (Below.refl _ _) _) h
  clear hq h
  go_enter Try.func73, Try.ntmps73
  go_wp2
  go_ret
  refine ⟨?_, below_alloc (Below.refl _ _) _⟩
  first | rfl | (rw [← hb]; rfl)

set_option maxHeartbeats 1000000 in
set_option maxRecDepth 100000 in
theorem index_calls (A : Option Addr) (c : Nat) (l : List S54) (g : Nat) (s : ByteArray) (w : World) (hC : Kd.C k54 w A l.length l) (hg : w.cell? ⟨g, 0, none⟩ = some (.string s)) (i : Nat) (hi : i < l.length) (he : l[i].f0 = s) :
    Calls Try.prog 72 #[.slice A l.length c, .func (.func 73) #[] #[.pointer (some ⟨g, 0, none⟩)]] w fun e w' => ∃ j : Nat, e = .returned (.int .i64 j) ∧ j ≤ i ∧ (∃ h : j < l.length, l[j].f0 = s) ∧ (∀ x ∈ l.take j, x.f0 ≠ s) ∧ Below w.heap.size w w' := by
  have hmax : l.length ≤ 9223372036854775807 := hC.2.1
  have HC := Aside0.mk hC
  have HG := Aside0.mk hg
  have HE := Aside0.mk he
  have HI := Aside0.mk hi
  clear hC hg he
  go_enter Try.func72, Try.ntmps72
  go_wp2
  go_loopw [8] (fun u wr => ∃ k : Nat, k ≤ i ∧ u = .int .i64 k ∧ Aside0 (Below w.heap.size w wr) ∧ Aside0 (∀ x ∈ l.take k, x.f0 ≠ s)) (fun u _ => l.length - (intOf u).toNat)
  case atStart => exact ⟨0, Nat.zero_le _, rfl, ⟨Below.refl _ _⟩, ⟨by simp⟩⟩
  case round =>
    obtain ⟨k, hk, rfl, HB, HN⟩ := hrel
    have hlt : k < l.length := Nat.lt_of_le_of_lt hk HI.out
    obtain ⟨ad, e0, hx0, hx1⟩ := at_T54 HC.out (k : Int) (by omega) (by omega)
    subst e0
    have hget : rd_T54 l (k : Int) = l[k] := by simp [rd_T54, hlt]
    simp only [hget, Int.toNat_natCast] at hx0 hx1
    have htk : l.take (k + 1) = l.take k ++ [l[k]] := List.take_succ_eq_append_getElem hlt
    have hki : l[k].f0 ≠ s → k < i := fun h => by
      have : k ≠ i := fun e => h (by subst e; exact HE.out)
      omega
    have HW := Aside0.mk (show ∃ h : k < l.length, l[k].f0 = l[k].f0 from ⟨hlt, rfl⟩)
    obtain ⟨x, hxx⟩ : ∃ x, x = l[k] := ⟨_, rfl⟩
    rw [← hxx] at hx0 hx1 htk hki
    have HXX := Aside0.mk hxx
    have HTK := Aside0.mk htk
    have HKI := Aside0.mk hki
    have y0 := pw_cell_below HB.out hx0
    have y1 := pw_cell_below HB.out hx1
    have hg2 := pw_cell_below HB.out HG.out
    have HG2 := Aside0.mk hg2
    have c0' : (k : Int) < l.length := by omega
    obtain ⟨q, hq⟩ : ∃ q, decide (x.f0 = s) = q := ⟨_, rfl⟩
    have HQ := Aside0.mk hq
    clear hq hx0 hx1 hget hxx htk hki hg2
    cases q with
    | true =>
      go_wp2_with (first | (go_at_call 73; (with_reducible refine (same_calls x.f0 x.f1 g s _ HG2.out _ HQ.out).mono ?_); rintro e w3 ⟨rfl, hb3⟩; have HB3 := Aside0.mk (below_then HB.out HB.out.size hb3); clear hb3))
      go_ret
      exact ⟨k, rfl, hk, ⟨hlt, by rw [← HXX.out]; exact of_decide_eq_true HQ.out⟩, HN.out, HB3.out⟩
    | false =>
      go_wp2_with (first | (go_at_call 73; (with_reducible refine (same_calls x.f0 x.f1 g s _ HG2.out _ HQ.out).mono ?_); rintro e w3 ⟨rfl, hb3⟩; have HB3 := Aside0.mk (below_then HB.out HB.out.size hb3); clear hb3))
      have hne := of_decide_eq_false HQ.out
      go_roundw
      case rel => exact ⟨k + 1, HKI.out hne, by go_num, HB3, ⟨fun y hy => by rw [HTK.out, List.mem_append, List.mem_singleton] at hy; rcases hy with hy | rfl; exact HN.out y hy; exact hne⟩⟩
      case measure => simp [intOf]; omega

theorem putAll_short (L : List ByteArray) : ∀ xs : List ByteArray, (MPut.putAll L xs).length ≤ L.length + xs.length := by
  intro xs
  induction xs generalizing L with
  | nil => simp [MPut.putAll]
  | cons x r ih =>
    have h1 := ih (put1 L x)
    have h2 : (put1 L x).length ≤ L.length + 1 := by unfold put1; split <;> simp
    show (MPut.putAll (put1 L x) r).length ≤ _
    simp only [List.length_cons]
    omega
theorem once_ev (l : List ByteArray) (hl : l.length ≤ 8796093022207) : ∀ (d n : Nat), n + d = l.length → Ev (fun k => mean_once.l0 k (MPut.putAll [] (l.take n)) l l.length n) (MPut.putAll [] l)
  | 0, n, h => by
    rw [List.take_of_length_le (by omega)]
    refine Ev.step (f := fun _ => some _) (fun k => ?_) (Ev.now _)
    simp only [mean_once.l0]
    rw [if_neg (by omega)]
  | d + 1, n, h => by
    have hlt : n < l.length := by omega
    have hrd : rdOf ByteArray.empty l (n : Int) = l[n] := by simp [rdOf, hlt]
    have htk : l.take (n + 1) = l.take n ++ [l[n]] := List.take_succ_eq_append_getElem hlt
    have hnx : MPut.putAll [] (l.take (n + 1)) = put1 (MPut.putAll [] (l.take n)) l[n] := by rw [htk, MPut.putAll_snoc]
    have hsh := putAll_short [] (l.take n)
    have hsh : (MPut.putAll [] (l.take n)).length < 8796093022208 := by
      rw [List.length_take] at hsh
      simp only [List.length_nil] at hsh
      omega
    have hc := VPure.contains_f (MPut.putAll [] (l.take n)) l[n] (by omega)
    refine Ev.step (f := fun k => (slices_Contains_string_string.f k (MPut.putAll [] (l.take n)) l[n]).bind fun t => if t = true then mean_once.l0 k (MPut.putAll [] (l.take n)) l l.length ((n + 1 : Nat) : Int) else if (MPut.putAll [] (l.take n)).length < 8796093022208 then mean_once.l0 k (MPut.putAll [] (l.take n) ++ [l[n]]) l l.length ((n + 1 : Nat) : Int) else none) (fun k => ?_) (Ev.bind (f := fun k t => if t = true then mean_once.l0 k (MPut.putAll [] (l.take n)) l l.length ((n + 1 : Nat) : Int) else if (MPut.putAll [] (l.take n)).length < 8796093022208 then mean_once.l0 k (MPut.putAll [] (l.take n) ++ [l[n]]) l l.length ((n + 1 : Nat) : Int) else none) hc ?_)
    · simp only [mean_once.l0]
      rw [if_pos (by omega), if_pos (by omega), if_pos (by omega), hrd, VPure.w64n hlt (by omega)]
    · have ih := once_ev l hl d (n + 1) (by omega)
      rw [hnx] at ih
      by_cases hm : l[n] ∈ MPut.putAll [] (l.take n)
      · rw [decide_eq_true ((mem_nm _ _).2 hm)]
        refine Ev.congr (fun k => ?_) ih
        rw [if_pos rfl, put1, if_pos hm]
      · rw [decide_eq_false (fun e => hm ((mem_nm _ _).1 e))]
        refine Ev.congr (fun k => ?_) ih
        rw [if_neg (by simp), if_pos hsh, put1, if_neg hm]
theorem once_go (A : Option Addr) (c : Nat) (l : List ByteArray) (w : World) (hC : Kd.C Kd.string w A l.length l) (hc : l.length ≤ c) (hl : l.length ≤ 8796093022207) :
    Calls Try.prog 74 #[.slice A l.length c] w fun e w' => ∃ v, e = .returned v ∧ Kd.R Kd.string 9 w' w.heap.size (fun _ => True) v (MPut.putAll [] l) ∧ Below w.heap.size w w' := by
  obtain ⟨k, hk⟩ := (once_ev l hl l.length 0 (by omega)).rounds
  exact mean_once.calls k A c l _ w hC hc hk
end Go.Proofs.Ythaiodklfoegiaa.MPol

/- mean.Allows. -/
namespace Go.Proofs.Ythaiodklfoegiaa.MPol
open Go.RowKit Go.Proofs.YthaiodklfoegiaaW.PrintWords Go.Proofs.YthaiodklfoegiaaW.PrintLast Go.Proofs.YthaiodklfoegiaaW.PrintMore Go.Proofs.Ythaiodklfoegiaa.BMap Go.Proofs.Ythaiodklfoegiaa.BRow Go.Proofs.Ythaiodklfoegiaa.MLines Go.Proofs.Ythaiodklfoegiaa.MPut Go.Proofs.Ythaiodklfoegiaa.MClose Go.Proofs.Ythaiodklfoegiaa.MConcat Go.Proofs.Ythaiodklfoegiaa.MStand Go.Proofs.Ythaiodklfoegiaa.MSide Go.Maps
open Go.Proofs.Ythaiodklfoegiaa Go.Proofs.Ythaiodklfoegiaa.PG Go.Proofs.YthaiodklfoegiaaF

/-- The rules that speak of a subject and an object. -/
noncomputable def PolD.speak (d : PolD) (s o : ByteArray) (tr : Nat) : List S78 := d.rules.filter fun r => speaksB r (d.who s) (d.what o) tr
open Classical in
/-- Does a policy allow a triple? -/
noncomputable def PolD.allowB (d : PolD) (t : S28) : Bool := (d.trust t.f0).isSome && (decide (t.f1 ∈ d.objs) && (decide (t.f2 ∈ d.acts) && allowsF (d.speak t.f0 t.f1 ((d.trust t.f0).getD 0)) d.exc t))

/-- Allows' variables. -/
structure AlS (p : Pol) (w : World) (t : S28) (g5 g7 : Nat) (v5 v7 : Array Value) (W : World) : Prop where
  below : Below w.heap.size w W
  s0 : Stays W w.heap.size p.cells 39
  s1 : Stays W (w.heap.size + 1) (tripV t) 28
  s5 : Stays W g5 v5 95
  s7 : Stays W g7 v7 95
theorem AlS.move {p : Pol} {w W W1 : World} {t : S28} {g5 g7 : Nat} {v5 v7 : Array Value} (h : AlS p w t g5 g7 v5 v7 W) (hb : Below W.heap.size W W1) : AlS p w t g5 g7 v5 v7 W1 := ⟨below_then h.below h.below.size hb, h.s0.below hb, h.s1.below hb, h.s5.below hb, h.s7.below hb⟩
theorem Stays.range {w : World} {g t : Nat} {cs : Array Value} (h : Stays w g cs t) (l : List Value) (hl : cs.toList = l) : w.rangeAt g 0 l := fun j v hv => by
  subst hl
  rw [h.cell, Nat.zero_add, ← hv]; simp
theorem SideOf.ones {W : World} {q : Bool} {v : Array Value} {name : ByteArray} {trust : Nat} {R : ByteArray → Prop} (h : SideOf W q v name trust R) : ∀ u ∈ v.toList, u.oneCell' = true := fun u hu => Array.all_eq_true_iff_forall_mem.1 h.one u (by simpa using hu)
theorem info_of {v : Array Value} (h : v.size = 3) : (Try.prog.info? 95).map (·.size) = some v.size := by rw [h]; exact i95
theorem about_to (p : Pol) (n1 : ByteArray) (t1 b1 : Nat) (R1 : ByteArray → Prop) (n2 : ByteArray) (t2 b2 : Nat) (R2 : ByteArray → Prop) (w : World) (hp : p.In w) (hd : p.d.Ok) (h1 : IsSet w b1 R1) (h2 : IsSet w b2 R2) (v1 v2 : Array Value) (hv1 : v1 = sideV n1 t1 b1) (hv2 : v2 = sideV n2 t2 b2) :
    Calls Try.prog 64 #[.agg p.cells, .agg v1, .agg v2] w fun e w' => ∃ v, e = .returned v ∧ ∃ A c, v = .slice A (p.d.rules.filter fun r => speaksB r R1 R2 t1).length c ∧ (p.d.rules.filter fun r => speaksB r R1 R2 t1).length ≤ c ∧ Kd.C k78 w' A (p.d.rules.filter fun r => speaksB r R1 R2 t1).length (p.d.rules.filter fun r => speaksB r R1 R2 t1) ∧ Below w.heap.size w w' := by
  subst hv1; subst hv2; exact about_calls p n1 t1 b1 R1 n2 t2 b2 R2 w hp hd h1 h2
theorem i39 : (Try.prog.info? 39).map (·.size) = some 11 := by kernel_rfl

open Classical in
set_option maxHeartbeats 2000000 in
set_option maxRecDepth 100000 in
theorem Allows_calls (p : Pol) (t : S28) (w : World) (hp : p.In w) (hd : p.d.Ok) (h0 : okS t.f0) (h1 : okS t.f1) :
    Calls Try.prog 26 #[.agg p.cells, .agg (tripV t)] w fun e w' => e = .returned (.bool (p.d.allowB t)) ∧ Below w.heap.size w w' := by
  have HP := Aside0.mk hp
  have HD := Aside0.mk hd
  have H0 := Aside0.mk h0
  have H1 := Aside0.mk h1
  have hA := Alw.start p w t
  have HA := Aside0.mk hA
  clear hp hd h0 h1 hA
  obtain ⟨q1, hq1⟩ : ∃ q, (p.d.trust t.f0).isSome = q := ⟨_, rfl⟩
  obtain ⟨q2, hq2⟩ : ∃ q, decide (t.f1 ∈ p.d.objs) = q := ⟨_, rfl⟩
  obtain ⟨q3, hq3⟩ : ∃ q, decide (t.f2 ∈ p.d.acts) = q := ⟨_, rfl⟩
  obtain ⟨q4, hq4⟩ : ∃ q, allowsF (p.d.speak t.f0 t.f1 ((p.d.trust t.f0).getD 0)) p.d.exc t = q := ⟨_, rfl⟩
  have hres : p.d.allowB t = (q1 && (q2 && (q3 && q4))) := by unfold PolD.allowB; rw [hq1, hq2, hq3, hq4]
  rw [hres]
  have Q1 := Aside0.mk hq1
  have Q2 := Aside0.mk hq2
  have Q3 := Aside0.mk hq3
  have Q4 := Aside0.mk hq4
  clear hq1 hq2 hq3 hq4 hres
  have a0 := HA.out.s1.cell 0
  have a1 := HA.out.s1.cell 1
  have a2 := HA.out.s1.cell 2
  simp only [tripV, List.getElem?_toArray, List.getElem?_cons_zero, List.getElem?_cons_succ, Pol.cells] at a0 a1 a2
  unfold Pol.cells tripV
  unfold Pol.cells tripV at HA
  go_enter Try.func26, Try.ntmps26
  go_upto_region 2 with (first | ((with_reducible refine gate_dst (N := 10) rfl ?_); refine wpList_load_blk rfl 39 (.tmp 2) rfl w.heap.size ?hx #[.slice p.A0 p.d.acts.length p.c0, .slice p.A1 p.d.subs.length p.c1, .slice p.A2 p.d.roles.length p.c2, .slice p.A3 p.d.objs.length p.c3, .slice p.A4 p.d.grps.length p.c4, .slice p.A5 p.d.mem.length p.c5, .slice p.A6 p.d.inh.length p.c6, .slice p.A7 p.d.par.length p.c7, .slice p.A8 p.d.wit.length p.c8, .slice p.A9 p.d.rules.length p.c9, .slice p.A10 p.d.exc.length p.c10] 39 HA.out.s0 _ Try.underlying39 rfl i39 ?_; (case hx => rfl)) | (go_at_call 60; (refine (subject_calls p t.f0 _ (HP.out.below HA.out.below) HD.out H0.out).mono ?_); rintro e w3 ⟨v5, rfl, hS5, hb⟩; rw [Q1.out]; rw [Q1.out] at hS5; have Z5 := Aside0.mk hS5.size; have O5 := Aside0.mk hS5.ones; have HS5 := Aside0.mk hS5; have X := HA.out.move hb; clear hb hS5 HA a0 a1 a2; have HA := Aside0.mk X; clear X) | ((with_reducible refine gate_dst (N := 5) rfl ?_); refine wpList_alloc_store rfl rfl 95 5 (.tmp 14) rfl rfl rfl noneV v5 _ (z95 _) rfl (info_of Z5.out) Z5.out.symm O5.out ?hy ?hp ?_; (case hy => rfl); (case hp => rfl)))
  (try simp only [Act.put, List.setIfInBounds_toArray, List.set_cons_succ, List.set_cons_zero])
  have hs5 := heap_alloc_new w3 (.cells v5 95)
  have hb4 := below_alloc (Below.refl _ w3) (.cells v5 95)
  have hA4 := HA.out.move hb4
  have hS54 := HS5.out.below hb4
  obtain ⟨W4, hW4⟩ : ∃ W4, W4 = w3.alloc (.cells v5 95) := ⟨_, rfl⟩
  obtain ⟨g5, hg5⟩ : ∃ g5, g5 = w3.heap.size := ⟨_, rfl⟩
  rw [← hg5] at hs5 ⊢
  rw [← hW4] at hs5 hA4 hS54 ⊢
  have hs5 : Stays W4 g5 v5 95 := hs5
  have a1 : W4.cell? ⟨w.heap.size + 1, 1, none⟩ = some (.string t.f1) := hA4.s1.cell 1
  have ST5 := Aside0.mk hs5
  have HA4 := Aside0.mk hA4
  have HS54 := Aside0.mk hS54
  clear hs5 hb4 hA4 hS54 hW4 hg5 HA HS5
  go_upto_region 3 with (first | ((with_reducible refine gate_dst (N := 17) rfl ?_); refine wpList_load_blk rfl 39 (.tmp 2) rfl w.heap.size ?hx #[.slice p.A0 p.d.acts.length p.c0, .slice p.A1 p.d.subs.length p.c1, .slice p.A2 p.d.roles.length p.c2, .slice p.A3 p.d.objs.length p.c3, .slice p.A4 p.d.grps.length p.c4, .slice p.A5 p.d.mem.length p.c5, .slice p.A6 p.d.inh.length p.c6, .slice p.A7 p.d.par.length p.c7, .slice p.A8 p.d.wit.length p.c8, .slice p.A9 p.d.rules.length p.c9, .slice p.A10 p.d.exc.length p.c10] 39 HA4.out.s0 _ Try.underlying39 rfl i39 ?_; (case hx => rfl)) | (go_at_call 61; (refine (object_calls p t.f1 _ (HP.out.below HA4.out.below) HD.out H1.out q2 Q2.out).mono ?_); rintro e w5 ⟨v7, rfl, hS7, hb⟩; have Z7 := Aside0.mk hS7.size; have O7 := Aside0.mk hS7.ones; have HS7 := Aside0.mk hS7; have HA5 := Aside0.mk (HA4.out.move hb); have ST55 := Aside0.mk (ST5.out.below hb); have HS55 := Aside0.mk (HS54.out.below hb); clear hb hS7) | ((with_reducible refine gate_dst (N := 7) rfl ?_); refine wpList_alloc_store rfl rfl 95 7 (.tmp 21) rfl rfl rfl noneV v7 _ (z95 _) rfl (info_of Z7.out) Z7.out.symm O7.out ?hy ?hp ?_; (case hy => rfl); (case hp => rfl)))
  (try simp only [Act.put, List.setIfInBounds_toArray, List.set_cons_succ, List.set_cons_zero])
  have hs7 := heap_alloc_new w5 (.cells v7 95)
  have hb6 := below_alloc (Below.refl _ w5) (.cells v7 95)
  have hA6 := HA5.out.move hb6
  have hS56 := HS55.out.below hb6
  have hS76 := HS7.out.below hb6
  have hst5 := ST55.out.below hb6
  obtain ⟨W6, hW6⟩ : ∃ W6, W6 = w5.alloc (.cells v7 95) := ⟨_, rfl⟩
  obtain ⟨g7, hg7⟩ : ∃ g7, g7 = w5.heap.size := ⟨_, rfl⟩
  rw [← hg7] at hs7 ⊢
  rw [← hW6] at hs7 hA6 hS56 hS76 hst5 ⊢
  have hs7 : Stays W6 g7 v7 95 := hs7
  have hAS : AlS p w t g5 g7 v5 v7 W6 := ⟨hA6.below, hA6.s0, hA6.s1, hst5, hs7⟩
  have HAS := Aside0.mk hAS
  have HS5 := Aside0.mk hS56
  have HS7' := Aside0.mk hS76
  clear hs7 hb6 hA6 hS56 hS76 hst5 hW6 hg7 hAS HA4 HA5 ST5 ST55 HS54 HS55 HS7 a1
  cases q1 with
  | false =>
    refine start_ (n := 21) (S := AlS p w t g5 g7 v5 v7) (ds := []) #[false, false, false, false, false, false, false, false, false, false, false, false, false, false, false, false, false, false, false, false, false] (by kernel_rfl) rfl rfl (HAS.out.move (below_drew (Below.refl _ _))) (fun hHeld => ?_)
    have HB7 := Aside0.mk (below_drew (Below.refl W6.heap.size W6))
    have HQ5 := Aside0.mk (HS5.out.below HB7.out)
    have HQ7 := Aside0.mk (HS7'.out.below HB7.out)
    generalize W6.drew = W7 at hHeld HQ5 HQ7 ⊢
    clear HB7
    refine pure_ (i := 0) (N := some 23) (v := ?_) (a' := ?_) #[true, false, false, false, false, false, false, false, false, false, false, false, false, false, false, false, false, false, false, false, false] rfl rfl (by kernel_rfl) (fun _ _ _ h => h) (Or.inl ⟨by rfl, ?_⟩) ?_ ?_
    rotate_left
    · intro w'
      go_simp
      with_reducible rfl
    rotate_left
    · simp only [Act.put, List.setIfInBounds_toArray, List.set_cons_zero, List.set_cons_succ]
      rfl
    refine pure_ (i := 1) (N := some 24) (v := ?_) (a' := ?_) #[true, true, false, false, false, false, false, false, false, false, false, false, false, false, false, false, false, false, false, false, false] rfl rfl (by kernel_rfl) (fun _ _ _ h => h) (Or.inl ⟨by rfl, ?_⟩) ?_ ?_
    rotate_left
    · intro w'
      go_simp
      with_reducible rfl
    rotate_left
    · simp only [Act.put, List.setIfInBounds_toArray, List.set_cons_zero, List.set_cons_succ]
      rfl
    refine pure_ (i := 2) (N := some 25) (v := undef) (a' := ?_) #[true, true, true, false, false, false, false, false, false, false, false, false, false, false, false, false, false, false, false, false, false] rfl rfl (by kernel_rfl) (fun _ _ _ h => h) (Or.inr ⟨by rfl, rfl⟩) ?_ ?_
    rotate_left
    · simp only [Act.put, List.setIfInBounds_toArray, List.set_cons_zero, List.set_cons_succ]
      rfl
    refine pure_ (i := 3) (N := some 26) (v := ?_) (a' := ?_) #[true, true, true, true, false, false, false, false, false, false, false, false, false, false, false, false, false, false, false, false, false] rfl rfl (by kernel_rfl) (fun _ _ _ h => h) (Or.inl ⟨by rfl, ?_⟩) ?_ ?_
    rotate_left
    · intro w'
      go_simp
      with_reducible rfl
    rotate_left
    · simp only [Act.put, List.setIfInBounds_toArray, List.set_cons_zero, List.set_cons_succ]
      rfl
    refine pure_ (i := 4) (N := some 27) (v := ?_) (a' := ?_) #[true, true, true, true, true, false, false, false, false, false, false, false, false, false, false, false, false, false, false, false, false] rfl rfl (by kernel_rfl) (fun _ _ _ h => h) (Or.inl ⟨by rfl, ?_⟩) ?_ ?_
    rotate_left
    · intro w'
      go_simp
      with_reducible rfl
    rotate_left
    · simp only [Act.put, List.setIfInBounds_toArray, List.set_cons_zero, List.set_cons_succ]
      rfl
    refine pure_ (i := 5) (N := some 28) (v := undef) (a' := ?_) #[true, true, true, true, true, true, false, false, false, false, false, false, false, false, false, false, false, false, false, false, false] rfl rfl (by kernel_rfl) (fun _ _ _ h => h) (Or.inr ⟨by rfl, rfl⟩) ?_ ?_
    rotate_left
    · simp only [Act.put, List.setIfInBounds_toArray, List.set_cons_zero, List.set_cons_succ]
      rfl
    refine pure_ (i := 6) (N := some 29) (v := undef) (a' := ?_) #[true, true, true, true, true, true, true, false, false, false, false, false, false, false, false, false, false, false, false, false, false] rfl rfl (by kernel_rfl) (fun _ _ _ h => h) (Or.inr ⟨by rfl, rfl⟩) ?_ ?_
    rotate_left
    · simp only [Act.put, List.setIfInBounds_toArray, List.set_cons_zero, List.set_cons_succ]
      rfl
    refine pure_ (i := 7) (N := some 30) (v := undef) (a' := ?_) #[true, true, true, true, true, true, true, true, false, false, false, false, false, false, false, false, false, false, false, false, false] rfl rfl (by kernel_rfl) (fun _ _ _ h => h) (Or.inr ⟨by rfl, rfl⟩) ?_ ?_
    rotate_left
    · simp only [Act.put, List.setIfInBounds_toArray, List.set_cons_zero, List.set_cons_succ]
      rfl
    refine pure_ (i := 8) (N := some 31) (v := undef) (a' := ?_) #[true, true, true, true, true, true, true, true, true, false, false, false, false, false, false, false, false, false, false, false, false] rfl rfl (by kernel_rfl) (fun _ _ _ h => h) (Or.inr ⟨by rfl, rfl⟩) ?_ ?_
    rotate_left
    · simp only [Act.put, List.setIfInBounds_toArray, List.set_cons_zero, List.set_cons_succ]
      rfl
    refine pure_ (i := 9) (N := some 32) (v := undef) (a' := ?_) #[true, true, true, true, true, true, true, true, true, true, false, false, false, false, false, false, false, false, false, false, false] rfl rfl (by kernel_rfl) (fun _ _ _ h => h) (Or.inr ⟨by rfl, rfl⟩) ?_ ?_
    rotate_left
    · simp only [Act.put, List.setIfInBounds_toArray, List.set_cons_zero, List.set_cons_succ]
      rfl
    refine pure_ (i := 10) (N := some 33) (v := ?_) (a' := ?_) #[true, true, true, true, true, true, true, true, true, true, true, false, false, false, false, false, false, false, false, false, false] rfl rfl (by kernel_rfl) (fun _ _ _ h => h) (Or.inl ⟨by rfl, ?_⟩) ?_ ?_
    rotate_left
    · intro w'
      go_simp
      with_reducible rfl
    rotate_left
    · simp only [Act.put, List.setIfInBounds_toArray, List.set_cons_zero, List.set_cons_succ]
      rfl
    refine pure_ (i := 11) (N := some 34) (v := ?_) (a' := ?_) #[true, true, true, true, true, true, true, true, true, true, true, true, false, false, false, false, false, false, false, false, false] rfl rfl (by kernel_rfl) (fun _ _ _ h => h) (Or.inl ⟨by rfl, ?_⟩) ?_ ?_
    rotate_left
    · intro w'
      go_simp
      with_reducible rfl
    rotate_left
    · simp only [Act.put, List.setIfInBounds_toArray, List.set_cons_zero, List.set_cons_succ]
      rfl
    refine pure_ (i := 12) (N := some 35) (v := undef) (a' := ?_) #[true, true, true, true, true, true, true, true, true, true, true, true, true, false, false, false, false, false, false, false, false] rfl rfl (by kernel_rfl) (fun _ _ _ h => h) (Or.inr ⟨by rfl, rfl⟩) ?_ ?_
    rotate_left
    · simp only [Act.put, List.setIfInBounds_toArray, List.set_cons_zero, List.set_cons_succ]
      rfl
    refine pure_ (i := 13) (N := some 36) (v := undef) (a' := ?_) #[true, true, true, true, true, true, true, true, true, true, true, true, true, true, false, false, false, false, false, false, false] rfl rfl (by kernel_rfl) (fun _ _ _ h => h) (Or.inr ⟨by rfl, rfl⟩) ?_ ?_
    rotate_left
    · simp only [Act.put, List.setIfInBounds_toArray, List.set_cons_zero, List.set_cons_succ]
      rfl
    refine pure_ (i := 14) (N := some 37) (v := undef) (a' := ?_) #[true, true, true, true, true, true, true, true, true, true, true, true, true, true, true, false, false, false, false, false, false] rfl rfl (by kernel_rfl) (fun _ _ _ h => h) (Or.inr ⟨by rfl, rfl⟩) ?_ ?_
    rotate_left
    · simp only [Act.put, List.setIfInBounds_toArray, List.set_cons_zero, List.set_cons_succ]
      rfl
    refine pure_ (i := 15) (N := some 38) (v := undef) (a' := ?_) #[true, true, true, true, true, true, true, true, true, true, true, true, true, true, true, true, false, false, false, false, false] rfl rfl (by kernel_rfl) (fun _ _ _ h => h) (Or.inr ⟨by rfl, rfl⟩) ?_ ?_
    rotate_left
    · simp only [Act.put, List.setIfInBounds_toArray, List.set_cons_zero, List.set_cons_succ]
      rfl
    refine pure_ (i := 17) (N := some 40) (v := undef) (a' := ?_) #[true, true, true, true, true, true, true, true, true, true, true, true, true, true, true, true, false, true, false, false, false] rfl rfl (by kernel_rfl) (fun _ _ _ h => h) (Or.inr ⟨by rfl, rfl⟩) ?_ ?_
    rotate_left
    · simp only [Act.put, List.setIfInBounds_toArray, List.set_cons_zero, List.set_cons_succ]
      rfl
    refine pure_ (i := 16) (N := some 39) (v := undef) (a' := ?_) #[true, true, true, true, true, true, true, true, true, true, true, true, true, true, true, true, true, true, false, false, false] rfl rfl (by kernel_rfl) (fun _ _ _ h => h) (Or.inr ⟨by rfl, rfl⟩) ?_ ?_
    rotate_left
    · simp only [Act.put, List.setIfInBounds_toArray, List.set_cons_zero, List.set_cons_succ]
      rfl
    refine pure_ (i := 18) (N := some 41) (v := undef) (a' := ?_) #[true, true, true, true, true, true, true, true, true, true, true, true, true, true, true, true, true, true, true, false, false] rfl rfl (by kernel_rfl) (fun _ _ _ h => h) (Or.inr ⟨by rfl, rfl⟩) ?_ ?_
    rotate_left
    · simp only [Act.put, List.setIfInBounds_toArray, List.set_cons_zero, List.set_cons_succ]
      rfl
    refine pure_ (i := 19) (N := some 42) (v := ?_) (a' := ?_) #[true, true, true, true, true, true, true, true, true, true, true, true, true, true, true, true, true, true, true, true, false] rfl rfl (by kernel_rfl) (fun _ _ _ h => h) (Or.inl ⟨by rfl, ?_⟩) ?_ ?_
    rotate_left
    · intro w'
      go_simp
      with_reducible rfl
    rotate_left
    · simp only [Act.put, List.setIfInBounds_toArray, List.set_cons_zero, List.set_cons_succ]
      rfl
    refine pure_ (i := 20) (N := some 4) (v := ?_) (a' := ?_) #[true, true, true, true, true, true, true, true, true, true, true, true, true, true, true, true, true, true, true, true, true] rfl rfl (by kernel_rfl) (fun _ _ _ h => h) (Or.inl ⟨by rfl, ?_⟩) ?_ ?_
    rotate_left
    · intro w'
      go_simp
      with_reducible rfl
    rotate_left
    · simp only [Act.put, List.setIfInBounds_toArray, List.set_cons_zero, List.set_cons_succ]
      rfl
    refine done_ (by kernel_rfl) ?_
    go_wp2
    go_ret
    exact ⟨rfl, hHeld.below⟩
  | true =>
    cases q2 with
    | false =>
      refine start_ (n := 21) (S := AlS p w t g5 g7 v5 v7) (ds := []) #[false, false, false, false, false, false, false, false, false, false, false, false, false, false, false, false, false, false, false, false, false] (by kernel_rfl) rfl rfl (HAS.out.move (below_drew (Below.refl _ _))) (fun hHeld => ?_)
      have HB7 := Aside0.mk (below_drew (Below.refl W6.heap.size W6))
      have HQ5 := Aside0.mk (HS5.out.below HB7.out)
      have HQ7 := Aside0.mk (HS7'.out.below HB7.out)
      generalize W6.drew = W7 at hHeld HQ5 HQ7 ⊢
      clear HB7
      refine pure_ (i := 0) (N := some 23) (v := ?_) (a' := ?_) #[true, false, false, false, false, false, false, false, false, false, false, false, false, false, false, false, false, false, false, false, false] rfl rfl (by kernel_rfl) (fun _ _ _ h => h) (Or.inl ⟨by rfl, ?_⟩) ?_ ?_
      rotate_left
      · intro w'
        go_simp
        with_reducible rfl
      rotate_left
      · simp only [Act.put, List.setIfInBounds_toArray, List.set_cons_zero, List.set_cons_succ]
        rfl
      refine pure_ (i := 1) (N := some 24) (v := ?_) (a' := ?_) #[true, true, false, false, false, false, false, false, false, false, false, false, false, false, false, false, false, false, false, false, false] rfl rfl (by kernel_rfl) (fun _ _ _ h => h) (Or.inl ⟨by rfl, ?_⟩) ?_ ?_
      rotate_left
      · intro w'
        go_simp
        with_reducible rfl
      rotate_left
      · simp only [Act.put, List.setIfInBounds_toArray, List.set_cons_zero, List.set_cons_succ]
        rfl
      refine pure_ (i := 2) (N := some 25) (v := ?_) (a' := ?_) #[true, true, true, false, false, false, false, false, false, false, false, false, false, false, false, false, false, false, false, false, false] rfl rfl (by kernel_rfl) (fun _ _ _ h => h) (Or.inl ⟨by rfl, ?_⟩) ?_ ?_
      rotate_left
      · intro w'
        go_simp
        with_reducible rfl
      rotate_left
      · simp only [Act.put, List.setIfInBounds_toArray, List.set_cons_zero, List.set_cons_succ]
        rfl
      refine pure_ (i := 3) (N := some 26) (v := ?_) (a' := ?_) #[true, true, true, true, false, false, false, false, false, false, false, false, false, false, false, false, false, false, false, false, false] rfl rfl (by kernel_rfl) (fun _ _ _ h => h) (Or.inl ⟨by rfl, ?_⟩) ?_ ?_
      rotate_left
      · intro w'
        go_simp
        with_reducible rfl
      rotate_left
      · simp only [Act.put, List.setIfInBounds_toArray, List.set_cons_zero, List.set_cons_succ]
        rfl
      refine pure_ (i := 4) (N := some 27) (v := ?_) (a' := ?_) #[true, true, true, true, true, false, false, false, false, false, false, false, false, false, false, false, false, false, false, false, false] rfl rfl (by kernel_rfl) (fun _ _ _ h => h) (Or.inl ⟨by rfl, ?_⟩) ?_ ?_
      rotate_left
      · intro w'
        go_simp
        with_reducible rfl
      rotate_left
      · simp only [Act.put, List.setIfInBounds_toArray, List.set_cons_zero, List.set_cons_succ]
        rfl
      refine pure_ (i := 5) (N := some 28) (v := undef) (a' := ?_) #[true, true, true, true, true, true, false, false, false, false, false, false, false, false, false, false, false, false, false, false, false] rfl rfl (by kernel_rfl) (fun _ _ _ h => h) (Or.inr ⟨by rfl, rfl⟩) ?_ ?_
      rotate_left
      · simp only [Act.put, List.setIfInBounds_toArray, List.set_cons_zero, List.set_cons_succ]
        rfl
      refine pure_ (i := 6) (N := some 29) (v := undef) (a' := ?_) #[true, true, true, true, true, true, true, false, false, false, false, false, false, false, false, false, false, false, false, false, false] rfl rfl (by kernel_rfl) (fun _ _ _ h => h) (Or.inr ⟨by rfl, rfl⟩) ?_ ?_
      rotate_left
      · simp only [Act.put, List.setIfInBounds_toArray, List.set_cons_zero, List.set_cons_succ]
        rfl
      refine pure_ (i := 7) (N := some 30) (v := undef) (a' := ?_) #[true, true, true, true, true, true, true, true, false, false, false, false, false, false, false, false, false, false, false, false, false] rfl rfl (by kernel_rfl) (fun _ _ _ h => h) (Or.inr ⟨by rfl, rfl⟩) ?_ ?_
      rotate_left
      · simp only [Act.put, List.setIfInBounds_toArray, List.set_cons_zero, List.set_cons_succ]
        rfl
      refine pure_ (i := 8) (N := some 31) (v := undef) (a' := ?_) #[true, true, true, true, true, true, true, true, true, false, false, false, false, false, false, false, false, false, false, false, false] rfl rfl (by kernel_rfl) (fun _ _ _ h => h) (Or.inr ⟨by rfl, rfl⟩) ?_ ?_
      rotate_left
      · simp only [Act.put, List.setIfInBounds_toArray, List.set_cons_zero, List.set_cons_succ]
        rfl
      refine pure_ (i := 9) (N := some 32) (v := undef) (a' := ?_) #[true, true, true, true, true, true, true, true, true, true, false, false, false, false, false, false, false, false, false, false, false] rfl rfl (by kernel_rfl) (fun _ _ _ h => h) (Or.inr ⟨by rfl, rfl⟩) ?_ ?_
      rotate_left
      · simp only [Act.put, List.setIfInBounds_toArray, List.set_cons_zero, List.set_cons_succ]
        rfl
      refine pure_ (i := 10) (N := some 33) (v := ?_) (a' := ?_) #[true, true, true, true, true, true, true, true, true, true, true, false, false, false, false, false, false, false, false, false, false] rfl rfl (by kernel_rfl) (fun _ _ _ h => h) (Or.inl ⟨by rfl, ?_⟩) ?_ ?_
      rotate_left
      · intro w'
        go_simp
        with_reducible rfl
      rotate_left
      · simp only [Act.put, List.setIfInBounds_toArray, List.set_cons_zero, List.set_cons_succ]
        rfl
      refine pure_ (i := 11) (N := some 34) (v := ?_) (a' := ?_) #[true, true, true, true, true, true, true, true, true, true, true, true, false, false, false, false, false, false, false, false, false] rfl rfl (by kernel_rfl) (fun _ _ _ h => h) (Or.inl ⟨by rfl, ?_⟩) ?_ ?_
      rotate_left
      · intro w'
        go_simp
        with_reducible rfl
      rotate_left
      · simp only [Act.put, List.setIfInBounds_toArray, List.set_cons_zero, List.set_cons_succ]
        rfl
      refine pure_ (i := 12) (N := some 35) (v := undef) (a' := ?_) #[true, true, true, true, true, true, true, true, true, true, true, true, true, false, false, false, false, false, false, false, false] rfl rfl (by kernel_rfl) (fun _ _ _ h => h) (Or.inr ⟨by rfl, rfl⟩) ?_ ?_
      rotate_left
      · simp only [Act.put, List.setIfInBounds_toArray, List.set_cons_zero, List.set_cons_succ]
        rfl
      refine pure_ (i := 13) (N := some 36) (v := undef) (a' := ?_) #[true, true, true, true, true, true, true, true, true, true, true, true, true, true, false, false, false, false, false, false, false] rfl rfl (by kernel_rfl) (fun _ _ _ h => h) (Or.inr ⟨by rfl, rfl⟩) ?_ ?_
      rotate_left
      · simp only [Act.put, List.setIfInBounds_toArray, List.set_cons_zero, List.set_cons_succ]
        rfl
      refine pure_ (i := 14) (N := some 37) (v := undef) (a' := ?_) #[true, true, true, true, true, true, true, true, true, true, true, true, true, true, true, false, false, false, false, false, false] rfl rfl (by kernel_rfl) (fun _ _ _ h => h) (Or.inr ⟨by rfl, rfl⟩) ?_ ?_
      rotate_left
      · simp only [Act.put, List.setIfInBounds_toArray, List.set_cons_zero, List.set_cons_succ]
        rfl
      refine pure_ (i := 15) (N := some 38) (v := undef) (a' := ?_) #[true, true, true, true, true, true, true, true, true, true, true, true, true, true, true, true, false, false, false, false, false] rfl rfl (by kernel_rfl) (fun _ _ _ h => h) (Or.inr ⟨by rfl, rfl⟩) ?_ ?_
      rotate_left
      · simp only [Act.put, List.setIfInBounds_toArray, List.set_cons_zero, List.set_cons_succ]
        rfl
      refine pure_ (i := 17) (N := some 40) (v := undef) (a' := ?_) #[true, true, true, true, true, true, true, true, true, true, true, true, true, true, true, true, false, true, false, false, false] rfl rfl (by kernel_rfl) (fun _ _ _ h => h) (Or.inr ⟨by rfl, rfl⟩) ?_ ?_
      rotate_left
      · simp only [Act.put, List.setIfInBounds_toArray, List.set_cons_zero, List.set_cons_succ]
        rfl
      refine pure_ (i := 16) (N := some 39) (v := undef) (a' := ?_) #[true, true, true, true, true, true, true, true, true, true, true, true, true, true, true, true, true, true, false, false, false] rfl rfl (by kernel_rfl) (fun _ _ _ h => h) (Or.inr ⟨by rfl, rfl⟩) ?_ ?_
      rotate_left
      · simp only [Act.put, List.setIfInBounds_toArray, List.set_cons_zero, List.set_cons_succ]
        rfl
      refine pure_ (i := 18) (N := some 41) (v := undef) (a' := ?_) #[true, true, true, true, true, true, true, true, true, true, true, true, true, true, true, true, true, true, true, false, false] rfl rfl (by kernel_rfl) (fun _ _ _ h => h) (Or.inr ⟨by rfl, rfl⟩) ?_ ?_
      rotate_left
      · simp only [Act.put, List.setIfInBounds_toArray, List.set_cons_zero, List.set_cons_succ]
        rfl
      refine pure_ (i := 19) (N := some 42) (v := ?_) (a' := ?_) #[true, true, true, true, true, true, true, true, true, true, true, true, true, true, true, true, true, true, true, true, false] rfl rfl (by kernel_rfl) (fun _ _ _ h => h) (Or.inl ⟨by rfl, ?_⟩) ?_ ?_
      rotate_left
      · intro w'
        go_simp
        with_reducible rfl
      rotate_left
      · simp only [Act.put, List.setIfInBounds_toArray, List.set_cons_zero, List.set_cons_succ]
        rfl
      refine pure_ (i := 20) (N := some 4) (v := ?_) (a' := ?_) #[true, true, true, true, true, true, true, true, true, true, true, true, true, true, true, true, true, true, true, true, true] rfl rfl (by kernel_rfl) (fun _ _ _ h => h) (Or.inl ⟨by rfl, ?_⟩) ?_ ?_
      rotate_left
      · intro w'
        go_simp
        with_reducible rfl
      rotate_left
      · simp only [Act.put, List.setIfInBounds_toArray, List.set_cons_zero, List.set_cons_succ]
        rfl
      refine done_ (by kernel_rfl) ?_
      go_wp2
      go_ret
      exact ⟨rfl, hHeld.below⟩
    | true =>
      cases q3 with
      | false =>
        refine start_ (n := 21) (S := AlS p w t g5 g7 v5 v7) (ds := []) #[false, false, false, false, false, false, false, false, false, false, false, false, false, false, false, false, false, false, false, false, false] (by kernel_rfl) rfl rfl (HAS.out.move (below_drew (Below.refl _ _))) (fun hHeld => ?_)
        have HB7 := Aside0.mk (below_drew (Below.refl W6.heap.size W6))
        have HQ5 := Aside0.mk (HS5.out.below HB7.out)
        have HQ7 := Aside0.mk (HS7'.out.below HB7.out)
        generalize W6.drew = W7 at hHeld HQ5 HQ7 ⊢
        clear HB7
        refine pure_ (i := 0) (N := some 23) (v := ?_) (a' := ?_) #[true, false, false, false, false, false, false, false, false, false, false, false, false, false, false, false, false, false, false, false, false] rfl rfl (by kernel_rfl) (fun _ _ _ h => h) (Or.inl ⟨by rfl, ?_⟩) ?_ ?_
        rotate_left
        · intro w'
          go_simp
          with_reducible rfl
        rotate_left
        · simp only [Act.put, List.setIfInBounds_toArray, List.set_cons_zero, List.set_cons_succ]
          rfl
        refine pure_ (i := 1) (N := some 24) (v := ?_) (a' := ?_) #[true, true, false, false, false, false, false, false, false, false, false, false, false, false, false, false, false, false, false, false, false] rfl rfl (by kernel_rfl) (fun _ _ _ h => h) (Or.inl ⟨by rfl, ?_⟩) ?_ ?_
        rotate_left
        · intro w'
          go_simp
          with_reducible rfl
        rotate_left
        · simp only [Act.put, List.setIfInBounds_toArray, List.set_cons_zero, List.set_cons_succ]
          rfl
        refine pure_ (i := 2) (N := some 25) (v := ?_) (a' := ?_) #[true, true, true, false, false, false, false, false, false, false, false, false, false, false, false, false, false, false, false, false, false] rfl rfl (by kernel_rfl) (fun _ _ _ h => h) (Or.inl ⟨by rfl, ?_⟩) ?_ ?_
        rotate_left
        · intro w'
          go_simp
          with_reducible rfl
        rotate_left
        · simp only [Act.put, List.setIfInBounds_toArray, List.set_cons_zero, List.set_cons_succ]
          rfl
        refine pure_ (i := 3) (N := some 26) (v := ?_) (a' := ?_) #[true, true, true, true, false, false, false, false, false, false, false, false, false, false, false, false, false, false, false, false, false] rfl rfl (by kernel_rfl) (fun _ _ _ h => h) (Or.inl ⟨by rfl, ?_⟩) ?_ ?_
        rotate_left
        · intro w'
          go_simp
          with_reducible rfl
        rotate_left
        · simp only [Act.put, List.setIfInBounds_toArray, List.set_cons_zero, List.set_cons_succ]
          rfl
        refine pure_ (i := 4) (N := some 27) (v := ?_) (a' := ?_) #[true, true, true, true, true, false, false, false, false, false, false, false, false, false, false, false, false, false, false, false, false] rfl rfl (by kernel_rfl) (fun _ _ _ h => h) (Or.inl ⟨by rfl, ?_⟩) ?_ ?_
        rotate_left
        · intro w'
          go_simp
          with_reducible rfl
        rotate_left
        · simp only [Act.put, List.setIfInBounds_toArray, List.set_cons_zero, List.set_cons_succ]
          rfl
        refine pure_ (i := 5) (N := some 28) (v := ?_) (a' := ?_) #[true, true, true, true, true, true, false, false, false, false, false, false, false, false, false, false, false, false, false, false, false] rfl rfl (by kernel_rfl) (fun _ _ _ h => h) (Or.inl ⟨by rfl, ?_⟩) ?_ ?_
        rotate_left
        · intro w'
          go_simp
          with_reducible rfl
        rotate_left
        · simp only [Act.put, List.setIfInBounds_toArray, List.set_cons_zero, List.set_cons_succ]
          rfl
        refine take_ (i := 6) (N := some 29) (v := ?_) (a' := ?_) #[true, true, true, true, true, true, true, false, false, false, false, false, false, false, false, false, false, false, false, false, false] rfl rfl (by kernel_rfl) (fun _ _ _ h => h) (Or.inl ⟨by rfl, ?_⟩) hHeld ?_ ?_
        rotate_left
        · intro w' hs
          have hcell : w'.cell? ⟨w.heap.size, 0, none⟩ = some (.slice p.A0 p.d.acts.length p.c0) := hs.s0.cell 0
          go_simp
          with_reducible rfl
        rotate_left
        · simp only [Act.put, List.setIfInBounds_toArray, List.set_cons_zero, List.set_cons_succ]
          rfl
        refine pure_ (i := 7) (N := some 30) (v := ?_) (a' := ?_) #[true, true, true, true, true, true, true, true, false, false, false, false, false, false, false, false, false, false, false, false, false] rfl rfl (by kernel_rfl) (fun _ _ _ h => h) (Or.inl ⟨by rfl, ?_⟩) ?_ ?_
        rotate_left
        · intro w'
          go_simp
          with_reducible rfl
        rotate_left
        · simp only [Act.put, List.setIfInBounds_toArray, List.set_cons_zero, List.set_cons_succ]
          rfl
        refine take_ (i := 8) (N := some 31) (v := ?_) (a' := ?_) #[true, true, true, true, true, true, true, true, true, false, false, false, false, false, false, false, false, false, false, false, false] rfl rfl (by kernel_rfl) (fun _ _ _ h => h) (Or.inl ⟨by rfl, ?_⟩) hHeld ?_ ?_
        rotate_left
        · intro w' hs
          have hcell : w'.cell? ⟨w.heap.size + 1, 2, none⟩ = some (.string t.f2) := hs.s1.cell 2
          go_simp
          with_reducible rfl
        rotate_left
        · simp only [Act.put, List.setIfInBounds_toArray, List.set_cons_zero, List.set_cons_succ]
          rfl
        refine one_ (i := 9) (N := some 32) #[true, true, true, true, true, true, true, true, true, true, false, false, false, false, false, false, false, false, false, false, false] rfl rfl (by kernel_rfl) (by decide) (fun K hK => ?_)
        refine goes_ Try.func62 (by kernel_rfl) rfl #[.slice p.A0 p.d.acts.length p.c0, .string t.f2] (by rfl) rfl rfl (by (try simp only [List.map_toArray, List.map_cons, List.map_nil]); first | done | rfl) ?_
        refine (contains_go p.A0 p.c0 p.d.acts t.f2 _ _ Q3.out (HP.out.below hHeld.below).h0 HP.out.l0).mono ?_
        rintro e w8 ⟨rfl, hb⟩
        refine ⟨_, rfl, ?_⟩
        have hH := hHeld.move hb
        have HQ5 := Aside0.mk (HQ5.out.below hb)
        have HQ7 := Aside0.mk (HQ7.out.below hb)
        clear hb hHeld
        refine hK.out _ _ hH (fun hHeld => ?_)
        clear hK K hH
        refine norm_ (a' := ?_) ?_ ?_
        rotate_left
        · show Act.put _ (some 32) _ = _
          simp only [Act.put, List.setIfInBounds_toArray, List.set_cons_zero, List.set_cons_succ]
          rfl
        refine pure_ (i := 10) (N := some 33) (v := ?_) (a' := ?_) #[true, true, true, true, true, true, true, true, true, true, true, false, false, false, false, false, false, false, false, false, false] rfl rfl (by kernel_rfl) (fun _ _ _ h => h) (Or.inl ⟨by rfl, ?_⟩) ?_ ?_
        rotate_left
        · intro w'
          go_simp
          with_reducible rfl
        rotate_left
        · simp only [Act.put, List.setIfInBounds_toArray, List.set_cons_zero, List.set_cons_succ]
          rfl
        refine pure_ (i := 11) (N := some 34) (v := ?_) (a' := ?_) #[true, true, true, true, true, true, true, true, true, true, true, true, false, false, false, false, false, false, false, false, false] rfl rfl (by kernel_rfl) (fun _ _ _ h => h) (Or.inl ⟨by rfl, ?_⟩) ?_ ?_
        rotate_left
        · intro w'
          go_simp
          with_reducible rfl
        rotate_left
        · simp only [Act.put, List.setIfInBounds_toArray, List.set_cons_zero, List.set_cons_succ]
          rfl
        refine pure_ (i := 12) (N := some 35) (v := undef) (a' := ?_) #[true, true, true, true, true, true, true, true, true, true, true, true, true, false, false, false, false, false, false, false, false] rfl rfl (by kernel_rfl) (fun _ _ _ h => h) (Or.inr ⟨by rfl, rfl⟩) ?_ ?_
        rotate_left
        · simp only [Act.put, List.setIfInBounds_toArray, List.set_cons_zero, List.set_cons_succ]
          rfl
        refine pure_ (i := 13) (N := some 36) (v := undef) (a' := ?_) #[true, true, true, true, true, true, true, true, true, true, true, true, true, true, false, false, false, false, false, false, false] rfl rfl (by kernel_rfl) (fun _ _ _ h => h) (Or.inr ⟨by rfl, rfl⟩) ?_ ?_
        rotate_left
        · simp only [Act.put, List.setIfInBounds_toArray, List.set_cons_zero, List.set_cons_succ]
          rfl
        refine pure_ (i := 14) (N := some 37) (v := undef) (a' := ?_) #[true, true, true, true, true, true, true, true, true, true, true, true, true, true, true, false, false, false, false, false, false] rfl rfl (by kernel_rfl) (fun _ _ _ h => h) (Or.inr ⟨by rfl, rfl⟩) ?_ ?_
        rotate_left
        · simp only [Act.put, List.setIfInBounds_toArray, List.set_cons_zero, List.set_cons_succ]
          rfl
        refine pure_ (i := 15) (N := some 38) (v := undef) (a' := ?_) #[true, true, true, true, true, true, true, true, true, true, true, true, true, true, true, true, false, false, false, false, false] rfl rfl (by kernel_rfl) (fun _ _ _ h => h) (Or.inr ⟨by rfl, rfl⟩) ?_ ?_
        rotate_left
        · simp only [Act.put, List.setIfInBounds_toArray, List.set_cons_zero, List.set_cons_succ]
          rfl
        refine pure_ (i := 17) (N := some 40) (v := undef) (a' := ?_) #[true, true, true, true, true, true, true, true, true, true, true, true, true, true, true, true, false, true, false, false, false] rfl rfl (by kernel_rfl) (fun _ _ _ h => h) (Or.inr ⟨by rfl, rfl⟩) ?_ ?_
        rotate_left
        · simp only [Act.put, List.setIfInBounds_toArray, List.set_cons_zero, List.set_cons_succ]
          rfl
        refine pure_ (i := 16) (N := some 39) (v := undef) (a' := ?_) #[true, true, true, true, true, true, true, true, true, true, true, true, true, true, true, true, true, true, false, false, false] rfl rfl (by kernel_rfl) (fun _ _ _ h => h) (Or.inr ⟨by rfl, rfl⟩) ?_ ?_
        rotate_left
        · simp only [Act.put, List.setIfInBounds_toArray, List.set_cons_zero, List.set_cons_succ]
          rfl
        refine pure_ (i := 18) (N := some 41) (v := undef) (a' := ?_) #[true, true, true, true, true, true, true, true, true, true, true, true, true, true, true, true, true, true, true, false, false] rfl rfl (by kernel_rfl) (fun _ _ _ h => h) (Or.inr ⟨by rfl, rfl⟩) ?_ ?_
        rotate_left
        · simp only [Act.put, List.setIfInBounds_toArray, List.set_cons_zero, List.set_cons_succ]
          rfl
        refine pure_ (i := 19) (N := some 42) (v := ?_) (a' := ?_) #[true, true, true, true, true, true, true, true, true, true, true, true, true, true, true, true, true, true, true, true, false] rfl rfl (by kernel_rfl) (fun _ _ _ h => h) (Or.inl ⟨by rfl, ?_⟩) ?_ ?_
        rotate_left
        · intro w'
          go_simp
          with_reducible rfl
        rotate_left
        · simp only [Act.put, List.setIfInBounds_toArray, List.set_cons_zero, List.set_cons_succ]
          rfl
        refine pure_ (i := 20) (N := some 4) (v := ?_) (a' := ?_) #[true, true, true, true, true, true, true, true, true, true, true, true, true, true, true, true, true, true, true, true, true] rfl rfl (by kernel_rfl) (fun _ _ _ h => h) (Or.inl ⟨by rfl, ?_⟩) ?_ ?_
        rotate_left
        · intro w'
          go_simp
          with_reducible rfl
        rotate_left
        · simp only [Act.put, List.setIfInBounds_toArray, List.set_cons_zero, List.set_cons_succ]
          rfl
        refine done_ (by kernel_rfl) ?_
        go_wp2
        go_ret
        exact ⟨rfl, hHeld.below⟩
      | true =>
        refine start_ (n := 21) (S := AlS p w t g5 g7 v5 v7) (ds := []) #[false, false, false, false, false, false, false, false, false, false, false, false, false, false, false, false, false, false, false, false, false] (by kernel_rfl) rfl rfl (HAS.out.move (below_drew (Below.refl _ _))) (fun hHeld => ?_)
        have HB7 := Aside0.mk (below_drew (Below.refl W6.heap.size W6))
        have HQ5 := Aside0.mk (HS5.out.below HB7.out)
        have HQ7 := Aside0.mk (HS7'.out.below HB7.out)
        generalize W6.drew = W7 at hHeld HQ5 HQ7 ⊢
        clear HB7
        refine pure_ (i := 0) (N := some 23) (v := ?_) (a' := ?_) #[true, false, false, false, false, false, false, false, false, false, false, false, false, false, false, false, false, false, false, false, false] rfl rfl (by kernel_rfl) (fun _ _ _ h => h) (Or.inl ⟨by rfl, ?_⟩) ?_ ?_
        rotate_left
        · intro w'
          go_simp
          with_reducible rfl
        rotate_left
        · simp only [Act.put, List.setIfInBounds_toArray, List.set_cons_zero, List.set_cons_succ]
          rfl
        refine pure_ (i := 1) (N := some 24) (v := ?_) (a' := ?_) #[true, true, false, false, false, false, false, false, false, false, false, false, false, false, false, false, false, false, false, false, false] rfl rfl (by kernel_rfl) (fun _ _ _ h => h) (Or.inl ⟨by rfl, ?_⟩) ?_ ?_
        rotate_left
        · intro w'
          go_simp
          with_reducible rfl
        rotate_left
        · simp only [Act.put, List.setIfInBounds_toArray, List.set_cons_zero, List.set_cons_succ]
          rfl
        refine pure_ (i := 2) (N := some 25) (v := ?_) (a' := ?_) #[true, true, true, false, false, false, false, false, false, false, false, false, false, false, false, false, false, false, false, false, false] rfl rfl (by kernel_rfl) (fun _ _ _ h => h) (Or.inl ⟨by rfl, ?_⟩) ?_ ?_
        rotate_left
        · intro w'
          go_simp
          with_reducible rfl
        rotate_left
        · simp only [Act.put, List.setIfInBounds_toArray, List.set_cons_zero, List.set_cons_succ]
          rfl
        refine pure_ (i := 3) (N := some 26) (v := ?_) (a' := ?_) #[true, true, true, true, false, false, false, false, false, false, false, false, false, false, false, false, false, false, false, false, false] rfl rfl (by kernel_rfl) (fun _ _ _ h => h) (Or.inl ⟨by rfl, ?_⟩) ?_ ?_
        rotate_left
        · intro w'
          go_simp
          with_reducible rfl
        rotate_left
        · simp only [Act.put, List.setIfInBounds_toArray, List.set_cons_zero, List.set_cons_succ]
          rfl
        refine pure_ (i := 4) (N := some 27) (v := ?_) (a' := ?_) #[true, true, true, true, true, false, false, false, false, false, false, false, false, false, false, false, false, false, false, false, false] rfl rfl (by kernel_rfl) (fun _ _ _ h => h) (Or.inl ⟨by rfl, ?_⟩) ?_ ?_
        rotate_left
        · intro w'
          go_simp
          with_reducible rfl
        rotate_left
        · simp only [Act.put, List.setIfInBounds_toArray, List.set_cons_zero, List.set_cons_succ]
          rfl
        refine pure_ (i := 5) (N := some 28) (v := ?_) (a' := ?_) #[true, true, true, true, true, true, false, false, false, false, false, false, false, false, false, false, false, false, false, false, false] rfl rfl (by kernel_rfl) (fun _ _ _ h => h) (Or.inl ⟨by rfl, ?_⟩) ?_ ?_
        rotate_left
        · intro w'
          go_simp
          with_reducible rfl
        rotate_left
        · simp only [Act.put, List.setIfInBounds_toArray, List.set_cons_zero, List.set_cons_succ]
          rfl
        refine take_ (i := 6) (N := some 29) (v := ?_) (a' := ?_) #[true, true, true, true, true, true, true, false, false, false, false, false, false, false, false, false, false, false, false, false, false] rfl rfl (by kernel_rfl) (fun _ _ _ h => h) (Or.inl ⟨by rfl, ?_⟩) hHeld ?_ ?_
        rotate_left
        · intro w' hs
          have hcell : w'.cell? ⟨w.heap.size, 0, none⟩ = some (.slice p.A0 p.d.acts.length p.c0) := hs.s0.cell 0
          go_simp
          with_reducible rfl
        rotate_left
        · simp only [Act.put, List.setIfInBounds_toArray, List.set_cons_zero, List.set_cons_succ]
          rfl
        refine pure_ (i := 7) (N := some 30) (v := ?_) (a' := ?_) #[true, true, true, true, true, true, true, true, false, false, false, false, false, false, false, false, false, false, false, false, false] rfl rfl (by kernel_rfl) (fun _ _ _ h => h) (Or.inl ⟨by rfl, ?_⟩) ?_ ?_
        rotate_left
        · intro w'
          go_simp
          with_reducible rfl
        rotate_left
        · simp only [Act.put, List.setIfInBounds_toArray, List.set_cons_zero, List.set_cons_succ]
          rfl
        refine take_ (i := 8) (N := some 31) (v := ?_) (a' := ?_) #[true, true, true, true, true, true, true, true, true, false, false, false, false, false, false, false, false, false, false, false, false] rfl rfl (by kernel_rfl) (fun _ _ _ h => h) (Or.inl ⟨by rfl, ?_⟩) hHeld ?_ ?_
        rotate_left
        · intro w' hs
          have hcell : w'.cell? ⟨w.heap.size + 1, 2, none⟩ = some (.string t.f2) := hs.s1.cell 2
          go_simp
          with_reducible rfl
        rotate_left
        · simp only [Act.put, List.setIfInBounds_toArray, List.set_cons_zero, List.set_cons_succ]
          rfl
        refine one_ (i := 9) (N := some 32) #[true, true, true, true, true, true, true, true, true, true, false, false, false, false, false, false, false, false, false, false, false] rfl rfl (by kernel_rfl) (by decide) (fun K hK => ?_)
        refine goes_ Try.func62 (by kernel_rfl) rfl #[.slice p.A0 p.d.acts.length p.c0, .string t.f2] (by rfl) rfl rfl (by (try simp only [List.map_toArray, List.map_cons, List.map_nil]); first | done | rfl) ?_
        refine (contains_go p.A0 p.c0 p.d.acts t.f2 _ _ Q3.out (HP.out.below hHeld.below).h0 HP.out.l0).mono ?_
        rintro e w8 ⟨rfl, hb⟩
        refine ⟨_, rfl, ?_⟩
        have hH := hHeld.move hb
        have HQ5 := Aside0.mk (HQ5.out.below hb)
        have HQ7 := Aside0.mk (HQ7.out.below hb)
        clear hb hHeld
        refine hK.out _ _ hH (fun hHeld => ?_)
        clear hK K hH
        refine norm_ (a' := ?_) ?_ ?_
        rotate_left
        · show Act.put _ (some 32) _ = _
          simp only [Act.put, List.setIfInBounds_toArray, List.set_cons_zero, List.set_cons_succ]
          rfl
        refine pure_ (i := 10) (N := some 33) (v := ?_) (a' := ?_) #[true, true, true, true, true, true, true, true, true, true, true, false, false, false, false, false, false, false, false, false, false] rfl rfl (by kernel_rfl) (fun _ _ _ h => h) (Or.inl ⟨by rfl, ?_⟩) ?_ ?_
        rotate_left
        · intro w'
          go_simp
          with_reducible rfl
        rotate_left
        · simp only [Act.put, List.setIfInBounds_toArray, List.set_cons_zero, List.set_cons_succ]
          rfl
        refine pure_ (i := 11) (N := some 34) (v := ?_) (a' := ?_) #[true, true, true, true, true, true, true, true, true, true, true, true, false, false, false, false, false, false, false, false, false] rfl rfl (by kernel_rfl) (fun _ _ _ h => h) (Or.inl ⟨by rfl, ?_⟩) ?_ ?_
        rotate_left
        · intro w'
          go_simp
          with_reducible rfl
        rotate_left
        · simp only [Act.put, List.setIfInBounds_toArray, List.set_cons_zero, List.set_cons_succ]
          rfl
        refine take_ (i := 12) (N := some 35) (v := .agg #[.slice p.A0 p.d.acts.length p.c0, .slice p.A1 p.d.subs.length p.c1, .slice p.A2 p.d.roles.length p.c2, .slice p.A3 p.d.objs.length p.c3, .slice p.A4 p.d.grps.length p.c4, .slice p.A5 p.d.mem.length p.c5, .slice p.A6 p.d.inh.length p.c6, .slice p.A7 p.d.par.length p.c7, .slice p.A8 p.d.wit.length p.c8, .slice p.A9 p.d.rules.length p.c9, .slice p.A10 p.d.exc.length p.c10]) (a' := ?_) #[true, true, true, true, true, true, true, true, true, true, true, true, true, false, false, false, false, false, false, false, false] rfl rfl (by kernel_rfl) (fun _ _ _ h => h) (yieldsIf_load_mid (by rfl) 39 (.tmp 2) rfl w.heap.size 0 rfl (#[.slice p.A0 p.d.acts.length p.c0, .slice p.A1 p.d.subs.length p.c1, .slice p.A2 p.d.roles.length p.c2, .slice p.A3 p.d.objs.length p.c3, .slice p.A4 p.d.grps.length p.c4, .slice p.A5 p.d.mem.length p.c5, .slice p.A6 p.d.inh.length p.c6, .slice p.A7 p.d.par.length p.c7, .slice p.A8 p.d.wit.length p.c8, .slice p.A9 p.d.rules.length p.c9, .slice p.A10 p.d.exc.length p.c10]).toList _ (fun w' hs => Stays.range hs.s0 _ rfl) Try.underlying39 rfl (by first | exact i39 | (simp; exact i39))) hHeld ?_ ?_
        rotate_left
        · simp only [Act.put, List.setIfInBounds_toArray, List.set_cons_zero, List.set_cons_succ]
          rfl
        refine take_ (i := 13) (N := some 36) (v := .agg #[.slice p.A0 p.d.acts.length p.c0, .slice p.A1 p.d.subs.length p.c1, .slice p.A2 p.d.roles.length p.c2, .slice p.A3 p.d.objs.length p.c3, .slice p.A4 p.d.grps.length p.c4, .slice p.A5 p.d.mem.length p.c5, .slice p.A6 p.d.inh.length p.c6, .slice p.A7 p.d.par.length p.c7, .slice p.A8 p.d.wit.length p.c8, .slice p.A9 p.d.rules.length p.c9, .slice p.A10 p.d.exc.length p.c10]) (a' := ?_) #[true, true, true, true, true, true, true, true, true, true, true, true, true, true, false, false, false, false, false, false, false] rfl rfl (by kernel_rfl) (fun _ _ _ h => h) (yieldsIf_load_mid (by rfl) 39 (.tmp 2) rfl w.heap.size 0 rfl (#[.slice p.A0 p.d.acts.length p.c0, .slice p.A1 p.d.subs.length p.c1, .slice p.A2 p.d.roles.length p.c2, .slice p.A3 p.d.objs.length p.c3, .slice p.A4 p.d.grps.length p.c4, .slice p.A5 p.d.mem.length p.c5, .slice p.A6 p.d.inh.length p.c6, .slice p.A7 p.d.par.length p.c7, .slice p.A8 p.d.wit.length p.c8, .slice p.A9 p.d.rules.length p.c9, .slice p.A10 p.d.exc.length p.c10]).toList _ (fun w' hs => Stays.range hs.s0 _ rfl) Try.underlying39 rfl (by first | exact i39 | (simp; exact i39))) hHeld ?_ ?_
        rotate_left
        · simp only [Act.put, List.setIfInBounds_toArray, List.set_cons_zero, List.set_cons_succ]
          rfl
        refine take_ (i := 14) (N := some 37) (v := .agg v5) (a' := ?_) #[true, true, true, true, true, true, true, true, true, true, true, true, true, true, true, false, false, false, false, false, false] rfl rfl (by kernel_rfl) (fun _ _ _ h => h) (yieldsIf_load_mid (by rfl) 95 (.tmp 5) rfl g5 0 rfl (v5).toList _ (fun w' hs => Stays.range hs.s5 _ rfl) Try.underlying95 rfl (by first | exact (info_of Z5.out) | (simp; exact (info_of Z5.out)))) hHeld ?_ ?_
        rotate_left
        · simp only [Act.put, List.setIfInBounds_toArray, List.set_cons_zero, List.set_cons_succ]
          rfl
        refine take_ (i := 15) (N := some 38) (v := .agg v7) (a' := ?_) #[true, true, true, true, true, true, true, true, true, true, true, true, true, true, true, true, false, false, false, false, false] rfl rfl (by kernel_rfl) (fun _ _ _ h => h) (yieldsIf_load_mid (by rfl) 95 (.tmp 7) rfl g7 0 rfl (v7).toList _ (fun w' hs => Stays.range hs.s7 _ rfl) Try.underlying95 rfl (by first | exact (info_of Z7.out) | (simp; exact (info_of Z7.out)))) hHeld ?_ ?_
        rotate_left
        · simp only [Act.put, List.setIfInBounds_toArray, List.set_cons_zero, List.set_cons_succ]
          rfl
        refine take_ (i := 17) (N := some 40) (v := .agg #[.string t.f0, .string t.f1, .string t.f2]) (a' := ?_) #[true, true, true, true, true, true, true, true, true, true, true, true, true, true, true, true, false, true, false, false, false] rfl rfl (by kernel_rfl) (fun _ _ _ h => h) (yieldsIf_load_mid (by rfl) 28 (.tmp 3) rfl (w.heap.size + 1) 0 rfl (#[.string t.f0, .string t.f1, .string t.f2]).toList _ (fun w' hs => Stays.range hs.s1 _ rfl) Try.underlying28 rfl (by first | exact i28 | (simp; exact i28))) hHeld ?_ ?_
        rotate_left
        · simp only [Act.put, List.setIfInBounds_toArray, List.set_cons_zero, List.set_cons_succ]
          rfl
        obtain ⟨b5, hv5, hset5⟩ := HQ5.out.1 rfl
        obtain ⟨b7, hv7, hset7⟩ := HQ7.out.1 rfl
        refine one_ (i := 16) (N := some 39) #[true, true, true, true, true, true, true, true, true, true, true, true, true, true, true, true, true, true, false, false, false] rfl rfl (by kernel_rfl) (by decide) (fun K hK => ?_)
        refine goes_ Try.func64 (by kernel_rfl) rfl #[.agg #[.slice p.A0 p.d.acts.length p.c0, .slice p.A1 p.d.subs.length p.c1, .slice p.A2 p.d.roles.length p.c2, .slice p.A3 p.d.objs.length p.c3, .slice p.A4 p.d.grps.length p.c4, .slice p.A5 p.d.mem.length p.c5, .slice p.A6 p.d.inh.length p.c6, .slice p.A7 p.d.par.length p.c7, .slice p.A8 p.d.wit.length p.c8, .slice p.A9 p.d.rules.length p.c9, .slice p.A10 p.d.exc.length p.c10], .agg v5, .agg v7] (by rfl) rfl rfl (by (try simp only [List.map_toArray, List.map_cons, List.map_nil]); first | done | rfl) ?_
        refine (about_to p t.f0 _ b5 (p.d.who t.f0) t.f1 0 b7 (p.d.what t.f1) _ (HP.out.below hHeld.below) HD.out hset5 hset7 v5 v7 hv5 hv7).mono ?_
        rintro e w8 ⟨v, rfl, Aa, ca, rfl, hla, hCa, hb⟩
        refine ⟨_, rfl, ?_⟩
        have hH := hHeld.move hb
        clear hb hHeld
        refine hK.out _ _ hH (fun hHeld => ?_)
        clear hK K hH
        refine norm_ (a' := ?_) ?_ ?_
        rotate_left
        · show Act.put _ (some 39) _ = _
          simp only [Act.put, List.setIfInBounds_toArray, List.set_cons_zero, List.set_cons_succ]
          rfl
        refine one_ (i := 18) (N := some 41) #[true, true, true, true, true, true, true, true, true, true, true, true, true, true, true, true, true, true, true, false, false] rfl rfl (by kernel_rfl) (by decide) (fun K hK => ?_)
        refine goes_ Try.func63 (by kernel_rfl) rfl #[.agg #[.slice p.A0 p.d.acts.length p.c0, .slice p.A1 p.d.subs.length p.c1, .slice p.A2 p.d.roles.length p.c2, .slice p.A3 p.d.objs.length p.c3, .slice p.A4 p.d.grps.length p.c4, .slice p.A5 p.d.mem.length p.c5, .slice p.A6 p.d.inh.length p.c6, .slice p.A7 p.d.par.length p.c7, .slice p.A8 p.d.wit.length p.c8, .slice p.A9 p.d.rules.length p.c9, .slice p.A10 p.d.exc.length p.c10], .slice Aa _ ca, .agg #[.string t.f0, .string t.f1, .string t.f2]] (by rfl) rfl rfl (by (try simp only [List.map_toArray, List.map_cons, List.map_nil]); first | done | rfl) ?_
        refine (allows_calls p Aa ca _ t _ hCa (HP.out.below hHeld.below).h10 HP.out.l10 q4 Q4.out).mono ?_
        rintro e w9 ⟨rfl, hb⟩
        refine ⟨_, rfl, ?_⟩
        have hH := hHeld.move hb
        clear hb hHeld
        refine hK.out _ _ hH (fun hHeld => ?_)
        clear hK K hH
        refine norm_ (a' := ?_) ?_ ?_
        rotate_left
        · show Act.put _ (some 41) _ = _
          simp only [Act.put, List.setIfInBounds_toArray, List.set_cons_zero, List.set_cons_succ]
          rfl
        refine pure_ (i := 19) (N := some 42) (v := ?_) (a' := ?_) #[true, true, true, true, true, true, true, true, true, true, true, true, true, true, true, true, true, true, true, true, false] rfl rfl (by kernel_rfl) (fun _ _ _ h => h) (Or.inl ⟨by rfl, ?_⟩) ?_ ?_
        rotate_left
        · intro w'
          go_simp
          with_reducible rfl
        rotate_left
        · simp only [Act.put, List.setIfInBounds_toArray, List.set_cons_zero, List.set_cons_succ]
          rfl
        refine pure_ (i := 20) (N := some 4) (v := ?_) (a' := ?_) #[true, true, true, true, true, true, true, true, true, true, true, true, true, true, true, true, true, true, true, true, true] rfl rfl (by kernel_rfl) (fun _ _ _ h => h) (Or.inl ⟨by rfl, ?_⟩) ?_ ?_
        rotate_left
        · intro w'
          go_simp
          with_reducible rfl
        rotate_left
        · simp only [Act.put, List.setIfInBounds_toArray, List.set_cons_zero, List.set_cons_succ]
          rfl
        refine done_ (by kernel_rfl) ?_
        go_wp2
        go_ret
        exact ⟨rfl, hHeld.below⟩
end Go.Proofs.Ythaiodklfoegiaa.MPol

/- What Relation has got so far, in plain words. -/
namespace Go.Proofs.Ythaiodklfoegiaa.MPol
open Go.RowKit Go.Proofs.Ythaiodklfoegiaa.PG

/-- ns: the subjects' names; LO, LA: the objects, the actions; up to (i, j, l). -/
def Got (d : PolD) (ns LO LA : List ByteArray) (i j l : Nat) (t : S28) : Prop :=
  d.allowB t = true ∧ t.f1 ∈ LO ∧ t.f2 ∈ LA ∧ (t.f0 ∈ ns.take i ∨ ∃ h : i < ns.length, t.f0 = ns[i] ∧ (t.f1 ∈ LO.take j ∨ ∃ h : j < LO.length, t.f1 = LO[j] ∧ t.f2 ∈ LA.take l))
section
variable {d : PolD} {ns LO LA : List ByteArray} {i j l : Nat} {t : S28}
theorem Got.start : ¬ Got d ns LO LA 0 0 0 t := by
  rintro ⟨-, -, -, h | ⟨_, -, h | ⟨_, -, h⟩⟩⟩
  · simp at h
  · simp at h
  · simp at h
theorem Got.next (hi : i < ns.length) (hj : j < LO.length) (hl : l < LA.length) : Got d ns LO LA i j (l + 1) t ↔ (Got d ns LO LA i j l t ∨ (t = ⟨ns[i], LO[j], LA[l]⟩ ∧ d.allowB t = true)) := by
  have htk : LA.take (l + 1) = LA.take l ++ [LA[l]] := List.take_succ_eq_append_getElem hl
  unfold Got
  rw [htk]
  constructor
  · rintro ⟨h1, h2, h3, h4 | ⟨_, h5, h6 | ⟨_, h7, h8⟩⟩⟩
    · exact .inl ⟨h1, h2, h3, .inl h4⟩
    · exact .inl ⟨h1, h2, h3, .inr ⟨hi, h5, .inl h6⟩⟩
    · rcases List.mem_append.1 h8 with h8 | h8
      · exact .inl ⟨h1, h2, h3, .inr ⟨hi, h5, .inr ⟨hj, h7, h8⟩⟩⟩
      · refine .inr ⟨?_, h1⟩
        have h9 := List.mem_singleton.1 h8
        rw [← h5, ← h7, ← h9]
  · rintro (⟨h1, h2, h3, h4 | ⟨_, h5, h6 | ⟨_, h7, h8⟩⟩⟩ | ⟨rfl, h1⟩)
    · exact ⟨h1, h2, h3, .inl h4⟩
    · exact ⟨h1, h2, h3, .inr ⟨hi, h5, .inl h6⟩⟩
    · exact ⟨h1, h2, h3, .inr ⟨hi, h5, .inr ⟨hj, h7, List.mem_append_left _ h8⟩⟩⟩
    · exact ⟨h1, List.getElem_mem hj, List.getElem_mem hl, .inr ⟨hi, rfl, .inr ⟨hj, rfl, List.mem_append_right _ (List.mem_singleton.2 rfl)⟩⟩⟩
theorem Got.nextObj (hj : j < LO.length) : Got d ns LO LA i j LA.length t ↔ Got d ns LO LA i (j + 1) 0 t := by
  have htk : LO.take (j + 1) = LO.take j ++ [LO[j]] := List.take_succ_eq_append_getElem hj
  unfold Got
  rw [htk, List.take_length]
  constructor
  · rintro ⟨h1, h2, h3, h4 | ⟨hi, h5, h6 | ⟨_, h7, h8⟩⟩⟩
    · exact ⟨h1, h2, h3, .inl h4⟩
    · exact ⟨h1, h2, h3, .inr ⟨hi, h5, .inl (List.mem_append_left _ h6)⟩⟩
    · exact ⟨h1, h2, h3, .inr ⟨hi, h5, .inl (by rw [h7]; exact List.mem_append_right _ (List.mem_singleton.2 rfl))⟩⟩
  · rintro ⟨h1, h2, h3, h4 | ⟨hi, h5, h6 | ⟨_, h7, h8⟩⟩⟩
    · exact ⟨h1, h2, h3, .inl h4⟩
    · rcases List.mem_append.1 h6 with h6 | h6
      · exact ⟨h1, h2, h3, .inr ⟨hi, h5, .inl h6⟩⟩
      · exact ⟨h1, h2, h3, .inr ⟨hi, h5, .inr ⟨hj, List.mem_singleton.1 h6, h3⟩⟩⟩
    · simp at h8
theorem Got.nextSub (hi : i < ns.length) : Got d ns LO LA i LO.length 0 t ↔ Got d ns LO LA (i + 1) 0 0 t := by
  have htk : ns.take (i + 1) = ns.take i ++ [ns[i]] := List.take_succ_eq_append_getElem hi
  unfold Got
  rw [htk, List.take_length]
  constructor
  · rintro ⟨h1, h2, h3, h4 | ⟨_, h5, h6 | ⟨h, _⟩⟩⟩
    · exact ⟨h1, h2, h3, .inl (List.mem_append_left _ h4)⟩
    · exact ⟨h1, h2, h3, .inl (by rw [h5]; exact List.mem_append_right _ (List.mem_singleton.2 rfl))⟩
    · omega
  · rintro ⟨h1, h2, h3, h4 | ⟨_, h5, h6 | ⟨_, h7, h8⟩⟩⟩
    · rcases List.mem_append.1 h4 with h4 | h4
      · exact ⟨h1, h2, h3, .inl h4⟩
      · exact ⟨h1, h2, h3, .inr ⟨hi, List.mem_singleton.1 h4, .inl h2⟩⟩
    · simp at h6
    · simp at h8
theorem Got.all : Got d ns LO LA ns.length 0 0 t ↔ (d.allowB t = true ∧ t.f1 ∈ LO ∧ t.f2 ∈ LA ∧ t.f0 ∈ ns) := by
  unfold Got
  rw [List.take_length]
  constructor
  · rintro ⟨h1, h2, h3, h4 | ⟨h, _⟩⟩
    · exact ⟨h1, h2, h3, h4⟩
    · omega
  · rintro ⟨h1, h2, h3, h4⟩
    exact ⟨h1, h2, h3, .inl h4⟩
end
end Go.Proofs.Ythaiodklfoegiaa.MPol

/- mean.about, its row as the call's own. -/
namespace Go.Proofs.Ythaiodklfoegiaa.MPol
open Go.RowKit Go.Proofs.YthaiodklfoegiaaW.PrintWords Go.Proofs.YthaiodklfoegiaaW.PrintLast Go.Proofs.YthaiodklfoegiaaW.PrintMore Go.Proofs.Ythaiodklfoegiaa.BMap Go.Proofs.Ythaiodklfoegiaa.BRow Go.Proofs.Ythaiodklfoegiaa.MLines Go.Proofs.Ythaiodklfoegiaa.MPut Go.Proofs.Ythaiodklfoegiaa.MClose Go.Proofs.Ythaiodklfoegiaa.MConcat Go.Proofs.Ythaiodklfoegiaa.MStand Go.Proofs.Ythaiodklfoegiaa.MSide Go.Maps
open Go.Proofs.Ythaiodklfoegiaa Go.Proofs.Ythaiodklfoegiaa.PG Go.Proofs.YthaiodklfoegiaaF

set_option maxHeartbeats 1000000 in
set_option maxRecDepth 100000 in
theorem about_own (p : Pol) (w0 : World) (n1 : ByteArray) (t1 b1 : Nat) (R1 : ByteArray → Prop) (n2 : ByteArray) (t2 b2 : Nat) (R2 : ByteArray → Prop) (w : World) (hw0 : Below w0.heap.size w0 w) (hp0 : p.In w0) (hd : p.d.Ok) (h1 : IsSet w b1 R1) (h2 : IsSet w b2 R2) :
    Calls Try.prog 64 #[.agg p.cells, .agg (sideV n1 t1 b1), .agg (sideV n2 t2 b2)] w fun e w' => ∃ v, e = .returned v ∧ OwnRow (k78.K w0) 78 6 w' w.heap.size v (p.d.rules.filter fun r => speaksB r R1 R2 t1) ∧ Below w.heap.size w w' := by
  obtain ⟨d, A0, c0, A1, c1, A2, c2, A3, c3, A4, c4, A5, c5, A6, c6, A7, c7, A8, c8, A9, c9, A10, c10⟩ := p
  have hp := hp0.below hw0
  have hmax : d.rules.length ≤ 9223372036854775807 := hp.h9.2.1
  have HP0 := Aside0.mk hp0
  have HW0 := Aside0.mk hw0
  have hlt1 := h1.lt
  have hlt2 := h2.lt
  have HP := Aside0.mk hp
  have HD := Aside0.mk hd
  have hA := Abt.start (Pol.mk d A0 c0 A1 c1 A2 c2 A3 c3 A4 c4 A5 c5 A6 c6 A7 c7 A8 c8 A9 c9 A10 c10) w (sideV n1 t1 b1) (sideV n2 t2 b2) h1 h2
  have e9 := hA.s0.cell 9
  simp only [Pol.cells, List.getElem?_toArray, List.getElem?_cons_zero, List.getElem?_cons_succ] at e9
  have HA := Aside0.mk hA
  clear hA hp hd h1 h2 hp0 hw0
  unfold Pol.cells
  unfold Pol.cells at HA
  obtain ⟨v1, hv1⟩ : ∃ v1, v1 = sideV n1 t1 b1 := ⟨_, rfl⟩
  obtain ⟨v2, hv2⟩ : ∃ v2, v2 = sideV n2 t2 b2 := ⟨_, rfl⟩
  have sz1 : v1.size = 3 := by rw [hv1]; rfl
  have sz2 : v2.size = 3 := by rw [hv2]; rfl
  rw [← hv1, ← hv2] at HA ⊢
  rw [← hv1, ← hv2] at e9
  have HV1 := Aside0.mk hv1
  have HV2 := Aside0.mk hv2
  have HSZ1 := Aside0.mk sz1
  have HSZ2 := Aside0.mk sz2
  clear hv1 hv2 sz1 sz2
  simp only [] at HA e9 ⊢
  go_enter Try.func64, Try.ntmps64
  go_wp2
  clear e9
  go_loopw [7, 13] (fun u7 u13 wr => ∃ k : Nat, k ≤ d.rules.length ∧ u13 = .int .i64 k ∧ Aside0 (Abt (Pol.mk d A0 c0 A1 c1 A2 c2 A3 c3 A4 c4 A5 c5 A6 c6 A7 c7 A8 c8 A9 c9 A10 c10) w wr v1 v2 b1 b2 R1 R2) ∧ Aside0 (OwnRow (k78.K w0) 78 6 wr w.heap.size u7 ((d.rules.take k).filter fun r => speaksB r R1 R2 t1))) (fun _ u13 _ => d.rules.length - (intOf u13).toNat)
  case atStart => exact ⟨0, Nat.zero_le _, rfl, HA, ⟨OwnRow.none_ _ _ _ _ _⟩⟩
  case round =>
    obtain ⟨k, hk, rfl, HR, HRow⟩ := hrel
    obtain ⟨Ao, co, rfl, hlo⟩ := HRow.out.slice_
    by_cases hlt : k < d.rules.length
    · obtain ⟨ad, cs, e0, hcl, hK, hcell⟩ := Kd.C_get HP0.out.h9 z78 (k : Int) (by omega) (by simp only []; omega)
      have e0 : A9 = some ad := e0
      subst e0
      have hget : d.rules.getD (k : Int).toNat z78 = d.rules[k] := by simp [hlt]
      have hK : k78.K w0 d.rules[k] cs := by rw [← hget]; exact hK
      have htk : d.rules.take (k + 1) = d.rules.take k ++ [d.rules[k]] := List.take_succ_eq_append_getElem hlt
      have hro := HD.out.rules d.rules[k] (List.getElem_mem hlt)
      obtain ⟨x, hxx⟩ : ∃ x, x = d.rules[k] := ⟨_, rfl⟩
      rw [← hxx] at hK htk hro
      obtain ⟨A3', c3', rfl, l3, g3⟩ := k78_open hK
      have hcw : ∀ (j : Nat) (v : Value), ([.bool x.f0, .string x.f1, .string x.f2, .slice A3' x.f3.length c3', .int .i8 x.f4, .float .f64 x.f5] : List Value)[j]? = some v → wr.cell? ((ad.add (k * 6)).add j) = some v := by
        intro j v hj
        have h0 := hcell j v hj
        have h0 : w0.cell? (ad.add (k * 6 + j)) = some v := h0
        rw [add_add]
        exact pw_cell_below HR.out.below (pw_cell_below HW0.out h0)
      have HCW := Aside0.mk hcw
      have HTK := Aside0.mk htk
      have HRO := Aside0.mk hro
      have HL3 := Aside0.mk l3
      have HG3 := Aside0.mk g3
      have HK := Aside0.mk hK
      have c0' : (k : Int) < d.rules.length := by omega
      clear hcell hK hget htk hro hxx hcw hcl l3 g3
      go_upto_region 5 with (first | ((with_reducible refine gate_dst (N := 16) rfl ?_); refine wpList_load_at rfl 78 (.tmp 15) rfl (ad.add (k * 6)) ?hx [.bool x.f0, .string x.f1, .string x.f2, .slice A3' x.f3.length c3', .int .i8 x.f4, .float .f64 x.f5] HCW.out _ Try.underlying78 rfl i78 ?_; (case hx => rfl); refine wpList_alloc_store rfl rfl 78 9 (.tmp 16) rfl rfl rfl #[(.bool false), (.string ⟨#[]⟩), (.string ⟨#[]⟩), (.slice none 0 0), (.int .i8 0), (.float .f64 0)] (ruleV x A3' c3') _ (z78v _) rfl i78 rfl (by simp [ruleV, Value.oneCell']) ?hy ?hp ?_; (case hy => rfl); (case hp => rfl)))
      simp only [Act.put, List.setIfInBounds_toArray, List.set_cons_succ, List.set_cons_zero]
      have hS2 := heap_alloc_new wr (.cells (ruleV x A3' c3') 78)
      have hb2 := below_alloc (Below.refl _ wr) (.cells (ruleV x A3' c3') 78)
      have hA2 := HR.out.move hb2
      have hR2 := HRow.out.below hb2
      obtain ⟨W2, hW2⟩ : ∃ W2, W2 = wr.alloc (.cells (ruleV x A3' c3') 78) := ⟨_, rfl⟩
      obtain ⟨g9, hg9⟩ : ∃ g9, g9 = wr.heap.size := ⟨_, rfl⟩
      rw [← hg9] at hS2 ⊢
      rw [← hW2] at hS2 hA2 hR2 ⊢
      have hS2 : Stays W2 g9 (ruleV x A3' c3') 78 := hS2
      have HA2 := Aside0.mk hA2
      have HR2 := Aside0.mk hR2
      have HS2 := Aside0.mk hS2
      clear hS2 hA2 hR2 hW2 hg9 hb2
      obtain ⟨q, hq⟩ : ∃ q, speaksB x R1 R2 t1 = q := ⟨_, rfl⟩
      have HQ := Aside0.mk hq
      clear hq
      go_upto_if 20 with (first | ((with_reducible refine gate_dst (N := 17) rfl ?_); refine wpList_load_blk rfl 78 (.tmp 9) rfl g9 ?hx (ruleV x A3' c3') 78 HS2.out _ Try.underlying78 rfl i78 ?_; (case hx => rfl)) | ((with_reducible refine gate_dst (N := 18) rfl ?_); refine wpList_load_blk rfl 95 (.tmp 4) rfl (w.heap.size + 1) ?hx v1 95 HA2.out.s1 _ Try.underlying95 rfl (by rw [HSZ1.out]; exact i95) ?_; (case hx => rfl)) | ((with_reducible refine gate_dst (N := 19) rfl ?_); refine wpList_load_blk rfl 95 (.tmp 5) rfl (w.heap.size + 1 + 1) ?hx v2 95 HA2.out.s2 _ Try.underlying95 rfl (by rw [HSZ2.out]; exact i95) ?_; (case hx => rfl)) | (go_at_call 78; (with_reducible refine (speaks_go x A3' c3' n1 t1 b1 R1 n2 t2 b2 R2 _ q HQ.out (Kd.C_below (Kd.C_below HG3.out HW0.out) HA2.out.below) HL3.out HA2.out.set1 HA2.out.set2 HRO.out.1 HRO.out.2 v1 v2 HV1.out HV2.out).mono ?_); rintro e w3 ⟨rfl, hb3⟩; have HA3 := Aside0.mk (HA2.out.move hb3); have HR3 := Aside0.mk (HR2.out.below hb3); have HS3 := Aside0.mk (HS2.out.below hb3); clear hb3))
      have hlim : (((d.rules.take k).filter fun r => speaksB r R1 R2 t1).length + 1) * 80 ≤ 140737488355328 := by
        have h1 := List.length_filter_le (fun r => speaksB r R1 R2 t1) (d.rules.take k)
        rw [List.length_take] at h1
        have h2 := HD.out.lrules
        omega
      have HLIM := Aside0.mk hlim
      clear hlim
      have hfil : (d.rules.take (k + 1)).filter (fun r => speaksB r R1 R2 t1) = (d.rules.take k).filter (fun r => speaksB r R1 R2 t1) ++ if q = true then [x] else [] := by
        rw [HTK.out, List.filter_append, List.filter_cons, HQ.out]
        cases q <;> simp
      have HFIL := Aside0.mk hfil
      clear hfil
      obtain ⟨L, hL⟩ : ∃ L, L = (d.rules.take k).filter (fun r => speaksB r R1 R2 t1) := ⟨_, rfl⟩
      rw [← hL] at HR3 HLIM HFIL hlo ⊢
      have HLL := Aside0.mk hL
      clear hL
      have HNB := Aside0.mk (fun (b : Nat) (hb : b < w.heap.size) => show some b ≠ (Value.slice Ao L.length co).ownBlock from fun e => by
        obtain ⟨inner, ho, _⟩ := HR3.out
        have := own_base ho b e.symm
        omega)
      cases q with
      | true =>
        go_wp2_with (first | ((with_reducible refine gate_dst (N := 22) rfl ?_); refine wpList_load_blk rfl 78 (.tmp 9) rfl g9 ?hx #[.bool x.f0, .string x.f1, .string x.f2, .slice A3' x.f3.length c3', .int .i8 x.f4, .float .f64 x.f5] 78 HS3.out _ Try.underlying78 rfl i78 ?_; (case hx => rfl)) | ((with_reducible refine gate_builtin (b := .append) (xs := #[.tmp 21, .tmp 23]) rfl ?_); at_builtin; refine OwnRow.append (w0 := w) w.heap.size rfl (.tmp 21) (.tmp 23) 36 78 (.agg #[(.bool false), (.string ⟨#[]⟩), (.string ⟨#[]⟩), (.slice none 0 0), (.int .i8 0), (.float .f64 0)]) 6 80 rfl Try.underlying36 info78 rfl (by decide) (by decide) _ L x [.bool x.f0, .string x.f1, .string x.f2, .slice A3' x.f3.length c3', .int .i8 x.f4, .float .f64 x.f5] rfl rfl HK.out rfl (k78.K_one HK.out) HR3.out HA3.out.below HA3.out.below.size HLIM.out ?_; intro v8 w8 hR8 hB8 hg8 hat8; have HR8 := Aside0.mk hR8; have HA8 := Aside0.mk (HA3.out.grown hg8 hB8 (HR3.out.ne_block HA3.out.s0 (by decide)) (HR3.out.ne_block HA3.out.s1 (by decide)) (HR3.out.ne_block HA3.out.s2 (by decide)) (HNB.out _ hlt1) (HNB.out _ hlt2)); clear hR8 hB8 hg8 hat8))
        go_roundw
        case rel => exact ⟨k + 1, by omega, by go_num, HA8, ⟨by rw [HFIL.out, if_pos rfl]; exact HR8.out⟩⟩
        case measure => simp [intOf]; omega
      | false =>
        go_wp2
        go_roundw
        case rel => exact ⟨k + 1, by omega, by go_num, HA3, ⟨by rw [HFIL.out, if_neg (by simp), List.append_nil]; exact HR3.out⟩⟩
        case measure => simp [intOf]; omega
    · have hkk : k = d.rules.length := by omega
      subst hkk
      have hfin := HRow.out
      rw [List.take_length] at hfin
      rw [List.take_length]
      have HFI := Aside0.mk hfin
      clear hfin hlo
      go_wp2
      go_ret
      rw [List.take_length] at *
      exact ⟨_, rfl, HFI.out, HR.out.below⟩
end Go.Proofs.Ythaiodklfoegiaa.MPol

/- mean.Relation. -/
namespace Go.Proofs.Ythaiodklfoegiaa.MPol
open Go.RowKit Go.Proofs.YthaiodklfoegiaaW.PrintWords Go.Proofs.YthaiodklfoegiaaW.PrintLast Go.Proofs.YthaiodklfoegiaaW.PrintMore Go.Proofs.Ythaiodklfoegiaa.BMap Go.Proofs.Ythaiodklfoegiaa.BRow Go.Proofs.Ythaiodklfoegiaa.MLines Go.Proofs.Ythaiodklfoegiaa.MPut Go.Proofs.Ythaiodklfoegiaa.MClose Go.Proofs.Ythaiodklfoegiaa.MConcat Go.Proofs.Ythaiodklfoegiaa.MStand Go.Proofs.Ythaiodklfoegiaa.MSide Go.Maps
open Go.Proofs.Ythaiodklfoegiaa Go.Proofs.Ythaiodklfoegiaa.PG Go.Proofs.YthaiodklfoegiaaF

/-- A side in a row: its name, its trust, its set's block. -/
abbrev SD := ByteArray × Nat × Nat
def RS (x : SD) (cs : List Value) : Prop := cs = [.string x.1, .float .f64 x.2.1, .map (some x.2.2)]
theorem RS_mk (n : ByteArray) (t b : Nat) : RS (n, t, b) [.string n, .float .f64 t, .map (some b)] := rfl
theorem info95 : (Try.prog.info? 95).map (fun i => (i.zero, i.size, i.bytes)) = some (some (.agg #[.string ⟨#[]⟩, .float .f64 0, .map none]), 3, 32) := by kernel_rfl
/-- A row of sides, and their sets. -/
structure Sides (w wr : World) (v : Value) (ps : List SD) (R : ByteArray → Nat → ByteArray → Prop) (T : ByteArray → Nat → Prop) : Prop where
  row : OwnRow RS 95 3 wr w.heap.size v ps
  sets : ∀ x ∈ ps, IsSet wr x.2.2 (R x.1 x.2.1)
  trust : ∀ x ∈ ps, T x.1 x.2.1
  below : Below w.heap.size w wr
theorem Sides.move {w wr w1 : World} {v : Value} {ps : List SD} {R : ByteArray → Nat → ByteArray → Prop} {T : ByteArray → Nat → Prop} (h : Sides w wr v ps R T) (hb : Below wr.heap.size wr w1) : Sides w w1 v ps R T :=
  ⟨h.row.below hb, fun x hx => (h.sets x hx).below hb, h.trust, below_then h.below h.below.size hb⟩
theorem set_ne {W : World} {b : Nat} {R : ByteArray → Prop} (h : IsSet W b R) {α : Type} {Rr : α → List Value → Prop} {e size base : Nat} {v : Value} {ps : List α} (ho : OwnRow Rr e size W base v ps) : some b ≠ v.ownBlock := by
  intro hk
  obtain ⟨f, n, hM, _⟩ := h
  obtain ⟨es, cl, l, h1, _⟩ := hM.out
  obtain ⟨inner, hown, _⟩ := ho
  obtain ⟨cells, hc⟩ := own_typed hown b hk.symm
  rw [h1] at hc
  cases hc
theorem set_grown {W W1 : World} {b : Nat} {R : ByteArray → Prop} (h : IsSet W b R) {row : Option Nat} (hg : W.grownBy W1 row) (hne : some b ≠ row) : IsSet W1 b R := by
  obtain ⟨f, n, hM, hf⟩ := h
  exact ⟨f, n, hM.grown hg hne, hf⟩
/-- One side more. -/
theorem Sides.put {w wr w1 : World} {v v1 : Value} {ps : List SD} {R : ByteArray → Nat → ByteArray → Prop} {T : ByteArray → Nat → Prop} {x : SD} (h : Sides w wr v ps R T) (hx : IsSet wr x.2.2 (R x.1 x.2.1)) (ht : T x.1 x.2.1) (hr : OwnRow RS 95 3 w1 w.heap.size v1 (ps ++ [x])) (hg : wr.grownBy w1 v.ownBlock) (hb : Below w.heap.size w w1) : Sides w w1 v1 (ps ++ [x]) R T where
  row := hr
  sets := fun y hy => by
    rcases List.mem_append.1 hy with hy | hy
    · exact set_grown (h.sets y hy) hg (set_ne (h.sets y hy) h.row)
    · rw [List.mem_singleton.1 hy]; exact set_grown hx hg (set_ne hx h.row)
  trust := fun y hy => by
    rcases List.mem_append.1 hy with hy | hy
    · exact h.trust y hy
    · rw [List.mem_singleton.1 hy]; exact ht
  below := hb

theorem trust_some {d : PolD} {s : ByteArray} (h : ∃ y ∈ d.subs, y.f0 = s) : ∃ tr, d.trust s = some tr := by
  unfold PolD.trust
  cases hf : d.subs.find? (fun x => decide (x.f0 = s)) with
  | none =>
    obtain ⟨y, hy, he⟩ := h
    have := List.find?_eq_none.1 hf y hy
    simp [he] at this
  | some y => exact ⟨y.f1, rfl⟩
theorem subject_go (p : Pol) (s : ByteArray) (w : World) (hp : p.In w) (hd : p.d.Ok) (hs : okS s) (tr : Nat) (ht : p.d.trust s = some tr) :
    Calls Try.prog 60 #[.agg p.cells, .string s] w fun e w' => ∃ b, e = .returned (.tuple #[.agg #[.string s, .float .f64 tr, .map (some b)], .bool true]) ∧ IsSet w' b (p.d.who s) ∧ Below w.heap.size w w' := by
  refine (subject_calls p s w hp hd hs).mono ?_
  rintro e w' ⟨v, rfl, hS, hb⟩
  rw [ht] at hS ⊢
  obtain ⟨b, rfl, hset⟩ := hS.1 rfl
  exact ⟨b, rfl, hset, hb⟩
theorem object_go (p : Pol) (o : ByteArray) (w : World) (hp : p.In w) (hd : p.d.Ok) (ho : okS o) (hin : o ∈ p.d.objs) :
    Calls Try.prog 61 #[.agg p.cells, .string o] w fun e w' => ∃ b, e = .returned (.tuple #[.agg #[.string o, .float .f64 0, .map (some b)], .bool true]) ∧ IsSet w' b (p.d.what o) ∧ Below w.heap.size w w' := by
  classical
  refine (object_calls p o w hp hd ho true (by simpa using hin)).mono ?_
  rintro e w' ⟨v, rfl, hS, hb⟩
  obtain ⟨b, rfl, hset⟩ := hS.1 rfl
  exact ⟨b, rfl, hset, hb⟩
open Classical in
theorem allowB_at {d : PolD} {s o a : ByteArray} {tr : Nat} (h1 : d.trust s = some tr) (h2 : o ∈ d.objs) (h3 : a ∈ d.acts) : d.allowB ⟨s, o, a⟩ = allowsF (d.rules.filter fun r => speaksB r (d.who s) (d.what o) tr) d.exc ⟨s, o, a⟩ := by
  unfold PolD.allowB PolD.speak
  simp only [h1, decide_eq_true h2, decide_eq_true h3, Option.isSome_some, Bool.true_and, Option.getD_some]
theorem z28v (w : World) : (zeroValue 28).run Try.prog w = .ok (.agg #[.string ⟨#[]⟩, .string ⟨#[]⟩, .string ⟨#[]⟩]) w := by kernel_rfl
theorem info28 : (Try.prog.info? 28).map (fun i => (i.zero, i.size, i.bytes)) = some (some (.agg #[.string ⟨#[]⟩, .string ⟨#[]⟩, .string ⟨#[]⟩]), 3, 48) := by kernel_rfl
theorem own_stays {α : Type} {d : Kd α} {e : Nat} {W W1 : World} {base : Nat} {ok : Nat → Prop} {v : Value} {xs : List α} (h : d.R e W base ok v xs) (hg : W.grownBy W1 v.ownBlock) {g t : Nat} {cs : Array Value} (hS : Stays W g cs t) (hne : e ≠ t) : Stays W1 g cs t := by
  obtain ⟨_, inner, hown, _⟩ := h
  exact (hg.block _ (Array.getElem?_eq_some_iff.1 hS).1 (own_ne hown hS hne)).trans hS
theorem own_other_row {α β : Type} {d : Kd α} {e e2 size base2 : Nat} {Rr : β → List Value → Prop} {W W1 : World} {base : Nat} {ok : Nat → Prop} {v v2 : Value} {xs : List α} {ys : List β} (h : d.R e W base ok v xs) (hg : W.grownBy W1 v.ownBlock) (h2 : OwnRow Rr e2 size W base2 v2 ys) (hne : e2 ≠ e) : OwnRow Rr e2 size W1 base2 v2 ys := by
  obtain ⟨_, inner, hown, _⟩ := h
  refine h2.other hg ?_
  cases hb : v2.ownBlock with
  | none => exact .inl rfl
  | some k =>
    refine .inr fun e => ?_
    obtain ⟨inner2, hown2, _⟩ := h2
    obtain ⟨c1, hc1⟩ := own_typed hown2 k hb
    obtain ⟨c2, hc2⟩ := own_typed hown k e.symm
    rw [hc1] at hc2
    have := Option.some.inj hc2
    simp only [Obj.cells.injEq] at this
    exact hne this.2.1
theorem take_mem {α : Type} {l : List α} {k : Nat} {x : α} (h : x ∈ l.take k) : x ∈ l := List.mem_of_mem_take h

set_option maxHeartbeats 2000000 in
set_option maxRecDepth 100000 in
theorem Relation_calls (p : Pol) (w : World) (hp : p.In w) (hd : p.d.Ok) (hs : p.d.subs.length ≤ 64) (ho : p.d.objs.length ≤ 64) (ha : p.d.acts.length ≤ 16) :
    Calls Try.prog 59 #[.agg p.cells] w fun e w' => ∃ v, e = .returned v ∧ ∃ L : List S28, Kd.R k28 28 w' w.heap.size (fun _ => True) v L ∧ (∀ t, t ∈ L ↔ ((∃ y ∈ p.d.subs, y.f0 = t.f0) ∧ p.d.allowB t = true)) ∧ L.length ≤ 65536 ∧ Below w.heap.size w w' := by
  obtain ⟨d, A0, c0, A1, c1, A2, c2, A3, c3, A4, c4, A5, c5, A6, c6, A7, c7, A8, c8, A9, c9, A10, c10⟩ := p
  have HP := Aside0.mk hp
  have HD := Aside0.mk hd
  have HS := Aside0.mk hs
  have HO := Aside0.mk ho
  have HA := Aside0.mk ha
  have hmax : d.subs.length ≤ 64 := hs
  clear hp hd hs ho ha
  have hst0 : Stays (w.alloc (.cells (Pol.cells (Pol.mk d A0 c0 A1 c1 A2 c2 A3 c3 A4 c4 A5 c5 A6 c6 A7 c7 A8 c8 A9 c9 A10 c10)) 39)) w.heap.size (Pol.cells (Pol.mk d A0 c0 A1 c1 A2 c2 A3 c3 A4 c4 A5 c5 A6 c6 A7 c7 A8 c8 A9 c9 A10 c10)) 39 := heap_alloc_new w _
  have HST := Aside0.mk hst0
  have e1 := hst0.cell 1
  simp only [Pol.cells, List.getElem?_toArray, List.getElem?_cons_zero, List.getElem?_cons_succ] at e1
  clear hst0
  unfold Pol.cells
  unfold Pol.cells at HST
  simp only [] at HST e1 ⊢
  go_enter Try.func59, Try.ntmps59
  have hz := z54
  go_wp2
  clear e1
  go_loopw [3, 26] (fun u3 u26 wr => ∃ (k : Nat) (ps : List SD), k ≤ d.subs.length ∧ u26 = .int .i64 k ∧ Aside0 (Sides w wr u3 ps (fun s _ => d.who s) (fun s tr => d.trust s = some tr)) ∧ Aside0 (Stays wr w.heap.size (Pol.cells (Pol.mk d A0 c0 A1 c1 A2 c2 A3 c3 A4 c4 A5 c5 A6 c6 A7 c7 A8 c8 A9 c9 A10 c10)) 39) ∧ Aside0 (∀ s, s ∈ ps.map (·.1) ↔ ∃ y ∈ d.subs.take k, y.f0 = s) ∧ Aside0 (ps.length ≤ k)) (fun _ u26 _ => d.subs.length - (intOf u26).toNat)
  case atStart => exact ⟨0, [], Nat.zero_le _, rfl, ⟨⟨OwnRow.none_ _ _ _ _ _, by simp, by simp, below_alloc (Below.refl _ _) _⟩⟩, HST, ⟨by simp⟩, ⟨Nat.le_refl _⟩⟩
  case round =>
    obtain ⟨k, ps, hk, rfl, HR, HB, HM, HL⟩ := hrel
    have hpin := HP.out.below HR.out.below
    by_cases hlt : k < d.subs.length
    · obtain ⟨ad, e0, hx0, hx1⟩ := at_T54 hpin.h1 (k : Int) (by omega) (by simp only []; omega)
      have hget : rd_T54 d.subs (k : Int) = d.subs[k] := by simp [rd_T54, hlt]
      simp only [hget, Int.toNat_natCast] at hx0 hx1
      have e0 : A1 = some ad := e0
      subst e0
      have htk : d.subs.take (k + 1) = d.subs.take k ++ [d.subs[k]] := List.take_succ_eq_append_getElem hlt
      have hin : d.subs[k] ∈ d.subs := List.getElem_mem hlt
      have hat : ∀ j (h : j < d.subs.length), j ≤ k → d.subs[j].f0 = d.subs[k].f0 → j ≠ k → ∃ y ∈ d.subs.take k, y.f0 = d.subs[k].f0 := fun j h hjk he hne => ⟨d.subs[j], by
        have hj : j < (d.subs.take k).length := by rw [List.length_take]; omega
        have e : (d.subs.take k)[j] = d.subs[j] := List.getElem_take
        rw [← e]
        exact List.getElem_mem hj, he⟩
      have hik : ∃ h : k < d.subs.length, d.subs[k].f0 = d.subs[k].f0 := ⟨hlt, rfl⟩
      obtain ⟨x, hxx⟩ : ∃ x, x = d.subs[k] := ⟨_, rfl⟩
      have HXX := Aside0.mk hxx
      rw [← hxx] at hx0 hx1 htk hin hat
      have HTK := Aside0.mk htk
      have HIN := Aside0.mk hin
      have HAT := Aside0.mk hat
      have HPI := Aside0.mk hpin
      have c0' : (k : Int) < d.subs.length := by omega
      have e1 := HB.out.cell 1
      simp only [Pol.cells, List.getElem?_toArray, List.getElem?_cons_zero, List.getElem?_cons_succ] at e1
      have hcw : ∀ (j : Nat) (v : Value), ([.string x.f0, .float .f64 x.f1] : List Value)[j]? = some v → wr.cell? ((ad.add (k * 2)).add j) = some v := by
        intro j v hj
        have hj2 : j < 2 := (List.getElem?_eq_some_iff.1 hj).1
        have : j = 0 ∨ j = 1 := by omega
        rcases this with rfl | rfl
        · obtain rfl : Value.string x.f0 = v := by simpa using hj
          rw [Addr.add_zero']; exact hx0
        · obtain rfl : Value.float .f64 x.f1 = v := by simpa using hj
          rw [add_add, add_field _ _ 1 (by omega)]; exact hx1
      have HCW := Aside0.mk hcw
      clear hx0 hx1 hget htk hin hat hxx hcw hpin hik
      go_upto_region 5 with (first | ((with_reducible refine gate_dst (N := 30) rfl ?_); refine wpList_load_at rfl 54 (.tmp 29) rfl (ad.add (k * 2)) ?hx [.string x.f0, .float .f64 x.f1] HCW.out _ Try.underlying54 rfl i54 ?_; (case hx => rfl)) | ((with_reducible refine gate_store (t := 54) (p := 6) (v := .tmp 30) rfl ?_); refine wpList_store_var rfl 54 (.tmp 6) (.tmp 30) rfl wr.heap.size #[.string x.f0, .float .f64 x.f1] ?hx ?hy (cs := #[.string ⟨#[]⟩, .float .f64 0]) (t := 54) (heap_alloc_new wr _) rfl i54 (by simp [Value.oneCell']) ?_; (case hx => rfl); (case hy => rfl)))
      (try simp only [Act.put])
      have hb2 : Below wr.heap.size wr ((wr.alloc (.cells #[.string ⟨#[]⟩, .float .f64 0] 54)).setCells wr.heap.size 0 [.string x.f0, .float .f64 x.f1]) := setCells_below (below_alloc (Below.refl _ _) _) (Nat.le_refl _) _
      have hS2 : Stays ((wr.alloc (.cells #[.string ⟨#[]⟩, .float .f64 0] 54)).setCells wr.heap.size 0 [.string x.f0, .float .f64 x.f1]) wr.heap.size #[.string x.f0, .float .f64 x.f1] 54 := setCells_var (vs := #[.string x.f0, .float .f64 x.f1]) (heap_alloc_new wr _) rfl
      have hR2 := HR.out.move hb2
      have hB2 := HB.out.below hb2
      have hP2 := HPI.out.below hb2
      obtain ⟨W2, hW2⟩ : ∃ W2, W2 = ((wr.alloc (.cells #[.string ⟨#[]⟩, .float .f64 0] 54)).setCells wr.heap.size 0 [.string x.f0, .float .f64 x.f1]) := ⟨_, rfl⟩
      obtain ⟨g6, hg6⟩ : ∃ g6, g6 = wr.heap.size := ⟨_, rfl⟩
      rw [← hW2] at hS2 hR2 hB2 hP2 ⊢
      rw [← hg6] at hS2 ⊢
      have e1 := hB2.cell 1
      simp only [Pol.cells, List.getElem?_toArray, List.getElem?_cons_zero, List.getElem?_cons_succ] at e1
      have hg : W2.cell? ⟨g6, 0, none⟩ = some (.string x.f0) := hS2.cell 0
      have HG := Aside0.mk hg
      have HS2 := Aside0.mk hS2
      have HR2 := Aside0.mk hR2
      have HB2 := Aside0.mk hB2
      have HP2 := Aside0.mk hP2
      clear hb2 hS2 hR2 hB2 hP2 hW2 hg6 hg
      go_upto_if 36 with (first | (go_at_call 72; (with_reducible refine (index_calls (some ad) c1 d.subs g6 x.f0 _ HP2.out.h1 HG.out k hlt (congrArg S54.f0 HXX.out).symm).mono ?_); rintro e w3 ⟨j, rfl, hjk, hjs, hjn, hb3⟩; have HJS := Aside0.mk hjs; have HJN := Aside0.mk hjn; have HS3 := Aside0.mk (HS2.out.below hb3); have HR3 := Aside0.mk (HR2.out.move hb3); have HB3 := Aside0.mk (HB2.out.below hb3); have HP3 := Aside0.mk (HP2.out.below hb3); clear hjs hjn hb3))
      have e1 := HB3.out.cell 1
      simp only [Pol.cells, List.getElem?_toArray, List.getElem?_cons_zero, List.getElem?_cons_succ] at e1
      by_cases hje : j = k
      · have hq : ((j : Int) == (k : Int)) = true := by rw [hje]; exact beq_self_eq_true _
        obtain ⟨tr, htr⟩ := trust_some (d := d) (s := x.f0) ⟨x, HIN.out, rfl⟩
        have HTR := Aside0.mk htr
        have hlim : (ps.length + 1) * 32 ≤ 140737488355328 := by have := HL.out; omega
        have HLIM := Aside0.mk hlim
        have x0 : w3.cell? ⟨g6, 0, none⟩ = some (.string x.f0) := HS3.out.cell 0
        have hxok := HD.out.subs x HIN.out
        have HXOK := Aside0.mk hxok
        clear htr hlim hje hxok
        go_upto_region 7 with (first | ((with_reducible refine gate_dst (N := 38) rfl ?_); refine wpList_load_blk rfl 39 (.tmp 1) rfl w.heap.size ?hx #[.slice A0 d.acts.length c0, .slice (some ad) d.subs.length c1, .slice A2 d.roles.length c2, .slice A3 d.objs.length c3, .slice A4 d.grps.length c4, .slice A5 d.mem.length c5, .slice A6 d.inh.length c6, .slice A7 d.par.length c7, .slice A8 d.wit.length c8, .slice A9 d.rules.length c9, .slice A10 d.exc.length c10] 39 HB3.out _ Try.underlying39 rfl i39 ?_; (case hx => rfl)) | (go_at_call 60; (refine (subject_go _ x.f0 _ HP3.out HD.out HXOK.out tr HTR.out).mono ?_); rintro e w4 ⟨b, rfl, hset, hb4⟩; have HR4 := Aside0.mk (HR3.out.move hb4); have HB4 := Aside0.mk (HB3.out.below hb4); have HSET := Aside0.mk hset; clear hset hb4) | ((with_reducible refine gate_dst (N := 7) rfl ?_); refine wpList_alloc_store rfl rfl 95 7 (.tmp 42) rfl rfl rfl noneV #[.string x.f0, .float .f64 tr, .map (some b)] _ (z95 _) rfl i95 rfl (by simp [Value.oneCell']) ?hy ?hp ?_; (case hy => rfl); (case hp => rfl)))
        (try simp only [Act.put])
        have hb5 := below_alloc (Below.refl _ w4) (.cells #[.string x.f0, .float .f64 tr, .map (some b)] 95)
        have hS5 : Stays (w4.alloc (.cells #[.string x.f0, .float .f64 tr, .map (some b)] 95)) w4.heap.size #[.string x.f0, .float .f64 tr, .map (some b)] 95 := heap_alloc_new w4 _
        have hR5 := HR4.out.move hb5
        have hB5 := HB4.out.below hb5
        have hT5 := HSET.out.below hb5
        obtain ⟨W5, hW5⟩ : ∃ W5, W5 = w4.alloc (.cells #[.string x.f0, .float .f64 tr, .map (some b)] 95) := ⟨_, rfl⟩
        obtain ⟨g7, hg7⟩ : ∃ g7, g7 = w4.heap.size := ⟨_, rfl⟩
        rw [← hW5] at hR5 hB5 hT5 hS5 ⊢
        rw [← hg7] at hS5 ⊢
        have HR5 := Aside0.mk hR5
        have HB5 := Aside0.mk hB5
        have HSET5 := Aside0.mk hT5
        have HS5 := Aside0.mk hS5
        clear hb5 hS5 hR5 hB5 hT5 hW5 hg7
        go_wp2_with (first | ((with_reducible refine gate_dst (N := 45) rfl ?_); refine wpList_load_blk rfl 95 (.tmp 7) rfl g7 ?hx #[.string x.f0, .float .f64 tr, .map (some b)] 95 HS5.out _ Try.underlying95 rfl i95 ?_; (case hx => rfl)) | ((with_reducible refine gate_builtin (b := .append) (xs := #[.tmp 44, .tmp 46]) rfl ?_); at_builtin; refine OwnRow.append (w0 := w) (R := RS) w.heap.size rfl (.tmp 44) (.tmp 46) 111 95 (.agg #[.string ⟨#[]⟩, .float .f64 0, .map none]) 3 32 rfl Try.underlying111 info95 rfl (by decide) (by decide) u3 ps (x.f0, tr, b) [.string x.f0, .float .f64 tr, .map (some b)] rfl rfl (RS_mk _ _ _) rfl (by simp [Value.oneCell']) HR5.out.row HR5.out.below HR5.out.below.size HLIM.out ?_; intro v8 w8 hR8 hB8 hg8 hat8; have HR8 := Aside0.mk (HR5.out.put (x := (x.f0, tr, b)) HSET5.out HTR.out hR8 hg8 hB8); have HB8 := Aside0.mk (show Stays w8 w.heap.size _ 39 from (hg8.block _ (Array.getElem?_eq_some_iff.1 HB5.out).1 (HR5.out.row.ne_block HB5.out (by decide))).trans HB5.out); clear hR8 hB8 hg8 hat8))
        go_roundw
        case rel => exact ⟨k + 1, _, by omega, by go_num, HR8, HB8, ⟨fun s => by rw [List.map_append, List.mem_append, HM.out s, HTK.out]; simp [or_and_right, exists_or, eq_comm]⟩, ⟨by rw [List.length_append]; have := HL.out; simp; omega⟩⟩
        case measure => simp [intOf]; omega
      · have hq : ((j : Int) == (k : Int)) = false := by
          rw [beq_eq_false_iff_ne]; omega
        obtain ⟨hjl, hjx⟩ := HJS.out
        have hall := HAT.out j hjl hjk hjx hje
        have HALL := Aside0.mk hall
        clear hje hall hjx hjl
        go_wp2
        go_roundw
        case rel => exact ⟨k + 1, ps, by omega, by go_num, HR3, HB3, ⟨fun s => by
          rw [HM.out s, HTK.out]
          constructor
          · rintro ⟨y, hy, rfl⟩; exact ⟨y, List.mem_append_left _ hy, rfl⟩
          · rintro ⟨y, hy, rfl⟩
            rcases List.mem_append.1 hy with hy | hy
            · exact ⟨y, hy, rfl⟩
            · rw [List.mem_singleton.1 hy]; exact HALL.out⟩, ⟨Nat.le_succ_of_le HL.out⟩⟩
        case measure => simp [intOf]; omega
    · have hkk : k = d.subs.length := by omega
      subst hkk
      have hM := HM.out
      rw [List.take_length] at hM
      have HM1 := Aside0.mk hM
      obtain ⟨w1, hw1⟩ : ∃ w1, w1 = wr := ⟨_, rfl⟩
      subst hw1
      have HP1 := Aside0.mk hpin
      have e3 := HB.out.cell 3
      simp only [Pol.cells, List.getElem?_toArray, List.getElem?_cons_zero, List.getElem?_cons_succ] at e3
      clear hM hpin HM
      have holen : d.objs.length ≤ 8796093022207 := Nat.le_trans HO.out (by decide)
      go_upto_region 10 with (first | (go_at_call 74; (with_reducible refine (once_go A3 c3 d.objs _ HP1.out.h3 HP1.out.l3 holen).mono ?_); rintro e w2 ⟨v51, rfl, hR51, hb2⟩; obtain ⟨A51, c51, rfl, hl51, hC51⟩ := Kd.R_reads hR51; have HC51 := Aside0.mk hC51; have HR2 := Aside0.mk (HR.out.move hb2); have HB2 := Aside0.mk (HB.out.below hb2); have HP2 := Aside0.mk (HP1.out.below hb2); clear hR51 hC51 hb2))
      obtain ⟨LO, hLO⟩ : ∃ LO, LO = MPut.putAll [] d.objs := ⟨_, rfl⟩
      have hLOm : ∀ o, o ∈ LO ↔ o ∈ d.objs := fun o => by rw [hLO, MPut.mem_putAll]; simp
      have hLOs : LO.length ≤ 64 := by rw [hLO]; exact Nat.le_trans (putAll_short [] d.objs) (by simpa using HO.out)
      rw [← hLO] at HC51 hl51 ⊢
      have HLOM := Aside0.mk hLOm
      clear hLO hLOm hl51
      go_loopw [4, 53] (fun u4 u53 wr => ∃ (k2 : Nat) (ps2 : List SD), k2 ≤ LO.length ∧ u53 = .int .i64 k2 ∧ Aside0 (Sides w2 wr u4 ps2 (fun o _ => d.what o) (fun o tr => tr = 0 ∧ o ∈ d.objs)) ∧ Aside0 (ps2.map (·.1) = LO.take k2)) (fun _ u53 _ => LO.length - (intOf u53).toNat)
      case atStart => exact ⟨0, [], Nat.zero_le _, rfl, ⟨⟨OwnRow.none_ _ _ _ _ _, by simp, by simp, Below.refl _ _⟩⟩, ⟨by simp⟩⟩
      case round =>
        obtain ⟨k2, ps2, hk2, rfl, HW, HN2⟩ := hrel
        by_cases hlt2 : k2 < LO.length
        · obtain ⟨ad, e0, hx⟩ := Kd.at_string HC51.out (k2 : Int) (by omega) (by omega)
          subst e0
          have hget : rdOf ByteArray.empty LO (k2 : Int) = LO[k2] := by simp [rdOf, hlt2]
          simp only [hget, Int.toNat_natCast] at hx
          have htk : LO.take (k2 + 1) = LO.take k2 ++ [LO[k2]] := List.take_succ_eq_append_getElem hlt2
          have hmem : LO[k2] ∈ d.objs := (HLOM.out _).1 (List.getElem_mem hlt2)
          obtain ⟨x, hxx⟩ : ∃ x, x = LO[k2] := ⟨_, rfl⟩
          rw [← hxx] at hx htk hmem
          replace hx := pw_cell_below HW.out.below hx
          have hlen2 : ps2.length ≤ 64 := by
            have := congrArg List.length HN2.out
            rw [List.length_map, List.length_take] at this
            omega
          have HLIM := Aside0.mk (show (ps2.length + 1) * 32 ≤ 140737488355328 by omega)
          have HTK := Aside0.mk htk
          have HMEM := Aside0.mk hmem
          have HXOK := Aside0.mk (HD.out.objs x hmem)
          have HB4 := Aside0.mk (HB2.out.below HW.out.below)
          have HP4 := Aside0.mk (HP2.out.below HW.out.below)
          have c0' : (k2 : Int) < LO.length := by omega
          clear hget htk hmem hxx hlen2
          go_upto_region 13 with (first | ((with_reducible refine gate_dst (N := 58) rfl ?_); refine wpList_load_blk rfl 39 (.tmp 1) rfl w.heap.size ?hx #[.slice A0 d.acts.length c0, .slice A1 d.subs.length c1, .slice A2 d.roles.length c2, .slice A3 d.objs.length c3, .slice A4 d.grps.length c4, .slice A5 d.mem.length c5, .slice A6 d.inh.length c6, .slice A7 d.par.length c7, .slice A8 d.wit.length c8, .slice A9 d.rules.length c9, .slice A10 d.exc.length c10] 39 HB4.out _ Try.underlying39 rfl i39 ?_; (case hx => rfl)) | (go_at_call 61; (refine (object_go _ x _ HP4.out HD.out HXOK.out HMEM.out).mono ?_); rintro e w5 ⟨b, rfl, hset, hb5⟩; have HW5 := Aside0.mk (HW.out.move hb5); have HSET := Aside0.mk hset; clear hset hb5) | ((with_reducible refine gate_dst (N := 11) rfl ?_); refine wpList_alloc_store rfl rfl 95 11 (.tmp 61) rfl rfl rfl noneV #[.string x, .float .f64 0, .map (some b)] _ (z95 _) rfl i95 rfl (by simp [Value.oneCell']) ?hy ?hp ?_; (case hy => rfl); (case hp => rfl)))
          (try simp only [Act.put])
          have hb6 := below_alloc (Below.refl _ w5) (.cells #[.string x, .float .f64 0, .map (some b)] 95)
          have hS6 : Stays (w5.alloc (.cells #[.string x, .float .f64 0, .map (some b)] 95)) w5.heap.size #[.string x, .float .f64 0, .map (some b)] 95 := heap_alloc_new w5 _
          have hW6 := HW5.out.move hb6
          have hT6 := HSET.out.below hb6
          obtain ⟨W6, hW6e⟩ : ∃ W6, W6 = w5.alloc (.cells #[.string x, .float .f64 0, .map (some b)] 95) := ⟨_, rfl⟩
          obtain ⟨g11, hg11⟩ : ∃ g11, g11 = w5.heap.size := ⟨_, rfl⟩
          rw [← hW6e] at hS6 hW6 hT6 ⊢
          rw [← hg11] at hS6 ⊢
          have HS6 := Aside0.mk hS6
          have HW6 := Aside0.mk hW6
          have HT6 := Aside0.mk hT6
          clear hb6 hS6 hW6 hT6 hW6e hg11
          go_wp2_with (first | ((with_reducible refine gate_dst (N := 64) rfl ?_); refine wpList_load_blk rfl 95 (.tmp 11) rfl g11 ?hx #[.string x, .float .f64 0, .map (some b)] 95 HS6.out _ Try.underlying95 rfl i95 ?_; (case hx => rfl)) | ((with_reducible refine gate_builtin (b := .append) (xs := #[.tmp 63, .tmp 65]) rfl ?_); at_builtin; refine OwnRow.append (w0 := w2) (R := RS) w2.heap.size rfl (.tmp 63) (.tmp 65) 111 95 (.agg #[.string ⟨#[]⟩, .float .f64 0, .map none]) 3 32 rfl Try.underlying111 info95 rfl (by decide) (by decide) u4 ps2 (x, 0, b) [.string x, .float .f64 0, .map (some b)] rfl rfl (RS_mk _ _ _) rfl (by simp [Value.oneCell']) HW6.out.row HW6.out.below HW6.out.below.size HLIM.out ?_; intro v8 w8 hR8 hB8 hg8 hat8; have HW8 := Aside0.mk (HW6.out.put (x := (x, 0, b)) HT6.out ⟨rfl, HMEM.out⟩ hR8 hg8 hB8); clear hR8 hB8 hg8 hat8))
          go_roundw
          case rel => exact ⟨k2 + 1, _, by omega, by go_num, HW8, ⟨by rw [List.map_append, HN2.out, HTK.out]; rfl⟩⟩
          case measure => simp [intOf]; omega
        · have hkk2 : k2 = LO.length := by omega
          subst hkk2
          have hN2 := HN2.out
          rw [List.take_length] at hN2
          have HNW := Aside0.mk hN2
          obtain ⟨w3, hw3⟩ : ∃ w3, w3 = wr := ⟨_, rfl⟩
          subst hw3
          have HP3 := Aside0.mk (HP2.out.below HW.out.below)
          have HR3 := Aside0.mk (HR2.out.move HW.out.below)
          have HB3 := Aside0.mk (HB2.out.below HW.out.below)
          have e0 := HB3.out.cell 0
          simp only [Pol.cells, List.getElem?_toArray, List.getElem?_cons_zero] at e0
          clear hN2 HN2
          have halen : d.acts.length ≤ 8796093022207 := Nat.le_trans HA.out (by decide)
          go_upto_region 16 with (first | (go_at_call 74; (with_reducible refine (once_go A0 c0 d.acts _ HP3.out.h0 HP3.out.l0 halen).mono ?_); rintro e w4 ⟨v70, rfl, hR70, hb4⟩; obtain ⟨A70, c70, rfl, hl70, hC70⟩ := Kd.R_reads hR70; have HC70 := Aside0.mk hC70; have HW4 := Aside0.mk (HW.out.move hb4); have HR4 := Aside0.mk (HR3.out.move hb4); have HB4 := Aside0.mk (HB3.out.below hb4); have HP4 := Aside0.mk (HP3.out.below hb4); clear hR70 hC70 hb4))
          obtain ⟨LA, hLA⟩ : ∃ LA, LA = MPut.putAll [] d.acts := ⟨_, rfl⟩
          have hLAm : ∀ o, o ∈ LA ↔ o ∈ d.acts := fun o => by rw [hLA, MPut.mem_putAll]; simp
          have hLAs : LA.length ≤ 16 := by rw [hLA]; exact Nat.le_trans (putAll_short [] d.acts) (by simpa using HA.out)
          rw [← hLA] at HC70 hl70 ⊢
          have HLAM := Aside0.mk hLAm
          clear hLA hLAm hl70 e0
          obtain ⟨Ax, cx, e3x, hlx, hRx⟩ := HR4.out.row.reads
          obtain ⟨Ay, cy, e4y, hly, hRy⟩ := HW4.out.row.reads
          subst e3x
          subst e4y
          have hps : ps.length ≤ 64 := Nat.le_trans HL.out HS.out
          have hps2 : ps2.length ≤ 64 := by
            have := congrArg List.length HNW.out
            rw [List.length_map] at this
            omega
          have HRX := Aside0.mk hRx
          have HRY := Aside0.mk hRy
          clear hlx hly hRx hRy
          go_wp2
          have hRSget : ∀ {A : Option Addr} {qs : List SD} {W : World} (h : ReadsRow RS 3 W A qs.length qs) (n : Nat) (hn : n < qs.length), ∃ ad, A = some ad ∧ ∀ j v, ([.string qs[n].1, .float .f64 qs[n].2.1, .map (some qs[n].2.2)] : List Value)[j]? = some v → W.cell? ((ad.add (n * 3)).add j) = some v := by
            intro A qs W h n hn
            obtain ⟨ad, cs, e, _, hR, hc⟩ := h.get_ (⟨#[]⟩, 0, 0) (n : Int) (by omega) (by omega)
            have hR : RS qs[n] cs := by
              have : qs.getD (n : Int).toNat (⟨#[]⟩, 0, 0) = qs[n] := by simp [hn]
              rw [← this]; exact hR
            refine ⟨ad, e, fun j v hv => ?_⟩
            rw [add_add]
            exact hc j v (by rw [hR]; exact hv)
          have HGET := Aside0.mk @hRSget
          clear hRSget
          go_loopw [14, 73] (fun u14 u73 wr => ∃ (i : Nat) (L : List S28), i ≤ ps.length ∧ u73 = .int .i64 i ∧ Aside0 (Kd.R k28 28 wr w4.heap.size (fun _ => True) u14 L) ∧ Aside0 (Below w4.heap.size w4 wr) ∧ Aside0 (∀ t, t ∈ L ↔ Got d (ps.map (·.1)) LO LA i 0 0 t) ∧ Aside0 (L.length ≤ i * 1024)) (fun _ u73 _ => ps.length - (intOf u73).toNat)
          case atStart => exact ⟨0, [], Nat.zero_le _, rfl, ⟨Kd.R_nil _ _ _ _ _⟩, ⟨Below.refl _ _⟩, ⟨fun t => by simp [Got.start]⟩, ⟨by simp⟩⟩
          case round =>
            obtain ⟨i, L, hi, rfl, HL3, HB5, HG, HN3⟩ := hrel
            by_cases hlt3 : i < ps.length
            · obtain ⟨adx, ex, hcx⟩ := HGET.out HRX.out i hlt3
              subst ex
              have hxin := List.getElem_mem hlt3
              have hxset := HR4.out.sets _ hxin
              have hxtr := HR4.out.trust _ hxin
              have hnm : (ps.map (·.1))[i]? = some ps[i].1 := by simp [hlt3]
              obtain ⟨xs, hxs⟩ : ∃ xs, xs = ps[i] := ⟨_, rfl⟩
              rw [← hxs] at hcx hxset hxtr hnm
              have hcx' : ∀ j v, ([.string xs.1, .float .f64 xs.2.1, .map (some xs.2.2)] : List Value)[j]? = some v → wr.cell? ((adx.add (i * 3)).add j) = some v := fun j v hv => pw_cell_below HB5.out (hcx j v hv)
              have HCX := Aside0.mk hcx'
              have HXSET := Aside0.mk hxset
              have HXTR := Aside0.mk hxtr
              have HNM := Aside0.mk hnm
              have c03 : (i : Int) < ps.length := by omega
              clear hcx hcx' hxset hxtr hnm hxin hxs
              go_upto_region 20 with (first | ((with_reducible refine gate_dst (N := 76) rfl ?_); refine wpList_load_at rfl 95 (.tmp 75) rfl (adx.add (i * 3)) ?hx [.string xs.1, .float .f64 xs.2.1, .map (some xs.2.2)] HCX.out _ Try.underlying95 rfl i95 ?_; (case hx => rfl); refine wpList_alloc_store rfl rfl 95 16 (.tmp 76) rfl rfl rfl noneV #[.string xs.1, .float .f64 xs.2.1, .map (some xs.2.2)] _ (z95 _) rfl i95 rfl (by simp [Value.oneCell']) ?hy ?hp ?_; (case hy => rfl); (case hp => rfl)))
              (try simp only [Act.put])
              have hbS := below_alloc (Below.refl _ wr) (.cells #[.string xs.1, .float .f64 xs.2.1, .map (some xs.2.2)] 95)
              have hsS : Stays (wr.alloc (.cells #[.string xs.1, .float .f64 xs.2.1, .map (some xs.2.2)] 95)) wr.heap.size #[.string xs.1, .float .f64 xs.2.1, .map (some xs.2.2)] 95 := heap_alloc_new wr _
              have hL6 := Kd.R_below HL3.out hbS
              have hB6 := below_then HB5.out HB5.out.size hbS
              obtain ⟨W6, hW6e⟩ : ∃ W6, W6 = wr.alloc (.cells #[.string xs.1, .float .f64 xs.2.1, .map (some xs.2.2)] 95) := ⟨_, rfl⟩
              obtain ⟨g16, hg16⟩ : ∃ g16, g16 = wr.heap.size := ⟨_, rfl⟩
              rw [← hW6e] at hsS hL6 hB6 ⊢
              rw [← hg16] at hsS ⊢
              have HSX := Aside0.mk hsS
              have HL6 := Aside0.mk hL6
              have HB6 := Aside0.mk hB6
              clear hbS hsS hL6 hB6 hW6e hg16
              go_wp2
              go_loopw [14, 79] (fun u14 u79 wr => ∃ (j : Nat) (L : List S28), j ≤ ps2.length ∧ u79 = .int .i64 j ∧ Aside0 (Kd.R k28 28 wr w4.heap.size (fun _ => True) u14 L) ∧ Aside0 (Below w4.heap.size w4 wr) ∧ Aside0 (Stays wr g16 #[.string xs.1, .float .f64 xs.2.1, .map (some xs.2.2)] 95) ∧ Aside0 (∀ t, t ∈ L ↔ Got d (ps.map (·.1)) LO LA i j 0 t) ∧ Aside0 (L.length ≤ i * 1024 + j * 16)) (fun _ u79 _ => ps2.length - (intOf u79).toNat)
              case atStart => exact ⟨0, L, Nat.zero_le _, rfl, HL6, HB6, HSX, HG, ⟨by have := HN3.out; omega⟩⟩
              case round =>
                obtain ⟨j, L2, hj, rfl, HL7, HB7, HSX7, HG7, HN7⟩ := hrel
                by_cases hlt4 : j < ps2.length
                · obtain ⟨ady, ey, hcy⟩ := HGET.out HRY.out j hlt4
                  subst ey
                  have hyin := List.getElem_mem hlt4
                  have hyset := HW4.out.sets _ hyin
                  have hytr := HW4.out.trust _ hyin
                  have hon : LO[j]? = some ps2[j].1 := by rw [← HNW.out]; simp [hlt4]
                  obtain ⟨ys, hys⟩ : ∃ ys, ys = ps2[j] := ⟨_, rfl⟩
                  rw [← hys] at hcy hyset hytr hon
                  have hcy' : ∀ j v, ([.string ys.1, .float .f64 ys.2.1, .map (some ys.2.2)] : List Value)[j]? = some v → wr.cell? ((ady.add (j * 1)).add 0) = wr.cell? ((ady.add (j * 1)).add 0) := fun _ _ _ => rfl
                  clear hcy'
                  have HCY := Aside0.mk (fun q v (hv : ([.string ys.1, .float .f64 ys.2.1, .map (some ys.2.2)] : List Value)[q]? = some v) => (pw_cell_below HB7.out (hcy q v hv) : wr.cell? ((ady.add (j * 3)).add q) = some v))
                  have HYSET := Aside0.mk hyset
                  have HYTR := Aside0.mk hytr
                  have HON := Aside0.mk hon
                  have c04 : (j : Int) < ps2.length := by omega
                  clear hcy hyset hytr hon hyin hys
                  go_upto_region 23 with (first | ((with_reducible refine gate_dst (N := 82) rfl ?_); refine wpList_load_at rfl 95 (.tmp 81) rfl (ady.add (j * 3)) ?hx [.string ys.1, .float .f64 ys.2.1, .map (some ys.2.2)] HCY.out _ Try.underlying95 rfl i95 ?_; (case hx => rfl); refine wpList_alloc_store rfl rfl 95 18 (.tmp 82) rfl rfl rfl noneV #[.string ys.1, .float .f64 ys.2.1, .map (some ys.2.2)] _ (z95 _) rfl i95 rfl (by simp [Value.oneCell']) ?hy ?hp ?_; (case hy => rfl); (case hp => rfl)))
                  (try simp only [Act.put])
                  have hbS := below_alloc (Below.refl _ wr) (.cells #[.string ys.1, .float .f64 ys.2.1, .map (some ys.2.2)] 95)
                  have hsS : Stays (wr.alloc (.cells #[.string ys.1, .float .f64 ys.2.1, .map (some ys.2.2)] 95)) wr.heap.size #[.string ys.1, .float .f64 ys.2.1, .map (some ys.2.2)] 95 := heap_alloc_new wr _
                  have hL8 := Kd.R_below HL7.out hbS
                  have hB8 := below_then HB7.out HB7.out.size hbS
                  have hS8 := HSX7.out.below hbS
                  obtain ⟨W8, hW8e⟩ : ∃ W8, W8 = wr.alloc (.cells #[.string ys.1, .float .f64 ys.2.1, .map (some ys.2.2)] 95) := ⟨_, rfl⟩
                  obtain ⟨g18, hg18⟩ : ∃ g18, g18 = wr.heap.size := ⟨_, rfl⟩
                  rw [← hW8e] at hsS hL8 hB8 hS8 ⊢
                  rw [← hg18] at hsS ⊢
                  have HSY := Aside0.mk hsS
                  have HL8 := Aside0.mk hL8
                  have HB8 := Aside0.mk hB8
                  have HSX8 := Aside0.mk hS8
                  have HP8 := Aside0.mk (HP4.out.below hB8)
                  have HBX8 := Aside0.mk (HB4.out.below hB8)
                  have HX8 := Aside0.mk (HXSET.out.below hB8)
                  have HY8 := Aside0.mk (HYSET.out.below hB8)
                  clear hbS hsS hL8 hB8 hS8 hW8e hg18
                  go_upto_region 24 with (first | ((with_reducible refine gate_dst (N := 83) rfl ?_); refine wpList_load_blk rfl 39 (.tmp 1) rfl w.heap.size ?hx #[.slice A0 d.acts.length c0, .slice A1 d.subs.length c1, .slice A2 d.roles.length c2, .slice A3 d.objs.length c3, .slice A4 d.grps.length c4, .slice A5 d.mem.length c5, .slice A6 d.inh.length c6, .slice A7 d.par.length c7, .slice A8 d.wit.length c8, .slice A9 d.rules.length c9, .slice A10 d.exc.length c10] 39 HBX8.out _ Try.underlying39 rfl i39 ?_; (case hx => rfl)) | ((with_reducible refine gate_dst (N := 84) rfl ?_); refine wpList_load_blk rfl 95 (.tmp 16) rfl g16 ?hx #[.string xs.1, .float .f64 xs.2.1, .map (some xs.2.2)] 95 HSX8.out _ Try.underlying95 rfl i95 ?_; (case hx => rfl)) | ((with_reducible refine gate_dst (N := 85) rfl ?_); refine wpList_load_blk rfl 95 (.tmp 18) rfl g18 ?hx #[.string ys.1, .float .f64 ys.2.1, .map (some ys.2.2)] 95 HSY.out _ Try.underlying95 rfl i95 ?_; (case hx => rfl)) | (go_at_call 64; (refine (about_own _ w4 xs.1 xs.2.1 xs.2.2 _ ys.1 ys.2.1 ys.2.2 _ _ HB8.out HP4.out HD.out HX8.out HY8.out).mono ?_); rintro e w9 ⟨v19, rfl, hRu, hb9⟩; have HRU := Aside0.mk hRu; have HL9 := Aside0.mk (Kd.R_below HL8.out hb9); have HB9 := Aside0.mk (below_then HB8.out HB8.out.size hb9); have HSX9 := Aside0.mk (HSX8.out.below hb9); have HSY9 := Aside0.mk (HSY.out.below hb9); have HBX9 := Aside0.mk (HBX8.out.below hb9); clear hRu hb9))
                  obtain ⟨RU, hRUe⟩ : ∃ RU, RU = d.rules.filter fun r => speaksB r (d.who xs.1) (d.what ys.1) xs.2.1 := ⟨_, rfl⟩
                  have hRU := HRU.out
                  rw [← hRUe] at hRU
                  have HRU := Aside0.mk hRU
                  obtain ⟨Ar, cr, er, hlr, _⟩ := hRU.reads
                  subst er
                  have hal : ∀ a, a ∈ d.acts → d.allowB ⟨xs.1, ys.1, a⟩ = allowsF RU d.exc ⟨xs.1, ys.1, a⟩ := fun a ha => by
                    rw [hRUe]; exact allowB_at HXTR.out HYTR.out.2 ha
                  have HAL := Aside0.mk hal
                  clear hRU hRUe hal hlr
                  go_wp2
                  go_loopw [14, 89] (fun u14 u89 wr => ∃ (l : Nat) (L : List S28), l ≤ LA.length ∧ u89 = .int .i64 l ∧ Aside0 (Kd.R k28 28 wr w4.heap.size (fun _ => True) u14 L) ∧ Aside0 (Below w4.heap.size w4 wr) ∧ Aside0 (OwnRow (k78.K w4) 78 6 wr W8.heap.size (.slice Ar RU.length cr) RU) ∧ Aside0 (Stays wr g16 #[.string xs.1, .float .f64 xs.2.1, .map (some xs.2.2)] 95) ∧ Aside0 (Stays wr g18 #[.string ys.1, .float .f64 ys.2.1, .map (some ys.2.2)] 95) ∧ Aside0 (Stays wr w.heap.size #[.slice A0 d.acts.length c0, .slice A1 d.subs.length c1, .slice A2 d.roles.length c2, .slice A3 d.objs.length c3, .slice A4 d.grps.length c4, .slice A5 d.mem.length c5, .slice A6 d.inh.length c6, .slice A7 d.par.length c7, .slice A8 d.wit.length c8, .slice A9 d.rules.length c9, .slice A10 d.exc.length c10] 39) ∧ Aside0 (∀ t, t ∈ L ↔ Got d (ps.map (·.1)) LO LA i j l t) ∧ Aside0 (L.length ≤ i * 1024 + j * 16 + l)) (fun _ u89 _ => LA.length - (intOf u89).toNat)
                  case atStart => exact ⟨0, L2, Nat.zero_le _, rfl, HL9, HB9, HRU, HSX9, HSY9, HBX9, HG7, ⟨HN7.out⟩⟩
                  case round =>
                    obtain ⟨l, L3, hl, rfl, HL10, HB10, HR10, HX10, HY10, HBX10, HG10, HN10⟩ := hrel
                    by_cases hlt5 : l < LA.length
                    · obtain ⟨ada, ea, hxa⟩ := Kd.at_string HC70.out (l : Int) (by omega) (by omega)
                      subst ea
                      have hget : rdOf ByteArray.empty LA (l : Int) = LA[l] := by simp [rdOf, hlt5]
                      simp only [hget, Int.toNat_natCast] at hxa
                      have hain : LA[l] ∈ d.acts := (HLAM.out _).1 (List.getElem_mem hlt5)
                      have hjl : j < LO.length := by have := congrArg List.length HNW.out; rw [List.length_map] at this; omega
                      have hil : i < (ps.map (·.1)).length := by rw [List.length_map]; exact hlt3
                      have e1i : (ps.map (·.1))[i] = xs.1 := by have := HNM.out; rw [List.getElem?_eq_getElem hil] at this; exact Option.some.inj this
                      have e2j : LO[j] = ys.1 := by have := HON.out; rw [List.getElem?_eq_getElem hjl] at this; exact Option.some.inj this
                      have hnext : ∀ t, Got d (ps.map (·.1)) LO LA i j (l + 1) t ↔ (Got d (ps.map (·.1)) LO LA i j l t ∨ (t = ⟨xs.1, ys.1, LA[l]⟩ ∧ d.allowB t = true)) := fun t => by
                        have := Got.next (d := d) (t := t) hil hjl hlt5
                        rw [e1i, e2j] at this
                        exact this
                      obtain ⟨a, haa⟩ : ∃ a, a = LA[l] := ⟨_, rfl⟩
                      rw [← haa] at hxa hain hnext
                      have ya := pw_cell_below HB10.out hxa
                      have hall := HAL.out a hain
                      obtain ⟨q, hq⟩ : ∃ q, allowsF RU d.exc ⟨xs.1, ys.1, a⟩ = q := ⟨_, rfl⟩
                      rw [hq] at hall
                      have HQ := Aside0.mk hq
                      have HALL := Aside0.mk hall
                      have HNEXT := Aside0.mk hnext
                      have x16 : wr.cell? ⟨g16, 0, none⟩ = some (.string xs.1) := HX10.out.cell 0
                      have y18 : wr.cell? ⟨g18, 0, none⟩ = some (.string ys.1) := HY10.out.cell 0
                      have c05 : (l : Int) < LA.length := by omega
                      clear hget hain hjl hil e1i e2j hnext haa hxa hall hq
                      go_upto_region 28 with (first | ((with_reducible refine gate_dst (N := 22) rfl ?_); refine wpList_alloc_store rfl rfl 28 22 (.tmp 98) rfl rfl rfl #[.string ⟨#[]⟩, .string ⟨#[]⟩, .string ⟨#[]⟩] #[.string xs.1, .string ys.1, .string a] _ (z28v _) rfl i28 rfl (by simp [Value.oneCell']) ?hy ?hp ?_; (case hy => rfl); (case hp => rfl)))
                      (try simp only [Act.put])
                      have hb := below_alloc (Below.refl _ wr) (.cells #[.string xs.1, .string ys.1, .string a] 28)
                      have hs22 : Stays (wr.alloc (.cells #[.string xs.1, .string ys.1, .string a] 28)) wr.heap.size #[.string xs.1, .string ys.1, .string a] 28 := heap_alloc_new wr _
                      have hL := Kd.R_below HL10.out hb
                      have hB := below_then HB10.out HB10.out.size hb
                      have hR := HR10.out.below hb
                      have hX := HX10.out.below hb
                      have hY := HY10.out.below hb
                      have hBX := HBX10.out.below hb
                      obtain ⟨W11, hW11⟩ : ∃ W11, W11 = wr.alloc (.cells #[.string xs.1, .string ys.1, .string a] 28) := ⟨_, rfl⟩
                      obtain ⟨g22, hg22⟩ : ∃ g22, g22 = wr.heap.size := ⟨_, rfl⟩
                      rw [← hW11] at hs22 hL hB hR hX hY hBX ⊢
                      rw [← hg22] at hs22 ⊢
                      have HS22 := Aside0.mk hs22
                      have HL11 := Aside0.mk hL
                      have HB11 := Aside0.mk hB
                      have HR11 := Aside0.mk hR
                      have HX11 := Aside0.mk hX
                      have HY11 := Aside0.mk hY
                      have HBX11 := Aside0.mk hBX
                      have HP11 := Aside0.mk (HP4.out.below hB)
                      have HLIM := Aside0.mk (show (L3.length + 1) * 48 ≤ 140737488355328 by have := HN10.out; omega)
                      clear hb hs22 hL hB hR hX hY hBX hW11 hg22 x16 y18 ya
                      have hCr : Kd.C k78 W11 Ar RU.length RU := by
                        obtain ⟨A', c', e', _, hr⟩ := HR11.out.reads
                        obtain ⟨rfl, rfl⟩ : Ar = A' ∧ cr = c' := by simpa using e'
                        exact hr.imp_ (Below.refl _ _) (fun p c hp => k78.K_below HB11.out hp)
                      have HCR := Aside0.mk hCr
                      clear hCr
                      cases q with
                      | false =>
                        have HGn := Aside0.mk (fun t => (HG10.out t).trans ⟨fun h => (HNEXT.out t).2 (.inl h), fun h => ((HNEXT.out t).1 h).elim id (fun h2 => by rw [h2.1, HALL.out] at h2; exact absurd h2.2 (by simp))⟩ : ∀ t, t ∈ L3 ↔ Got d (ps.map (·.1)) LO LA i j (l + 1) t)
                        by_cases hru : RU.length = 0
                        · have hz0 : decide ((0 : Int) < RU.length) = false := by rw [decide_eq_false_iff_not]; omega
                          have hz1 : ¬ (0 : Int) < RU.length := by omega
                          have hz2 : ¬ 0 < RU.length := by omega
                          have HALLS := Aside0.mk (And.intro HL11 (And.intro HB11 (And.intro HR11 (And.intro HX11 (And.intro HY11 (And.intro HBX11 HGn))))))
                          clear hru HL11 HB11 HR11 HX11 HY11 HBX11 HGn
                          go_wp2
                          go_roundw
                          case rel => obtain ⟨q1, q2, q3, q4, q5, q6, q7⟩ := HALLS.out; exact ⟨l + 1, L3, by omega, by go_num, q1, q2, q3, q4, q5, q6, q7, ⟨by have := HN10.out; omega⟩⟩
                          case measure => simp [intOf]; omega
                        · have hz0 : (0 : Int) < RU.length := by omega
                          clear hru
                          have y0 : W11.cell? ⟨w.heap.size, 0, none⟩ = some (.slice A0 d.acts.length c0) := HBX11.out.cell 0
                          have y1 : W11.cell? ⟨w.heap.size, 1, none⟩ = some (.slice A1 d.subs.length c1) := HBX11.out.cell 1
                          have y2 : W11.cell? ⟨w.heap.size, 2, none⟩ = some (.slice A2 d.roles.length c2) := HBX11.out.cell 2
                          have y3 : W11.cell? ⟨w.heap.size, 3, none⟩ = some (.slice A3 d.objs.length c3) := HBX11.out.cell 3
                          have y4 : W11.cell? ⟨w.heap.size, 4, none⟩ = some (.slice A4 d.grps.length c4) := HBX11.out.cell 4
                          have y5 : W11.cell? ⟨w.heap.size, 5, none⟩ = some (.slice A5 d.mem.length c5) := HBX11.out.cell 5
                          have y6 : W11.cell? ⟨w.heap.size, 6, none⟩ = some (.slice A6 d.inh.length c6) := HBX11.out.cell 6
                          have y7 : W11.cell? ⟨w.heap.size, 7, none⟩ = some (.slice A7 d.par.length c7) := HBX11.out.cell 7
                          have y8 : W11.cell? ⟨w.heap.size, 8, none⟩ = some (.slice A8 d.wit.length c8) := HBX11.out.cell 8
                          have y9 : W11.cell? ⟨w.heap.size, 9, none⟩ = some (.slice A9 d.rules.length c9) := HBX11.out.cell 9
                          have y10 : W11.cell? ⟨w.heap.size, 10, none⟩ = some (.slice A10 d.exc.length c10) := HBX11.out.cell 10
                          have z0 : W11.cell? ⟨g22, 0, none⟩ = some (.string xs.1) := HS22.out.cell 0
                          have z1 : W11.cell? ⟨g22, 1, none⟩ = some (.string ys.1) := HS22.out.cell 1
                          have z2 : W11.cell? ⟨g22, 2, none⟩ = some (.string a) := HS22.out.cell 2
                          go_wp2_with (go_at_call 63; (refine (allows_calls (Pol.mk d A0 c0 A1 c1 A2 c2 A3 c3 A4 c4 A5 c5 A6 c6 A7 c7 A8 c8 A9 c9 A10 c10) Ar cr RU ⟨xs.1, ys.1, a⟩ _ HCR.out HP11.out.h10 HP11.out.l10 _ HQ.out).mono ?_); rintro e w12 ⟨rfl, hb12⟩; have HL12 := Aside0.mk (Kd.R_below HL11.out hb12); have HB12 := Aside0.mk (below_then HB11.out HB11.out.size hb12); have HR12 := Aside0.mk (HR11.out.below hb12); have HX12 := Aside0.mk (HX11.out.below hb12); have HY12 := Aside0.mk (HY11.out.below hb12); have HBX12 := Aside0.mk (HBX11.out.below hb12); have HS12 := Aside0.mk (HS22.out.below hb12); clear hb12)
                          go_roundw
                          case rel => exact ⟨l + 1, L3, by omega, by go_num, HL12, HB12, HR12, HX12, HY12, HBX12, HGn, ⟨by have := HN10.out; omega⟩⟩
                          case measure => simp [intOf]; omega
                      | true =>
                        have hru : RU.length ≠ 0 := fun e => by
                          have hnil : RU = [] := List.length_eq_zero_iff.1 e
                          have hq2 := HQ.out
                          rw [hnil, allowsF_iff] at hq2
                          obtain ⟨⟨⟨r, hr, _⟩, _⟩, _⟩ := hq2
                          simp at hr
                        have hz0 : (0 : Int) < RU.length := by omega
                        clear hru
                        have y0 : W11.cell? ⟨w.heap.size, 0, none⟩ = some (.slice A0 d.acts.length c0) := HBX11.out.cell 0
                        have y1 : W11.cell? ⟨w.heap.size, 1, none⟩ = some (.slice A1 d.subs.length c1) := HBX11.out.cell 1
                        have y2 : W11.cell? ⟨w.heap.size, 2, none⟩ = some (.slice A2 d.roles.length c2) := HBX11.out.cell 2
                        have y3 : W11.cell? ⟨w.heap.size, 3, none⟩ = some (.slice A3 d.objs.length c3) := HBX11.out.cell 3
                        have y4 : W11.cell? ⟨w.heap.size, 4, none⟩ = some (.slice A4 d.grps.length c4) := HBX11.out.cell 4
                        have y5 : W11.cell? ⟨w.heap.size, 5, none⟩ = some (.slice A5 d.mem.length c5) := HBX11.out.cell 5
                        have y6 : W11.cell? ⟨w.heap.size, 6, none⟩ = some (.slice A6 d.inh.length c6) := HBX11.out.cell 6
                        have y7 : W11.cell? ⟨w.heap.size, 7, none⟩ = some (.slice A7 d.par.length c7) := HBX11.out.cell 7
                        have y8 : W11.cell? ⟨w.heap.size, 8, none⟩ = some (.slice A8 d.wit.length c8) := HBX11.out.cell 8
                        have y9 : W11.cell? ⟨w.heap.size, 9, none⟩ = some (.slice A9 d.rules.length c9) := HBX11.out.cell 9
                        have y10 : W11.cell? ⟨w.heap.size, 10, none⟩ = some (.slice A10 d.exc.length c10) := HBX11.out.cell 10
                        have z0 : W11.cell? ⟨g22, 0, none⟩ = some (.string xs.1) := HS22.out.cell 0
                        have z1 : W11.cell? ⟨g22, 1, none⟩ = some (.string ys.1) := HS22.out.cell 1
                        have z2 : W11.cell? ⟨g22, 2, none⟩ = some (.string a) := HS22.out.cell 2
                        go_upto_region 29 with (go_at_call 63; (refine (allows_calls (Pol.mk d A0 c0 A1 c1 A2 c2 A3 c3 A4 c4 A5 c5 A6 c6 A7 c7 A8 c8 A9 c9 A10 c10) Ar cr RU ⟨xs.1, ys.1, a⟩ _ HCR.out HP11.out.h10 HP11.out.l10 _ HQ.out).mono ?_); rintro e w12 ⟨rfl, hb12⟩; have HL12 := Aside0.mk (Kd.R_below HL11.out hb12); have HB12 := Aside0.mk (below_then HB11.out HB11.out.size hb12); have HR12 := Aside0.mk (HR11.out.below hb12); have HX12 := Aside0.mk (HX11.out.below hb12); have HY12 := Aside0.mk (HY11.out.below hb12); have HBX12 := Aside0.mk (HBX11.out.below hb12); have HS12 := Aside0.mk (HS22.out.below hb12); clear hb12)
                        clear y0 y1 y2 y3 y4 y5 y6 y7 y8 y9 y10 z0 z1 z2
                        go_upto_region 30 with (first | ((with_reducible refine gate_dst (N := 109) rfl ?_); refine wpList_load_blk rfl 28 (.tmp 22) rfl g22 ?hx #[.string xs.1, .string ys.1, .string a] 28 HS12.out _ Try.underlying28 rfl i28 ?_; (case hx => rfl)) | (at_builtin; refine Kd.R_append k28 (w0 := w4) w4.heap.size rfl (.tmp 108) (.tmp 110) 37 28 (.agg #[.string ⟨#[]⟩, .string ⟨#[]⟩, .string ⟨#[]⟩]) 48 rfl Try.underlying37 info28 rfl (by decide) (by decide) u14 L3 ⟨xs.1, ys.1, a⟩ [.string xs.1, .string ys.1, .string a] (fun _ => True) (fun _ => False) rfl rfl (k28_mkM _ _ _ (⟨xs.1, ys.1, a⟩ : S28)) (fun _ hk => hk.elim) (fun _ _ => trivial) HL12.out HB12.out HB12.out.size HLIM.out ?_; intro v13 w13 hR13 hB13 hg13 hat13))
                        have HX13 := Aside0.mk (own_stays HL12.out hg13 HX12.out (by decide))
                        have HY13 := Aside0.mk (own_stays HL12.out hg13 HY12.out (by decide))
                        have HBX13 := Aside0.mk (own_stays HL12.out hg13 HBX12.out (by decide))
                        have HR13 := Aside0.mk (own_other_row HL12.out hg13 HR12.out (by decide))
                        have HL13 := Aside0.mk hR13
                        have HB13 := Aside0.mk hB13
                        have HG13 := Aside0.mk (fun t => by
                          rw [List.mem_append, List.mem_singleton, HNEXT.out t, HG10.out t]
                          constructor
                          · rintro (h | h)
                            · exact .inl h
                            · exact .inr ⟨h, by rw [h]; exact HALL.out⟩
                          · rintro (h | h)
                            · exact .inl h
                            · exact .inr h.1 : ∀ t, t ∈ L3 ++ [(⟨xs.1, ys.1, a⟩ : S28)] ↔ Got d (ps.map (·.1)) LO LA i j (l + 1) t)
                        clear hR13 hB13 hg13 hat13
                        go_wp2
                        go_roundw
                        case rel => exact ⟨l + 1, _, by omega, by go_num, HL13, HB13, HR13, HX13, HY13, HBX13, HG13, ⟨by have := HN10.out; rw [List.length_append, List.length_singleton]; omega⟩⟩
                        case measure => simp [intOf]; omega
                    · have hll : l = LA.length := by omega
                      subst hll
                      have HG11 := Aside0.mk (fun t => (HG10.out t).trans (Got.nextObj (by have := congrArg List.length HNW.out; rw [List.length_map] at this; omega)) : ∀ t, t ∈ L3 ↔ Got d (ps.map (·.1)) LO LA i (j + 1) 0 t)
                      go_wp2
                      go_roundw
                      case rel => exact ⟨j + 1, L3, by omega, by go_num, HL10, HB10, HX10, HG11, ⟨by have := HN10.out; omega⟩⟩
                      case measure => simp [intOf]; omega
                · have hjj : j = ps2.length := by omega
                  subst hjj
                  have hLOl : LO.length = ps2.length := by have := congrArg List.length HNW.out; rw [List.length_map] at this; exact this.symm
                  have HLOL := Aside0.mk hLOl
                  have hps3 : (ps.map (·.1)).length = ps.length := List.length_map _
                  have HG8 := Aside0.mk (fun t => (HG7.out t).trans (by rw [← HLOL.out]; exact Got.nextSub (by rw [List.length_map]; exact hlt3)) : ∀ t, t ∈ L2 ↔ Got d (ps.map (·.1)) LO LA (i + 1) 0 0 t)
                  clear hLOl hps3
                  go_wp2
                  go_roundw
                  case rel => exact ⟨i + 1, L2, by omega, by go_num, HL7, HB7, HG8, ⟨by have := HN7.out; omega⟩⟩
                  case measure => simp [intOf]; omega
            · have hii : i = ps.length := by omega
              subst hii
              have hfin : ∀ t, t ∈ L ↔ ((∃ y ∈ d.subs, y.f0 = t.f0) ∧ d.allowB t = true) := fun t => by
                have h1 := HG.out t
                have h0 := Got.all (d := d) (ns := ps.map (·.1)) (LO := LO) (LA := LA) (t := t)
                rw [List.length_map, HLOM.out, HLAM.out, HM1.out] at h0
                rw [h1, h0]
                constructor
                · rintro ⟨h2, -, -, h5⟩; exact ⟨h5, h2⟩
                · rintro ⟨h5, h2⟩
                  refine ⟨h2, ?_, ?_, h5⟩
                  · unfold PolD.allowB at h2; simp only [Bool.and_eq_true, decide_eq_true_eq] at h2; exact h2.2.1
                  · unfold PolD.allowB at h2; simp only [Bool.and_eq_true, decide_eq_true_eq] at h2; exact h2.2.2.1
              have HFIN := Aside0.mk hfin
              clear hfin
              go_wp2
              go_ret
              exact ⟨_, rfl, L, Kd.R_lower HL3.out (by have := HW4.out.below.size; have := HR4.out.below.size; omega), HFIN.out, by have := HN3.out; omega, below_then HR4.out.below HR4.out.below.size HB5.out⟩
end Go.Proofs.Ythaiodklfoegiaa.MPol

/- graph.masks, walked. -/
namespace Go.Proofs.Ythaiodklfoegiaa.CMasks
open Go.RowKit Go.Proofs.YthaiodklfoegiaaW.PrintWords Go.Proofs.YthaiodklfoegiaaW.PrintLast Go.Proofs.YthaiodklfoegiaaW.PrintMore Go.Proofs.Ythaiodklfoegiaa.BMap Go.Proofs.Ythaiodklfoegiaa.BRow Go.Proofs.Ythaiodklfoegiaa.GDiffer Go.Proofs.Ythaiodklfoegiaa.GBlk Go.Proofs.Ythaiodklfoegiaa.CPure Go.Proofs.Ythaiodklfoegiaa.CBits Go.Proofs.Ythaiodklfoegiaa.CClasses Go.Proofs.Ythaiodklfoegiaa.MLines Go.Proofs.Ythaiodklfoegiaa.MSide Go.Proofs.Ythaiodklfoegiaa.MPol Go.Maps
open Go.Proofs.Ythaiodklfoegiaa Go.Proofs.Ythaiodklfoegiaa.PG

/-- Where a name stands. -/
def numsAt (l : List ByteArray) (s : ByteArray) : List Int := (l.zipIdx.filter (fun p => decide (p.1 = s))).map (fun p => ((p.2 : Nat) : Int))
theorem numsAt_snoc (l : List ByteArray) (a s : ByteArray) : numsAt (l ++ [a]) s = numsAt l s ++ if a = s then [(l.length : Int)] else [] := by
  unfold numsAt
  rw [List.zipIdx_append, List.filter_append, List.map_append]
  congr 1
  by_cases h : a = s <;> simp [h]
theorem mem_numsAt (l : List ByteArray) (s : ByteArray) (k : Nat) : (k : Int) ∈ numsAt l s ↔ l[k]? = some s := by
  unfold numsAt
  simp only [List.mem_map, List.mem_filter, decide_eq_true_eq]
  constructor
  · rintro ⟨⟨x, i⟩, ⟨h1, h2⟩, h3⟩
    have h4 := List.mk_mem_zipIdx_iff_getElem?.1 h1
    obtain rfl : i = k := by have h3 : (i : Int) = k := h3; omega
    obtain rfl : x = s := h2
    exact h4
  · intro h
    exact ⟨(s, k), ⟨List.mk_mem_zipIdx_iff_getElem?.2 h, rfl⟩, rfl⟩
theorem numsAt_length (l : List ByteArray) (s : ByteArray) : (numsAt l s).length ≤ l.length := by
  unfold numsAt
  rw [List.length_map]
  have := List.length_filter_le (fun p : ByteArray × Nat => decide (p.1 = s)) l.zipIdx
  simpa using this

/-- Block b of wr is the map of the first names' places. -/
structure Nums (w wr : World) (b : Nat) (f : ByteArray → Option Value) (n : Nat) (l : List ByteArray) : Prop where
  map : MapF Value.string id okS wr b f n
  ge : w.heap.size ≤ b
  no : ∀ s, f s = none → numsAt l s = []
  vals : ∀ s v, f s = some v → Kd.R (Kd.int .i64) 3 wr w.heap.size (fun k => k ≠ b) v (numsAt l s)
  apart : ∀ s s' v v' k, s ≠ s' → f s = some v → f s' = some v' → v.ownBlock = some k → v'.ownBlock ≠ some k
  below : Below w.heap.size w wr
theorem z23 (w : World) : (zeroValue 23).run Try.prog w = .ok (.slice none 0 0) w := by kernel_rfl
theorem Nums.move {w wr w1 : World} {b : Nat} {f : ByteArray → Option Value} {n : Nat} {l : List ByteArray} (h : Nums w wr b f n l) (hb : Below wr.heap.size wr w1) : Nums w w1 b f n l :=
  ⟨h.map.below hb, h.ge, h.no, fun s v hv => Kd.R_below (h.vals s v hv) hb, h.apart, below_then h.below h.below.size hb⟩
theorem Nums.grown {w wr w1 : World} {b : Nat} {f : ByteArray → Option Value} {n : Nat} {l : List ByteArray} {row : Nat} (h : Nums w wr b f n l) (hg : wr.grownBy w1 (some row)) (hge : w.heap.size ≤ row) (hne : b ≠ row) (hr : ∀ s v, f s = some v → v.ownBlock ≠ some row) : Nums w w1 b f n l where
  map := h.map.grown hg (fun e => hne (Option.some.inj e))
  ge := h.ge
  no := h.no
  vals := fun s v hv => Kd.R_mono (Kd.R_grown (Cl.okR (ok' := fun k => k ≠ b ∧ k ≠ row) (h.vals s v hv) (fun k hk => ⟨(h.vals s v hv).1 k hk, fun e => hr s v hv (by rw [hk, e])⟩)) hg (fun k hk e => hk.2 (Option.some.inj e))) (fun k hk => hk.1)
  apart := h.apart
  below := h.below.grown hg h.below.size (fun k hk => by cases hk; exact hge)
/-- One more name. -/
theorem Nums.put {w W w1 w4 : World} {b : Nat} {f : ByteArray → Option Value} {n n' : Nat} {l : List ByteArray} {a : ByteArray} {v0 v1 : Value} (h : Nums w W b f n l) (hv0 : v0 = (f a).getD (.slice none 0 0))
    (hR1 : Kd.R (Kd.int .i64) 3 w1 w.heap.size (fun k => k ≠ b) v1 (numsAt l a ++ [(l.length : Int)])) (hB1 : Below w.heap.size w w1) (hg1 : W.grownBy w1 v0.ownBlock) (hat1 : v1.ownBlock = v0.ownBlock ∨ ∃ b, v1.ownBlock = some b ∧ W.heap.size ≤ b)
    (hM4 : MapF Value.string id okS w4 b (upd f a v1) n') (hg4 : w1.grownBy w4 (some b)) : Nums w w4 b (upd f a v1) n' (l ++ [a]) where
  map := hM4
  ge := h.ge
  no := fun s hs => by
    by_cases e : s = a
    · subst e; rw [upd_same] at hs; cases hs
    · rw [upd_other _ _ e] at hs
      rw [numsAt_snoc, if_neg (fun k => e k.symm), List.append_nil, h.no s hs]
  vals := fun s v hs => by
    by_cases e : s = a
    · subst e
      rw [upd_same] at hs
      obtain rfl := Option.some.inj hs
      rw [numsAt_snoc, if_pos rfl]
      exact Kd.R_grown hR1 hg4 (fun k hk => fun e => hk (Option.some.inj e))
    · rw [upd_other _ _ e] at hs
      rw [numsAt_snoc, if_neg (fun k => e k.symm), List.append_nil]
      have h1 := h.vals s v hs
      have h2 : Kd.R (Kd.int .i64) 3 W w.heap.size (fun k => k ≠ b ∧ some k ≠ v0.ownBlock) v (numsAt l s) := Cl.okR h1 fun k hk => ⟨h1.1 k hk, by
        subst hv0
        cases hf : f a with
        | none => simp [Value.ownBlock]
        | some v' =>
          intro hh
          exact h.apart s a v v' k e hs hf hk hh.symm⟩
      have h3 := Kd.R_grown h2 hg1 (fun k hk => hk.2)
      exact Kd.R_mono (Kd.R_grown h3 hg4 (fun k hk => fun e => hk.1 (Option.some.inj e))) (fun k hk => hk.1)
  apart := fun s s' v v' k hne hs hs' hk hk' => by
    have hfar : ∀ t u, t ≠ a → f t = some u → u.ownBlock = some k → v1.ownBlock = some k → False := by
      intro t u ht hu huk h1k
      rcases hat1 with e | ⟨g, e, hge⟩
      · subst hv0
        cases hf : f a with
        | none => rw [hf] at e; rw [e] at h1k; simp [Value.ownBlock] at h1k
        | some u' => rw [hf] at e; rw [e] at h1k; exact h.apart t a u u' k ht hu hf huk h1k
      · rw [e] at h1k
        have := Cl.ltR (h.vals t u hu) k huk
        have := Option.some.inj h1k
        omega
    by_cases e : s = a
    · by_cases e' : s' = a
      · exact hne (e.trans e'.symm)
      · rw [e, upd_same] at hs
        rw [upd_other _ _ e'] at hs'
        obtain rfl := Option.some.inj hs
        exact hfar s' v' e' hs' hk' hk
    · rw [upd_other _ _ e] at hs
      by_cases e' : s' = a
      · rw [e', upd_same] at hs'
        obtain rfl := Option.some.inj hs'
        exact hfar s v e hs hk hk'
      · rw [upd_other _ _ e'] at hs'
        exact h.apart s s' v v' k hne hs hs' hk hk'
  below := hB1.grown hg4 (Nat.le_trans h.below.size (hg1.size)) (fun k hk => by cases hk; exact h.ge)
/-- What a look-up brings. -/
theorem Nums.lk {w wr : World} {b : Nat} {f : ByteArray → Option Value} {n : Nat} {l : List ByteArray} (h : Nums w wr b f n l) {s : ByteArray} (hs : okS s) : (Instr.lookup 109 (.map (some b)) (.string s) false).run Try.prog wr = .ok ((f s).getD (.slice none 0 0)) wr := by
  have hq := h.map.lookup str_key Try.underlying109 (z23 wr) hs false
  simp only [Bool.false_eq_true, if_false, Option.map_id_fun, id] at hq
  exact hq
theorem Nums.read {w wr : World} {b : Nat} {f : ByteArray → Option Value} {n : Nat} {l : List ByteArray} (h : Nums w wr b f n l) (s : ByteArray) : ∃ A c, (f s).getD (.slice none 0 0) = .slice A (numsAt l s).length c ∧ Kd.C (Kd.int .i64) wr A (numsAt l s).length (numsAt l s) ∧ (numsAt l s).length ≤ c := by
  cases hf : f s with
  | none =>
    rw [h.no s hf]
    exact ⟨none, 0, rfl, ⟨rfl, by simp, fun h => absurd h (by simp)⟩, Nat.le_refl _⟩
  | some v =>
    obtain ⟨A, c, rfl, hl, hr⟩ := Kd.R_reads (h.vals s v hf)
    exact ⟨A, c, rfl, hr, hl⟩
theorem own_not_map {κ β : Type} {kenc : κ → Value} {venc : β → Value} {ok' : κ → Prop} {w : World} {b n : Nat} {fm : κ → Option β} (hM : MapF kenc venc ok' w b fm n) {α : Type} {dk : Kd α} {e base : Nat} {ok : Nat → Prop} {v : Value} {xs : List α} (h : dk.R e w base ok v xs) : v.ownBlock ≠ some b := by
  intro hb
  obtain ⟨inner, ho⟩ := Kd.R_own h
  obtain ⟨cells, hc⟩ := own_typed ho b hb
  obtain ⟨es, cl, l, h2, _⟩ := hM.out
  rw [h2] at hc
  cases hc
theorem Nums.beside {κ β : Type} {kenc : κ → Value} {venc : β → Value} {ok' : κ → Prop} {w wr w1 : World} {b n na ga : Nat} {f : ByteArray → Option Value} {fm : κ → Option β} {l : List ByteArray} (h : Nums w wr b f n l) (hM : MapF kenc venc ok' wr ga fm na) (hge : w.heap.size ≤ ga) (hne : b ≠ ga) (hg : wr.grownBy w1 (some ga)) : Nums w w1 b f n l :=
  h.grown hg hge hne (fun s v hv => own_not_map hM (h.vals s v hv))

/-! ### The key of two names -/
abbrev PK := ByteArray × ByteArray
def okP (p : PK) : Prop := okS p.1 ∧ okS p.2
def pairV (p : PK) : Value := .agg #[.string p.1, .string p.2]
theorem pair_law : WideMaps.KeyLaw Try.prog 82 := deep_law_gate laidOut (of_decide_eq_true (by kernel_rfl)) (of_decide_eq_true (by kernel_rfl)) (by kernel_rfl) (by kernel_rfl)
theorem type82 : Try.prog.keyType 82 = true := by kernel_rfl
theorem cells82 : Try.prog.cellsOf 82 = 2 := by kernel_rfl
theorem cells9 : Try.prog.cellsOf 9 = 1 := by kernel_rfl
theorem str_lits (d : Nat) (s : ByteArray) (h : okS s) : Try.prog.keyLits (d + 1) 9 [.string s] = some [.string s.data.toList] := by
  have hm : s.size ≤ maxLen := Nat.le_trans h (by decide)
  unfold Program.keyLits
  rw [Try.underlying9]
  simp [hm]
theorem pair_is (p : PK) (h : okP p) : ∃ x, keyOf Try.prog 82 (pairV p) = some x := by
  obtain ⟨h1, h2⟩ := h
  have hk : Try.prog.keyLits (Try.prog.types.size + 1) 82 [.string p.1, .string p.2] = some [.string p.1.data.toList, .string p.2.data.toList] := by
    obtain ⟨dep, hdep⟩ := depth
    rw [hdep]
    unfold Program.keyLits
    rw [Try.underlying82]
    simp [cells82, cells9, str_lits _ _ h1, str_lits _ _ h2]
  unfold keyOf
  rw [Try.underlying82]
  have hf : (pairV p).formed Try.prog 82 = true := by
    simp [Value.formed, pairV, Try.underlying82, cells82]
  simp only [type82, hf, Bool.and_self, if_true]
  show ∃ x, (Try.prog.keyLits (Try.prog.types.size + 1) 82 #[Value.string p.1, .string p.2].toList).map _ = some x
  rw [List.toList_toArray, hk]
  exact ⟨_, rfl⟩
theorem pair_key : KeyOk Try.prog 82 pairV okP := ⟨Keyed.of_law pair_law, pair_is, fun a b h => by
  simp only [pairV, Value.agg.injEq] at h
  have := congrArg Array.toList h
  simp at this
  exact Prod.ext this.1 this.2⟩
abbrev MapP := MapF pairV (Value.int .u16) okP
theorem zero31 (w : World) : (zeroValue 31).run Try.prog w = .ok (.int .u16 0) w := by kernel_rfl
theorem pair_look {w : World} {b : Nat} {f : PK → Option Int} {n : Nat} (hM : MapP w b f n) {p : PK} (hp : okP p) : (Instr.lookup 79 (.map (some b)) (.agg #[.string p.1, .string p.2]) false).run Try.prog w = .ok (.int .u16 ((f p).getD 0)) w := by
  have hq := hM.lookup pair_key Try.underlying79 (zero31 w) hp false
  have e : ((f p).map (Value.int IntKind.u16)).getD (.int .u16 0) = .int .u16 ((f p).getD 0) := by cases f p <;> rfl
  simp only [Bool.false_eq_true, if_false, e] at hq
  exact hq

/-- The masks of a policy's names: what the map holds. -/
structure Alls (l : List ByteArray) (L : List S28) (f : PK → Option Int) : Prop where
  ok : ∀ p, ∃ m : Nat, (f p).getD 0 = m ∧ m < 65536 ∧ ∀ k, m.testBit k = true ↔ k < 16 ∧ ∃ a, l[k]? = some a ∧ (⟨p.1, p.2, a⟩ : S28) ∈ L
theorem Alls.none_ (l : List ByteArray) : Alls l [] (fun _ => none) := ⟨fun _ => ⟨0, rfl, by omega, fun k => by simp⟩⟩
theorem Alls.put {l : List ByteArray} {L : List S28} {f : PK → Option Int} (h : Alls l L f) (t : S28) (m : Nat) (hm : (f (t.f0, t.f1)).getD 0 = m) : Alls l (L ++ [t]) (upd f (t.f0, t.f1) ((m ||| orBits (numsAt l t.f2) : Nat) : Int)) := by
  refine ⟨fun p => ?_⟩
  obtain ⟨m', h1, h2, h3⟩ := h.ok p
  by_cases e : p = (t.f0, t.f1)
  · subst e
    obtain rfl : m' = m := by have := h1.symm.trans hm; omega
    refine ⟨m' ||| orBits (numsAt l t.f2), by rw [upd_same]; rfl, Nat.or_lt_two_pow (n := 16) h2 (orBits_lt _), fun k => ?_⟩
    rw [Nat.testBit_or, Bool.or_eq_true, h3, orBits_bit, decide_eq_true_eq, mem_numsAt]
    constructor
    · rintro (⟨h4, a, h5, h6⟩ | ⟨h4, h5⟩)
      · exact ⟨h4, a, h5, List.mem_append_left _ h6⟩
      · exact ⟨h4, _, h5, List.mem_append_right _ (List.mem_singleton.2 rfl)⟩
    · rintro ⟨h4, a, h5, h6⟩
      rcases List.mem_append.1 h6 with h6 | h6
      · exact .inl ⟨h4, a, h5, h6⟩
      · refine .inr ⟨h4, ?_⟩
        have := List.mem_singleton.1 h6
        rw [h5, ← this]
  · refine ⟨m', by rw [upd_other _ _ e]; exact h1, h2, fun k => ?_⟩
    rw [h3]
    constructor
    · rintro ⟨h4, a, h5, h6⟩
      exact ⟨h4, a, h5, List.mem_append_left _ h6⟩
    · rintro ⟨h4, a, h5, h6⟩
      refine ⟨h4, a, h5, ?_⟩
      rcases List.mem_append.1 h6 with h6 | h6
      · exact h6
      · exact absurd (by rw [← List.mem_singleton.1 h6]) e

set_option maxHeartbeats 4000000 in
set_option maxRecDepth 100000 in
theorem masks_calls (p : Pol) (w : World) (hp : p.In w) (hd : p.d.Ok) (hs : p.d.subs.length ≤ 64) (ho : p.d.objs.length ≤ 64) (ha : p.d.acts.length ≤ 16) :
    Calls Try.prog 48 #[.agg p.cells] w fun e w' => ∃ b f n L, e = .returned (.map (some b)) ∧ MapP w' b f n ∧ Alls p.d.acts L f ∧ (∀ t, t ∈ L ↔ ((∃ y ∈ p.d.subs, y.f0 = t.f0) ∧ p.d.allowB t = true)) ∧ w.heap.size ≤ b ∧ Below w.heap.size w w' := by
  obtain ⟨d, A0, c0, A1, c1, A2, c2, A3, c3, A4, c4, A5, c5, A6, c6, A7, c7, A8, c8, A9, c9, A10, c10⟩ := p
  have HP := Aside0.mk hp
  have HD := Aside0.mk hd
  have HS := Aside0.mk hs
  have HO := Aside0.mk ho
  have HA := Aside0.mk ha
  have hmax : d.acts.length ≤ 16 := ha
  clear hp hd hs ho ha
  have hst0 : Stays (w.alloc (.cells (Pol.cells (Pol.mk d A0 c0 A1 c1 A2 c2 A3 c3 A4 c4 A5 c5 A6 c6 A7 c7 A8 c8 A9 c9 A10 c10)) 39)) w.heap.size (Pol.cells (Pol.mk d A0 c0 A1 c1 A2 c2 A3 c3 A4 c4 A5 c5 A6 c6 A7 c7 A8 c8 A9 c9 A10 c10)) 39 := heap_alloc_new w _
  have HST := Aside0.mk hst0
  have e0 := hst0.cell 0
  simp only [Pol.cells, List.getElem?_toArray, List.getElem?_cons_zero] at e0
  clear hst0
  unfold Pol.cells
  unfold Pol.cells at HST
  simp only [] at HST e0 ⊢
  have hmm := @run_makeMap Try.prog
  go_enter Try.func48, Try.ntmps48
  go_upto_region 2 with fail
  have hW0s : Stays ((w.alloc (.cells #[.slice A0 d.acts.length c0, .slice A1 d.subs.length c1, .slice A2 d.roles.length c2, .slice A3 d.objs.length c3, .slice A4 d.grps.length c4, .slice A5 d.mem.length c5, .slice A6 d.inh.length c6, .slice A7 d.par.length c7, .slice A8 d.wit.length c8, .slice A9 d.rules.length c9, .slice A10 d.exc.length c10] 39)).alloc (.map #[] 0)) w.heap.size #[.slice A0 d.acts.length c0, .slice A1 d.subs.length c1, .slice A2 d.roles.length c2, .slice A3 d.objs.length c3, .slice A4 d.grps.length c4, .slice A5 d.mem.length c5, .slice A6 d.inh.length c6, .slice A7 d.par.length c7, .slice A8 d.wit.length c8, .slice A9 d.rules.length c9, .slice A10 d.exc.length c10] 39 := HST.out.below (below_alloc (Below.refl _ _) _)
  have hW0b : Below w.heap.size w ((w.alloc (.cells #[.slice A0 d.acts.length c0, .slice A1 d.subs.length c1, .slice A2 d.roles.length c2, .slice A3 d.objs.length c3, .slice A4 d.grps.length c4, .slice A5 d.mem.length c5, .slice A6 d.inh.length c6, .slice A7 d.par.length c7, .slice A8 d.wit.length c8, .slice A9 d.rules.length c9, .slice A10 d.exc.length c10] 39)).alloc (.map #[] 0)) := below_alloc (below_alloc (Below.refl _ _) _) _
  have hW0n : Nums w ((w.alloc (.cells #[.slice A0 d.acts.length c0, .slice A1 d.subs.length c1, .slice A2 d.roles.length c2, .slice A3 d.objs.length c3, .slice A4 d.grps.length c4, .slice A5 d.mem.length c5, .slice A6 d.inh.length c6, .slice A7 d.par.length c7, .slice A8 d.wit.length c8, .slice A9 d.rules.length c9, .slice A10 d.exc.length c10] 39)).alloc (.map #[] 0)) (w.heap.size + 1) (fun _ => none) 0 [] := by
    have hM := MapF.made (kenc := Value.string) (venc := (id : Value → Value)) (ok := okS) (w.alloc (.cells #[.slice A0 d.acts.length c0, .slice A1 d.subs.length c1, .slice A2 d.roles.length c2, .slice A3 d.objs.length c3, .slice A4 d.grps.length c4, .slice A5 d.mem.length c5, .slice A6 d.inh.length c6, .slice A7 d.par.length c7, .slice A8 d.wit.length c8, .slice A9 d.rules.length c9, .slice A10 d.exc.length c10] 39))
    have hz : (w.alloc (.cells #[.slice A0 d.acts.length c0, .slice A1 d.subs.length c1, .slice A2 d.roles.length c2, .slice A3 d.objs.length c3, .slice A4 d.grps.length c4, .slice A5 d.mem.length c5, .slice A6 d.inh.length c6, .slice A7 d.par.length c7, .slice A8 d.wit.length c8, .slice A9 d.rules.length c9, .slice A10 d.exc.length c10] 39)).heap.size = w.heap.size + 1 := Array.size_push ..
    rw [hz] at hM
    exact ⟨hM, by omega, fun s _ => rfl, fun s v h => by simp at h, fun s s' v v' k _ h => by simp at h, hW0b⟩
  obtain ⟨W0, hW0⟩ : ∃ W0, W0 = ((w.alloc (.cells #[.slice A0 d.acts.length c0, .slice A1 d.subs.length c1, .slice A2 d.roles.length c2, .slice A3 d.objs.length c3, .slice A4 d.grps.length c4, .slice A5 d.mem.length c5, .slice A6 d.inh.length c6, .slice A7 d.par.length c7, .slice A8 d.wit.length c8, .slice A9 d.rules.length c9, .slice A10 d.exc.length c10] 39)).alloc (.map #[] 0)) := ⟨_, rfl⟩
  obtain ⟨gm, hgm⟩ : ∃ gm, gm = w.heap.size + 1 := ⟨_, rfl⟩
  rw [← hW0] at hW0s hW0b hW0n ⊢
  rw [← hgm] at hW0n ⊢
  have e0 := hW0s.cell 0
  simp only [List.getElem?_toArray, List.getElem?_cons_zero] at e0
  have HN0 := Aside0.mk hW0n
  have HS0 := Aside0.mk hW0s
  clear hW0s hW0b hW0n hW0 hgm HST
  go_wp2
  clear e0
  go_loopw [13] (fun u13 wr => ∃ (k : Nat) (f : ByteArray → Option Value) (n : Nat), k ≤ d.acts.length ∧ u13 = .int .i64 k ∧ Aside0 (Nums w wr gm f n (d.acts.take k)) ∧ Aside0 (Stays wr w.heap.size #[.slice A0 d.acts.length c0, .slice A1 d.subs.length c1, .slice A2 d.roles.length c2, .slice A3 d.objs.length c3, .slice A4 d.grps.length c4, .slice A5 d.mem.length c5, .slice A6 d.inh.length c6, .slice A7 d.par.length c7, .slice A8 d.wit.length c8, .slice A9 d.rules.length c9, .slice A10 d.exc.length c10] 39)) (fun u13 _ => d.acts.length - (intOf u13).toNat)
  case atStart => exact ⟨0, _, _, Nat.zero_le _, rfl, HN0, HS0⟩
  case round =>
    obtain ⟨k, f, n, hk, rfl, HN, HB⟩ := hrel
    have hpin := HP.out.below HN.out.below
    by_cases hlt : k < d.acts.length
    · obtain ⟨ad, ea, hx⟩ := Kd.at_string hpin.h0 (k : Int) (by omega) (by simp only []; omega)
      have ea : A0 = some ad := ea
      subst ea
      have hget : rdOf ByteArray.empty d.acts (k : Int) = d.acts[k] := by simp [rdOf, hlt]
      simp only [hget, Int.toNat_natCast] at hx
      have htk : d.acts.take (k + 1) = d.acts.take k ++ [d.acts[k]] := List.take_succ_eq_append_getElem hlt
      have hq := HD.out.acts d.acts[k] (List.getElem_mem hlt)
      have hlen : (d.acts.take k).length = k := by rw [List.length_take]; omega
      obtain ⟨a, haa⟩ : ∃ a, a = d.acts[k] := ⟨_, rfl⟩
      rw [← haa] at hx htk hq
      have HQ := Aside0.mk hq
      have HTK := Aside0.mk htk
      have HLEN := Aside0.mk hlen
      obtain ⟨v0, hv0⟩ : ∃ v0, v0 = (f a).getD (.slice none 0 0) := ⟨_, rfl⟩
      have hlk : (Instr.lookup 109 (.map (some gm)) (.string a) false).run Try.prog wr = .ok v0 wr := by
        have := HN.out.map.lookup str_key Try.underlying109 (z23 wr) HQ.out false
        subst hv0
        simpa using this
      have hR0 : Kd.R (Kd.int .i64) 3 wr w.heap.size (fun k => k ≠ gm) v0 (numsAt (d.acts.take k) a) := by
        subst hv0
        cases hf : f a with
        | none => rw [HN.out.no _ hf]; exact Kd.R_nil _ _ _ _ _
        | some v => exact HN.out.vals _ _ hf
      have HV0 := Aside0.mk hv0
      have HR0 := Aside0.mk hR0
      have hlim : ((numsAt (d.acts.take k) a).length + 1) * 8 ≤ 140737488355328 := by
        have h1 := numsAt_length (d.acts.take k) a
        rw [hlen] at h1
        omega
      have HLIM := Aside0.mk hlim
      have c0' : (k : Int) < d.acts.length := by omega
      clear hpin hget htk hq hlen haa hv0 hR0 hlim
      obtain ⟨La, hLa⟩ : ∃ La, La = numsAt (d.acts.take k) a := ⟨_, rfl⟩
      rw [← hLa] at HR0 HLIM
      have HLA := Aside0.mk hLa
      clear hLa
      go_wp2_with (first | ((with_reducible refine gate_builtin (b := .append) (xs := #[.tmp 22, .tmp 24]) rfl ?_); at_builtin; refine Kd.R_append (Kd.int .i64) (w0 := w) w.heap.size rfl (.tmp 22) (.tmp 24) 23 3 (.int .i64 0) 8 rfl Try.underlying23 info3 rfl (by decide) (by decide) v0 La (k : Int) [.int .i64 k] (fun b => b ≠ gm) (fun _ => False) rfl rfl rfl (fun _ hk => hk.elim) (fun k hk e => by have := HN.out.map.lt; omega) HR0.out HN.out.below HN.out.below.size HLIM.out ?_; intro v8 w8 hR8 hB8 hg8 hat8; obtain ⟨w9, hrun9, hM9, hg9⟩ := (HN.out.map.grown hg8 (fun e => HR0.out.1 _ e.symm rfl)).update str_key Try.underlying109 HQ.out v8; have hrun9 : (Instr.mapUpdate 109 (.map (some gm)) (.string a) v8).run Try.prog w8 = .ok () w9 := hrun9; have HN9 := Aside0.mk (HN.out.put HV0.out (by rw [← HLA.out, HLEN.out]; exact hR8) hB8 hg8 hat8 hM9 hg9); have HB9 := Aside0.mk (show Stays w9 w.heap.size _ 39 from (hg9.block _ (Nat.lt_of_lt_of_le (Array.getElem?_eq_some_iff.1 HB.out).1 hg8.size) (fun e => map_ne HN.out.map HB.out (Option.some.inj e))).trans ((hg8.block _ (Array.getElem?_eq_some_iff.1 HB.out).1 (Kd.R_ne HR0.out HB.out (by decide))).trans HB.out)); clear hR8 hB8 hg8 hat8 hM9 hg9))
      go_roundw
      case rel => exact ⟨k + 1, _, _, by omega, by go_num, ⟨by rw [HTK.out]; exact HN9.out⟩, HB9⟩
      case measure => simp [intOf]; omega
    · have hkk : k = d.acts.length := by omega
      subst hkk
      have hN := HN.out
      rw [List.take_length] at hN
      have HN1 := Aside0.mk hN
      obtain ⟨w1, hw1⟩ : ∃ w1, w1 = wr := ⟨_, rfl⟩
      subst hw1
      clear hN HN hpin
      have hmm := @run_makeMap Try.prog
      go_upto_region 8 with fail
      clear hmm
      have hM1 : MapP (w1.alloc (.map #[] 0)) w1.heap.size (fun _ => none) 0 := MapF.made w1
      have hb1 := below_alloc (Below.refl _ w1) (.map #[] 0)
      have hN1 := HN1.out.move hb1
      have hB1 := HB.out.below hb1
      have hne : gm ≠ w1.heap.size := by have := HN1.out.map.lt; omega
      have hga : w.heap.size ≤ w1.heap.size := HN1.out.below.size
      have hlt1 : w1.heap.size < (w1.alloc (.map #[] 0)).heap.size := hM1.lt
      obtain ⟨W1, hW1⟩ : ∃ W1, W1 = w1.alloc (.map #[] 0) := ⟨_, rfl⟩
      obtain ⟨ga, hgae⟩ : ∃ ga, ga = w1.heap.size := ⟨_, rfl⟩
      rw [← hW1] at hM1 hN1 hB1 hlt1 ⊢
      rw [← hgae] at hM1 hne hga hlt1 ⊢
      have HM2 := Aside0.mk hM1
      have HN2 := Aside0.mk hN1
      have HB2 := Aside0.mk hB1
      have HNE := Aside0.mk hne
      have HGA := Aside0.mk hga
      have HLT1 := Aside0.mk hlt1
      clear hM1 hb1 hN1 hB1 hne hga hlt1 hW1 hgae HN1 HB
      go_upto_region 9 with (first | ((with_reducible refine gate_dst (N := 28) rfl ?_); refine wpList_load_blk rfl 39 (.tmp 1) rfl w.heap.size ?hx #[.slice A0 d.acts.length c0, .slice A1 d.subs.length c1, .slice A2 d.roles.length c2, .slice A3 d.objs.length c3, .slice A4 d.grps.length c4, .slice A5 d.mem.length c5, .slice A6 d.inh.length c6, .slice A7 d.par.length c7, .slice A8 d.wit.length c8, .slice A9 d.rules.length c9, .slice A10 d.exc.length c10] 39 HB2.out _ Try.underlying39 rfl i39 ?_; (case hx => rfl)) | (go_at_call 59; (refine (Relation_calls (Pol.mk d A0 c0 A1 c1 A2 c2 A3 c3 A4 c4 A5 c5 A6 c6 A7 c7 A8 c8 A9 c9 A10 c10) _ (HP.out.below HN2.out.below) HD.out HS.out HO.out HA.out).mono ?_); rintro e w2 ⟨v29, rfl, L, hL, hspec, hlen, hb2⟩; obtain ⟨AL, cL, rfl⟩ := Kd.R_slice hL; have HL2 := Aside0.mk (Kd.R_lower (Kd.R_mono (Kd.R_bound hL) (ok' := fun b => b ≠ ga) (fun k hk e => by have h1 := hk.2.1; have h2 := HLT1.out; omega)) HN2.out.below.size); have HSP := Aside0.mk hspec; have HLL := Aside0.mk hlen; have HM3 := Aside0.mk (HM2.out.below hb2); have HN3 := Aside0.mk (HN2.out.move hb2); clear hL hspec hlen hb2))
      have hlmax : L.length ≤ 65536 := HLL.out
      go_loopw [31] (fun u31 wr => ∃ (k : Nat) (fa : PK → Option Int) (na : Nat), k ≤ L.length ∧ u31 = .int .i64 k ∧ Aside0 (Nums w wr gm f n d.acts) ∧ Aside0 (MapP wr ga fa na) ∧ Aside0 (Alls d.acts (L.take k) fa) ∧ Aside0 (Kd.R k28 28 wr w.heap.size (fun b => b ≠ ga) (.slice AL L.length cL) L)) (fun u31 _ => L.length - (intOf u31).toNat)
      case atStart => exact ⟨0, _, _, Nat.zero_le _, rfl, HN3, HM3, ⟨Alls.none_ _⟩, HL2⟩
      case round =>
        obtain ⟨k, fa, na, hk, rfl, HN4, HM4, HF4, HL4⟩ := hrel
        by_cases hlt : k < L.length
        · have hCL := (Kd.R_reads' HL4.out).2.2
          obtain ⟨ad, ea, hx0, hx1, hx2⟩ := at_T28 hCL (k : Int) (by omega) (by omega)
          subst ea
          have hget : rd_T28 L (k : Int) = L[k] := by simp [rd_T28, hlt]
          simp only [hget, Int.toNat_natCast] at hx0 hx1 hx2
          have htk : L.take (k + 1) = L.take k ++ [L[k]] := List.take_succ_eq_append_getElem hlt
          have hmem : L[k] ∈ L := List.getElem_mem hlt
          obtain ⟨t, htt⟩ : ∃ t, t = L[k] := ⟨_, rfl⟩
          rw [← htt] at hx0 hx1 hx2 htk hmem
          have hsp := (HSP.out t).1 hmem
          have hok0 : okS t.f0 := by
            obtain ⟨y, hy, he⟩ := hsp.1
            rw [← he]; exact HD.out.subs y hy
          have hin : t.f1 ∈ d.objs ∧ t.f2 ∈ d.acts := by
            have h2 := hsp.2
            unfold PolD.allowB at h2
            simp only [Bool.and_eq_true, decide_eq_true_eq] at h2
            exact ⟨h2.2.1, h2.2.2.1⟩
          have HOKP := Aside0.mk (show okP (t.f0, t.f1) from ⟨hok0, HD.out.objs _ hin.1⟩)
          have HOKA := Aside0.mk (HD.out.acts _ hin.2)
          have HTK := Aside0.mk htk
          have hcw : ∀ (j : Nat) (v : Value), ([.string t.f0, .string t.f1, .string t.f2] : List Value)[j]? = some v → wr.cell? ((ad.add (k * 3)).add j) = some v := by
            intro j v hj
            have hj3 : j < 3 := (List.getElem?_eq_some_iff.1 hj).1
            have : j = 0 ∨ j = 1 ∨ j = 2 := by omega
            rcases this with rfl | rfl | rfl
            · obtain rfl : Value.string t.f0 = v := by simpa using hj
              rw [Addr.add_zero']; exact hx0
            · obtain rfl : Value.string t.f1 = v := by simpa using hj
              rw [add_add, add_field _ _ 1 (by omega)]; exact hx1
            · obtain rfl : Value.string t.f2 = v := by simpa using hj
              rw [add_add, add_field _ _ 2 (by omega)]; exact hx2
          have HCW := Aside0.mk hcw
          obtain ⟨m, hfa, hm16, hbits⟩ := HF4.out.ok (t.f0, t.f1)
          have HFA := Aside0.mk hfa
          have HM16 := Aside0.mk hm16
          obtain ⟨Ax, cx, hax, hcx, hlx⟩ := HN4.out.read t.f2
          have HAX := Aside0.mk hax
          have HCX0 := Aside0.mk hcx
          have HLX := Aside0.mk hlx
          have c0' : (k : Int) < L.length := by omega
          clear hCL hx0 hx1 hx2 hget htk hmem hsp hok0 hin hcw hfa hm16 hbits hax hcx hlx htt
          obtain ⟨ns, hns⟩ : ∃ ns, ns = numsAt d.acts t.f2 := ⟨_, rfl⟩
          rw [← hns] at HAX HCX0 HLX
          have HNS := Aside0.mk hns
          clear hns
          go_upto_region 11 with (first | ((with_reducible refine gate_dst (N := 34) rfl ?_); refine wpList_load_at rfl 28 (.tmp 33) rfl (ad.add (k * 3)) ?hx [.string t.f0, .string t.f1, .string t.f2] HCW.out _ Try.underlying28 rfl i28 ?_; (case hx => rfl); refine wpList_alloc_store rfl rfl 28 8 (.tmp 34) rfl rfl rfl #[.string ⟨#[]⟩, .string ⟨#[]⟩, .string ⟨#[]⟩] #[.string t.f0, .string t.f1, .string t.f2] _ (z28v _) rfl i28 rfl (by simp [Value.oneCell']) ?hy ?hp ?_; (case hy => rfl); (case hp => rfl)))
          (try simp only [Act.put])
          have hb2 : Below wr.heap.size wr ((wr.alloc (.cells #[.string t.f0, .string t.f1, .string t.f2] 28)).drew) := below_drew (below_alloc (Below.refl _ _) _)
          have hS2 : Stays ((wr.alloc (.cells #[.string t.f0, .string t.f1, .string t.f2] 28)).drew) wr.heap.size #[.string t.f0, .string t.f1, .string t.f2] 28 := heap_alloc_new wr _
          obtain ⟨W3, hW3⟩ : ∃ W3, W3 = ((wr.alloc (.cells #[.string t.f0, .string t.f1, .string t.f2] 28)).drew) := ⟨_, rfl⟩
          obtain ⟨g8, hg8⟩ : ∃ g8, g8 = wr.heap.size := ⟨_, rfl⟩
          have HN3 := Aside0.mk (HN4.out.move hb2)
          have HM3 := Aside0.mk (HM4.out.below hb2)
          have HS3 := Aside0.mk hS2
          have HL3 := Aside0.mk (Kd.R_below HL4.out hb2)
          have HCX := Aside0.mk (Kd.C_below HCX0.out hb2)
          rw [← hW3] at HN3 HM3 HS3 HL3 HCX
          rw [← hg8] at HS3 ⊢
          have hfa : (fa (t.f0, t.f1)).getD 0 = ((m : Nat) : Int) := HFA.out
          refine start_ (n := 16) (S := fun w' => w'.cell? ⟨g8, 0, none⟩ = some (.string t.f0) ∧ w'.cell? ⟨g8, 1, none⟩ = some (.string t.f1) ∧ w'.cell? ⟨g8, 2, none⟩ = some (.string t.f2) ∧ (Instr.lookup 79 (.map (some ga)) (.agg #[.string t.f0, .string t.f1]) false).run Try.prog w' = .ok (.int .u16 ((m : Nat) : Int)) w' ∧ (Instr.lookup 109 (.map (some gm)) (.string t.f2) false).run Try.prog w' = .ok (.slice Ax ns.length cx) w') (ds := [15]) #[false, false, false, false, false, false, false, false, false, false, false, false, false, false, false, false] (by kernel_rfl) rfl rfl (by rw [hg8, ← hW3, ← hg8]; exact ⟨HS3.out.cell 0, HS3.out.cell 1, HS3.out.cell 2, by have h0 := pair_look HM3.out (p := (t.f0, t.f1)) HOKP.out; rw [hfa] at h0; exact h0, by have h0 := HN3.out.lk HOKA.out; rw [HAX.out] at h0; exact h0⟩) (fun hHeld => ?_)
          rw [hg8, ← hW3, ← hg8] at hHeld
          rw [hg8, ← hW3, ← hg8]
          clear hb2 hS2 hW3 hg8 hfa HN4 HM4 HL4 HCX0
          refine pure_ (i := 0) (N := some 35) (v := ?_) (a' := ?_) #[true, false, false, false, false, false, false, false, false, false, false, false, false, false, false, false] rfl rfl (by kernel_rfl) (fun _ _ _ h => h) (Or.inl ⟨by rfl, ?_⟩) ?_ ?_
          rotate_left
          · intro w'
            go_simp
            with_reducible rfl
          rotate_left
          · simp only [Act.put, List.setIfInBounds_toArray, List.set_cons_zero, List.set_cons_succ]
            rfl
          refine pure_ (i := 1) (N := some 36) (v := ?_) (a' := ?_) #[true, true, false, false, false, false, false, false, false, false, false, false, false, false, false, false] rfl rfl (by kernel_rfl) (fun _ _ _ h => h) (Or.inl ⟨by rfl, ?_⟩) ?_ ?_
          rotate_left
          · intro w'
            go_simp
            with_reducible rfl
          rotate_left
          · simp only [Act.put, List.setIfInBounds_toArray, List.set_cons_zero, List.set_cons_succ]
            rfl
          refine take_ (i := 2) (N := some 37) (v := ?_) (a' := ?_) #[true, true, true, false, false, false, false, false, false, false, false, false, false, false, false, false] rfl rfl (by kernel_rfl) (fun _ _ _ h => h) (Or.inl ⟨by rfl, ?_⟩) hHeld ?_ ?_
          rotate_left
          · rintro w' ⟨s0, s1, s2, s3, s4⟩
            go_simp
            with_reducible rfl
          rotate_left
          · simp only [Act.put, List.setIfInBounds_toArray, List.set_cons_zero, List.set_cons_succ]
            rfl
          refine pure_ (i := 3) (N := some 38) (v := ?_) (a' := ?_) #[true, true, true, true, false, false, false, false, false, false, false, false, false, false, false, false] rfl rfl (by kernel_rfl) (fun _ _ _ h => h) (Or.inl ⟨by rfl, ?_⟩) ?_ ?_
          rotate_left
          · intro w'
            go_simp
            with_reducible rfl
          rotate_left
          · simp only [Act.put, List.setIfInBounds_toArray, List.set_cons_zero, List.set_cons_succ]
            rfl
          refine take_ (i := 4) (N := some 39) (v := ?_) (a' := ?_) #[true, true, true, true, true, false, false, false, false, false, false, false, false, false, false, false] rfl rfl (by kernel_rfl) (fun _ _ _ h => h) (Or.inl ⟨by rfl, ?_⟩) hHeld ?_ ?_
          rotate_left
          · rintro w' ⟨s0, s1, s2, s3, s4⟩
            go_simp
            with_reducible rfl
          rotate_left
          · simp only [Act.put, List.setIfInBounds_toArray, List.set_cons_zero, List.set_cons_succ]
            rfl
          refine pure_ (i := 5) (N := some 40) (v := ?_) (a' := ?_) #[true, true, true, true, true, true, false, false, false, false, false, false, false, false, false, false] rfl rfl (by kernel_rfl) (fun _ _ _ h => h) (Or.inl ⟨by rfl, ?_⟩) ?_ ?_
          rotate_left
          · intro w'
            go_simp
            with_reducible rfl
          rotate_left
          · simp only [Act.put, List.setIfInBounds_toArray, List.set_cons_zero, List.set_cons_succ]
            rfl
          refine take_ (i := 6) (N := some 41) (v := ?_) (a' := ?_) #[true, true, true, true, true, true, true, false, false, false, false, false, false, false, false, false] rfl rfl (by kernel_rfl) (fun _ _ _ h => h) (Or.inl ⟨by rfl, ?_⟩) hHeld ?_ ?_
          rotate_left
          · rintro w' ⟨s0, s1, s2, s3, s4⟩
            simp [execOp, Act.eval, s3]
            rfl
          rotate_left
          · simp only [Act.put, List.setIfInBounds_toArray, List.set_cons_zero, List.set_cons_succ]
            rfl
          refine pure_ (i := 7) (N := some 42) (v := ?_) (a' := ?_) #[true, true, true, true, true, true, true, true, false, false, false, false, false, false, false, false] rfl rfl (by kernel_rfl) (fun _ _ _ h => h) (Or.inl ⟨by rfl, ?_⟩) ?_ ?_
          rotate_left
          · intro w'
            go_simp
            with_reducible rfl
          rotate_left
          · simp only [Act.put, List.setIfInBounds_toArray, List.set_cons_zero, List.set_cons_succ]
            rfl
          refine pure_ (i := 8) (N := some 43) (v := ?_) (a' := ?_) #[true, true, true, true, true, true, true, true, true, false, false, false, false, false, false, false] rfl rfl (by kernel_rfl) (fun _ _ _ h => h) (Or.inl ⟨by rfl, ?_⟩) ?_ ?_
          rotate_left
          · intro w'
            go_simp
            with_reducible rfl
          rotate_left
          · simp only [Act.put, List.setIfInBounds_toArray, List.set_cons_zero, List.set_cons_succ]
            rfl
          refine take_ (i := 9) (N := some 44) (v := ?_) (a' := ?_) #[true, true, true, true, true, true, true, true, true, true, false, false, false, false, false, false] rfl rfl (by kernel_rfl) (fun _ _ _ h => h) (Or.inl ⟨by rfl, ?_⟩) hHeld ?_ ?_
          rotate_left
          · rintro w' ⟨s0, s1, s2, s3, s4⟩
            go_simp
            with_reducible rfl
          rotate_left
          · simp only [Act.put, List.setIfInBounds_toArray, List.set_cons_zero, List.set_cons_succ]
            rfl
          refine take_ (i := 10) (N := some 45) (v := ?_) (a' := ?_) #[true, true, true, true, true, true, true, true, true, true, true, false, false, false, false, false] rfl rfl (by kernel_rfl) (fun _ _ _ h => h) (Or.inl ⟨by rfl, ?_⟩) hHeld ?_ ?_
          rotate_left
          · rintro w' ⟨s0, s1, s2, s3, s4⟩
            simp [execOp, Act.eval, s4]
            rfl
          rotate_left
          · simp only [Act.put, List.setIfInBounds_toArray, List.set_cons_zero, List.set_cons_succ]
            rfl
          refine one_ (i := 11) (N := some 46) #[true, true, true, true, true, true, true, true, true, true, true, true, false, false, false, false] rfl rfl (by kernel_rfl) (by decide) (fun K hK => ?_)
          refine goes_ Try.func70 (by kernel_rfl) rfl #[.slice Ax ns.length cx] (by rfl) rfl rfl (by (try simp only [List.map_toArray, List.map_cons, List.map_nil]); first | done | rfl) ?_
          refine (mask_go Ax cx ns _ HCX.out HLX.out).mono ?_
          rintro e w8 ⟨rfl, ⟨nd, rfl⟩⟩
          refine ⟨_, rfl, ?_⟩
          have HN4 := Aside0.mk (HN3.out.move (pw_below_drewN (Below.refl _ _) nd))
          have HM4 := Aside0.mk (HM3.out.drewN nd)
          have HS4 := Aside0.mk (HS3.out.below (pw_below_drewN (Below.refl _ _) nd))
          have HL4 := Aside0.mk (Kd.R_below HL3.out (pw_below_drewN (Below.refl _ _) nd))
          obtain ⟨W4, hW4⟩ : ∃ W4, W4 = W3.drewN nd := ⟨_, rfl⟩
          rw [← hW4] at HN4 HM4 HS4 HL4 ⊢
          clear hW4
          have hfa : (fa (t.f0, t.f1)).getD 0 = ((m : Nat) : Int) := HFA.out
          refine hK.out _ _ ⟨HS4.out.cell 0, HS4.out.cell 1, HS4.out.cell 2, by have h0 := pair_look HM4.out (p := (t.f0, t.f1)) HOKP.out; rw [hfa] at h0; exact h0, by have h0 := HN4.out.lk HOKA.out; rw [HAX.out] at h0; exact h0⟩ (fun hHeld => ?_)
          clear hK K hfa
          refine norm_ (a' := ?_) ?_ ?_
          rotate_left
          · show Act.put _ (some 46) _ = _
            simp only [Act.put, List.setIfInBounds_toArray, List.set_cons_zero, List.set_cons_succ]
            rfl
          refine pure_ (i := 12) (N := some 47) (v := ?_) (a' := ?_) #[true, true, true, true, true, true, true, true, true, true, true, true, true, false, false, false] rfl rfl (by kernel_rfl) (fun _ _ _ h => h) (Or.inl ⟨by rfl, ?_⟩) ?_ ?_
          rotate_left
          · intro w'
            go_simp
            with_reducible rfl
          rotate_left
          · simp only [Act.put, List.setIfInBounds_toArray, List.set_cons_zero, List.set_cons_succ]
            rfl
          obtain ⟨w5, stamp, hrun, hM5, hg5, hst⟩ := HM4.out.entry pair_key Try.underlying79 (zv := 0) (zero31 W4) (k := (t.f0, t.f1)) HOKP.out
          have hfa : (fa (t.f0, t.f1)).getD 0 = ((m : Nat) : Int) := HFA.out
          rw [hfa] at hrun hM5
          refine one_ (i := 13) (N := some 48) #[true, true, true, true, true, true, true, true, true, true, true, true, true, true, false, false] rfl rfl (by kernel_rfl) (by decide) (fun K hK => ?_)
          refine GDiffer.step_run (w' := w5) (v := .tuple #[.int .u16 ((m : Nat) : Int), .int .i64 stamp]) rfl rfl ?_ ?_
          · have hrun' : (Instr.mapEntry 79 (.map (some ga)) (.agg #[.string t.f0, .string t.f1])).run Try.prog W4 = .ok (.tuple #[.int .u16 ((m : Nat) : Int), .int .i64 stamp]) w5 := hrun
            simp [execOp, Act.eval, hrun']
          have hS5 : Stays w5 g8 #[.string t.f0, .string t.f1, .string t.f2] 28 := (hg5.block _ (Array.getElem?_eq_some_iff.1 HS4.out).1 (fun e => map_ne HM4.out HS4.out (Option.some.inj e))).trans HS4.out
          have hN5 := HN4.out.beside HM4.out HGA.out HNE.out hg5
          refine hK.out _ _ ⟨hS5.cell 0, hS5.cell 1, hS5.cell 2, by have h0 := pair_look hM5 (p := (t.f0, t.f1)) HOKP.out; rw [upd_same, Option.getD_some] at h0; exact h0, by have h0 := hN5.lk HOKA.out; rw [HAX.out] at h0; exact h0⟩ (fun hHeld => ?_)
          clear hK K hS5 hN5
          refine norm_ (a' := ?_) ?_ ?_
          rotate_left
          · show Act.put _ (some 48) _ = _
            simp only [Act.put, List.setIfInBounds_toArray, List.set_cons_zero, List.set_cons_succ]
            rfl
          refine pure_ (i := 14) (N := some 49) (v := ?_) (a' := ?_) #[true, true, true, true, true, true, true, true, true, true, true, true, true, true, true, false] rfl rfl (by kernel_rfl) (fun _ _ _ h => h) (Or.inl ⟨by rfl, ?_⟩) ?_ ?_
          rotate_left
          · intro w'
            go_simp
            with_reducible rfl
          rotate_left
          · simp only [Act.put, List.setIfInBounds_toArray, List.set_cons_zero, List.set_cons_succ]
            rfl
          refine last_ (i := 15) (N := none) #[true, true, true, true, true, true, true, true, true, true, true, true, true, true, true, true] rfl rfl (by kernel_rfl) (by decide) (fun K hK => ?_)
          obtain ⟨w6, hrun6, hM6, hg6⟩ := hst (Go.bits .or .u16 ((m : Nat) : Int) ((orBits ns : Nat) : Int))
          refine GDiffer.step_skip (w' := w6) rfl rfl ?_ ?_
          · simp [execOp, Act.eval, hrun6]
          refine hK.out _ _ ?_
          clear hK K
          refine done_ (by kernel_rfl) ?_
          have hor := or_both m (orBits ns) HM16.out (orBits_lt ns)
          rw [hor] at hM6
          have HN6 := Aside0.mk (HN4.out.beside HM4.out HGA.out HNE.out hg6)
          have HM6 := Aside0.mk hM6
          have HL6 := Aside0.mk (Kd.R_grown HL4.out hg6 (fun k hk e => hk (Option.some.inj e)))
          have hF6 := HF4.out.put t m HFA.out
          rw [← HNS.out, ← HTK.out] at hF6
          have HF6 := Aside0.mk hF6
          clear hM6 hg6 hrun6 hst hM5 hg5 hrun hHeld hor hF6 hfa
          go_wp2
          go_roundw
          case rel => exact ⟨k + 1, _, _, by omega, by go_num, HN6, HM6, HF6, HL6⟩
          case measure => simp [intOf]; omega
        · have hkk : k = L.length := by omega
          subst hkk
          have hF := HF4.out
          rw [List.take_length] at hF
          have HF5 := Aside0.mk hF
          clear hF
          go_wp2
          go_ret
          exact ⟨_, _, _, L, rfl, HM4.out, HF5.out, HSP.out, HGA.out, HN4.out.below⟩
end Go.Proofs.Ythaiodklfoegiaa.CMasks

/- slices.Clone of names. -/
namespace Go.Proofs.Ythaiodklfoegiaa.CClone
open Go.RowKit Go.Proofs.YthaiodklfoegiaaW.PrintWords Go.Proofs.YthaiodklfoegiaaW.PrintLast Go.Proofs.YthaiodklfoegiaaW.PrintMore Go.Proofs.Ythaiodklfoegiaa.MLines Go.Proofs.Ythaiodklfoegiaa.MSide Go.Proofs.Ythaiodklfoegiaa.MPol Go.Maps
open Go.Proofs.Ythaiodklfoegiaa Go.Proofs.Ythaiodklfoegiaa.PG

set_option maxHeartbeats 1000000 in
set_option maxRecDepth 100000 in
theorem clone_calls (A : Option Addr) (c : Nat) (l : List ByteArray) (w : World) (hC : Kd.C Kd.string w A l.length l) (hl : l.length ≤ 8796093022207) :
    Calls Try.prog 47 #[.slice A l.length c] w fun e w' => ∃ v, e = .returned v ∧ Kd.R Kd.string 9 w' w.heap.size (fun _ => True) v l ∧ Below w.heap.size w w' := by
  have HC := Aside0.mk hC
  have HL := Aside0.mk hl
  have hmax : l.length ≤ 9223372036854775807 := hC.2.1
  clear hC hl
  cases A with
  | none =>
    have h0 : l = [] := by
      have := HC.out.2.2
      cases l with
      | nil => rfl
      | cons x r => obtain ⟨ad, h, _⟩ := this (by simp); cases h
    subst h0
    have he := fun w : World => Lib.run_eql_slice_nil (P := Try.prog) w 22 9 none 0 c 0 0 Try.underlying22
    go_enter Try.func47, Try.ntmps47
    go_wp2
    go_ret
    exact ⟨_, rfl, Kd.R_nil _ _ _ _ _, Below.refl _ _⟩
  | some ad =>
    have he := fun w : World => Lib.run_eql_slice_nil (P := Try.prog) w 22 9 (some ad) l.length c 0 0 Try.underlying22
    go_enter Try.func47, Try.ntmps47
    go_upto_region 3 with fail
    clear he
    have hlim : ((([] : List ByteArray)).length + l.length) * 16 ≤ 140737488355328 := by have := HL.out; simp; omega
    have HLIM := Aside0.mk hlim
    clear hlim
    have hR5 : Kd.R Kd.string 9 (w.alloc (.cells #[] 9)) w.heap.size (fun _ => True) (.slice (some ⟨w.heap.size, 0, none⟩) 0 0) [] := by
      have h0 := own_lit_of (enc := Value.string) w w.heap.size 9 [] (Nat.le_refl _) (by simp)
      exact Kd.R_of_own (h1 := fun _ => rfl) h0 (fun _ _ => trivial)
    have HR5 := Aside0.mk hR5
    have HB5 := Aside0.mk (below_alloc (Below.refl _ w) (.cells #[] 9))
    clear hR5
    go_wp2_with (first | ((with_reducible refine gate_builtin (b := .append) (xs := #[.tmp 5, .tmp 6]) rfl ?_); at_builtin; refine Kd.R_append_row Value.string ⟨#[]⟩ (w0 := w) w.heap.size rfl (.tmp 5) (.tmp 6) 22 9 (.string ⟨#[]⟩) 16 rfl Try.underlying22 info9 rfl (by decide) (.slice (some ⟨w.heap.size, 0, none⟩) 0 0) [] l (some ad) l.length c (fun _ => True) rfl rfl (fun _ _ => trivial) HR5.out (Kd.C_below HC.out HB5.out) HB5.out HB5.out.size HLIM.out ?_; intro v7 w7 hR7 hB7 hg7 hat7; have HR7 := Aside0.mk hR7; have HB7 := Aside0.mk hB7; clear hR7 hB7 hg7 hat7))
    obtain ⟨A7, c7, rfl⟩ := Kd.R_slice HR7.out
    go_ret
    exact ⟨_, rfl, HR7.out, HB7.out⟩
end Go.Proofs.Ythaiodklfoegiaa.CClone
