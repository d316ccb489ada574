/- Of this session's texts, what the row uses: KReads, KGrown, PGx21, PGx1, PGx22, KSpP, KSpoilt, PGx17, PGx18. -/
import Derived.Test.YtacggjhgdkkclaaZ3
import Derived.Test.YtacggjhgdkkclaaZ5
import Derived.Test.YtacggjhgdkkclaaZ2
/- gatehouselaw05.roomy: what it hands back, as what reads. -/
namespace Go.Proofs.Ytacggjhgdkkclaa.KReads
open Go.RowKit Go.Proofs.YtacggjhgdkkclaaW.PrintWords Go.Proofs.YtacggjhgdkkclaaW.PrintLast Go.Proofs.YtacggjhgdkkclaaW.PrintMore Go.Maps
open Go.Proofs.Ytacggjhgdkkclaa Go.Proofs.Ytacggjhgdkkclaa.PG Go.Proofs.YtacggjhgdkkclaaF Go.Proofs.Ytacggjhgdkkclaa.KBase Go.Proofs.Ytacggjhgdkkclaa.KRoomB Go.Proofs.Ytacggjhgdkkclaa.KUntP Go.Proofs.Ytacggjhgdkkclaa.KUnt
set_option linter.unusedSimpArgs false
theorem ext_reads {α : Type} {d : Kd α} {e base n c : Nat} {ok : Nat → Prop} {w : World} {A : Option Addr} {l : List α} {x : α} (h : d.R e w base ok (.slice A (n + 1) c) (l ++ [x])) (hn : l.length = n) : d.C w A n l ∧ n ≤ c ∧ d.C w A (n + 1) (l ++ [x]) ∧ n + 1 ≤ c := by
  obtain ⟨h1, h2, h3⟩ := Kd.R_reads' h
  have ht := Kd.R_take (m := n) h (by rw [List.length_append, hn]; simp)
  rw [show (l ++ [x]).take n = l by rw [← hn]; simp] at ht
  obtain ⟨_, t2, t3⟩ := Kd.R_reads' ht
  rw [hn] at t3
  have he : (l ++ [x]).length = n + 1 := by simp [hn]
  rw [he] at h3
  exact ⟨t3, t2, h3, h2⟩
theorem rules_K {w : World} {base : Nat} {x : TR} (h : Kd.R Kd.string 9 w base (fun _ => True) (.slice x.2.1 (x.1.f3.length + 1) x.2.2) (x.1.f3 ++ [sh])) : k51.K w x.1 (rcell x) := by
  obtain ⟨h1, h2, _, _⟩ := ext_reads h rfl
  exact k51_mk w x.1 h2 h1
set_option maxHeartbeats 2000000 in
theorem roomy_reads (p : Pol) (w : World) (hp : p.In w) (hd : KRoom.Lens p.d) :
    Calls Try.prog 5 #[.agg p.cells] w fun e w' => ∃ (q : Pol) (r : RA), e = .returned (.agg (roomV q r)) ∧ q.d = p.d ∧ q.In w' ∧ r.In p.d w' ∧ Below w.heap.size w w' := by
  refine (KRoom.roomy_calls p w hp hd).mono ?_
  rintro e w' ⟨d, Ba, ka, C1, j1, Br, kr, Bo, ko, Bg, kg, B5, k5, B6, k6, B7, k7, B8, k8, C9, j9, C10, j10, Bl, kl, T, rfl, rfl, hT, hall, hb⟩
  obtain ⟨a0, b0, m0, n0⟩ := ext_reads (hall.get 12 rfl : Kd.R Kd.string 9 w' w.heap.size (fun _ => True) (.slice Ba (p.d.acts.length + 1) ka) (p.d.acts ++ [sh])) rfl
  obtain ⟨a1, b1, m1, n1⟩ := ext_reads (hall.get 8 rfl : Kd.R k42 42 w' w.heap.size (fun _ => True) (.slice C1 (p.d.subs.length + 1) j1) (p.d.subs ++ ([⟨sh, 0⟩] : List S42))) rfl
  obtain ⟨a2, b2, m2, n2⟩ := ext_reads (hall.get 11 rfl : Kd.R Kd.string 9 w' w.heap.size (fun _ => True) (.slice Br (p.d.roles.length + 1) kr) (p.d.roles ++ [sh])) rfl
  obtain ⟨a3, b3, m3, n3⟩ := ext_reads (hall.get 10 rfl : Kd.R Kd.string 9 w' w.heap.size (fun _ => True) (.slice Bo (p.d.objs.length + 1) ko) (p.d.objs ++ [sh])) rfl
  obtain ⟨a4, b4, m4, n4⟩ := ext_reads (hall.get 9 rfl : Kd.R Kd.string 9 w' w.heap.size (fun _ => True) (.slice Bg (p.d.grps.length + 1) kg) (p.d.grps ++ [sh])) rfl
  obtain ⟨a5, b5, m5, n5⟩ := ext_reads (hall.get 7 rfl : Kd.R k59 59 w' w.heap.size (fun _ => True) (.slice B5 (p.d.mem.length + 1) k5) (p.d.mem ++ ([⟨sh, e0⟩] : List S59))) rfl
  obtain ⟨a6, b6, m6, n6⟩ := ext_reads (hall.get 6 rfl : Kd.R k59 59 w' w.heap.size (fun _ => True) (.slice B6 (p.d.inh.length + 1) k6) (p.d.inh ++ ([⟨sh, e0⟩] : List S59))) rfl
  obtain ⟨a7, b7, m7, n7⟩ := ext_reads (hall.get 5 rfl : Kd.R k59 59 w' w.heap.size (fun _ => True) (.slice B7 (p.d.par.length + 1) k7) (p.d.par ++ ([⟨sh, e0⟩] : List S59))) rfl
  obtain ⟨a8, b8, m8, n8⟩ := ext_reads (hall.get 4 rfl : Kd.R k59 59 w' w.heap.size (fun _ => True) (.slice B8 (p.d.wit.length + 1) k8) (p.d.wit ++ ([⟨sh, e0⟩] : List S59))) rfl
  obtain ⟨a10, b10, m10, n10⟩ := ext_reads (hall.get 0 rfl : Kd.R k53 53 w' w.heap.size (fun _ => True) (.slice C10 (p.d.exc.length + 1) j10) (p.d.exc ++ ([⟨sh, e0, e0⟩] : List S53))) rfl
  have hTl : T.length = p.d.rules.length := by rw [← hT, List.length_map]
  have hE : ∀ x ∈ T, Kd.R Kd.string 9 w' w.heap.size (fun _ => True) (.slice x.2.1 (x.1.f3.length + 1) x.2.2) (x.1.f3 ++ [sh]) := hall.get 3 (E := entEach w.heap.size T) rfl
  have hget : ∀ (j : Nat) (x : S51), p.d.rules[j]? = some x → ∃ y, T[j]? = some y ∧ y.1 = x := by
    intro j x hj
    rw [← hT, List.getElem?_map] at hj
    exact Option.map_eq_some_iff.1 hj
  obtain ⟨a9, b9, m9, n9⟩ := ext_reads (hall.get 1 rfl : Kd.R (Kd.raw 6) 51 w' w.heap.size (fun _ => True) (.slice C9 (p.d.rules.length + 1) j9) (T.map rcell ++ ([[Value.bool false, .string sh, .string e0, .slice none 0 0, .int .i8 0, .float .f64 0]] : List (List Value)))) (by rw [List.length_map, hTl])
  have hC9 : Kd.C k51 w' C9 p.d.rules.length p.d.rules := C_of_raw (d := k51) a9 (by rw [List.length_map, hTl]) (fun j x c hx hc => by
    obtain ⟨y, hy, rfl⟩ := hget j x hx
    rw [List.getElem?_map, hy] at hc
    cases hc
    exact rules_K (hE y (List.mem_of_getElem? hy)))
  have hF9 : Kd.C k51 w' C9 (p.d.rules.length + 1) (p.d.rules ++ ([⟨false, sh, e0, [], 0, 0⟩] : List S51)) := C_of_raw (d := k51) m9 (by simp [hTl]) (fun j x c hx hc => by
    rcases Nat.lt_or_ge j p.d.rules.length with hlt | hge
    · rw [List.getElem?_append_left hlt] at hx
      rw [List.getElem?_append_left (by rw [List.length_map, hTl]; exact hlt)] at hc
      obtain ⟨y, hy, rfl⟩ := hget j x hx
      rw [List.getElem?_map, hy] at hc
      cases hc
      exact rules_K (hE y (List.mem_of_getElem? hy))
    · rw [List.getElem?_append_right hge] at hx
      rw [List.getElem?_append_right (by rw [List.length_map, hTl]; exact hge), List.length_map, hTl] at hc
      have h0 : j - p.d.rules.length = 0 := by
        have := (List.getElem?_eq_some_iff.1 hx).1
        simp at this
        omega
      rw [h0] at hx hc
      cases hx; cases hc
      exact k51_mk w' _ (Nat.le_refl 0) ⟨rfl, by decide, fun h => by simp at h⟩)
  obtain ⟨_, cl, hl⟩ := Kd.R_reads' (hall.get 2 rfl : Kd.R (Kd.raw 1) 22 w' w.heap.size (fun _ => True) (.slice Bl p.d.rules.length kl) (T.map lcell))
  rw [List.length_map, hTl] at hl
  have hCl : Kd.C (Kd.slice 9 Kd.string) w' Bl p.d.rules.length (p.d.rules.map (fun x => x.f3 ++ [sh])) := C_of_raw (d := Kd.slice 9 Kd.string) hl (by rw [List.length_map, List.length_map, hTl]) (fun j x c hx hc => by
    rw [List.getElem?_map] at hx
    obtain ⟨r, hr, rfl⟩ := Option.map_eq_some_iff.1 hx
    obtain ⟨y, hy, rfl⟩ := hget j r hr
    rw [List.getElem?_map, hy] at hc
    cases hc
    obtain ⟨_, _, h3, h4⟩ := ext_reads (hE y (List.mem_of_getElem? hy)) rfl
    have he : (y.1.f3 ++ [sh]).length = y.1.f3.length + 1 := by simp
    exact ⟨y.2.1, y.2.2, by rw [he]; rfl, by rw [he]; exact h4, by rw [he]; exact h3⟩)
  exact ⟨Pol.mk p.d Ba ka C1 j1 Br kr Bo ko Bg kg B5 k5 B6 k6 B7 k7 B8 k8 C9 j9 C10 j10, RA.mk Ba ka C1 j1 Br kr Bo ko Bg kg B5 k5 B6 k6 B7 k7 B8 k8 C9 j9 C10 j10 Bl kl, rfl, rfl, ⟨a0, a1, a2, a3, a4, a5, a6, a7, a8, hC9, a10, b0, b1, b2, b3, b4, b5, b6, b7, b8, b9, b10⟩, ⟨m0, n0, m1, n1, m2, n2, m3, n3, m4, n4, m5, n5, m6, n6, m7, n7, m8, n8, hF9, n9, m10, n10, hCl, cl⟩, hb⟩
end Go.Proofs.Ytacggjhgdkkclaa.KReads
/- gatehouselaw05.grown, walked: what is gone on with stays as it was. -/
namespace Go.Proofs.Ytacggjhgdkkclaa.KGrown
open Go.RowKit Go.Proofs.YtacggjhgdkkclaaW.PrintWords Go.Proofs.YtacggjhgdkkclaaW.PrintLast Go.Proofs.YtacggjhgdkkclaaW.PrintMore Go.Maps
open Go.Proofs.Ytacggjhgdkkclaa Go.Proofs.Ytacggjhgdkkclaa.PG Go.Proofs.YtacggjhgdkkclaaF Go.Proofs.Ytacggjhgdkkclaa.KBase Go.Proofs.Ytacggjhgdkkclaa.KApp
set_option linter.unusedSimpArgs false
theorem own_form {α : Type} {d : Kd α} {e base : Nat} {ok : Nat → Prop} {w : World} {v : Value} {xs : List α} (h : d.R e w base ok v xs) : v = .slice none 0 0 ∨ ∃ g cap, v = .slice (some ⟨g, 0, none⟩) xs.length cap := by
  obtain ⟨inner, hl, hor⟩ := Kd.R_own h
  rcases hor with ⟨h1, h2⟩ | ⟨g, cap, cur, h1, _⟩
  · exact .inl h1
  · exact .inr ⟨g, cap, h1⟩
theorem grown_trans {a b c : World} {row : Option Nat} (h : a.grownBy b row) (k : b.grownBy c none) : a.grownBy c row := h.trans ⟨k.os, k.tape, k.output, k.size, fun i hi _ => k.block i hi (by simp)⟩
theorem grown_refl (w : World) (row : Option Nat) : w.grownBy w row := ⟨rfl, rfl, rfl, Nat.le_refl _, fun _ _ _ => rfl⟩
theorem grown_new {a b c : World} {row : Option Nat} {g : Nat} (h : a.grownBy b row) (k : b.grownBy c (some g)) (hg : a.heap.size ≤ g) : a.grownBy c row :=
  ⟨k.os.trans h.os, k.tape.trans h.tape, k.output.trans h.output, Nat.le_trans h.size k.size, fun i hi hn => (k.block i (Nat.lt_of_lt_of_le hi h.size) (fun e => by injection e with e; omega)).trans (h.block i hi hn)⟩
theorem below_grown {a b : World} (h : Below a.heap.size a b) (row : Option Nat) : a.grownBy b row := ⟨h.os, h.tape, h.output, h.size, fun i hi _ => h.block i hi⟩
structure Gr {α : Type} (d : Kd α) (e base : Nat) (w : World) (v : Value) (xs : List α) (k : Nat) (W : World) (v1 : Value) : Prop where
  now : ∃ ys : List α, ys.length = k ∧ d.R e W base (fun _ => True) v1 (xs ++ ys)
  old : d.R e W base (fun k => k < w.heap.size) v xs
  grown : w.grownBy W v.ownBlock
  lies : (∃ g cap, v = .slice (some ⟨g, 0, none⟩) xs.length cap ∧ v1 = .slice (some ⟨g, 0, none⟩) (xs.length + k) cap) ∨ (∀ b, v1.ownBlock = some b → w.heap.size ≤ b)
theorem Gr.start {α : Type} {d : Kd α} {e base : Nat} {ok : Nat → Prop} {w : World} {v : Value} {xs : List α} (h : d.R e w base ok v xs) : Gr d e base w v xs 0 w v := by
  have h' : d.R e w base (fun _ => True) v xs := Kd.R_mono h (fun _ _ => trivial)
  refine ⟨⟨[], rfl, by rw [List.append_nil]; exact h'⟩, Kd.R_mono (Kd.R_bound h) (fun _ hk => hk.2.2.1), grown_refl _ _, ?_⟩
  rcases own_form h with rfl | ⟨g, cap, rfl⟩
  · exact .inr (fun b hb => by simp [Value.ownBlock] at hb)
  · exact .inl ⟨g, cap, rfl, rfl⟩
theorem Gr.move {α : Type} {d : Kd α} {e base : Nat} {w : World} {v : Value} {xs : List α} {k : Nat} {W W1 : World} {v1 : Value} (h : Gr d e base w v xs k W v1) (hb : Below W.heap.size W W1) : Gr d e base w v xs k W1 v1 := by
  obtain ⟨⟨ys, hy, hR⟩, ho, hg, hl⟩ := h
  exact ⟨⟨ys, hy, Kd.R_below hR hb⟩, Kd.R_below ho hb, grown_trans hg (below_grown hb none), hl⟩
theorem Gr.app {α : Type} {d : Kd α} {e base : Nat} {ok : Nat → Prop} {w : World} {v : Value} {xs : List α} {k : Nat} {W W1 : World} {v1 v2 : Value} {ys : List α} {y : α} (h0 : d.R e w base ok v xs) (hE : d.E = []) (h : Gr d e base w v xs k W v1) (hy : ys.length = k) (hn : d.R e W1 base (fun _ => True) v2 ((xs ++ ys) ++ [y])) (hw : Went W W1 v1 v2 (xs ++ ys).length 1) : Gr d e base w v xs (k + 1) W1 v2 := by
  have hle : w.heap.size ≤ W.heap.size := h.grown.size
  have hlen : (xs ++ ys).length = xs.length + k := by rw [List.length_append, hy]
  rw [hlen] at hw
  have hnow : ∃ zs : List α, zs.length = k + 1 ∧ d.R e W1 base (fun _ => True) v2 (xs ++ zs) := ⟨ys ++ [y], by simp [hy], by rw [← List.append_assoc]; exact hn⟩
  rcases hw with ⟨g, cap, e1, e2, hg⟩ | ⟨g, cap, e2, hb, hg⟩
  · rcases h.lies with ⟨g', cap', f1, f2⟩ | hf
    · rw [f2] at e1
      injection e1 with ea en ec
      injection ea with ea
      injection ea with ea
      subst ea; subst ec
      have hold : d.R e W1 base (fun k => k < w.heap.size) v xs := by
        rw [e2] at hn
        have ht := Kd.R_take (m := xs.length) hn (by simp)
        have : List.take xs.length ((xs ++ ys) ++ [y]) = xs := by simp
        rw [this] at ht
        rw [f1]
        exact Kd.R_mono (Kd.R_tight hE ht) (fun k hk => Kd.R_lt h0 k (by rw [f1]; exact hk.symm))
      refine ⟨hnow, hold, h.grown.trans (by rw [f1]; exact hg), .inl ⟨_, _, f1, by rw [e2]; rfl⟩⟩
    · have hge : w.heap.size ≤ g := hf g (by rw [e1]; rfl)
      have hne : ∀ k, k < w.heap.size → some k ≠ some g := fun k hk e => by injection e with e; omega
      exact ⟨hnow, Kd.R_grown h.old hg (fun k hk => hne k hk), grown_new h.grown hg hge, .inr (fun b hb => by rw [e2] at hb; simp [Value.ownBlock] at hb; omega)⟩
  · refine ⟨hnow, Kd.R_grown h.old hg (by simp), grown_trans h.grown hg, .inr (fun b hb' => by rw [e2] at hb'; simp [Value.ownBlock] at hb'; omega)⟩
set_option maxHeartbeats 8000000 in
set_option maxRecDepth 100000 in
theorem grown_calls (base : Nat) (ok : Nat → Prop) (v : Value) (xs : List S44) (w : World) (hb : base ≤ w.heap.size) (ho : Kd.R k44 44 w base ok v xs) (hl : xs.length + 40 < 4398046511104) :
    Calls Try.prog 27 #[v] w fun e w' => e = .returned (.int .i64 ((xs.length + 40 : Nat) : Int)) ∧ Kd.R k44 44 w' base (fun k => some k = v.ownBlock) v xs ∧ w.grownBy w' v.ownBlock := by
  have HG0 := Aside0.mk (Gr.start ho)
  have HO := Aside0.mk ho
  have HB := Aside0.mk hb
  have HL := Aside0.mk hl
  clear ho hb hl
  go_enter Try.func27, Try.ntmps27
  go_wp2
  go_loopw [0, 3] (fun v0 v3 wr => ∃ k : Nat, k ≤ 40 ∧ v3 = .int .i64 k ∧ Aside0 (Gr k44 44 base w v xs k wr v0)) (fun _ v3 _ => 40 - (intOf v3).toNat)
  case atStart => exact ⟨0, by omega, rfl, HG0⟩
  case round =>
    obtain ⟨k, hk, rfl, HG⟩ := hrel
    by_cases hlt : k < 40
    · have hlt' : ((k : Int) < 40) := by omega
      obtain ⟨ys, hy, hR⟩ := HG.out.now
      have HR := Aside0.mk hR
      have HY := Aside0.mk hy
      have HLm := Aside0.mk (show ((xs ++ ys).length + 1) * 32 ≤ 140737488355328 by have := HL.out; simp only [List.length_append]; omega)
      have HS := Aside0.mk (Nat.le_trans HB.out HG.out.grown.size)
      clear hR hy
      go_wp2_with (first | ((with_reducible refine gate_builtin (b := .append) (xs := #[.tmp 8, .tmp 10]) rfl ?_); at_builtin; refine R_append_two k44 base rfl (.tmp 8) (.tmp 10) 45 44 (.agg #[(.string ⟨#[]⟩), (.int .i64 0), (.int .i64 0)]) 32 rfl Try.underlying45 info44 rfl (by decide) u0 (xs ++ ys) (⟨(⟨#[43]⟩ : ByteArray), 0, 0⟩ : S44) [.string (⟨#[43]⟩ : ByteArray), .int .i64 0, .int .i64 0] (fun _ => True) (fun _ => False) rfl rfl (k44_mkM _ _ _ _) (fun _ h => h.elim) (fun _ _ => trivial) HR.out HS.out HLm.out ?_; intro v1 w1 hR1 hW1; have HR1 := Aside0.mk hR1; have HW1 := Aside0.mk hW1; clear hR1 hW1))
      exact ⟨⟨k + 1, by omega, by simp, ⟨Gr.app HO.out rfl HG.out HY.out HR1.out HW1.out⟩⟩, by simp only [intOf]; omega⟩
    · have hk40 : k = 40 := by omega
      subst hk40
      obtain ⟨ys, hy, hR⟩ := HG.out.now
      obtain ⟨A0, c0, rfl⟩ := Kd.R_slice hR
      have hl : (xs ++ ys).length = xs.length + 40 := by simp [hy]
      rw [hl] at hR HG ⊢
      have HV := Aside0.mk (Kd.R_mono (Kd.R_tight rfl HG.out.old) (fun _ h => h))
      clear hR
      go_wp2
      go_ret
      exact ⟨rfl, HV.out, HG.out.grown⟩
end Go.Proofs.Ytacggjhgdkkclaa.KGrown
namespace Go.Proofs.Ytacggjhgdkkclaa.PG
open Go.Proofs.YtacggjhgdkkclaaF
attribute [local go_sem high] run_feq run_fne run_flt_lt run_flt_le run_flt_gt run_flt_ge
open Go.RowKit Go.Proofs.YtacggjhgdkkclaaW.PrintWords Go.Proofs.YtacggjhgdkkclaaW.PrintLast Go.Proofs.YtacggjhgdkkclaaW.PrintMore
attribute [local go_sem] max2_int min2_int max_two min_two max_three min_three max_four min_four   -- for this text's walks alone
set_option linter.unusedVariables false
set_option linter.unusedSimpArgs false
/-! ### gatehouselaw05_named: function 26 -/
def gatehouselaw05_named.f (a0 : Int) (a1 : Int) : Option (ByteArray × Int × Int) := some ((⟨#[35]⟩ : ByteArray), a0, a1)
set_option maxHeartbeats 8000000 in
set_option maxRecDepth 100000 in
theorem gatehouselaw05_named.calls (a0 : Int) (a1 : Int) (r1 : ByteArray) (r2 : Int) (r3 : Int) (w : World) (h : gatehouselaw05_named.f a0 a1 = some (r1, r2, r3)) :
    Calls Try.prog 26 #[.int .i64 a0, .int .i64 a1] w fun e w' => e = .returned (.agg #[.string r1, .int .i64 r2, .int .i64 r3]) ∧ Below w.heap.size w w' := by
  have hu44 := Try.underlying44
  have HB := Aside0.mk (Below.refl w.heap.size w)
  have H : (some ((⟨#[35]⟩ : ByteArray), a0, a1)) = some (r1, r2, r3) := h
  clear h
  simp only [Option.some.injEq, Prod.mk.injEq] at H
  obtain ⟨rfl, rfl, rfl⟩ := H
  go_enter Try.func26, Try.ntmps26
  go_wp2_with (first | ((with_reducible refine gate_dst (N := 4) rfl ?_); refine box_event ?hg (N := 4) ?hd (cs := #[.string (⟨#[]⟩ : ByteArray), .int .i64 0, .int .i64 0]) (t := 44) ?hr ?_; (case hd => rfl); (case hg => rfl); (case hr => first | (go_simp; done) | (go_simp; rfl)); intro gb383 hg w3 hbox hb; have n0_ := Aside0.mk (below_step (by repeat (first | (with_reducible first | exact HB.out | apply below_alloc | apply pw_below_drewN | apply below_drew1) | exact HB.out)) hb); have n1_ := Aside0.mk (hbox); have n2_ := Aside0.mk ((by rw [hg]; exact (below_size (by repeat (first | (with_reducible first | exact HB.out | apply below_alloc | apply pw_below_drewN | apply below_drew1) | exact HB.out))) : w.heap.size ≤ gb383)); have n3_ := Aside0.mk ((by rw [hg]; exact (below_size (by repeat (first | (with_reducible first | exact HB.out | apply below_alloc | apply pw_below_drewN | apply below_drew1) | exact HB.out))) : w.heap.size ≤ gb383)); clear HB; have HB := n0_; have BK383 := n1_; have GW383 := n2_; have GE383 := n3_; clear n0_ n1_ n2_ n3_; clear hb hbox hg; have hcz4_0 : w3.cell? ⟨gb383, 0, none⟩ = some (.string (⟨#[]⟩ : ByteArray)) := (blk_cell BK383.out 0).trans rfl; have hcz4_1 : w3.cell? ⟨gb383, 1, none⟩ = some (.int .i64 0) := (blk_cell BK383.out 1).trans rfl; have hcz4_2 : w3.cell? ⟨gb383, 2, none⟩ = some (.int .i64 0) := (blk_cell BK383.out 2).trans rfl; have hfz4_0 := blk_frozen BK383.out 0; have hfz4_1 := blk_frozen BK383.out 1; have hfz4_2 := blk_frozen BK383.out 2))
  refine bodyPost_ret (results_cell_row rfl _ _ gb383 44 #[.string (⟨#[35]⟩ : ByteArray), .int .i64 a0, .int .i64 a1] (0, 0) _ rfl (by (with_reducible repeat (first | refine blk_drewN ?_ _ | refine blk_drew ?_ | refine blk_alloc ?_ _)); refine blk_put (cs := #[.string (⟨#[35]⟩ : ByteArray), .int .i64 a0, .int .i64 0]) ?_ 2 _ rfl; (with_reducible repeat (first | refine blk_drewN ?_ _ | refine blk_drew ?_ | refine blk_alloc ?_ _)); refine blk_put (cs := #[.string (⟨#[35]⟩ : ByteArray), .int .i64 0, .int .i64 0]) ?_ 1 _ rfl; (with_reducible repeat (first | refine blk_drewN ?_ _ | refine blk_drew ?_ | refine blk_alloc ?_ _)); refine blk_put (cs := #[.string (⟨#[]⟩ : ByteArray), .int .i64 0, .int .i64 0]) ?_ 0 _ rfl; (with_reducible repeat (first | refine blk_drewN ?_ _ | refine blk_drew ?_ | refine blk_alloc ?_ _)); exact BK383.out) Try.underlying44 rfl (by kernel_rfl)) rfl ?_
  exact ⟨by first | rfl | (simp [errW_none, errW_some] <;> rfl) | (simp [*, errW_none, errW_some] <;> rfl), by repeat (first | (with_reducible first | exact HB.out | apply below_alloc | apply pw_below_drewN | apply below_drew1 | refine below_set ?_ GE383.out) | exact HB.out)⟩
end Go.Proofs.Ytacggjhgdkkclaa.PG
namespace Go.Proofs.Ytacggjhgdkkclaa.PG
open Go.Proofs.YtacggjhgdkkclaaF
attribute [local go_sem high] run_feq run_fne run_flt_lt run_flt_le run_flt_gt run_flt_ge
open Go.RowKit Go.Proofs.YtacggjhgdkkclaaW.PrintWords Go.Proofs.YtacggjhgdkkclaaW.PrintLast Go.Proofs.YtacggjhgdkkclaaW.PrintMore
attribute [local go_sem] max2_int min2_int max_two min_two max_three min_three max_four min_four   -- for this text's walks alone
set_option linter.unusedVariables false
set_option linter.unusedSimpArgs false
theorem eqA44 (d : Nat) (w : World) (x0 y0 : ByteArray) (x1 y1 : Int) (x2 y2 : Int) :
    (Op.equalIn (d + 2) 44 (.agg #[.string x0, .int .i64 x1, .int .i64 x2]) (.agg #[.string y0, .int .i64 y1, .int .i64 y2])).run Try.prog w = .ok (x0.toList == y0.toList && (x1 == y1 && (x2 == y2))) w := by
  refine eqA_of Try.underlying44 (by kernel_rfl) ?_
  refine eqf_cons (by rfl) (by go_simp; rfl) (by go_simp; rfl) (by go_simp) ?_
  refine eqf_cons (by rfl) (by go_simp; rfl) (by go_simp; rfl) (by go_simp) ?_
  exact eqf_last (by rfl) (by go_simp; rfl) (by go_simp; rfl) (by go_simp)
end Go.Proofs.Ytacggjhgdkkclaa.PG
namespace Go.Proofs.Ytacggjhgdkkclaa.PG
open Go.Proofs.YtacggjhgdkkclaaF
attribute [local go_sem high] run_feq run_fne run_flt_lt run_flt_le run_flt_gt run_flt_ge
open Go.RowKit Go.Proofs.YtacggjhgdkkclaaW.PrintWords Go.Proofs.YtacggjhgdkkclaaW.PrintLast Go.Proofs.YtacggjhgdkkclaaW.PrintMore
attribute [local go_sem] max2_int min2_int max_two min_two max_three min_three max_four min_four   -- for this text's walks alone
set_option linter.unusedVariables false
set_option linter.unusedSimpArgs false
attribute [local go_sem high] eqA44
/-! ### gatehouselaw05_full: function 23 -/
def gatehouselaw05_full.l0 : Nat → List (S44) → Int → Int → Int → Option (Bool)
 | 0, _, _, _, _ => none
 | k + 1, x0, x1, x2, x7 => if x7 < (x0.length : Int) then (if 0 ≤ x7 then ((gatehouselaw05_named.f x1 x2).bind fun bt385 => (if (!((((rd_T44 x0 x7).f0).toList) == bt385.1.toList) || (!(((rd_T44 x0 x7).f1) == bt385.2.1) || (!(((rd_T44 x0 x7).f2) == bt385.2.2)))) = true then (some false) else (gatehouselaw05_full.l0 k x0 x1 x2 (wrap64 (x7 + 1))))) else (none)) else (some true)
def gatehouselaw05_full.f (k : Nat) (l0 : List (S44)) (a1 : Int) (a2 : Int) : Option (Bool) := gatehouselaw05_full.l0 k l0 a1 a2 0
theorem gatehouselaw05_full.mono_l : ∀ k, (∀ y0 y1 y2 y3, LeO (gatehouselaw05_full.l0 k y0 y1 y2 y3) (gatehouselaw05_full.l0 (k + 1) y0 y1 y2 y3))
 | 0 => fun _ _ _ _ r h => by simp [gatehouselaw05_full.l0] at h
 | k + 1 => by
  have ih0 := gatehouselaw05_full.mono_l k
  ·intro y0 y1 y2 y3
   unfold gatehouselaw05_full.l0
   repeat' first
   | (with_reducible exact ih0 _ _ _ _)
   | (with_reducible exact LeO.refl _)
   | (with_reducible exact LeO.none _)
   | (with_reducible refine LeO.ite ?_ ?_)
   | (with_reducible refine LeO.bind ?_ (fun _ => ?_))
   | exact ih0 _ _ _ _
   | exact LeO.none _
   | refine LeO.ite ?_ ?_
   | refine LeO.bind ?_ (fun _ => ?_)
theorem gatehouselaw05_full.mono : ∀ a0 a1 a2 k, LeO (gatehouselaw05_full.f k a0 a1 a2) (gatehouselaw05_full.f (k + 1) a0 a1 a2) := by
 intro a0 a1 a2 k
 have ih0 := gatehouselaw05_full.mono_l k
 unfold gatehouselaw05_full.f
 repeat' first
   | (with_reducible exact ih0 _ _ _ _)
   | (with_reducible exact LeO.refl _)
   | (with_reducible exact LeO.none _)
   | (with_reducible refine LeO.ite ?_ ?_)
   | (with_reducible refine LeO.bind ?_ (fun _ => ?_))
   | exact ih0 _ _ _ _
   | exact LeO.none _
   | refine LeO.ite ?_ ?_
   | refine LeO.bind ?_ (fun _ => ?_)
def gatehouselaw05_full.T4 : Bool × List (List Nat × List Nat) := (true, [([], []), ([], []), ([0, 1], [0, 1]), ([2], [2]), ([], []), ([], []), ([4, 5], [4, 5]), ([3, 6], [3, 6])])
def gatehouselaw05_full.B4 : List Nat := [0, 0, 3, 7, 0, 0, 48, 127]
theorem gatehouselaw05_full.tab4 : rtab .any (opsOf Try.f23 4) = gatehouselaw05_full.T4 := by kernel_rfl
theorem gatehouselaw05_full.bits4 : waitsOk gatehouselaw05_full.T4.2 gatehouselaw05_full.B4 = true := by kernel_rfl
set_option maxHeartbeats 8000000 in
set_option maxRecDepth 100000 in
theorem gatehouselaw05_full.calls (k : Nat) (A0 : Option Addr) (c0 : Nat) (l0 : List (S44)) (a1 : Int) (a2 : Int) (r : Bool) (w : World) (hr0 : Kd.C k44 w A0 l0.length l0) (hc0 : l0.length ≤ c0) (h : gatehouselaw05_full.f k l0 a1 a2 = some r) :
  Calls Try.prog 23 #[.slice A0 l0.length c0, .int .i64 a1, .int .i64 a2] w fun e w' => e = .returned (.bool r) ∧ Below w.heap.size w w' := by
 have hu44 := Try.underlying44
 have HR0 := Aside0.mk hr0
 have HC0 := Aside0.mk hc0
 clear hr0 hc0
 have HB := Aside0.mk (Below.refl w.heap.size w)
 have H : (gatehouselaw05_full.l0 k l0 a1 a2 0) = some r := h
 clear h
 have H' := Aside0.mk H
 clear H
 go_enter Try.func23, Try.ntmps23
 go_wp2
 go_loopg [7] k (fun kq v7 w' => ∃ (x7_1 : Int), v7 = .int .i64 x7_1 ∧ Aside0 (gatehouselaw05_full.l0 kq l0 a1 a2 x7_1 = some r) ∧ Aside0 (kq ≤ k) ∧ Aside0 (Below w.heap.size w w'))
 case atStart => exact ⟨(0), (by first | rfl | (simp; done) | (simp [*]; done)), H', ⟨Nat.le_refl _⟩, ⟨by repeat (first | (with_reducible first | exact HB.out | apply below_alloc | apply pw_below_drewN | apply below_drew1) | exact HB.out)⟩⟩
 case round =>
  clear H'
  try clear c2
  try clear p2
  obtain ⟨x7_1, rfl, HA, HK1, HB⟩ := hrel
  cases gk with
  | zero => exact absurd HA.out (by simp [gatehouselaw05_full.l0])
  | succ k1 =>
   have H := HA.out
   clear HA
   simp only [gatehouselaw05_full.l0] at H
   by_cases c4 : x7_1 < (l0.length : Int)
   ·rw [if_pos c4] at H
    have c4b0 : decide (x7_1 < (l0.length : Int)) = true := decide_eq_true c4
    clear c4
    by_cases c5 : 0 ≤ x7_1
    ·rw [if_pos c5] at H
     have c5b0 : decide (0 ≤ x7_1) = true := decide_eq_true c5
     clear c5
     replace H := Option.bind_eq_some_iff.mp H
     obtain ⟨⟨t385, t386, t387⟩, A60, H⟩ := H
     replace H : (if (!((((rd_T44 l0 x7_1).f0).toList) == t385.toList) || (!(((rd_T44 l0 x7_1).f1) == t386) || (!(((rd_T44 l0 x7_1).f2) == t387)))) = true then (some false) else (gatehouselaw05_full.l0 k1 l0 a1 a2 (wrap64 (x7_1 + 1)))) = some r := H
     have A6 := Aside0.mk A60
     clear A60
     by_cases c7 : (!((((rd_T44 l0 x7_1).f0).toList) == t385.toList) || (!(((rd_T44 l0 x7_1).f1) == t386) || (!(((rd_T44 l0 x7_1).f2) == t387)))) = true
     ·rw [if_pos c7] at H
      have c7b0 : (!((((rd_T44 l0 x7_1).f0).toList) == t385.toList) || (!(((rd_T44 l0 x7_1).f1) == t386) || (!(((rd_T44 l0 x7_1).f2) == t387)))) = true := c7
      clear c7
      obtain rfl := Option.some.inj H
      try go_wp2
      have n0_ := Aside0.mk (below_drew1 HB.out)
      clear HB
      have HB := n0_
      clear n0_
      have p384 : 0 ≤ (x7_1 : Int) := of_decide_eq_true (by first | (with_reducible assumption) | assumption)
      have q384 : x7_1 < (l0.length : Int) := of_decide_eq_true (by first | (with_reducible assumption) | assumption)
      obtain ⟨ad384, e384, hx384_0, hx384_1, hx384_2⟩ := at_T44 HR0.out x7_1 p384 q384
      have hw384_2 := hx384_2
      have hw384_1 := hx384_1
      have hw384_0 := hx384_0
      cases e384
      replace hx384_0 := (HB.out.cell (World.block_lt_of_cell? w _ hx384_0)).trans hx384_0
      replace hx384_1 := (HB.out.cell (World.block_lt_of_cell? w _ hx384_1)).trans hx384_1
      replace hx384_2 := (HB.out.cell (World.block_lt_of_cell? w _ hx384_2)).trans hx384_2
      replace p384 := eq_true p384
      replace q384 := eq_true q384
      refine start_ (n := 8) (S := fun w' => w'.cell? (ad384.add ((x7_1).toNat * 3)) = some (.string ((rd_T44 l0 x7_1).f0)) ∧ w'.cell? ⟨(ad384.add ((x7_1).toNat * 3)).block, (ad384.add ((x7_1).toNat * 3)).off + 1, none⟩ = some (.int .i64 ((rd_T44 l0 x7_1).f1)) ∧ w'.cell? ⟨(ad384.add ((x7_1).toNat * 3)).block, (ad384.add ((x7_1).toNat * 3)).off + 2, none⟩ = some (.int .i64 ((rd_T44 l0 x7_1).f2))) (ds := []) #[false, false, false, false, false, false, false, false] (by kernel_rfl) rfl rfl ⟨((HB.out.cell (World.block_lt_of_cell? w _ hw384_0)).trans hw384_0), ((HB.out.cell (World.block_lt_of_cell? w _ hw384_1)).trans hw384_1), ((HB.out.cell (World.block_lt_of_cell? w _ hw384_2)).trans hw384_2)⟩ (fun hHeld => ?_); refine with_tabW gatehouselaw05_full.tab4 gatehouselaw05_full.bits4 (fun HT_ HW_ => ?_)
      generalize wr.drew = w8 at HB hx384_0 hx384_1 hx384_2 hHeld ⊢
      refine pure_ (i := 0) (N := some 14) (v := ?_) (a' := ?_) #[true, false, false, false, false, false, false, false] rfl rfl (any_of HT_.out (by kernel_rfl)) (fun _ _ _ h => h) (Or.inl ⟨by rfl, ?_⟩) ?_ ?_
      rotate_left
      ·intro w'
       go_simp
       with_reducible rfl
      rotate_left
      ·simp only [Act.put, List.setIfInBounds_toArray, List.set_cons_zero, List.set_cons_succ, i64_w, i32_w]
       rfl
      refine pure_ (i := 1) (N := some 15) (v := ?_) (a' := ?_) #[true, true, false, false, false, false, false, false] rfl rfl (any_of HT_.out (by kernel_rfl)) (fun _ _ _ h => h) (Or.inl ⟨by rfl, ?_⟩) ?_ ?_
      rotate_left
      ·intro w'
       go_simp
       with_reducible rfl
      rotate_left
      ·simp only [Act.put, List.setIfInBounds_toArray, List.set_cons_zero, List.set_cons_succ, i64_w, i32_w]
       rfl
      refine pure_ (i := 2) (N := some 16) (v := ?_) (a' := ?_) #[true, true, true, false, false, false, false, false] rfl rfl (any_of HT_.out (by kernel_rfl)) (fun _ _ _ h => h) (Or.inl ⟨by rfl, ?_⟩) ?_ ?_
      rotate_left
      ·intro w'
       go_simp
       with_reducible rfl
      rotate_left
      ·simp only [Act.put, List.setIfInBounds_toArray, List.set_cons_zero, List.set_cons_succ, i64_w, i32_w]
       rfl
      refine pure_ (i := 4) (N := some 18) (v := ?_) (a' := ?_) #[true, true, true, false, true, false, false, false] rfl rfl (any_of HT_.out (by kernel_rfl)) (fun _ _ _ h => h) (Or.inl ⟨by rfl, ?_⟩) ?_ ?_
      rotate_left
      ·intro w'
       go_simp
       with_reducible rfl
      rotate_left
      ·simp only [Act.put, List.setIfInBounds_toArray, List.set_cons_zero, List.set_cons_succ, i64_w, i32_w]
       rfl
      refine pure_ (i := 5) (N := some 19) (v := ?_) (a' := ?_) #[true, true, true, false, true, true, false, false] rfl rfl (any_of HT_.out (by kernel_rfl)) (fun _ _ _ h => h) (Or.inl ⟨by rfl, ?_⟩) ?_ ?_
      rotate_left
      ·intro w'
       go_simp
       with_reducible rfl
      rotate_left
      ·simp only [Act.put, List.setIfInBounds_toArray, List.set_cons_zero, List.set_cons_succ, i64_w, i32_w]
       rfl
      refine take_ (i := 3) (N := some 17) (v := ?_) (a' := ?_) #[true, true, true, true, true, true, false, false] rfl rfl (take_ofW HT_.out HW_.out (by kernel_rfl)) (fun _ _ _ h => h) (Or.inl ⟨by rfl, ?_⟩) hHeld ?_ ?_
      rotate_left
      ·rintro w' ⟨s0, s1, s2⟩
       go_simp
       with_reducible rfl
      rotate_left
      ·simp only [Act.put, List.setIfInBounds_toArray, List.set_cons_zero, List.set_cons_succ, i64_w, i32_w]
       rfl
      refine one_ (i := 6) (N := some 20) #[true, true, true, true, true, true, true, false] rfl rfl (one_of HT_.out (by kernel_rfl)) (by decide) (fun K hK => ?_)
      refine goes_ Try.func26 (by kernel_rfl) rfl #[.int .i64 a1, .int .i64 a2] (by rfl) rfl rfl (by (try simp only [List.map_toArray, List.map_cons, List.map_nil]); first | done | rfl | (simp only [List.length_drop, List.length_take]; rfl)) ?_
      with_reducible refine (gatehouselaw05_named.calls a1 a2 t385 t386 t387 _ A6.out).mono ?_
      rintro e w9 ⟨rfl, hb⟩
      refine ⟨_, rfl, ?_⟩
      have n0_ := Aside0.mk (below_step (by repeat (first | (with_reducible first | exact HB.out | apply below_alloc | apply pw_below_drewN | apply below_drew1) | exact HB.out)) hb)
      clear HB
      have HB := n0_
      clear n0_
      (try clear hb)
      (try clear hb2)
      (try clear hk)
      (try clear hi)
      refine hK.out _ _ ⟨((HB.out.cell (World.block_lt_of_cell? w _ hw384_0)).trans hw384_0), ((HB.out.cell (World.block_lt_of_cell? w _ hw384_1)).trans hw384_1), ((HB.out.cell (World.block_lt_of_cell? w _ hw384_2)).trans hw384_2)⟩ (fun hHeld => ?_)
      clear hK K
      refine norm_ (a' := ?_) ?_ ?_
      rotate_left
      ·show Act.put _ (some 20) _ = _
       simp only [Act.put, List.setIfInBounds_toArray, List.set_cons_zero, List.set_cons_succ, i64_w, i32_w]
       rfl
      refine pure_ (i := 7) (N := some 21) (v := ?_) (a' := ?_) #[true, true, true, true, true, true, true, true] rfl rfl (any_of HT_.out (by kernel_rfl)) (fun _ _ _ h => h) (Or.inl ⟨by rfl, ?_⟩) ?_ ?_
      rotate_left
      ·intro w'
       go_simp
       with_reducible rfl
      rotate_left
      ·simp only [Act.put, List.setIfInBounds_toArray, List.set_cons_zero, List.set_cons_succ, i64_w, i32_w]
       rfl
      refine done_ (done_of HT_.out (by kernel_rfl)) ?_
      try go_wp2
      go_ret
      exact ⟨by first | rfl | (simp [errW_none, errW_some] <;> rfl) | (simp [*, errW_none, errW_some] <;> rfl), by repeat (first | (with_reducible first | exact HB.out | apply below_alloc | apply pw_below_drewN | apply below_drew1) | exact HB.out)⟩
     ·rw [if_neg c7] at H
      have c7b0 : (!((((rd_T44 l0 x7_1).f0).toList) == t385.toList) || (!(((rd_T44 l0 x7_1).f1) == t386) || (!(((rd_T44 l0 x7_1).f2) == t387)))) = false := by simpa using c7
      clear c7
      have H' := Aside0.mk H
      clear H
      try go_wp2
      have n0_ := Aside0.mk (below_drew1 HB.out)
      clear HB
      have HB := n0_
      clear n0_
      have p384 : 0 ≤ (x7_1 : Int) := of_decide_eq_true (by first | (with_reducible assumption) | assumption)
      have q384 : x7_1 < (l0.length : Int) := of_decide_eq_true (by first | (with_reducible assumption) | assumption)
      obtain ⟨ad384, e384, hx384_0, hx384_1, hx384_2⟩ := at_T44 HR0.out x7_1 p384 q384
      have hw384_2 := hx384_2
      have hw384_1 := hx384_1
      have hw384_0 := hx384_0
      cases e384
      replace hx384_0 := (HB.out.cell (World.block_lt_of_cell? w _ hx384_0)).trans hx384_0
      replace hx384_1 := (HB.out.cell (World.block_lt_of_cell? w _ hx384_1)).trans hx384_1
      replace hx384_2 := (HB.out.cell (World.block_lt_of_cell? w _ hx384_2)).trans hx384_2
      replace p384 := eq_true p384
      replace q384 := eq_true q384
      refine start_ (n := 8) (S := fun w' => w'.cell? (ad384.add ((x7_1).toNat * 3)) = some (.string ((rd_T44 l0 x7_1).f0)) ∧ w'.cell? ⟨(ad384.add ((x7_1).toNat * 3)).block, (ad384.add ((x7_1).toNat * 3)).off + 1, none⟩ = some (.int .i64 ((rd_T44 l0 x7_1).f1)) ∧ w'.cell? ⟨(ad384.add ((x7_1).toNat * 3)).block, (ad384.add ((x7_1).toNat * 3)).off + 2, none⟩ = some (.int .i64 ((rd_T44 l0 x7_1).f2))) (ds := []) #[false, false, false, false, false, false, false, false] (by kernel_rfl) rfl rfl ⟨((HB.out.cell (World.block_lt_of_cell? w _ hw384_0)).trans hw384_0), ((HB.out.cell (World.block_lt_of_cell? w _ hw384_1)).trans hw384_1), ((HB.out.cell (World.block_lt_of_cell? w _ hw384_2)).trans hw384_2)⟩ (fun hHeld => ?_); refine with_tabW gatehouselaw05_full.tab4 gatehouselaw05_full.bits4 (fun HT_ HW_ => ?_)
      generalize wr.drew = w10 at HB hx384_0 hx384_1 hx384_2 hHeld ⊢
      refine pure_ (i := 0) (N := some 14) (v := ?_) (a' := ?_) #[true, false, false, false, false, false, false, false] rfl rfl (any_of HT_.out (by kernel_rfl)) (fun _ _ _ h => h) (Or.inl ⟨by rfl, ?_⟩) ?_ ?_
      rotate_left
      ·intro w'
       go_simp
       with_reducible rfl
      rotate_left
      ·simp only [Act.put, List.setIfInBounds_toArray, List.set_cons_zero, List.set_cons_succ, i64_w, i32_w]
       rfl
      refine pure_ (i := 1) (N := some 15) (v := ?_) (a' := ?_) #[true, true, false, false, false, false, false, false] rfl rfl (any_of HT_.out (by kernel_rfl)) (fun _ _ _ h => h) (Or.inl ⟨by rfl, ?_⟩) ?_ ?_
      rotate_left
      ·intro w'
       go_simp
       with_reducible rfl
      rotate_left
      ·simp only [Act.put, List.setIfInBounds_toArray, List.set_cons_zero, List.set_cons_succ, i64_w, i32_w]
       rfl
      refine pure_ (i := 2) (N := some 16) (v := ?_) (a' := ?_) #[true, true, true, false, false, false, false, false] rfl rfl (any_of HT_.out (by kernel_rfl)) (fun _ _ _ h => h) (Or.inl ⟨by rfl, ?_⟩) ?_ ?_
      rotate_left
      ·intro w'
       go_simp
       with_reducible rfl
      rotate_left
      ·simp only [Act.put, List.setIfInBounds_toArray, List.set_cons_zero, List.set_cons_succ, i64_w, i32_w]
       rfl
      refine pure_ (i := 4) (N := some 18) (v := ?_) (a' := ?_) #[true, true, true, false, true, false, false, false] rfl rfl (any_of HT_.out (by kernel_rfl)) (fun _ _ _ h => h) (Or.inl ⟨by rfl, ?_⟩) ?_ ?_
      rotate_left
      ·intro w'
       go_simp
       with_reducible rfl
      rotate_left
      ·simp only [Act.put, List.setIfInBounds_toArray, List.set_cons_zero, List.set_cons_succ, i64_w, i32_w]
       rfl
      refine pure_ (i := 5) (N := some 19) (v := ?_) (a' := ?_) #[true, true, true, false, true, true, false, false] rfl rfl (any_of HT_.out (by kernel_rfl)) (fun _ _ _ h => h) (Or.inl ⟨by rfl, ?_⟩) ?_ ?_
      rotate_left
      ·intro w'
       go_simp
       with_reducible rfl
      rotate_left
      ·simp only [Act.put, List.setIfInBounds_toArray, List.set_cons_zero, List.set_cons_succ, i64_w, i32_w]
       rfl
      refine take_ (i := 3) (N := some 17) (v := ?_) (a' := ?_) #[true, true, true, true, true, true, false, false] rfl rfl (take_ofW HT_.out HW_.out (by kernel_rfl)) (fun _ _ _ h => h) (Or.inl ⟨by rfl, ?_⟩) hHeld ?_ ?_
      rotate_left
      ·rintro w' ⟨s0, s1, s2⟩
       go_simp
       with_reducible rfl
      rotate_left
      ·simp only [Act.put, List.setIfInBounds_toArray, List.set_cons_zero, List.set_cons_succ, i64_w, i32_w]
       rfl
      refine one_ (i := 6) (N := some 20) #[true, true, true, true, true, true, true, false] rfl rfl (one_of HT_.out (by kernel_rfl)) (by decide) (fun K hK => ?_)
      refine goes_ Try.func26 (by kernel_rfl) rfl #[.int .i64 a1, .int .i64 a2] (by rfl) rfl rfl (by (try simp only [List.map_toArray, List.map_cons, List.map_nil]); first | done | rfl | (simp only [List.length_drop, List.length_take]; rfl)) ?_
      with_reducible refine (gatehouselaw05_named.calls a1 a2 t385 t386 t387 _ A6.out).mono ?_
      rintro e w11 ⟨rfl, hb⟩
      refine ⟨_, rfl, ?_⟩
      have n0_ := Aside0.mk (below_step (by repeat (first | (with_reducible first | exact HB.out | apply below_alloc | apply pw_below_drewN | apply below_drew1) | exact HB.out)) hb)
      clear HB
      have HB := n0_
      clear n0_
      (try clear hb)
      (try clear hb2)
      (try clear hk)
      (try clear hi)
      refine hK.out _ _ ⟨((HB.out.cell (World.block_lt_of_cell? w _ hw384_0)).trans hw384_0), ((HB.out.cell (World.block_lt_of_cell? w _ hw384_1)).trans hw384_1), ((HB.out.cell (World.block_lt_of_cell? w _ hw384_2)).trans hw384_2)⟩ (fun hHeld => ?_)
      clear hK K
      refine norm_ (a' := ?_) ?_ ?_
      rotate_left
      ·show Act.put _ (some 20) _ = _
       simp only [Act.put, List.setIfInBounds_toArray, List.set_cons_zero, List.set_cons_succ, i64_w, i32_w]
       rfl
      refine pure_ (i := 7) (N := some 21) (v := ?_) (a' := ?_) #[true, true, true, true, true, true, true, true] rfl rfl (any_of HT_.out (by kernel_rfl)) (fun _ _ _ h => h) (Or.inl ⟨by rfl, ?_⟩) ?_ ?_
      rotate_left
      ·intro w'
       go_simp
       with_reducible rfl
      rotate_left
      ·simp only [Act.put, List.setIfInBounds_toArray, List.set_cons_zero, List.set_cons_succ, i64_w, i32_w]
       rfl
      refine done_ (done_of HT_.out (by kernel_rfl)) ?_
      try go_wp2
      go_roundg k1
      case measure => have := HK1.out; omega
      case rel => exact ⟨(wrap64 (x7_1 + 1)), (by first | rfl | (simp; done) | (simp [*]; done)), H', ⟨by have := HK1.out; omega⟩, ⟨by repeat (first | (with_reducible first | exact HB.out | apply below_alloc | apply pw_below_drewN | apply below_drew1) | exact HB.out)⟩⟩
    ·rw [if_neg c5] at H
     exact absurd H (by simp)
   ·rw [if_neg c4] at H
    have c4b0 : decide (x7_1 < (l0.length : Int)) = false := decide_eq_false c4
    clear c4
    obtain rfl := Option.some.inj H
    go_wp2
    go_ret
    exact ⟨by first | rfl | (simp [errW_none, errW_some] <;> rfl) | (simp [*, errW_none, errW_some] <;> rfl), by repeat (first | (with_reducible first | exact HB.out | apply below_alloc | apply pw_below_drewN | apply below_drew1) | exact HB.out)⟩
end Go.Proofs.Ytacggjhgdkkclaa.PG
/- Words written, names that are all marked: plain facts for gatehouselaw05.spoilt, apart. -/
namespace Go.Proofs.Ytacggjhgdkkclaa.KSpP
open Go.RowKit Go.Proofs.YtacggjhgdkkclaaW.PrintWords Go.Proofs.YtacggjhgdkkclaaW.PrintLast Go.Proofs.YtacggjhgdkkclaaW.PrintMore Go.Maps
open Go.Proofs.Ytacggjhgdkkclaa Go.Proofs.Ytacggjhgdkkclaa.PG Go.Proofs.YtacggjhgdkkclaaF Go.Proofs.Ytacggjhgdkkclaa.KBase Go.Proofs.Ytacggjhgdkkclaa.KApp Go.Proofs.Ytacggjhgdkkclaa.KGrown
set_option linter.unusedSimpArgs false
def nm (n k : Int) : S44 := ⟨⟨#[35]⟩, n, k⟩
def wordV (x : S44) : Array Value := #[.string x.f0, .int .i64 x.f1, .int .i64 x.f2]
theorem store_word {W : World} {base b m cap : Nat} {ok : Nat → Prop} {ws : List S44} (h : Kd.R k44 44 W base ok (.slice (some ⟨b, 0, none⟩) m cap) ws) (j : Nat) (hj : j < ws.length) (x : S44) :
    (Instr.storeAt 44 (.pointer (some ⟨b, j * 3, none⟩)) (.agg (wordV x))).run Try.prog W = .ok () (W.setCells b (j * 3) (wordV x).toList) ∧ Kd.R k44 44 (W.setCells b (j * 3) (wordV x).toList) base ok (.slice (some ⟨b, 0, none⟩) m cap) (ws.set j x) ∧ W.grownBy (W.setCells b (j * 3) (wordV x).toList) (some b) := by
  have hm : m = ws.length := (Kd.R_reads' h).1
  obtain ⟨c, hcl, _, hcc, _⟩ := Kd.R_elem h z44 (j : Int) (by omega) (by omega)
  have hs := Kd.R_seg h (j : Int) (by omega) (by omega) (c := c) (seg := (wordV x).toList) (j := 0) (x' := x) (okp := fun _ => False) hcl hcc (by exact Nat.le_refl 3) (by
    have h3 : c.length = 3 := hcl
    have : List.take 0 c ++ (wordV x).toList ++ List.drop (0 + (wordV x).toList.length) c = [.string x.f0, .int .i64 x.f1, .int .i64 x.f2] := by
      simp [wordV, h3]
    rw [this]
    exact k44_mkM _ _ _ _) (fun _ hk => hk.elim)
  have hd : k44.sz = 3 := rfl
  simp only [Int.toNat_natCast, hd, Nat.add_zero] at hs
  refine ⟨?_, hs⟩
  obtain ⟨_, inner, hown, hr⟩ := h
  rcases hown.2 with ⟨hv, _⟩ | ⟨g', cap', cur, hv, hb, hh, hnc, hcm, hcs, _⟩
  · cases hv
  injection hv with ha _ hc
  injection ha with ha
  injection ha with hg'
  subst hg'; subst hc
  refine run_store_run 44 _ _ hh rfl (by kernel_rfl) ?_ (by simp [wordV, Value.oneCell'])
  have : (wordV x).toList.length = 3 := rfl
  rw [hd] at hcs
  omega
theorem full_true (l : List S44) (n k : Int) (h : ∀ z ∈ l, z = nm n k) (hl : l.length < 9223372036854775807) : gatehouselaw05_full.f (l.length + 1) l n k = some true := by
  have go : ∀ (d i : Nat), i + d = l.length → ∀ q, d < q → gatehouselaw05_full.l0 q l n k (i : Int) = some true := by
    intro d
    induction d with
    | zero =>
      intro i hi q hq
      obtain ⟨q, rfl⟩ : ∃ m, q = m + 1 := ⟨q - 1, by omega⟩
      simp only [gatehouselaw05_full.l0]
      rw [if_neg (by omega)]
    | succ d ih =>
      intro i hi q hq
      obtain ⟨q, rfl⟩ : ∃ m, q = m + 1 := ⟨q - 1, by omega⟩
      have hlt : i < l.length := by omega
      have hr : rd_T44 l (i : Int) = nm n k := by
        have : l[i] = nm n k := h _ (List.getElem_mem hlt)
        simp [rd_T44, List.getD_eq_getElem?_getD, hlt, this]
      have hw : wrap64 ((i : Int) + 1) = ((i + 1 : Nat) : Int) := by unfold wrap64; omega
      simp only [gatehouselaw05_full.l0]
      rw [if_pos (by omega), if_pos (by omega), hr, hw]
      show (if (!((nm n k).f0.toList == (⟨#[35]⟩ : ByteArray).toList) || (!((nm n k).f1 == n) || !((nm n k).f2 == k))) = true then some false else gatehouselaw05_full.l0 q l n k ((i + 1 : Nat) : Int)) = some true
      rw [if_neg (by simp [nm])]
      exact ih (i + 1) (by omega) q (by omega)
  exact go l.length 0 (by omega) _ (by omega)
theorem full_go (A : Option Addr) (c : Nat) (l : List S44) (n k : Int) (w : World) (h : ∀ z ∈ l, z = nm n k) (hl : l.length < 9223372036854775807) (hC : Kd.C k44 w A l.length l) (hc : l.length ≤ c) :
    Calls Try.prog 23 #[.slice A l.length c, .int .i64 n, .int .i64 k] w fun e w' => e = .returned (.bool true) ∧ Below w.heap.size w w' :=
  gatehouselaw05_full.calls (l.length + 1) A c l n k true w hC hc (full_true l n k h hl)
theorem named_go (n k : Int) (w : World) : Calls Try.prog 26 #[.int .i64 n, .int .i64 k] w fun e w' => e = .returned (.agg (wordV (nm n k))) ∧ Below w.heap.size w w' :=
  gatehouselaw05_named.calls n k _ _ _ w rfl
structure Mkd (n : Int) (xs ys : List S47) (k j : Nat) : Prop where
  len : ys.length = xs.length
  each : ∀ i, (rd_T47 ys (i : Nat)).f5.length = (rd_T47 xs (i : Nat)).f5.length
  done : ∀ i, i < k → i < xs.length → ∀ z ∈ (rd_T47 ys (i : Nat)).f5, z = nm n i
  part : ∀ p, p < j → p < (rd_T47 ys (k : Nat)).f5.length → (rd_T47 ys (k : Nat)).f5[p]? = some (nm n k)
theorem Mkd.start (n : Int) (xs : List S47) : Mkd n xs xs 0 0 := ⟨rfl, fun _ => rfl, fun i h => by omega, fun p h => by omega⟩
theorem Mkd.next {n : Int} {xs ys : List S47} {k j : Nat} (h : Mkd n xs ys k j) (hj : (rd_T47 ys (k : Nat)).f5.length ≤ j) : Mkd n xs ys (k + 1) 0 := by
  refine ⟨h.len, h.each, fun i hi hl z hz => ?_, fun p hp => by omega⟩
  rcases Nat.lt_or_ge i k with hlt | hge
  · exact h.done i hlt hl z hz
  · obtain rfl : i = k := by omega
    obtain ⟨p, hp, rfl⟩ := List.mem_iff_getElem.1 hz
    have := h.part p (by omega) hp
    rw [List.getElem?_eq_getElem hp] at this
    exact Option.some.inj this
theorem rd_set {ys : List S47} {k i : Nat} (x : S47) (hk : k < ys.length) : rd_T47 (ys.set k x) (i : Nat) = if i = k then x else rd_T47 ys (i : Nat) := by
  unfold rd_T47
  rw [Int.toNat_natCast, List.getD_eq_getElem?_getD, List.getD_eq_getElem?_getD, List.getElem?_set]
  by_cases h : k = i
  · subst h; simp [hk]
  · rw [if_neg h, if_neg (fun e => h e.symm)]
theorem Mkd.put {n : Int} {xs ys : List S47} {k j : Nat} (h : Mkd n xs ys k j) (hk : k < xs.length) (hj : j < (rd_T47 ys (k : Nat)).f5.length) : Mkd n xs (ys.set k { rd_T47 ys (k : Nat) with f5 := (rd_T47 ys (k : Nat)).f5.set j (nm n k) }) k (j + 1) := by
  have hk' : k < ys.length := by rw [h.len]; exact hk
  refine ⟨by rw [List.length_set, h.len], fun i => ?_, fun i hi hl z hz => ?_, fun p hp hl => ?_⟩
  · rw [rd_set _ hk']
    split
    · next e => subst e; simp [h.each]
    · exact h.each i
  · rw [rd_set _ hk', if_neg (by omega)] at hz
    exact h.done i hi hl z hz
  · rw [rd_set _ hk', if_pos rfl] at hl ⊢
    simp only [List.length_set] at hl ⊢
    rw [List.getElem?_set]
    by_cases e : j = p
    · subst e; simp [hj]
    · rw [if_neg e]
      exact h.part p (by omega) hl
end Go.Proofs.Ytacggjhgdkkclaa.KSpP
/- gatehouselaw05.spoilt, walked. -/
namespace Go.Proofs.Ytacggjhgdkkclaa.KSpoilt
open Go.RowKit Go.Proofs.YtacggjhgdkkclaaW.PrintWords Go.Proofs.YtacggjhgdkkclaaW.PrintLast Go.Proofs.YtacggjhgdkkclaaW.PrintMore Go.Maps
open Go.Proofs.Ytacggjhgdkkclaa Go.Proofs.Ytacggjhgdkkclaa.PG Go.Proofs.YtacggjhgdkkclaaF Go.Proofs.Ytacggjhgdkkclaa.KBase Go.Proofs.Ytacggjhgdkkclaa.KApp Go.Proofs.Ytacggjhgdkkclaa.KGrown Go.Proofs.Ytacggjhgdkkclaa.KSpP
set_option linter.unusedSimpArgs false
structure Sp (base : Nat) (ok : Nat → Prop) (A : Option Addr) (c : Nat) (n : Int) (xs : List S47) (w : World) (k j : Nat) (W : World) : Prop where
 ys : ∃ ys, Mkd n xs ys k j ∧ Kd.S k47 47 W base ok (.slice A xs.length c) ys
 same : Same ok w W
section
variable {base : Nat} {ok : Nat → Prop} {A : Option Addr} {c : Nat} {n : Int} {xs : List S47} {w W W1 : World} {k j : Nat}
theorem Sp.move (h : Sp base ok A c n xs w k j W) (hb : Below W.heap.size W W1) : Sp base ok A c n xs w k j W1 := by
 obtain ⟨⟨ys, hm, hS⟩, hs⟩ := h
 exact ⟨⟨ys, hm, Kd.S_below hS hb⟩, hs.move hb⟩
theorem Sp.at (h : Sp base ok A c n xs w k j W) (i : Nat) (hi : i < xs.length) : ∃ (g : Nat) (v9 : Value) (ys : List S47) (oki : Nat → Prop), A = some ⟨g, 0, none⟩ ∧ Mkd n xs ys k j ∧ W.cell? ⟨g, i * 13 + 9, none⟩ = some v9 ∧ k44.R 44 W base oki v9 (rd_T47 ys (i : Nat)).f5 ∧
  (∀ W1 ws, W.grownBy W1 v9.ownBlock → k44.R 44 W1 base oki v9 ws → Kd.S k47 47 W1 base ok (.slice A xs.length c) (ys.set i { rd_T47 ys (i : Nat) with f5 := ws }) ∧ Same ok w W1) := by
 obtain ⟨⟨ys, hm, hS⟩, hs⟩ := h
 obtain ⟨g, cap, hv, _⟩ := Kd.S_form hS (by rw [hm.len]; omega)
 injection hv with hA hn hc
 subst hA; subst hc
 obtain ⟨oki, cs, hcl, hM, hcc, hoki, hput⟩ := Kd.S_borrow hS z47 (i : Int) (by omega) (by omega)
 have hM' : k47.M W base oki (rd_T47 ys (i : Nat)) cs := hM
 obtain ⟨v9, rfl, hR⟩ := k47_openM hM'
 refine ⟨g, v9, ys, oki, rfl, hm, ?_, hR, fun W1 ws hg hR1 => ⟨?_, hs.grown hg (fun q hq => ?_)⟩⟩
 ·have := hcc 9 v9 rfl
  simpa [Addr.add, show k47.sz = 13 from rfl] using this
 ·exact hput hg (fun q hq => hR.1 q hq) (k47_mkM W1 base oki { rd_T47 ys (i : Nat) with f5 := ws } hR1)
 ·exact .inl (hoki q (hR.1 q hq)).1
theorem Sp.len (h : Sp base ok A c n xs w k j W) : xs.length ≤ c ∧ xs.length ≤ 9223372036854775807 := by
 obtain ⟨⟨ys, hm, hS⟩, hs⟩ := h
 obtain ⟨_, h1, h2⟩ := Kd.S_reads' hS
 exact ⟨h1, by have := h2.2.1; omega⟩
end
theorem wrap_nat (j : Nat) (h : j ≤ 4194304000) : wrap64 ((j : Int) + 1) = ((j + 1 : Nat) : Int) := by unfold wrap64; omega
theorem round_end {n j : Nat} {P : Prop} (h : j < n) (hn : j ≤ 4194304000) (hP : ∀ _ : Value.int .i64 (wrap64 ((j : Int) + 1)) = Value.int .i64 ((j + 1 : Nat) : Int), P) : P ∧ n - (intOf (Value.int .i64 (wrap64 ((j : Int) + 1)))).toNat < n - (intOf (Value.int .i64 (j : Int))).toNat := by
 refine ⟨hP (by rw [wrap_nat j hn]), ?_⟩
 rw [wrap_nat j hn]
 simp only [intOf]
 omega
set_option maxHeartbeats 8000000 in
set_option maxRecDepth 100000 in
theorem spoilt_calls (base : Nat) (ok : Nat → Prop) (A : Option Addr) (c : Nat) (n : Int) (xs : List S47) (w : World) (hb : base ≤ w.heap.size) (hS : Kd.S k47 47 w base ok (.slice A xs.length c) xs) (hl : xs.length ≤ 4194304) (he : ∀ i, (rd_T47 xs (i : Nat)).f5.length ≤ 4194304) :
  Calls Try.prog 22 #[.slice A xs.length c, .int .i64 n] w fun e w' => e = .returned (.bool true) ∧ Sp base ok A c n xs w xs.length 0 w' := by
 have HS := Aside0.mk (Sp.mk (n := n) ⟨xs, Mkd.start n xs, hS⟩ (Same.refl ok w))
 have HL := Aside0.mk hl
 have HE := Aside0.mk he
 have HB := Aside0.mk hb
 clear hS hl he hb
 go_enter Try.func22, Try.ntmps22
 go_wp2
 go_loopw [5] (fun u5 wr => ∃ k : Nat, k ≤ xs.length ∧ u5 = .int .i64 k ∧ Aside0 (Sp base ok A c n xs w k 0 wr)) (fun u5 _ => xs.length - (intOf u5).toNat)
 case atStart => exact ⟨0, by omega, rfl, HS⟩
 case round =>
  obtain ⟨k, hk, rfl, HP⟩ := hrel
  by_cases hlt : k < xs.length
  ·have hlt' : ((k : Int) < xs.length) := by omega
   go_wp2
   obtain ⟨g, v9, ys, oki, rfl, hm0, _⟩ := HP.out.at k hlt
   obtain ⟨m, hm⟩ : ∃ m, m = (rd_T47 xs (k : Nat)).f5.length := ⟨_, rfl⟩
   have HM := Aside0.mk hm
   clear hm hm0
   go_loopw [6] (fun u6 wr => ∃ j : Nat, j ≤ m ∧ u6 = .int .i64 j ∧ Aside0 (Sp base ok (some ⟨g, 0, none⟩) c n xs w k j wr)) (fun u6 _ => m - (intOf u6).toNat)
   case atStart => exact ⟨0, by omega, rfl, HP⟩
   case round =>
    obtain ⟨j, hj, rfl, HQ⟩ := hrel
    obtain ⟨g', v9, ys, oki, hg', hmk, hcell, hR, hput⟩ := HQ.out.at k hlt
    injection hg' with hg'
    injection hg' with hg'
    subst hg'
    have hw9 : (rd_T47 ys (k : Nat)).f5.length = m := by rw [hmk.each, HM.out]
    obtain ⟨A9, c9, hv9⟩ := Kd.R_slice hR
    rw [hw9] at hv9
    subst hv9
    have HMK := Aside0.mk hmk
    have HR := Aside0.mk hR
    have HPUT := Aside0.mk hput
    have HCL := Aside0.mk (show wr.drew.cell? _ = _ from hcell)
    clear hmk hR hput
    by_cases hjm : j < m
    ·have hjm' : ((j : Int) < m) := by omega
     obtain ⟨bb, cb, hvb, _, _, _⟩ := Kd.R_form HR.out (by rw [hw9]; omega)
     injection hvb with hA9 hmm hcb
     subst hA9; subst hcb
     have HW9 := Aside0.mk hw9
     clear hmm hw9
     go_upto_region 7 with fail
     refine start_ (n := 11) (S := fun w' => w'.cell? ⟨g, k * 13 + 9, none⟩ = some (.slice (some ⟨bb, 0, none⟩) m c9)) (ds := [10]) #[false, false, false, false, false, false, false, false, false, false, false] (by kernel_rfl) rfl rfl HCL.out (fun hHeld => ?_)
     refine pure_ (i := 0) (N := some 27) (v := ?_) (a' := ?_) #[true, false, false, false, false, false, false, false, false, false, false] rfl rfl (by kernel_rfl) (fun _ _ _ h => h) (Or.inl ⟨by rfl, ?_⟩) ?_ ?_
     rotate_left
     ·intro w'
      go_simp
      with_reducible rfl
     rotate_left
     ·simp only [Act.put, List.setIfInBounds_toArray, List.set_cons_zero, List.set_cons_succ]
      rfl
     refine pure_ (i := 1) (N := some 28) (v := ?_) (a' := ?_) #[true, true, false, false, false, false, false, false, false, false, false] rfl rfl (by kernel_rfl) (fun _ _ _ h => h) (Or.inl ⟨by rfl, ?_⟩) ?_ ?_
     rotate_left
     ·intro w'
      go_simp
      with_reducible rfl
     rotate_left
     ·simp only [Act.put, List.setIfInBounds_toArray, List.set_cons_zero, List.set_cons_succ]
      rfl
     refine pure_ (i := 2) (N := some 29) (v := ?_) (a' := ?_) #[true, true, true, false, false, false, false, false, false, false, false] rfl rfl (by kernel_rfl) (fun _ _ _ h => h) (Or.inl ⟨by rfl, ?_⟩) ?_ ?_
     rotate_left
     ·intro w'
      go_simp
      with_reducible rfl
     rotate_left
     ·simp only [Act.put, List.setIfInBounds_toArray, List.set_cons_zero, List.set_cons_succ]
      rfl
     refine pure_ (i := 3) (N := some 30) (v := ?_) (a' := ?_) #[true, true, true, true, false, false, false, false, false, false, false] rfl rfl (by kernel_rfl) (fun _ _ _ h => h) (Or.inl ⟨by rfl, ?_⟩) ?_ ?_
     rotate_left
     ·intro w'
      go_simp
      with_reducible rfl
     rotate_left
     ·simp only [Act.put, List.setIfInBounds_toArray, List.set_cons_zero, List.set_cons_succ]
      rfl
     refine take_ (i := 4) (N := some 31) (v := ?_) (a' := ?_) #[true, true, true, true, true, false, false, false, false, false, false] rfl rfl (by kernel_rfl) (fun _ _ _ h => h) (Or.inl ⟨by rfl, ?_⟩) hHeld ?_ ?_
     rotate_left
     ·rintro w' s0
      go_simp
      with_reducible rfl
     rotate_left
     ·simp only [Act.put, List.setIfInBounds_toArray, List.set_cons_zero, List.set_cons_succ]
      rfl
     refine pure_ (i := 5) (N := some 32) (v := ?_) (a' := ?_) #[true, true, true, true, true, true, false, false, false, false, false] rfl rfl (by kernel_rfl) (fun _ _ _ h => h) (Or.inl ⟨by rfl, ?_⟩) ?_ ?_
     rotate_left
     ·intro w'
      go_simp
      with_reducible rfl
     rotate_left
     ·simp only [Act.put, List.setIfInBounds_toArray, List.set_cons_zero, List.set_cons_succ]
      rfl
     refine pure_ (i := 6) (N := some 33) (v := ?_) (a' := ?_) #[true, true, true, true, true, true, true, false, false, false, false] rfl rfl (by kernel_rfl) (fun _ _ _ h => h) (Or.inl ⟨by rfl, ?_⟩) ?_ ?_
     rotate_left
     ·intro w'
      go_simp
      with_reducible rfl
     rotate_left
     ·simp only [Act.put, List.setIfInBounds_toArray, List.set_cons_zero, List.set_cons_succ]
      rfl
     refine pure_ (i := 7) (N := some 34) (v := ?_) (a' := ?_) #[true, true, true, true, true, true, true, true, false, false, false] rfl rfl (by kernel_rfl) (fun _ _ _ h => h) (Or.inl ⟨by rfl, ?_⟩) ?_ ?_
     rotate_left
     ·intro w'
      go_simp
      with_reducible rfl
     rotate_left
     ·simp only [Act.put, List.setIfInBounds_toArray, List.set_cons_zero, List.set_cons_succ]
      rfl
     refine one_ (i := 8) (N := some 35) #[true, true, true, true, true, true, true, true, true, false, false] rfl rfl (by kernel_rfl) (by decide) (fun K hK => ?_)
     refine goes_ Try.func26 (by kernel_rfl) rfl #[.int .i64 n, .int .i64 k] (by rfl) rfl rfl (by (try simp only [List.map_toArray, List.map_cons, List.map_nil]); first | done | rfl) ?_
     refine (named_go n k _).mono ?_
     rintro e w1 ⟨rfl, hb1⟩
     refine ⟨_, rfl, ?_⟩
     have hb2 : Below wr.heap.size wr w1 := below_then (below_drew (Below.refl wr.heap.size wr)) (Nat.le_refl _) hb1
     have hS1 := pw_cell_below hb2 HCL.out
     obtain ⟨hst, hR2, hg2⟩ := store_word (Kd.R_below HR.out hb2) j (by rw [HW9.out]; exact hjm) (nm n k)
     have hput := HPUT.out _ _ ((below_grown hb2 _).trans hg2) hR2
     have HF := Aside0.mk (Sp.mk (n := n) (k := k) (j := j + 1) ⟨_, HMK.out.put hlt (by rw [HW9.out]; exact hjm), hput.1⟩ hput.2)
     have HST := Aside0.mk hst
     clear hb1 hb2 hR2 hg2 hput hst
     refine hK.out _ _ hS1 (fun hHeld => ?_)
     clear hK K hS1
     refine norm_ (a' := ?_) ?_ ?_
     rotate_left
     ·show Act.put _ (some 35) _ = _
      simp only [Act.put, List.setIfInBounds_toArray, List.set_cons_zero, List.set_cons_succ]
      rfl
     refine pure_ (i := 9) (N := some 36) (v := ?_) (a' := ?_) #[true, true, true, true, true, true, true, true, true, true, false] rfl rfl (by kernel_rfl) (fun _ _ _ h => h) (Or.inl ⟨by rfl, ?_⟩) ?_ ?_
     rotate_left
     ·intro w'
      go_simp
      with_reducible rfl
     rotate_left
     ·simp only [Act.put, List.setIfInBounds_toArray, List.set_cons_zero, List.set_cons_succ]
      rfl
     refine last_ (i := 10) (N := none) #[true, true, true, true, true, true, true, true, true, true, true] rfl rfl (by kernel_rfl) (by decide) (fun K hK => ?_)
     refine skip_ rfl rfl (by have hst := HST.out; first | (simp [execOp, Act.eval, hst]; done) | (show Sem.run Try.prog _ _ = _; simp only [execOp, Act.eval]; simp; rw [hst]; rfl)) ?_
     refine hK.out _ _ ?_
     clear hK K HST hHeld
     refine done_ (by kernel_rfl) ?_
     generalize World.setCells w1 bb (j * 3) (wordV (nm n k)).toList = wf at HF ⊢
     go_wp2
     exact round_end hjm (by have := HM.out; have := HE.out k; omega) (fun hq => ⟨j + 1, by omega, hq, HF⟩)
    ·have hjm2 : ¬ ((j : Int) < m) := by omega
     have HN := Aside0.mk (Sp.mk (n := n) (k := k + 1) (j := 0) (xs := xs) (A := some ⟨g, 0, none⟩) (c := c) (ok := ok) (base := base) (w := w) (W := wr) (by
      obtain ⟨⟨ys, hm, hS⟩, _⟩ := HQ.out
      exact ⟨ys, hm.next (by rw [hm.each, ← HM.out]; omega), hS⟩) HQ.out.same)
     clear HPUT HR HMK hw9
     go_wp2
     exact round_end hlt (by have := HL.out; omega) (fun hq => ⟨k + 1, by omega, hq, HN⟩)
  ·have hkl : k = xs.length := by omega
   subst hkl
   have hlt' : ¬ ((xs.length : Int) < xs.length) := by omega
   clear hlt hk HS
   go_wp2
   go_loopw [7, 8] (fun u7 u8 wr => ∃ (k m : Nat), k ≤ xs.length ∧ u8 = .int .i64 k ∧ u7 = .int .i64 m ∧ Aside0 (m ≤ k * 4194400) ∧ Aside0 (Sp base ok A c n xs w xs.length 0 wr)) (fun _ u8 _ => xs.length - (intOf u8).toNat)
   case atStart => exact ⟨0, 0, by omega, rfl, rfl, ⟨by omega⟩, HP⟩
   case round =>
    clear HP
    obtain ⟨k, m, hk, rfl, rfl, HM, HP⟩ := hrel
    by_cases hlt : k < xs.length
    ·have hlt' : ((k : Int) < xs.length) := by omega
     obtain ⟨g, v9, ys, oki, rfl, hm0, hcell, hR, hput⟩ := HP.out.at k hlt
     obtain ⟨A9, c9, hv9⟩ := Kd.R_slice hR
     obtain ⟨l9, hl9⟩ : ∃ l9, l9 = (rd_T47 ys (k : Nat)).f5 := ⟨_, rfl⟩
     rw [← hl9] at hv9 hR
     subst hv9
     have HL9 := Aside0.mk (show l9.length ≤ 4194304 by rw [hl9, hm0.each]; exact HE.out k)
     have HR := Aside0.mk hR
     have HF := Aside0.mk (fun (W1 : World) (h1 : wr.grownBy W1 (Value.slice A9 l9.length c9).ownBlock) (h2 : k44.R 44 W1 base (fun q => some q = (Value.slice A9 l9.length c9).ownBlock) (.slice A9 l9.length c9) l9) => by
      have h3 := hput W1 l9 h1 (Kd.R_mono h2 (fun q hq => hR.1 q hq.symm))
      have hset : ys.set k { rd_T47 ys (k : Nat) with f5 := l9 } = ys := by
       have hk' : k < ys.length := by rw [hm0.len]; exact hlt
       rw [hl9]
       apply List.ext_getElem?
       intro i
       rw [List.getElem?_set]
       by_cases e : k = i
       ·subst e; simp [rd_T47, List.getD_eq_getElem?_getD, hk']
       ·rw [if_neg e]
      rw [hset] at h3
      exact (Sp.mk ⟨ys, hm0, h3.1⟩ h3.2 : Sp base ok (some ⟨g, 0, none⟩) c n xs w xs.length 0 W1))
     have HBW := Aside0.mk (Nat.le_trans HB.out HP.out.same.size)
     clear hm0 hR hput hl9
     go_wp2_with (first | (go_at_call 27; ((with_reducible refine (grown_calls base oki _ l9 _ HBW.out HR.out (by have := HL9.out; omega)).mono ?_)); rintro e w4 ⟨rfl, hR4, hg4⟩; have HP4 := Aside0.mk (HF.out _ hg4 hR4); clear hR4 hg4))
     refine round_end hlt (by have := HL.out; omega) (fun hq => ⟨k + 1, m + (l9.length + 40), by omega, hq, ?_, ⟨?_⟩, HP4⟩)
     ·have h1 := HL9.out
      have h2 := HM.out
      have h3 := HL.out
      have h4 : k * 4194400 ≤ 4194304 * 4194400 := Nat.mul_le_mul_right _ (by omega)
      congr 1
      unfold wrap64
      omega
     ·have h1 := HL9.out
      have h2 := HM.out
      show m + (l9.length + 40) ≤ (k + 1) * 4194400
      rw [Nat.add_mul]
      omega
    ·have hkl : k = xs.length := by omega
     subst hkl
     have hlt' : ¬ ((xs.length : Int) < xs.length) := by omega
     clear hlt hk HM
     go_wp2
     go_loopw [9] (fun u9 wr => ∃ (k : Nat), k ≤ xs.length ∧ u9 = .int .i64 k ∧ Aside0 (Sp base ok A c n xs w xs.length 0 wr)) (fun u9 _ => xs.length - (intOf u9).toNat)
     case atStart => exact ⟨0, by omega, rfl, HP⟩
     case round =>
      clear HP
      obtain ⟨k, hk, rfl, HP⟩ := hrel
      by_cases hlt : k < xs.length
      ·have hlt' : ((k : Int) < xs.length) := by omega
       obtain ⟨g, v9, ys, oki, rfl, hm0, hcell, hR, _⟩ := HP.out.at k hlt
       obtain ⟨A9, c9, hv9⟩ := Kd.R_slice hR
       have hall := hm0.done k hlt hlt
       have hlen : (rd_T47 ys (k : Nat)).f5.length ≤ 4194304 := by rw [hm0.each]; exact HE.out k
       obtain ⟨l9, hl9⟩ : ∃ l9, l9 = (rd_T47 ys (k : Nat)).f5 := ⟨_, rfl⟩
       rw [← hl9] at hv9 hR hall hlen
       subst hv9
       have HALL := Aside0.mk hall
       have HL9 := Aside0.mk hlen
       have hrd := Kd.R_reads' hR
       have HC9 := Aside0.mk hrd.2.2
       have HC8 := Aside0.mk hrd.2.1
       clear hm0 hR hl9 hall hlen hrd
       go_wp2_with (first | (go_at_call 23; ((with_reducible refine (full_go A9 c9 l9 n (k : Int) _ HALL.out (by have := HL9.out; omega) HC9.out HC8.out).mono ?_)); rintro e w4 ⟨rfl, hb4⟩; have HP4 := Aside0.mk (HP.out.move hb4); clear hb4))
       exact round_end hlt (by have := HL.out; omega) (fun hq => ⟨k + 1, by omega, hq, HP4⟩)
      ·have hkl : k = xs.length := by omega
       subst hkl
       have hlt' : ¬ ((xs.length : Int) < xs.length) := by omega
       have hm0 : (0 : Int) ≤ (m : Int) := by omega
       clear hlt hk
       go_wp2
       go_ret
       exact ⟨by simp [hm0], HP.out⟩
end Go.Proofs.Ytacggjhgdkkclaa.KSpoilt
namespace Go.Proofs.Ytacggjhgdkkclaa.PG
open Go.Proofs.YtacggjhgdkkclaaF
attribute [local go_sem high] run_feq run_fne run_flt_lt run_flt_le run_flt_gt run_flt_ge
open Go.RowKit Go.Proofs.YtacggjhgdkkclaaW.PrintWords Go.Proofs.YtacggjhgdkkclaaW.PrintLast Go.Proofs.YtacggjhgdkkclaaW.PrintMore
attribute [local go_sem] max2_int min2_int max_two min_two max_three min_three max_four min_four   -- for this text's walks alone
set_option linter.unusedVariables false
set_option linter.unusedSimpArgs false
/-! ### gatehouseref05_same: function 28 -/
def gatehouseref05_same.f (a0 : Nat) (a1 : Nat) : Option (Bool) := if (feq a0 a1) = true then (some true) else (if (fne a0 a0) = true then (some (fne a1 a1)) else (some false))
set_option maxHeartbeats 8000000 in
set_option maxRecDepth 100000 in
theorem gatehouseref05_same.calls (a0 : Nat) (a1 : Nat) (r : Bool) (w : World) (h : gatehouseref05_same.f a0 a1 = some r) :
    Calls Try.prog 28 #[.float .f64 a0, .float .f64 a1] w fun e w' => e = .returned (.bool r) ∧ Drawn0 w w' := by
  have H : (if (feq a0 a1) = true then (some true) else (if (fne a0 a0) = true then (some (fne a1 a1)) else (some false))) = some r := h
  clear h
  by_cases c3 : (feq a0 a1) = true
  · rw [if_pos c3] at H
    have c3b0 : (feq a0 a1) = true := c3
    clear c3
    obtain rfl := Option.some.inj H
    go_enter Try.func28, Try.ntmps28
    go_wp2
    go_ret
    exact ⟨by first | rfl | (simp; done) | (simp [*]; done), by repeat (first | exact Drawn0.refl _ | apply Drawn0.step)⟩
  · rw [if_neg c3] at H
    have c3b0 : (feq a0 a1) = false := by simpa using c3
    clear c3
    by_cases c4 : (fne a0 a0) = true
    · rw [if_pos c4] at H
      have c4b0 : (fne a0 a0) = true := c4
      clear c4
      obtain rfl := Option.some.inj H
      go_enter Try.func28, Try.ntmps28
      go_wp2
      go_ret
      exact ⟨by first | rfl | (simp; done) | (simp [*]; done), by repeat (first | exact Drawn0.refl _ | apply Drawn0.step)⟩
    · rw [if_neg c4] at H
      have c4b0 : (fne a0 a0) = false := by simpa using c4
      clear c4
      obtain rfl := Option.some.inj H
      go_enter Try.func28, Try.ntmps28
      go_wp2
      go_ret
      exact ⟨by first | rfl | (simp; done) | (simp [*]; done), by repeat (first | exact Drawn0.refl _ | apply Drawn0.step)⟩
end Go.Proofs.Ytacggjhgdkkclaa.PG
namespace Go.Proofs.Ytacggjhgdkkclaa.PG
open Go.Proofs.YtacggjhgdkkclaaF
attribute [local go_sem high] run_feq run_fne run_flt_lt run_flt_le run_flt_gt run_flt_ge
open Go.RowKit Go.Proofs.YtacggjhgdkkclaaW.PrintWords Go.Proofs.YtacggjhgdkkclaaW.PrintLast Go.Proofs.YtacggjhgdkkclaaW.PrintMore
attribute [local go_sem] max2_int min2_int max_two min_two max_three min_three max_four min_four   -- for this text's walks alone
set_option linter.unusedVariables false
set_option linter.unusedSimpArgs false
attribute [local go_sem high] eqA44
/-! ### gatehouseref05_words: function 29 -/
def gatehouseref05_words.l0 : Nat → List (S44) → List (S44) → Int → Option (Bool)
  | 0, _, _, _ => none
  | k + 1, x0, x1, x5 => if x5 < (x0.length : Int) then (if 0 ≤ x5 then (if x5 < (x1.length : Int) then (if (!((((rd_T44 x0 x5).f0).toList) == (((rd_T44 x1 x5).f0).toList)) || (!(((rd_T44 x0 x5).f1) == ((rd_T44 x1 x5).f1)) || (!(((rd_T44 x0 x5).f2) == ((rd_T44 x1 x5).f2))))) = true then (some false) else (gatehouseref05_words.l0 k x0 x1 (wrap64 (x5 + 1)))) else (none)) else (none)) else (some true)
def gatehouseref05_words.f (k : Nat) (l0 : List (S44)) (l1 : List (S44)) : Option (Bool) := if (l0.length : Int) = (l1.length : Int) then (gatehouseref05_words.l0 k l0 l1 0) else (some false)
theorem gatehouseref05_words.mono_l : ∀ k, (∀ y0 y1 y2, LeO (gatehouseref05_words.l0 k y0 y1 y2) (gatehouseref05_words.l0 (k + 1) y0 y1 y2))
  | 0 => fun _ _ _ r h => by simp [gatehouseref05_words.l0] at h
  | k + 1 => by
    have ih0 := gatehouseref05_words.mono_l k
    · intro y0 y1 y2
      unfold gatehouseref05_words.l0
      repeat' first
      | (with_reducible exact ih0 _ _ _)
      | (with_reducible exact LeO.refl _)
      | (with_reducible exact LeO.none _)
      | (with_reducible refine LeO.ite ?_ ?_)
      | (with_reducible refine LeO.bind ?_ (fun _ => ?_))
      | exact ih0 _ _ _
      | exact LeO.none _
      | refine LeO.ite ?_ ?_
      | refine LeO.bind ?_ (fun _ => ?_)
theorem gatehouseref05_words.mono : ∀ a0 a1 k, LeO (gatehouseref05_words.f k a0 a1) (gatehouseref05_words.f (k + 1) a0 a1) := by
  intro a0 a1 k
  have ih0 := gatehouseref05_words.mono_l k
  unfold gatehouseref05_words.f
  repeat' first
      | (with_reducible exact ih0 _ _ _)
      | (with_reducible exact LeO.refl _)
      | (with_reducible exact LeO.none _)
      | (with_reducible refine LeO.ite ?_ ?_)
      | (with_reducible refine LeO.bind ?_ (fun _ => ?_))
      | exact ih0 _ _ _
      | exact LeO.none _
      | refine LeO.ite ?_ ?_
      | refine LeO.bind ?_ (fun _ => ?_)
set_option maxHeartbeats 8000000 in
set_option maxRecDepth 100000 in
theorem gatehouseref05_words.calls (k : Nat) (A0 : Option Addr) (c0 : Nat) (l0 : List (S44)) (A1 : Option Addr) (c1 : Nat) (l1 : List (S44)) (r : Bool) (w : World) (hr0 : Kd.C k44 w A0 l0.length l0) (hc0 : l0.length ≤ c0) (hr1 : Kd.C k44 w A1 l1.length l1) (hc1 : l1.length ≤ c1) (h : gatehouseref05_words.f k l0 l1 = some r) :
    Calls Try.prog 29 #[.slice A0 l0.length c0, .slice A1 l1.length c1] w fun e w' => e = .returned (.bool r) ∧ Drawn0 w w' := by
  have hu44 := Try.underlying44
  have HR0 := Aside0.mk hr0
  have HC0 := Aside0.mk hc0
  clear hr0 hc0
  have HR1 := Aside0.mk hr1
  have HC1 := Aside0.mk hc1
  clear hr1 hc1
  have H : (if (l0.length : Int) = (l1.length : Int) then (gatehouseref05_words.l0 k l0 l1 0) else (some false)) = some r := h
  clear h
  by_cases c3 : (l0.length : Int) = (l1.length : Int)
  · rw [if_pos c3] at H
    have c3b0 : ((l0.length : Int) == (l1.length : Int)) = true := beq_iff_eq.mpr c3
    have c3b1 : ((l0.length : Int) != (l1.length : Int)) = false := bne_eq_false_iff_eq.mpr c3
    have c3b2 : (l0.length == l1.length) = true := by first | simpa using c3 | (simp at c3 ⊢; omega)
    clear c3
    have H' := Aside0.mk H
    clear H
    go_enter Try.func29, Try.ntmps29
    go_wp2
    repeat (go_quiet (fail); try go_wp2)
    go_loopg [5] k (fun kq v5 w' => ∃ (x5_1 : Int), v5 = .int .i64 x5_1 ∧ Aside0 (gatehouseref05_words.l0 kq l0 l1 x5_1 = some r) ∧ Aside0 (kq ≤ k) ∧ Drawn0 w w')
    case atStart => exact ⟨(0), (by first | rfl | (simp; done) | (simp [*]; done)), H', ⟨Nat.le_refl _⟩, by repeat (first | exact Drawn0.refl _ | apply Drawn0.step)⟩
    case round =>
      clear H'
      try clear c1
      try clear c2
      try clear p2
      try clear c3
      try clear c3b0
      try clear c3b1
      try clear c3b2
      obtain ⟨x5_1, rfl, HA, HK1, ⟨m1, rfl⟩⟩ := hrel
      cases gk with
      | zero => exact absurd HA.out (by simp [gatehouseref05_words.l0])
      | succ k1 =>
        have H := HA.out
        clear HA
        simp only [gatehouseref05_words.l0] at H
        by_cases c4 : x5_1 < (l0.length : Int)
        · rw [if_pos c4] at H
          have c4b0 : decide (x5_1 < (l0.length : Int)) = true := decide_eq_true c4
          clear c4
          by_cases c5 : 0 ≤ x5_1
          · rw [if_pos c5] at H
            have c5b0 : decide (0 ≤ x5_1) = true := decide_eq_true c5
            clear c5
            by_cases c6 : x5_1 < (l1.length : Int)
            · rw [if_pos c6] at H
              have c6b0 : decide (x5_1 < (l1.length : Int)) = true := decide_eq_true c6
              clear c6
              by_cases c7 : (!((((rd_T44 l0 x5_1).f0).toList) == (((rd_T44 l1 x5_1).f0).toList)) || (!(((rd_T44 l0 x5_1).f1) == ((rd_T44 l1 x5_1).f1)) || (!(((rd_T44 l0 x5_1).f2) == ((rd_T44 l1 x5_1).f2))))) = true
              · rw [if_pos c7] at H
                have c7b0 : (!((((rd_T44 l0 x5_1).f0).toList) == (((rd_T44 l1 x5_1).f0).toList)) || (!(((rd_T44 l0 x5_1).f1) == ((rd_T44 l1 x5_1).f1)) || (!(((rd_T44 l0 x5_1).f2) == ((rd_T44 l1 x5_1).f2))))) = true := c7
                clear c7
                obtain rfl := Option.some.inj H
                have p370 : 0 ≤ (x5_1 : Int) := of_decide_eq_true (by first | (with_reducible assumption) | assumption)
                have q370 : x5_1 < (l0.length : Int) := of_decide_eq_true (by first | (with_reducible assumption) | assumption)
                obtain ⟨ad370, e370, hx370_0, hx370_1, hx370_2⟩ := at_T44 HR0.out x5_1 p370 q370
                cases e370
                replace p370 := eq_true p370
                replace q370 := eq_true q370
                have p371 : 0 ≤ (x5_1 : Int) := of_decide_eq_true (by first | (with_reducible assumption) | assumption)
                have q371 : x5_1 < (l1.length : Int) := of_decide_eq_true (by first | (with_reducible assumption) | assumption)
                obtain ⟨ad371, e371, hx371_0, hx371_1, hx371_2⟩ := at_T44 HR1.out x5_1 p371 q371
                cases e371
                replace p371 := eq_true p371
                replace q371 := eq_true q371
                go_wp2
                repeat (go_quiet (fail); try go_wp2)
                go_ret
                exact ⟨by first | rfl | (simp; done) | (simp [*]; done), by repeat (first | exact Drawn0.refl _ | apply Drawn0.step)⟩
              · rw [if_neg c7] at H
                have c7b0 : (!((((rd_T44 l0 x5_1).f0).toList) == (((rd_T44 l1 x5_1).f0).toList)) || (!(((rd_T44 l0 x5_1).f1) == ((rd_T44 l1 x5_1).f1)) || (!(((rd_T44 l0 x5_1).f2) == ((rd_T44 l1 x5_1).f2))))) = false := by simpa using c7
                clear c7
                have H' := Aside0.mk H
                clear H
                have p370 : 0 ≤ (x5_1 : Int) := of_decide_eq_true (by first | (with_reducible assumption) | assumption)
                have q370 : x5_1 < (l0.length : Int) := of_decide_eq_true (by first | (with_reducible assumption) | assumption)
                obtain ⟨ad370, e370, hx370_0, hx370_1, hx370_2⟩ := at_T44 HR0.out x5_1 p370 q370
                cases e370
                replace p370 := eq_true p370
                replace q370 := eq_true q370
                have p371 : 0 ≤ (x5_1 : Int) := of_decide_eq_true (by first | (with_reducible assumption) | assumption)
                have q371 : x5_1 < (l1.length : Int) := of_decide_eq_true (by first | (with_reducible assumption) | assumption)
                obtain ⟨ad371, e371, hx371_0, hx371_1, hx371_2⟩ := at_T44 HR1.out x5_1 p371 q371
                cases e371
                replace p371 := eq_true p371
                replace q371 := eq_true q371
                go_wp2
                repeat (go_quiet (fail); try go_wp2)
                go_roundg k1
                case measure => have := HK1.out; omega
                case rel => exact ⟨(wrap64 (x5_1 + 1)), (by first | rfl | (simp; done) | (simp [*]; done)), H', ⟨by have := HK1.out; omega⟩, by repeat (first | exact Drawn0.refl _ | apply Drawn0.step)⟩
            · rw [if_neg c6] at H
              exact absurd H (by simp)
          · rw [if_neg c5] at H
            exact absurd H (by simp)
        · rw [if_neg c4] at H
          have c4b0 : decide (x5_1 < (l0.length : Int)) = false := decide_eq_false c4
          clear c4
          obtain rfl := Option.some.inj H
          go_wp2
          repeat (go_quiet (fail); try go_wp2)
          go_ret
          exact ⟨by first | rfl | (simp; done) | (simp [*]; done), by repeat (first | exact Drawn0.refl _ | apply Drawn0.step)⟩
  · rw [if_neg c3] at H
    have c3b0 : ((l0.length : Int) == (l1.length : Int)) = false := beq_eq_false_iff_ne.mpr c3
    have c3b1 : ((l0.length : Int) != (l1.length : Int)) = true := bne_iff_ne.mpr c3
    have c3b2 : (l0.length == l1.length) = false := by first | simpa using c3 | (simp at c3 ⊢; omega)
    obtain rfl := Option.some.inj H
    go_enter Try.func29, Try.ntmps29
    go_wp2
    repeat (go_quiet (fail); try go_wp2)
    go_ret
    exact ⟨by first | rfl | (simp; done) | (simp [*]; done), by repeat (first | exact Drawn0.refl _ | apply Drawn0.step)⟩
end Go.Proofs.Ytacggjhgdkkclaa.PG
