/- Of this session's texts, what the row uses: KApP, KApart, KApWalk, PGx10, KDP, KDSingle, KDDouble, KDR. -/
import Derived.Test.YtacggjhgdkkclaaZ6
import Derived.Test.YtacggjhgdkkclaaZ8
import Derived.Test.YtacggjhgdkkclaaZ2
/- Plain facts and worlds for gatehouselaw05.apart. -/
namespace Go.Proofs.Ytacggjhgdkkclaa.KApP
open Go.RowKit Go.Proofs.YtacggjhgdkkclaaW.PrintWords Go.Proofs.YtacggjhgdkkclaaW.PrintLast Go.Proofs.YtacggjhgdkkclaaW.PrintMore Go.Maps
open Go.Proofs.Ytacggjhgdkkclaa Go.Proofs.Ytacggjhgdkkclaa.PG Go.Proofs.YtacggjhgdkkclaaF Go.Proofs.Ytacggjhgdkkclaa.KBase Go.Proofs.Ytacggjhgdkkclaa.KApp Go.Proofs.Ytacggjhgdkkclaa.KGrown Go.Proofs.Ytacggjhgdkkclaa.KSpP Go.Proofs.Ytacggjhgdkkclaa.KSpoilt
set_option linter.unusedSimpArgs false
def mkd (n k : Int) : S47 := ⟨77, n, k, z44, z44, [], false, 0, 0⟩
structure Hf (n : Int) (m : Nat) (ys : List S47) (k : Nat) : Prop where
  len : ys.length = m
  done : ∀ i, i < k → i < m → rd_T47 ys (i : Nat) = mkd n i
  todo : ∀ i, k ≤ i → i < m → ∀ z ∈ (rd_T47 ys (i : Nat)).f5, z = nm n i
  short : ∀ i, (rd_T47 ys (i : Nat)).f5.length ≤ 4194304
theorem Hf.of {n : Int} {xs ys : List S47} (h : Mkd n xs ys xs.length 0) (hs : ∀ i, (rd_T47 xs (i : Nat)).f5.length ≤ 4194304) : Hf n xs.length ys 0 :=
  ⟨h.len, fun i hi => by omega, fun i _ hl => h.done i hl hl, fun i => by rw [h.each]; exact hs i⟩
theorem Hf.put {n : Int} {len : Nat} {ys : List S47} {k : Nat} (h : Hf n len ys k) (hk : k < len) : Hf n len (ys.set k (mkd n k)) (k + 1) := by
  have hk' : k < ys.length := by rw [h.len]; exact hk
  refine ⟨by rw [List.length_set, h.len], fun i hi hl => ?_, fun i hi hl => ?_, fun i => ?_⟩
  · rw [rd_set _ hk']
    split
    · next e => subst e; rfl
    · exact h.done i (by omega) hl
  · rw [rd_set _ hk', if_neg (by omega)]
    exact h.todo i (by omega) hl
  · rw [rd_set _ hk']
    split
    · simp [mkd]
    · exact h.short i
structure Gp {α : Type} (d : Kd α) (e base : Nat) (w : World) (v : Value) (xs : List α) (k : Nat) (W : World) (v1 : Value) : Prop where
  now : ∃ ys : List α, ys.length = k ∧ d.R e W base (fun _ => True) v1 (xs ++ ys)
  old : d.R e W base (fun q => some q = v.ownBlock) v xs
  size : w.heap.size ≤ W.heap.size
  lt : ∀ b, v.ownBlock = some b → b < w.heap.size
  lies : (∃ g cap, v = .slice (some ⟨g, 0, none⟩) xs.length cap ∧ v1 = .slice (some ⟨g, 0, none⟩) (xs.length + k) cap) ∨ (∀ b, v1.ownBlock = some b → w.heap.size ≤ b)
section
variable {α : Type} {d : Kd α} {e base k : Nat} {ok : Nat → Prop} {w W W1 : World} {v v1 v2 : Value} {xs ys : List α} {y : α}
theorem Gp.start (hE : d.E = []) (h : d.R e w base ok v xs) : Gp d e base w v xs 0 w v := by
  refine ⟨⟨[], rfl, by rw [List.append_nil]; exact Kd.R_mono h (fun _ _ => trivial)⟩, Kd.R_tight hE h, Nat.le_refl _, Kd.R_lt h, ?_⟩
  rcases own_form h with rfl | ⟨g, cap, rfl⟩
  · exact .inr (fun b hb => by simp [Value.ownBlock] at hb)
  · exact .inl ⟨g, cap, rfl, rfl⟩
theorem Gp.own (h : Gp d e base w v xs k W v1) : v1.ownBlock = v.ownBlock ∨ ∀ b, v1.ownBlock = some b → w.heap.size ≤ b := by
  rcases h.lies with ⟨g, cap, rfl, rfl⟩ | hf
  · exact .inl rfl
  · exact .inr hf
theorem Gp.other (hE : d.E = []) (h : Gp d e base w v xs k W v1) {row : Option Nat} (hg : W.grownBy W1 row) (n0 : ∀ b, row = some b → v.ownBlock ≠ some b) (n1 : ∀ b, row = some b → v1.ownBlock ≠ some b) : Gp d e base w v xs k W1 v1 := by
  obtain ⟨⟨ys, hy, hR⟩, ho, hs, hlt, hl⟩ := h
  exact ⟨⟨ys, hy, Kd.R_mono (Kd.R_grown (Kd.R_tight hE hR) hg (fun q hq e => n1 q e.symm hq.symm)) (fun _ _ => trivial)⟩, Kd.R_grown ho hg (fun q hq e => n0 q e.symm hq.symm), Nat.le_trans hs hg.size, hlt, hl⟩
theorem Gp.app (hE : d.E = []) (h : Gp d e base w v xs k W v1) (hy : ys.length = k) (hn : d.R e W1 base (fun _ => True) v2 ((xs ++ ys) ++ [y])) (hw : Went W W1 v1 v2 (xs ++ ys).length 1) : Gp d e base w v xs (k + 1) W1 v2 := by
  have hlen : (xs ++ ys).length = xs.length + k := by rw [List.length_append, hy]
  rw [hlen] at hw
  have hnow : ∃ zs : List α, zs.length = k + 1 ∧ d.R e W1 base (fun _ => True) v2 (xs ++ zs) := ⟨ys ++ [y], by simp [hy], by rw [← List.append_assoc]; exact hn⟩
  have hle := h.size
  rcases hw with ⟨g, cap, e1, e2, hg⟩ | ⟨g, cap, e2, hb, hg⟩
  · rcases h.lies with ⟨g', cap', f1, f2⟩ | hf
    · rw [f2] at e1
      injection e1 with ea en ec
      injection ea with ea
      injection ea with ea
      subst ea; subst ec
      refine ⟨hnow, ?_, Nat.le_trans hle hg.size, h.lt, .inl ⟨_, _, f1, by rw [e2]; rfl⟩⟩
      rw [e2] at hn
      have ht := Kd.R_take (m := xs.length) hn (by simp)
      have : List.take xs.length ((xs ++ ys) ++ [y]) = xs := by simp
      rw [this] at ht
      rw [f1]
      exact Kd.R_tight hE ht
    · have hge : w.heap.size ≤ g := hf g (by rw [e1]; rfl)
      exact ⟨hnow, Kd.R_grown h.old hg (fun q hq e => by injection e with e; have := h.lt q hq.symm; omega), Nat.le_trans hle hg.size, h.lt, .inr (fun b hb => by rw [e2] at hb; simp [Value.ownBlock] at hb; omega)⟩
  · exact ⟨hnow, Kd.R_grown h.old hg (by simp), Nat.le_trans hle hg.size, h.lt, .inr (fun b hb' => by rw [e2] at hb'; simp [Value.ownBlock] at hb'; omega)⟩
theorem Went.own {n m : Nat} (h : Went W W1 v1 v2 n m) : v2.ownBlock = v1.ownBlock ∨ ∀ b, v2.ownBlock = some b → W.heap.size ≤ b := by
  rcases h with ⟨g, cap, rfl, rfl, _⟩ | ⟨g, cap, rfl, hb, _⟩
  · exact .inl rfl
  · exact .inr (fun b h => by simp [Value.ownBlock] at h; omega)
end
theorem below_of_grown {s : Nat} {w W W1 : World} (h : Below s w W) {row : Option Nat} (hg : W.grownBy W1 row) (hr : ∀ b, row = some b → s ≤ b) (hs : s ≤ W.heap.size) : Below s w W1 :=
  ⟨hg.os.trans h.os, hg.tape.trans h.tape, hg.output.trans h.output, Nat.le_trans h.size hg.size, fun k hk => (hg.block k (by omega) (fun e => by have := hr k e.symm; omega)).trans (h.block k hk)⟩
theorem below_of_same {s : Nat} {S : Nat → Prop} {w W W1 : World} (h : Below s w W) (hs : Same S W W1) (hS : ∀ b, S b → s ≤ b) (hl : s ≤ W.heap.size) : Below s w W1 :=
  ⟨hs.os.trans h.os, hs.tape.trans h.tape, hs.output.trans h.output, Nat.le_trans h.size hs.size, fun k hk => (hs.block k (by omega) (fun e => by have := hS k e; omega)).trans (h.block k hk)⟩
theorem raw_of {n : Int} {len : Nat} {ys : List S47} {W : World} {base : Nat} {ok : Nat → Prop} {v : Value} (h : Hf n len ys len) (hR : Kd.R k47 47 W base ok v ys) : ∃ rows : List (List Value), rows.length = len ∧ Kd.R (Kd.raw 13) 47 W base ok v rows ∧ ∀ (i : Nat) (c : List Value), rows[i]? = some c → c[1]? = some (.int .i64 n) ∧ c[2]? = some (.int .i64 (i : Int)) := by
  obtain ⟨h0, rows, hl, hraw, hfk⟩ := Kd.R_N hR
  refine ⟨rows, by rw [hl, h.len], Kd.R_mono hraw (fun q hq => hR.1 q hq.symm), fun i c hc => ?_⟩
  have hi : i < ys.length := by rw [← hl]; exact (List.getElem?_eq_some_iff.1 hc).1
  have hx : ys[i]? = some (mkd n i) := by
    have := h.done i (by rw [← h.len]; exact hi) (by rw [← h.len]; exact hi)
    rw [← this]
    simp [rd_T47, List.getD_eq_getElem?_getD, hi]
  obtain ⟨A9, c9, rfl, _⟩ := k47_openF (hfk i _ _ hx hc)
  exact ⟨rfl, rfl⟩
theorem raw_at {rows : List (List Value)} {W : World} {base g m cap : Nat} {ok : Nat → Prop} (h : Kd.R (Kd.raw 13) 47 W base ok (.slice (some ⟨g, 0, none⟩) m cap) rows) (i : Nat) (hi : i < rows.length) : ∃ c, rows[i]? = some c ∧ ∀ j u, c[j]? = some u → W.cell? ⟨g, i * 13 + j, none⟩ = some u := by
  have hm := (Kd.R_reads' h).1
  obtain ⟨c, hcl, hM, hcc, _⟩ := Kd.R_elem h [] (i : Int) (by omega) (by omega)
  have hc : c = rows[i] := by
    have h1 : c = rows.getD (i : Int).toNat [] := hM.1
    rw [h1]
    simp [List.getD_eq_getElem?_getD, hi]
  exact ⟨c, by rw [hc, List.getElem?_eq_getElem hi], fun j u hu => by simpa [show (Kd.raw 13).sz = 13 from rfl] using hcc j u hu⟩
def mkdV (n k : Int) : Array Value := #[.int .i8 77, .int .i64 n, .int .i64 k, .string ⟨#[]⟩, .int .i64 0, .int .i64 0, .string ⟨#[]⟩, .int .i64 0, .int .i64 0, .slice none 0 0, .bool false, .int .i8 0, .float .f64 0]
def zV : Array Value := #[.int .i8 0, .int .i64 0, .int .i64 0, .string ⟨#[]⟩, .int .i64 0, .int .i64 0, .string ⟨#[]⟩, .int .i64 0, .int .i64 0, .slice none 0 0, .bool false, .int .i8 0, .float .f64 0]
set_option maxHeartbeats 2000000 in
theorem marked_go (n k : Int) (w : World) : Calls Try.prog 24 #[.int .i64 n, .int .i64 k] w fun e w' => e = .returned (.agg (mkdV n k)) ∧ Below w.heap.size w w' := by
  have hz : (zeroValue 47).run Try.prog w = .ok (.agg zV) w := by kernel_rfl
  have HS := Aside0.mk (show Stays (w.alloc (.cells zV 47)) w.heap.size zV 47 from heap_alloc_new w (.cells zV 47))
  have HB := Aside0.mk (setCells_below (below_alloc (Below.refl w.heap.size w) (.cells zV 47)) (Nat.le_refl _) (mkdV n k).toList)
  go_enter Try.func24, Try.ntmps24
  go_upto_region 1 with fail
  clear hz
  go_wp2_with (first | ((with_reducible refine gate_store (t := 47) (p := 4) (v := .tmp 7) rfl ?_); refine wpList_store_var rfl 47 (.tmp 4) (.tmp 7) rfl w.heap.size (mkdV n k) rfl rfl HS.out rfl (by kernel_rfl) (by simp [mkdV, Value.oneCell']) ?_))
  have hres := setCells_var (vs := mkdV n k) HS.out rfl
  refine bodyPost_ret (results_single rfl (.cell w.heap.size 47 (mkdV n k) (0, 0) _ rfl hres Try.underlying47 rfl (by kernel_rfl) .nil)) rfl ?_
  exact ⟨rfl, HB.out⟩
theorem mkd_M (W : World) (base : Nat) (ok : Nat → Prop) (n k : Int) : k47.M W base ok (mkd n k) (mkdV n k).toList := k47_mkM W base ok (mkd n k) (v9 := .slice none 0 0) (Kd.R_nil _ _ _ _ _)
end Go.Proofs.Ytacggjhgdkkclaa.KApP
/- gatehouselaw05.apart, walked. -/
namespace Go.Proofs.Ytacggjhgdkkclaa.KApart
open Go.RowKit Go.Proofs.YtacggjhgdkkclaaW.PrintWords Go.Proofs.YtacggjhgdkkclaaW.PrintLast Go.Proofs.YtacggjhgdkkclaaW.PrintMore Go.Maps
open Go.Proofs.Ytacggjhgdkkclaa Go.Proofs.Ytacggjhgdkkclaa.PG Go.Proofs.YtacggjhgdkkclaaF Go.Proofs.Ytacggjhgdkkclaa.KBase Go.Proofs.Ytacggjhgdkkclaa.KApp Go.Proofs.Ytacggjhgdkkclaa.KGrown Go.Proofs.Ytacggjhgdkkclaa.KSpP Go.Proofs.Ytacggjhgdkkclaa.KSpoilt Go.Proofs.Ytacggjhgdkkclaa.KApP
set_option linter.unusedSimpArgs false
structure Gv where
  s0 : Nat
  okA : Nat → Prop
  okB : Nat → Prop
  okC : Nat → Prop
  Aa : Option Addr
  ca : Nat
  Ab : Option Addr
  cb : Nat
  Ac : Option Addr
  cc : Nat
  xs : List S47
  w : World
namespace Gv
abbrev va (G : Gv) : Value := .slice G.Aa G.xs.length G.ca
abbrev vb (G : Gv) : Value := .slice G.Ab G.xs.length G.cb
abbrev vc (G : Gv) : Value := .slice G.Ac G.xs.length G.cc
structure Ok (G : Gv) : Prop where
  dAB : ∀ k, G.okB k → ¬ G.okA k
  dCB : ∀ k, G.okB k → ¬ G.okC k
  dAC : ∀ k, G.okA k → ¬ G.okC k
  bA : ∀ k, G.okA k → G.s0 ≤ k ∧ k < G.w.heap.size
  bC : ∀ k, G.okC k → G.s0 ≤ k ∧ k < G.w.heap.size
  bB : ∀ k, G.okB k → k < G.w.heap.size
  hs : G.s0 ≤ G.w.heap.size
  hl : G.xs.length ≤ 4194304
  he : ∀ i, (rd_T47 G.xs (i : Nat)).f5.length ≤ 4194304
structure At (G : Gv) (W : World) : Prop where
  a : Kd.S k47 47 W G.s0 G.okA G.va G.xs
  b : Kd.R k47 47 W G.s0 G.okB G.vb G.xs
  c : Kd.S k47 47 W G.s0 G.okC G.vc G.xs
  bel : Below G.s0 G.w W
  sz : G.w.heap.size ≤ W.heap.size
theorem At.move {G : Gv} {W W1 : World} (h : At G W) (hO : Ok G) (hb : Below W.heap.size W W1) : At G W1 :=
  ⟨Kd.S_below h.a hb, Kd.R_below h.b hb, Kd.S_below h.c hb, below_of_grown h.bel (below_grown hb none) (by simp) (Nat.le_trans hO.hs h.sz), Nat.le_trans h.sz hb.size⟩
structure At1 (G : Gv) (W : World) : Prop where
  a : ∃ ya, Hf 1 G.xs.length ya 0 ∧ Kd.R k47 47 W G.s0 G.okA G.va ya
  b : Kd.R k47 47 W G.s0 G.okB G.vb G.xs
  c : Kd.S k47 47 W G.s0 G.okC G.vc G.xs
  bel : Below G.s0 G.w W
  sz : G.w.heap.size ≤ W.heap.size
theorem At.one {G : Gv} {W W1 : World} (h : At G W) (hO : Ok G) (hS : Sp G.s0 G.okA G.Aa G.ca 1 G.xs W G.xs.length 0 W1) : At1 G W1 := by
  obtain ⟨⟨ya, hm, hSa⟩, hs⟩ := hS
  exact ⟨⟨ya, Hf.of hm hO.he, Kd.S_R hSa⟩, hs.toR h.b hO.dAB, Kd.S_step h.c (fun k hk hlt => hs.block k hlt (fun e => hO.dAC k e hk)), below_of_same h.bel hs (fun b hb => (hO.bA b hb).1) (Nat.le_trans hO.hs h.sz), Nat.le_trans h.sz hs.size⟩
structure At2 (G : Gv) (i j : Nat) (W : World) : Prop where
  a : ∃ ya, Hf 1 G.xs.length ya i ∧ Kd.R k47 47 W G.s0 G.okA G.va ya
  b : Kd.R k47 47 W G.s0 G.okB G.vb G.xs
  c : ∃ yc, Hf 3 G.xs.length yc j ∧ Kd.R k47 47 W G.s0 G.okC G.vc yc
  bel : Below G.s0 G.w W
  sz : G.w.heap.size ≤ W.heap.size
theorem At1.two {G : Gv} {W W1 : World} (h : At1 G W) (hO : Ok G) (hS : Sp G.s0 G.okC G.Ac G.cc 3 G.xs W G.xs.length 0 W1) : At2 G 0 0 W1 := by
  obtain ⟨⟨yc, hm, hSc⟩, hs⟩ := hS
  obtain ⟨ya, hy, hR⟩ := h.a
  exact ⟨⟨ya, hy, hs.toR hR hO.dAC⟩, hs.toR h.b hO.dCB, ⟨yc, Hf.of hm hO.he, Kd.S_R hSc⟩, below_of_same h.bel hs (fun b hb => (hO.bC b hb).1) (Nat.le_trans hO.hs h.sz), Nat.le_trans h.sz hs.size⟩
theorem At2.move {G : Gv} {i j : Nat} {W W1 : World} (h : At2 G i j W) (hO : Ok G) (hb : Below W.heap.size W W1) : At2 G i j W1 := by
  obtain ⟨⟨ya, hy, hR⟩, hB, ⟨yc, hc, hRc⟩, h1, h2⟩ := h
  exact ⟨⟨ya, hy, Kd.R_below hR hb⟩, Kd.R_below hB hb, ⟨yc, hc, Kd.R_below hRc hb⟩, below_of_grown h1 (below_grown hb none) (by simp) (Nat.le_trans hO.hs h2), Nat.le_trans h2 hb.size⟩
end Gv
theorem store_decl {W : World} {base b m cap : Nat} {ok : Nat → Prop} {ws : List S47} (h : Kd.R k47 47 W base ok (.slice (some ⟨b, 0, none⟩) m cap) ws) (j : Nat) (hj : j < ws.length) (n k : Int) :
    ∃ W1, (Instr.storeAt 47 (.pointer (some ⟨b, j * 13, none⟩)) (.agg (mkdV n k))).run Try.prog W = .ok () W1 ∧ Kd.R k47 47 W1 base ok (.slice (some ⟨b, 0, none⟩) m cap) (ws.set j (mkd n k)) ∧ W.grownBy W1 (some b) := by
  have hm : m = ws.length := (Kd.R_reads' h).1
  obtain ⟨c, hcl, _, hcc, _⟩ := Kd.R_elem h z47 (j : Int) (by omega) (by omega)
  have hs := Kd.R_seg h (j : Int) (by omega) (by omega) (c := c) (seg := (mkdV n k).toList) (j := 0) (x' := mkd n k) (okp := fun _ => False) hcl hcc (by exact Nat.le_refl 13) (by
    have h3 : c.length = 13 := hcl
    have : List.take 0 c ++ (mkdV n k).toList ++ List.drop (0 + (mkdV n k).toList.length) c = (mkdV n k).toList := by
      simp [mkdV, h3]
    rw [this]
    exact mkd_M _ _ _ _ _) (fun _ hk => hk.elim)
  have hd : k47.sz = 13 := rfl
  simp only [Int.toNat_natCast, hd, Nat.add_zero] at hs
  refine ⟨_, ?_, hs⟩
  obtain ⟨_, inner, hown, hr⟩ := h
  rcases hown.2 with ⟨hv, _⟩ | ⟨g', cap', cur, hv, hb, hh, hnc, hcm, hcs, _⟩
  · cases hv
  injection hv with ha _ hc
  injection ha with ha
  injection ha with hg'
  subst hg'; subst hc
  refine run_store_run 47 _ _ hh rfl (by kernel_rfl) ?_ (by simp [mkdV, Value.oneCell'])
  have : (mkdV n k).toList.length = 13 := rfl
  rw [hd] at hcs
  omega
theorem wpList_store_run {P : Program} {w w1 : World} {ops : Array Oper} {rest : List Oper} {o : Oper} {a : Act} {Q : Exit → Act → World → Prop} (hN : o.dst = none) (hgd : o.guard = none) (t : TypeId) (p x : Operand) (ho : o.op = .store t p x) {ad : Addr} {u : Value}
    (haddr : a.eval p = .pointer (some ad)) (hx : a.eval x = u) (hrun : (Instr.storeAt t (.pointer (some ad)) u).run P w = .ok () w1) (h : wpList P ops Q rest a w1) : wpList P ops Q (o :: rest) a w := by
  refine wpList_plain hgd fun K hK => ?_
  unfold Oper.wp execOp
  simp only [ho, haddr, hx, Sem.run_bind, Sem.run_pure, Result.andThen_ok, hrun]
  show K (a.put o.dst undef) _
  rw [hN]
  exact hK _ _ h
namespace Gv
theorem At2.put {G : Gv} {i j : Nat} {W : World} (h : At2 G i j W) (hO : Ok G) (hk : i < G.xs.length) : ∃ g, G.Aa = some ⟨g, 0, none⟩ ∧ ∃ W1, (Instr.storeAt 47 (.pointer (some ⟨g, i * 13, none⟩)) (.agg (mkdV 1 i))).run Try.prog W = .ok () W1 ∧ At2 G (i + 1) j W1 := by
  obtain ⟨⟨ya, hy, hR⟩, hB, ⟨yc, hc, hRc⟩, h1, h2⟩ := h
  obtain ⟨g, cap, hv, _⟩ := Kd.R_form hR (by rw [hy.len]; omega)
  injection hv with hA hn hcp
  obtain ⟨s0, okA, okB, okC, Aa, ca, Ab, cb, Ac, cc, xs, w⟩ := G
  simp only at hA hcp
  subst hA; subst hcp
  have hokg : okA g := hR.1 g rfl
  obtain ⟨W1, hr, hR1, hg⟩ := store_decl hR i (by rw [hy.len]; exact hk) 1 i
  refine ⟨g, rfl, W1, hr, ⟨_, hy.put hk, hR1⟩, Kd.R_grown hB hg (fun q hq e => ?_), ⟨yc, hc, Kd.R_grown hRc hg (fun q hq e => ?_)⟩, below_of_grown h1 hg (fun b hb => ?_) (Nat.le_trans hO.hs h2), Nat.le_trans h2 hg.size⟩
  · injection e with e; subst e; exact hO.dAB q hq hokg
  · injection e with e; subst e; exact hO.dAC q hokg hq
  · injection hb with hb; subst hb; exact (hO.bA g hokg).1
theorem At2.putc {G : Gv} {i j : Nat} {W : World} (h : At2 G i j W) (hO : Ok G) (hk : j < G.xs.length) : ∃ g, G.Ac = some ⟨g, 0, none⟩ ∧ ∃ W1, (Instr.storeAt 47 (.pointer (some ⟨g, j * 13, none⟩)) (.agg (mkdV 3 j))).run Try.prog W = .ok () W1 ∧ At2 G i (j + 1) W1 := by
  obtain ⟨⟨ya, hy, hR⟩, hB, ⟨yc, hc, hRc⟩, h1, h2⟩ := h
  obtain ⟨g, cap, hv, _⟩ := Kd.R_form hRc (by rw [hc.len]; omega)
  injection hv with hA hn hcp
  obtain ⟨s0, okA, okB, okC, Aa, ca, Ab, cb, Ac, cc, xs, w⟩ := G
  simp only at hA hcp
  subst hA; subst hcp
  have hokg : okC g := hRc.1 g rfl
  obtain ⟨W1, hr, hR1, hg⟩ := store_decl hRc j (by rw [hc.len]; exact hk) 3 j
  refine ⟨g, rfl, W1, hr, ⟨ya, hy, Kd.R_grown hR hg (fun q hq e => ?_)⟩, Kd.R_grown hB hg (fun q hq e => ?_), ⟨_, hc.put hk, hR1⟩, below_of_grown h1 hg (fun b hb => ?_) (Nat.le_trans hO.hs h2), Nat.le_trans h2 hg.size⟩
  · injection e with e; subst e; exact hO.dAC q hq hokg
  · injection e with e; subst e; exact hO.dCB q hq hokg
  · injection hb with hb; subst hb; exact (hO.bC g hokg).1
theorem At2.names {G : Gv} {k j : Nat} {W : World} (h : At2 G k j W) (hk : k < G.xs.length) : ∃ g A9 c9 l9, G.Aa = some ⟨g, 0, none⟩ ∧ W.cell? ⟨g, k * 13 + 9, none⟩ = some (.slice A9 l9.length c9) ∧ l9.length ≤ c9 ∧ k44.C W A9 l9.length l9 ∧ (∀ z ∈ l9, z = nm 1 k) ∧ l9.length ≤ 4194304 := by
  obtain ⟨⟨ya, hy, hR⟩, _, _, _, _⟩ := h
  obtain ⟨g, cap, hv, _⟩ := Kd.R_form hR (by rw [hy.len]; omega)
  injection hv with hA hn hcp
  have hC := (Kd.R_reads' (show k47.R 47 W G.s0 G.okA (.slice G.Aa G.xs.length G.ca) ya from hR)).2.2
  rw [hA] at hC
  obtain ⟨ad, c, e, hcl, hK, hcc⟩ := Kd.C_get hC z47 (k : Int) (by omega) (by rw [hy.len]; omega)
  injection e with e
  subst e
  obtain ⟨A9, c9, rfl, l9, g9⟩ := k47_open hK
  refine ⟨g, A9, c9, _, hA, ?_, l9, g9, hy.todo k (Nat.le_refl _) hk, hy.short k⟩
  have := hcc 9 _ rfl
  simpa [Addr.add, show k47.sz = 13 from rfl, rd_T47] using this
end Gv
end Go.Proofs.Ytacggjhgdkkclaa.KApart
/- gatehouselaw05.apart, walked: the walk. -/
namespace Go.Proofs.Ytacggjhgdkkclaa.KApWalk
open Go.RowKit Go.Proofs.YtacggjhgdkkclaaW.PrintWords Go.Proofs.YtacggjhgdkkclaaW.PrintLast Go.Proofs.YtacggjhgdkkclaaW.PrintMore Go.Maps
open Go.Proofs.Ytacggjhgdkkclaa Go.Proofs.Ytacggjhgdkkclaa.PG Go.Proofs.YtacggjhgdkkclaaF Go.Proofs.Ytacggjhgdkkclaa.KBase Go.Proofs.Ytacggjhgdkkclaa.KApp Go.Proofs.Ytacggjhgdkkclaa.KGrown Go.Proofs.Ytacggjhgdkkclaa.KSpP Go.Proofs.Ytacggjhgdkkclaa.KSpoilt Go.Proofs.Ytacggjhgdkkclaa.KApP Go.Proofs.Ytacggjhgdkkclaa.KApart
set_option linter.unusedSimpArgs false
structure At3 (G : Gv) (w2 : World) (ra rc : List (List Value)) (i j : Nat) (W : World) (vp vq : Value) : Prop where
 p : Gp (Kd.raw 13) 47 G.s0 w2 G.va ra i W vp
 q : Gp (Kd.raw 13) 47 G.s0 w2 G.vc rc j W vq
 pq : ∀ b, vp.ownBlock = some b → vq.ownBlock ≠ some b
 pc : ∀ b, vp.ownBlock = some b → G.vc.ownBlock ≠ some b
 qa : ∀ b, vq.ownBlock = some b → G.va.ownBlock ≠ some b
 a0 : ∀ b, G.va.ownBlock = some b → G.okA b
 c0 : ∀ b, G.vc.ownBlock = some b → G.okC b
 b : Kd.R k47 47 W G.s0 G.okB G.vb G.xs
 bel : Below G.s0 G.w W
 sz : G.w.heap.size ≤ w2.heap.size
section
variable {G : Gv} {w2 W W1 : World} {ra rc ys : List (List Value)} {y : List Value} {i j : Nat} {p q v : Value}
theorem R_ownlt {α : Type} {d : Kd α} {e base k : Nat} {w W : World} {v v1 : Value} {xs : List α} (h : Gp d e base w v xs k W v1) : ∀ b, v1.ownBlock = some b → b < W.heap.size := by
 obtain ⟨ys, _, hR⟩ := h.now
 exact Kd.R_lt hR
theorem At3.start (hO : G.Ok) (h : Gv.At2 G G.xs.length G.xs.length W) : ∃ ra rc, ra.length = G.xs.length ∧ rc.length = G.xs.length ∧ (∀ (i : Nat) (c : List Value), ra[i]? = some c → c[1]? = some (.int .i64 1) ∧ c[2]? = some (.int .i64 (i : Int))) ∧ (∀ (i : Nat) (c : List Value), rc[i]? = some c → c[1]? = some (.int .i64 3) ∧ c[2]? = some (.int .i64 (i : Int))) ∧ At3 G W ra rc 0 0 W G.va G.vc := by
 obtain ⟨⟨ya, hy, hR⟩, hB, ⟨yc, hc, hRc⟩, h1, h2⟩ := h
 obtain ⟨ra, hra, hRa, hfa⟩ := raw_of hy hR
 obtain ⟨rc, hrc, hRcc, hfc⟩ := raw_of hc hRc
 refine ⟨ra, rc, hra, hrc, hfa, hfc, Gp.start (ok := G.okA) rfl hRa, Gp.start (ok := G.okC) rfl hRcc, fun b ha hc' => hO.dAC b (hR.1 b ha) (hRc.1 b hc'), fun b ha hc' => hO.dAC b (hR.1 b ha) (hRc.1 b hc'), fun b hc' ha => hO.dAC b (hR.1 b ha) (hRc.1 b hc'), hR.1, hRc.1, hB, h1, h2⟩
theorem At3.move (hO : G.Ok) (h : At3 G w2 ra rc i j W p q) (hb : Below W.heap.size W W1) : At3 G w2 ra rc i j W1 p q :=
 ⟨h.p.other rfl (below_grown hb none) (by simp) (by simp), h.q.other rfl (below_grown hb none) (by simp) (by simp), h.pq, h.pc, h.qa, h.a0, h.c0, Kd.R_below h.b hb, below_of_grown h.bel (below_grown hb none) (by simp) (Nat.le_trans hO.hs (Nat.le_trans h.sz h.p.size)), h.sz⟩
theorem At3.appP (hO : G.Ok) (h : At3 G w2 ra rc i j W p q) (hy : ys.length = i) (hn : Kd.R (Kd.raw 13) 47 W1 G.s0 (fun _ => True) v ((ra ++ ys) ++ [y])) (hw : Went W W1 p v (ra ++ ys).length 1) : At3 G w2 ra rc (i + 1) j W1 v q := by
 have hg := hw.row.1
 have hql := R_ownlt h.q
 have hwz := h.p.size
 have hfresh : ∀ b, v.ownBlock = some b → p.ownBlock = some b ∨ W.heap.size ≤ b := fun b hb => by
  rcases KApP.Went.own hw with e | e
  ·exact .inl (by rw [← e]; exact hb)
  ·exact .inr (e b hb)
 have hp0 : ∀ b, p.ownBlock = some b → G.okA b ∨ w2.heap.size ≤ b := fun b hb => by
  rcases h.p.own with e | e
  ·exact .inl (h.a0 b (by rw [← e]; exact hb))
  ·exact .inr (e b hb)
 have hsz := h.sz
 have hs0 := hO.hs
 refine ⟨Gp.app rfl h.p hy hn hw, h.q.other rfl hg h.pc h.pq, fun b hb hq => ?_, fun b hb hc => ?_, h.qa, h.a0, h.c0, Kd.R_grown h.b hg (fun b hb e => ?_), below_of_grown h.bel hg (fun b hb => ?_) (by omega), h.sz⟩
 ·rcases hfresh b hb with e | e
  ·exact h.pq b e hq
  ·have := hql b hq; omega
 ·rcases hfresh b hb with e | e
  ·exact h.pc b e hc
  ·have := h.q.lt b hc; omega
 ·rcases hp0 b e.symm with e1 | e1
  ·exact hO.dAB b hb e1
  ·have := hO.bB b hb; omega
 ·rcases hp0 b hb with e1 | e1
  ·exact (hO.bA b e1).1
  ·omega
theorem At3.appQ (hO : G.Ok) (h : At3 G w2 ra rc i j W p q) (hy : ys.length = j) (hn : Kd.R (Kd.raw 13) 47 W1 G.s0 (fun _ => True) v ((rc ++ ys) ++ [y])) (hw : Went W W1 q v (rc ++ ys).length 1) : At3 G w2 ra rc i (j + 1) W1 p v := by
 have hg := hw.row.1
 have hpl := R_ownlt h.p
 have hwz := h.p.size
 have hfresh : ∀ b, v.ownBlock = some b → q.ownBlock = some b ∨ W.heap.size ≤ b := fun b hb => by
  rcases KApP.Went.own hw with e | e
  ·exact .inl (by rw [← e]; exact hb)
  ·exact .inr (e b hb)
 have hq0 : ∀ b, q.ownBlock = some b → G.okC b ∨ w2.heap.size ≤ b := fun b hb => by
  rcases h.q.own with e | e
  ·exact .inl (h.c0 b (by rw [← e]; exact hb))
  ·exact .inr (e b hb)
 have hsz := h.sz
 have hs0 := hO.hs
 refine ⟨h.p.other rfl hg h.qa (fun b hb e => h.pq b e hb), Gp.app rfl h.q hy hn hw, fun b hb hq => ?_, h.pc, fun b hb hc => ?_, h.a0, h.c0, Kd.R_grown h.b hg (fun b hb e => ?_), below_of_grown h.bel hg (fun b hb => ?_) (by omega), h.sz⟩
 ·rcases hfresh b hq with e | e
  ·exact h.pq b hb e
  ·have := hpl b hb; omega
 ·rcases hfresh b hb with e | e
  ·exact h.qa b e hc
  ·have := h.p.lt b hc; omega
 ·rcases hq0 b e.symm with e1 | e1
  ·exact hO.dCB b hb e1
  ·have := hO.bB b hb; omega
 ·rcases hq0 b hb with e1 | e1
  ·exact (hO.bC b e1).1
  ·omega
end
theorem At3.ge {G : Gv} {w2 W : World} {ra rc : List (List Value)} {i j : Nat} {p q : Value} (h : At3 G w2 ra rc i j W p q) (hO : G.Ok) : G.s0 ≤ W.heap.size := Nat.le_trans hO.hs (Nat.le_trans h.sz h.p.size)
theorem raw_field {rows ys : List (List Value)} {W : World} {base g m cap : Nat} {ok : Nat → Prop} (h : Kd.R (Kd.raw 13) 47 W base ok (.slice (some ⟨g, 0, none⟩) m cap) (rows ++ ys)) {n : Int} (hf : ∀ (i : Nat) (c : List Value), rows[i]? = some c → c[1]? = some (.int .i64 n) ∧ c[2]? = some (.int .i64 (i : Int))) (i : Nat) (hi : i < rows.length) : W.cell? ⟨g, i * 13 + 1, none⟩ = some (.int .i64 n) ∧ W.cell? ⟨g, i * 13 + 2, none⟩ = some (.int .i64 (i : Int)) := by
 obtain ⟨c, hc, hcc⟩ := raw_at h i (by rw [List.length_append]; omega)
 rw [List.getElem?_append_left hi] at hc
 obtain ⟨h1, h2⟩ := hf i c hc
 exact ⟨hcc 1 _ h1, hcc 2 _ h2⟩
theorem at3_reads {G : Gv} {w2 W : World} {ra rc : List (List Value)} {i j n : Nat} {Aa Ac : Option Addr} {ca cc gp gq mp mq cp cq : Nat} (h : At3 G w2 ra rc i j W (.slice (some ⟨gp, 0, none⟩) mp cp) (.slice (some ⟨gq, 0, none⟩) mq cq)) (hra : ra.length = n) (hrc : rc.length = n)
  (hfa : ∀ (i : Nat) (c : List Value), ra[i]? = some c → c[1]? = some (.int .i64 1) ∧ c[2]? = some (.int .i64 (i : Int))) (hfc : ∀ (i : Nat) (c : List Value), rc[i]? = some c → c[1]? = some (.int .i64 3) ∧ c[2]? = some (.int .i64 (i : Int)))
  (ha : G.va = .slice Aa n ca) (hc : G.vc = .slice Ac n cc) (k : Nat) (hk : k < n) : ∃ ga gc, Aa = some ⟨ga, 0, none⟩ ∧ Ac = some ⟨gc, 0, none⟩ ∧ W.cell? ⟨ga, k * 13 + 1, none⟩ = some (.int .i64 1) ∧ W.cell? ⟨ga, k * 13 + 2, none⟩ = some (.int .i64 (k : Int)) ∧ W.cell? ⟨gc, k * 13 + 1, none⟩ = some (.int .i64 3) ∧ W.cell? ⟨gc, k * 13 + 2, none⟩ = some (.int .i64 (k : Int)) ∧ W.cell? ⟨gp, k * 13 + 1, none⟩ = some (.int .i64 1) ∧ W.cell? ⟨gq, k * 13 + 1, none⟩ = some (.int .i64 3) := by
 have hoa := h.p.old
 have hoc := h.q.old
 rw [ha] at hoa
 rw [hc] at hoc
 obtain ⟨ga, ca', hva, _⟩ := Kd.R_form hoa (by omega)
 obtain ⟨gc, cc', hvc, _⟩ := Kd.R_form hoc (by omega)
 injection hva with hA _ hca
 injection hvc with hC _ hcc
 subst hA; subst hC; subst hca; subst hcc
 obtain ⟨pp, _, hRp⟩ := h.p.now
 obtain ⟨qq, _, hRq⟩ := h.q.now
 have f1 := raw_field (ys := []) (by rw [List.append_nil]; exact hoa) hfa k (by omega)
 have f2 := raw_field (ys := []) (by rw [List.append_nil]; exact hoc) hfc k (by omega)
 have f3 := raw_field hRp hfa k (by omega)
 have f4 := raw_field hRq hfc k (by omega)
 exact ⟨ga, gc, rfl, rfl, f1.1, f1.2, f2.1, f2.2, f3.1, f4.1⟩
theorem marked_lit (n k : Int) (w : World) : Calls Try.prog 24 #[.int .i64 n, .int .i64 k] w fun e w' => e = .returned (.agg #[.int .i8 77, .int .i64 n, .int .i64 k, .string ⟨#[]⟩, .int .i64 0, .int .i64 0, .string ⟨#[]⟩, .int .i64 0, .int .i64 0, .slice none 0 0, .bool false, .int .i8 0, .float .f64 0]) ∧ Below w.heap.size w w' := marked_go n k w
theorem same_go {W : World} {K : Nat} {A A' : Option Addr} {c c' : Nat} {xs ws : List S47} (h : gatehouseref05_SameDecls.f K xs ws = some true) (hx : Kd.C k47 W A xs.length xs) (hc : xs.length ≤ c) (hw : Kd.C k47 W A' ws.length ws) (hc' : ws.length ≤ c') :
  Calls Try.prog 9 #[.slice A xs.length c, .slice A' ws.length c'] W fun e w' => e = .returned (.bool true) ∧ Below W.heap.size W w' :=
 gatehouseref05_SameDecls.calls K A c xs A' c' ws true W hx hc hw hc' h
set_option maxHeartbeats 8000000 in
set_option maxRecDepth 100000 in
theorem apart_calls (G : Gv) (hO : G.Ok) (h0 : Gv.At G G.w) (Aw : Option Addr) (cw : Nat) (ws : List S47) (K : Nat) (hW : ∀ W, Below G.s0 G.w W → Kd.C k47 W Aw ws.length ws) (hwc : ws.length ≤ cw) (hsame : gatehouseref05_SameDecls.f K G.xs ws = some true) :
  Calls Try.prog 8 #[G.va, G.vb, G.vc, .slice Aw ws.length cw] G.w fun e w' => e = .returned (.bool true) ∧ Below G.s0 G.w w' := by
 obtain ⟨s0, okA, okB, okC, Aa, ca, Ab, cb, Ac, cc, xs, w⟩ := G
 obtain ⟨G, hG⟩ : ∃ G, G = Gv.mk s0 okA okB okC Aa ca Ab cb Ac cc xs w := ⟨_, rfl⟩
 rw [← hG] at hO h0 hsame hW ⊢
 have e0 : G.va = .slice Aa xs.length ca := by rw [hG]
 have e1 : G.vb = .slice Ab xs.length cb := by rw [hG]
 have e2 : G.vc = .slice Ac xs.length cc := by rw [hG]
 have e3 : G.w = w := by rw [hG]
 have e4 : G.xs = xs := by rw [hG]
 have HG := Aside0.mk hG
 have HE0 := Aside0.mk e0
 have HE1 := Aside0.mk e1
 have HE2 := Aside0.mk e2
 have HE4 := Aside0.mk e4
 rw [e3] at h0 hW
 rw [e4] at hsame
 rw [e0, e1, e2, e3]
 clear hG e0 e1 e2 e4
 have HE3 := Aside0.mk e3
 have HO := Aside0.mk hO
 have HW := Aside0.mk hW
 have HWC := Aside0.mk hwc
 have HS := Aside0.mk hsame
 have H0 := Aside0.mk h0
 have HL := Aside0.mk (show xs.length ≤ 4194304 by have := hO.hl; rwa [HE4.out] at this)
 clear hO hW hwc hsame h0 e3
 have rdA : ∀ {W : World}, Gv.At G W → Kd.C k47 W Aa xs.length xs ∧ xs.length ≤ ca := fun h => by have := Kd.R_reads' (Kd.S_R (show Kd.S k47 47 _ G.s0 G.okA (.slice Aa xs.length ca) xs by have := h.a; rwa [HE0.out, HE4.out] at this)); exact ⟨this.2.2, this.2.1⟩
 have rdC : ∀ {W : World}, Gv.At G W → Kd.C k47 W Ac xs.length xs ∧ xs.length ≤ cc := fun h => by have := Kd.R_reads' (Kd.S_R (show Kd.S k47 47 _ G.s0 G.okC (.slice Ac xs.length cc) xs by have := h.c; rwa [HE2.out, HE4.out] at this)); exact ⟨this.2.2, this.2.1⟩
 have rdB : ∀ {W : World}, Kd.R k47 47 W G.s0 G.okB G.vb G.xs → Kd.C k47 W Ab xs.length xs ∧ xs.length ≤ cb := fun h => by have := Kd.R_reads' (show Kd.R k47 47 _ G.s0 G.okB (.slice Ab xs.length cb) xs by rwa [HE1.out, HE4.out] at h); exact ⟨this.2.2, this.2.1⟩
 have rdW : ∀ {W : World}, Below G.s0 G.w W → Kd.C k47 W Aw ws.length ws := fun h => HW.out _ (by rwa [HE3.out] at h)
 have RA := Aside0.mk @rdA
 have RB := Aside0.mk @rdB
 have RC := Aside0.mk @rdC
 have RW := Aside0.mk @rdW
 clear rdA rdB rdC rdW
 have HE := Aside0.mk (show ∀ i, (rd_T47 xs (i : Nat)).f5.length ≤ 4194304 by have := HO.out.he; rwa [HE4.out] at this)
 have SA := Aside0.mk (fun (W : World) (h : Gv.At G W) => (show Kd.S k47 47 W G.s0 G.okA (.slice Aa xs.length ca) xs by have := h.a; rwa [HE0.out, HE4.out] at this))
 have SC := Aside0.mk (fun (W : World) (h : Gv.At1 G W) => (show Kd.S k47 47 W G.s0 G.okC (.slice Ac xs.length cc) xs by have := h.c; rwa [HE2.out, HE4.out] at this))
 have KA := Aside0.mk (fun (W W1 : World) (h : Sp G.s0 G.okA Aa ca 1 xs W xs.length 0 W1) => (show Sp G.s0 G.okA G.Aa G.ca 1 G.xs W G.xs.length 0 W1 by rw [HG.out] at h ⊢; exact h))
 have KC := Aside0.mk (fun (W W1 : World) (h : Sp G.s0 G.okC Ac cc 3 xs W xs.length 0 W1) => (show Sp G.s0 G.okC G.Ac G.cc 3 G.xs W G.xs.length 0 W1 by rw [HG.out] at h ⊢; exact h))
 go_enter Try.func8, Try.ntmps8
 go_upto_region 4 with (first | (go_at_call 9; first
   | ((with_reducible refine (same_go HS.out (RA.out H0.out).1 (RA.out H0.out).2 (RW.out H0.out.bel) HWC.out).mono ?_); rintro e w1 ⟨rfl, hb⟩; have H1 := Aside0.mk (H0.out.move HO.out hb); clear hb)
   | ((with_reducible refine (same_go HS.out (RB.out H1.out.b).1 (RB.out H1.out.b).2 (RW.out H1.out.bel) HWC.out).mono ?_); rintro e w2 ⟨rfl, hb⟩; have H2 := Aside0.mk (H1.out.move HO.out hb); clear hb)
   | ((with_reducible refine (same_go HS.out (RC.out H2.out).1 (RC.out H2.out).2 (RW.out H2.out.bel) HWC.out).mono ?_); rintro e w3 ⟨rfl, hb⟩; have H3 := Aside0.mk (H2.out.move HO.out hb); clear hb)))
 go_upto_region 9 with (first | (go_at_call 22; first
   | ((with_reducible refine (spoilt_calls G.s0 G.okA Aa ca 1 xs _ (Nat.le_trans HO.out.hs H3.out.sz) (SA.out _ H3.out) HL.out HE.out).mono ?_); rintro e w4 ⟨rfl, hs4⟩; have H4 := Aside0.mk (H3.out.one HO.out (KA.out _ _ hs4)); clear hs4)
   | ((with_reducible refine (spoilt_calls G.s0 G.okC Ac cc 3 xs _ (Nat.le_trans HO.out.hs H4.out.sz) (SC.out _ H4.out) HL.out HE.out).mono ?_); rintro e w5 ⟨rfl, hs5⟩; have H5 := Aside0.mk (H4.out.two HO.out (KC.out _ _ hs5)); clear hs5)))
 clear H0 H1 H2 H3 H4 SA SC KA KC
 have NM := Aside0.mk (fun (k : Nat) (W : World) (h : Gv.At2 G k k W) (hk : k < xs.length) => h.names (by rw [HE4.out]; exact hk))
 go_loopw [12, 14] (fun u12 u14 wr => ∃ k : Nat, k ≤ xs.length ∧ u12 = .bool true ∧ u14 = .int .i64 k ∧ Aside0 (Gv.At2 G k k wr)) (fun _ u14 _ => xs.length - (intOf u14).toNat)
 case atStart => exact ⟨0, by omega, rfl, rfl, H5⟩
 case round =>
  clear H5
  obtain ⟨k, hk, rfl, rfl, HP⟩ := hrel
  by_cases hlt : k < xs.length
  ·have hlt' : ((k : Int) < xs.length) := by omega
   obtain ⟨g, A9, c9, l9, hAa, hcell, hl9, hC9, hall, hlen9⟩ := NM.out k _ HP.out hlt
   have hAa : Aa = some ⟨g, 0, none⟩ := by rw [← hAa, HG.out]
   have HALL := Aside0.mk hall
   have HL9 := Aside0.mk hl9
   have HC9 := Aside0.mk hC9
   have HN9 := Aside0.mk hlen9
   have HAA := Aside0.mk hAa
   clear hall hl9 hC9 hlen9
   subst hAa
   go_upto_region 12 with (first | (go_at_call 23; ((with_reducible refine (full_go A9 c9 l9 1 (k : Int) _ HALL.out (by have := HN9.out; omega) HC9.out HL9.out).mono ?_)); rintro e w4 ⟨rfl, hb4⟩; have HP4 := Aside0.mk (HP.out.move HO.out hb4); clear hb4))
   have PU := Aside0.mk (fun (W : World) (h : Gv.At2 G k k W) => (show ∃ W1, (Instr.storeAt 47 (.pointer (some ⟨g, k * 13, none⟩)) (.agg (mkdV 1 k))).run Try.prog W = .ok () W1 ∧ Gv.At2 G (k + 1) k W1 by
    obtain ⟨g2, hA, W1, h1, h2⟩ := h.put HO.out (by rw [HE4.out]; exact hlt)
    rw [HG.out] at hA
    injection hA with hA
    injection hA with hA
    subst hA
    exact ⟨W1, h1, h2⟩))
   obtain ⟨g3, hg3, _⟩ := HP4.out.putc HO.out (by rw [HE4.out]; exact hlt)
   have hAc : Ac = some ⟨g3, 0, none⟩ := by rw [← hg3, HG.out]
   clear hg3
   subst hAc
   have PC := Aside0.mk (fun (W : World) (h : Gv.At2 G (k + 1) k W) => (show ∃ W1, (Instr.storeAt 47 (.pointer (some ⟨g3, k * 13, none⟩)) (.agg (mkdV 3 k))).run Try.prog W = .ok () W1 ∧ Gv.At2 G (k + 1) (k + 1) W1 by
    obtain ⟨g2, hA, W1, h1, h2⟩ := h.putc HO.out (by rw [HE4.out]; exact hlt)
    rw [HG.out] at hA
    injection hA with hA
    injection hA with hA
    subst hA
    exact ⟨W1, h1, h2⟩))
   go_upto_region 13 with (first
    | (go_at_call 24; ((with_reducible refine (marked_go 1 (k : Int) _).mono ?_); rintro e w6 ⟨rfl, hb6⟩; obtain ⟨w7, hrun7, hst7⟩ := PU.out _ (HP4.out.move HO.out hb6); have HR7 := Aside0.mk hrun7; have HS7 := Aside0.mk hst7; clear hb6 hrun7 hst7))
    | ((with_reducible refine gate_store (t := 47) (p := 62) (v := .tmp 61) rfl ?_); refine wpList_store_run rfl rfl 47 (.tmp 62) (.tmp 61) rfl rfl rfl HR7.out ?_))
   go_wp2_with (first
    | (go_at_call 24; ((with_reducible refine (marked_go 3 (k : Int) _).mono ?_); rintro e w8 ⟨rfl, hb8⟩; obtain ⟨w9, hrun9, hst9⟩ := PC.out _ (HS7.out.move HO.out hb8); have HR9 := Aside0.mk hrun9; have HS9 := Aside0.mk hst9; clear hb8 hrun9 hst9))
    | ((with_reducible refine gate_store (t := 47) (p := 67) (v := .tmp 66) rfl ?_); refine wpList_store_run rfl rfl 47 (.tmp 67) (.tmp 66) rfl rfl rfl HR9.out ?_))
   exact round_end hlt (by have := HL.out; omega) (fun hq => ⟨k + 1, by omega, rfl, hq, HS9⟩)
  ·have hkl : k = xs.length := by omega
   subst hkl
   have hlt' : ¬ ((xs.length : Int) < xs.length) := by omega
   clear hlt hk NM
   obtain ⟨ra, rc, hra, hrc, hfa, hfc, h3⟩ := At3.start HO.out (by have := HP.out; rwa [← HE4.out] at this)
   rw [HE0.out, HE2.out] at h3
   rw [HE4.out] at hra hrc
   have HRA := Aside0.mk hra
   have HRC := Aside0.mk hrc
   have HFA := Aside0.mk hfa
   have HFC := Aside0.mk hfc
   have H3 := Aside0.mk h3
   clear hra hrc hfa hfc h3 HP
   obtain ⟨w2, hw2⟩ : ∃ w2, w2 = wr := ⟨_, rfl⟩
   rw [← hw2] at H3
   go_wp2
   rw [hw2] at H3
   go_loopw [15, 16, 17] (fun u15 u16 u17 wr => ∃ k : Nat, k ≤ 40 ∧ u17 = .int .i64 k ∧ Aside0 (At3 G w2 ra rc k k wr u15 u16)) (fun _ _ u17 _ => 40 - (intOf u17).toNat)
   case atStart => exact ⟨0, by omega, rfl, by rw [← hw2] at H3 ⊢; exact H3⟩
   case round =>
    clear H3 hw2
    obtain ⟨k, hk, rfl, HP⟩ := hrel
    by_cases hlt : k < 40
    ·have hlt' : ((k : Int) < 40) := by omega
     have LM := Aside0.mk (fun (l ys : List (List Value)) (h1 : l.length = xs.length) (h2 : ys.length = k) => (show ((l ++ ys).length + 1) * 128 ≤ 140737488355328 by have := HL.out; rw [List.length_append, h1, h2]; omega))
     go_upto_region 20 with (first
      | (go_at_call 24; ((with_reducible refine (marked_lit 5 (k : Int) _).mono ?_); rintro e w6 ⟨rfl, hb6⟩; have H6 := Aside0.mk (HP.out.move HO.out hb6); obtain ⟨ys6, hy6, hR6⟩ := H6.out.p.now; have HY6 := Aside0.mk hy6; have HR6 := Aside0.mk hR6; clear hb6 hy6 hR6))
      | ((with_reducible refine gate_builtin (b := .append) (xs := #[.tmp 74, .tmp 77]) rfl ?_); at_builtin; refine R_append_two (Kd.raw 13) G.s0 rfl (.tmp 74) (.tmp 77) 29 47 (.agg zV) 128 rfl Try.underlying29 info47 rfl (by decide) u15 (ra ++ ys6) [.int .i8 77, .int .i64 5, .int .i64 k, .string ⟨#[]⟩, .int .i64 0, .int .i64 0, .string ⟨#[]⟩, .int .i64 0, .int .i64 0, .slice none 0 0, .bool false, .int .i8 0, .float .f64 0] [.int .i8 77, .int .i64 5, .int .i64 k, .string ⟨#[]⟩, .int .i64 0, .int .i64 0, .string ⟨#[]⟩, .int .i64 0, .int .i64 0, .slice none 0 0, .bool false, .int .i8 0, .float .f64 0] (fun _ => True) (fun _ => False) rfl rfl ⟨rfl, rfl, by simp [mkdV, Value.oneCell']⟩ (fun _ h => h.elim) (fun _ _ => trivial) HR6.out (H6.out.ge HO.out) (LM.out _ _ HRA.out HY6.out) ?_; intro v7 w7 hR7 hW7; have H7 := Aside0.mk (H6.out.appP HO.out HY6.out hR7 hW7); clear hR7 hW7))
     go_wp2_with (first
      | (go_at_call 24; ((with_reducible refine (marked_lit 7 (k : Int) _).mono ?_); rintro e w8 ⟨rfl, hb8⟩; have H8 := Aside0.mk (H7.out.move HO.out hb8); obtain ⟨ys8, hy8, hR8⟩ := H8.out.q.now; have HY8 := Aside0.mk hy8; have HR8 := Aside0.mk hR8; clear hb8 hy8 hR8))
      | ((with_reducible refine gate_builtin (b := .append) (xs := #[.tmp 79, .tmp 82]) rfl ?_); at_builtin; refine R_append_two (Kd.raw 13) G.s0 rfl (.tmp 79) (.tmp 82) 29 47 (.agg zV) 128 rfl Try.underlying29 info47 rfl (by decide) u16 (rc ++ ys8) [.int .i8 77, .int .i64 7, .int .i64 k, .string ⟨#[]⟩, .int .i64 0, .int .i64 0, .string ⟨#[]⟩, .int .i64 0, .int .i64 0, .slice none 0 0, .bool false, .int .i8 0, .float .f64 0] [.int .i8 77, .int .i64 7, .int .i64 k, .string ⟨#[]⟩, .int .i64 0, .int .i64 0, .string ⟨#[]⟩, .int .i64 0, .int .i64 0, .slice none 0 0, .bool false, .int .i8 0, .float .f64 0] (fun _ => True) (fun _ => False) rfl rfl ⟨rfl, rfl, by simp [Value.oneCell']⟩ (fun _ h => h.elim) (fun _ _ => trivial) HR8.out (H8.out.ge HO.out) (LM.out _ _ HRC.out HY8.out) ?_; intro v9 w9 hR9 hW9; have H9 := Aside0.mk (H8.out.appQ HO.out HY8.out hR9 hW9); clear hR9 hW9))
     exact ⟨⟨k + 1, by omega, by simp, H9⟩, by simp only [intOf]; omega⟩
    ·have hk4 : k = 40 := by omega
     subst hk4
     obtain ⟨pp, hpl, hRp⟩ := HP.out.p.now
     obtain ⟨qq, hql, hRq⟩ := HP.out.q.now
     obtain ⟨gp, cp, hvp, _⟩ := Kd.R_form hRp (by rw [List.length_append, hpl]; omega)
     obtain ⟨gq, cq, hvq, _⟩ := Kd.R_form hRq (by rw [List.length_append, hql]; omega)
     have hlp : (ra ++ pp).length = xs.length + 40 := by rw [List.length_append, hpl, HRA.out]
     have hlq : (rc ++ qq).length = xs.length + 40 := by rw [List.length_append, hql, HRC.out]
     rw [hlp] at hvp
     rw [hlq] at hvq
     subst hvp; subst hvq
     clear hk hlt hRp hRq hpl hql hlp hlq
     have hn4 : ¬ (((40 : Nat) : Int) < 40) := by omega
     go_wp2
     go_loopw [18] (fun u18 wr => ∃ k : Nat, k ≤ xs.length ∧ u18 = .int .i64 k ∧ Aside0 (At3 G w2 ra rc 40 40 wr (.slice (some ⟨gp, 0, none⟩) (xs.length + 40) cp) (.slice (some ⟨gq, 0, none⟩) (xs.length + 40) cq))) (fun u18 _ => xs.length - (intOf u18).toNat)
     case atStart => exact ⟨0, by omega, rfl, HP⟩
     case round =>
      clear HP
      obtain ⟨k, hk, rfl, HP⟩ := hrel
      by_cases hlt : k < xs.length
      ·have hlt' : ((k : Int) < xs.length) := by omega
       obtain ⟨ga, gc, hAa, hAc, x1, x2, x3, x4, x5, x6⟩ := at3_reads HP.out HRA.out HRC.out HFA.out HFC.out (by rw [HE0.out]) (by rw [HE2.out]) k hlt
       subst hAa; subst hAc
       have hk40 : ((k : Int) < xs.length + 40) := by omega
       go_wp2
       exact round_end hlt (by have := HL.out; omega) (fun hq => ⟨k + 1, by omega, hq, HP⟩)
      ·have hkl : k = xs.length := by omega
       subst hkl
       have hlt' : ¬ ((xs.length : Int) < xs.length) := by omega
       clear hlt hk
       go_wp2_with (go_at_call 9; ((with_reducible refine (same_go HS.out (RB.out HP.out.b).1 (RB.out HP.out.b).2 (RW.out HP.out.bel) HWC.out).mono ?_); rintro e w1 ⟨rfl, hb⟩; have H1 := Aside0.mk (HP.out.move HO.out hb); clear hb))
       go_ret
       exact ⟨by simp, by have := H1.out.bel; rwa [HE3.out] at this⟩
end Go.Proofs.Ytacggjhgdkkclaa.KApWalk
namespace Go.Proofs.Ytacggjhgdkkclaa.PG
open Go.Proofs.YtacggjhgdkkclaaF
attribute [local go_sem high] run_feq run_fne run_flt_lt run_flt_le run_flt_gt run_flt_ge
open Go.RowKit Go.Proofs.YtacggjhgdkkclaaW.PrintWords Go.Proofs.YtacggjhgdkkclaaW.PrintLast Go.Proofs.YtacggjhgdkkclaaW.PrintMore
attribute [local go_sem] max2_int min2_int max_two min_two max_three min_three max_four min_four   -- for this text's walks alone
set_option linter.unusedVariables false
set_option linter.unusedSimpArgs false
/-! ### canon_one: function 16 -/
def canon_one.f (a0 : ByteArray) : Option ((List (S44))) := some (([(⟨a0, 0, 0⟩ : S44)] : List (S44)))
set_option maxHeartbeats 8000000 in
set_option maxRecDepth 100000 in
theorem canon_one.calls (a0 : ByteArray) (r : List (S44)) (w : World) (h : canon_one.f a0 = some r) :
    Calls Try.prog 16 #[.string a0] w fun e w' => ∃ v0_ : Value, e = .returned (v0_) ∧ Kd.R k44 44 w' w.heap.size (fun _ => True) v0_ r ∧ Below w.heap.size w w' := by
  have hu44 := Try.underlying44
  have HB := Aside0.mk (Below.refl w.heap.size w)
  have H : (some (([(⟨a0, 0, 0⟩ : S44)] : List (S44)))) = some r := h
  clear h
  obtain ⟨y330, hy330⟩ : ∃ y_ : List (S44), y_ = (([(⟨a0, 0, 0⟩ : S44)] : List (S44))) := ⟨_, rfl⟩
  replace H : (some y330) = some r := by first | (rw [hy330]; with_reducible exact H) | (have H2_ := (Option.bind_some _ _).symm.trans H; rw [hy330]; with_reducible exact H2_) | (have H2_ := (Option.bind_some _ _).symm.trans H; with_reducible exact H2_) | with_reducible exact H | (rw [hy330]; exact H) | exact H
  have Ny330 := Aside0.mk hy330
  clear hy330
  obtain rfl := Option.some.inj H
  go_enter Try.func16, Try.ntmps16
  go_wp2_with (first | ((with_reducible refine gate_dst (N := 5) rfl ?_); refine Kd.R_lit k44 _ 44 ?hg (N := 5) ?hd (xs := ([(⟨a0, 0, 0⟩ : S44)] : List (S44))) (inner := [.string a0, .int .i64 0, .int .i64 0]) (ok := fun _ => True) (okp := fun _ => True) ?hr ?hp (fun _ hk => hk) trivial (Below.refl _ _) (Nat.le_refl _) (by simp) ?_; (case hd => rfl); (case hg => rfl); (case hr => first | (go_simp; done) | (go_simp; rfl)); (case hp => exact (Reps.c3 (show Kd.M k44 _ _ _ (⟨a0, 0, 0⟩ : S44) [.string a0, .int .i64 0, .int .i64 0] from (k44_mkM _ _ _ (⟨a0, 0, 0⟩ : S44) )) (Reps.none _ _))); intro v331 w2 ho3 hb hg_ hnew_; clear hg_ hnew_; (first | rw [← Ny330.out] at ho3 | (simp only [Int.reduceToNat] at ho3; rw [← Ny330.out] at ho3)); have n0_ := Aside0.mk (Kd.R_lower ho3 (below_size (by repeat (first | (with_reducible first | exact HB.out | apply below_alloc | apply pw_below_drewN | apply below_drew1) | exact HB.out)))); have n1_ := Aside0.mk (below_step (by repeat (first | (with_reducible first | exact HB.out | apply below_alloc | apply pw_below_drewN | apply below_drew1) | exact HB.out)) hb); clear HB; have HO332 := n0_; have HB := n1_; clear n0_ n1_; clear hb ho3))
  go_ret
  exact ⟨_, by first | rfl | (simp [errW_none, errW_some] <;> rfl) | (simp [*, errW_none, errW_some] <;> rfl), by (with_reducible repeat (first | apply Kd.R_alloc | apply Kd.R_drewN | apply Kd.R_drew)); exact HO332.out, by repeat (first | (with_reducible first | exact HB.out | apply below_alloc | apply pw_below_drewN | apply below_drew1) | exact HB.out)⟩
end Go.Proofs.Ytacggjhgdkkclaa.PG
/- canon.Decls: the list in its variable, one declaration more. -/
namespace Go.Proofs.Ytacggjhgdkkclaa.KDP
open Go.RowKit Go.Proofs.YtacggjhgdkkclaaW.PrintWords Go.Proofs.YtacggjhgdkkclaaW.PrintLast Go.Proofs.YtacggjhgdkkclaaW.PrintMore Go.Maps
open Go.Proofs.Ytacggjhgdkkclaa Go.Proofs.Ytacggjhgdkkclaa.PG Go.Proofs.YtacggjhgdkkclaaF Go.Proofs.Ytacggjhgdkkclaa.KBase
set_option linter.unusedSimpArgs false
structure Dv (w0 : World) (gp : Nat) (pc : Array Value) (g3 : Nat) (xs : List S47) (W : World) (v : Value) : Prop where
  box : Stays W gp pc 28
  var : Stays W g3 #[v] 29
  row : Kd.S k47 47 W w0.heap.size (fun _ => True) v xs
  below : Below w0.heap.size w0 W
  gg : w0.heap.size ≤ g3
section
variable {w0 W WA W1 : World} {gp g3 : Nat} {pc : Array Value} {xs ys : List S47} {v v1 v9 : Value}
theorem Dv.move (h : Dv w0 gp pc g3 xs W v) (hb : Below W.heap.size W W1) : Dv w0 gp pc g3 xs W1 v :=
  ⟨h.box.below hb, h.var.below hb, Kd.S_below h.row hb, below_then h.below h.below.size hb, h.gg⟩
theorem Dv.cell (h : Dv w0 gp pc g3 xs W v) : W.cell? ⟨g3, 0, none⟩ = some v := h.var.cell 0
theorem typesV : ∀ q, q ∈ 47 :: k47.E → q ≠ 29 := by decide
theorem Dv.kept (h : Dv w0 gp pc g3 xs W v) (hg : W.grownBy W1 v.ownBlock) : Stays W1 g3 #[v] 29 ∧ Stays W1 gp pc 28 ∧ Below w0.heap.size w0 W1 := by
  refine ⟨(hg.block _ (Array.getElem?_eq_some_iff.1 h.var).1 (Kd.S_ne h.row h.var (by decide))).trans h.var, (hg.block _ (Array.getElem?_eq_some_iff.1 h.box).1 (Kd.S_ne h.row h.box (by decide))).trans h.box, ?_⟩
  exact ⟨hg.os.trans h.below.os, hg.tape.trans h.below.tape, hg.output.trans h.below.output, Nat.le_trans h.below.size hg.size, fun k hk => (hg.block k (Nat.lt_of_lt_of_le hk h.below.size) (fun e => by have := Kd.S_base h.row k e.symm; omega)).trans (h.below.block k hk)⟩
theorem Dv.put (h : Dv w0 gp pc g3 xs W v) (hne : gp ≠ g3) (hg : W.grownBy W1 v.ownBlock) (hS : Kd.S k47 47 W1 w0.heap.size (fun _ => True) v1 ys) : Dv w0 gp pc g3 ys (W1.setCell ⟨g3, 0, none⟩ v1) v1 := by
  obtain ⟨k1, k2, k3⟩ := h.kept hg
  exact ⟨stays_far k2 hne v1, stays_set k1 0 v1, Kd.S_set hS k1 typesV 0 v1, below_set k3 h.gg, h.gg⟩
def declV (p : S47) (v9 : Value) : List Value := [.int .i8 p.f0, .int .i64 p.f1, .int .i64 p.f2, .string p.f3.f0, .int .i64 p.f3.f1, .int .i64 p.f3.f2, .string p.f4.f0, .int .i64 p.f4.f1, .int .i64 p.f4.f2, v9, .bool p.f6, .int .i8 p.f7, .float .f64 p.f8]
theorem app_step {ops : Array Oper} {o : Oper} {a : Act} {Q : Exit → Act → World → Prop} {Kc : Act → World → Prop} (h : Dv w0 gp pc g3 xs W v) (hne : gp ≠ g3) (hb : Below W.heap.size W WA) (p : S47) (hn : k44.R 44 WA W.heap.size (fun _ => True) v9 p.f5) (hl : (xs.length + 1) * 128 ≤ 140737488355328)
    (hw : Region.wanted o (yielded ops a.tmps) = true) (s x : Operand) (ho : o.op = .call { callee := .builtin .append, args := #[s, x], argTypes := #[29, 29] }) (hs : a.eval s = v) (hx : a.eval x = .slice (some ⟨WA.heap.size, 0, none⟩) 1 1) (cs : List Value) (hcs : cs = declV p v9)
    (hK : ∀ v1 w1, w1.cell? ⟨g3, 0, none⟩ = some v → w1.frozen? ⟨g3, 0, none⟩ = false → Aside0 (Dv w0 gp pc g3 (xs ++ [p]) (w1.setCell ⟨g3, 0, none⟩ v1) v1) → Kc (a.put o.dst v1) w1) :
    if Region.wanted o (yielded ops a.tmps) = true then Oper.wp Try.prog o a (WA.alloc (.cells cs.toArray 47)) Kc Q else Kc (a.put o.dst undef) (WA.alloc (.cells cs.toArray 47)) := by
  subst hcs
  have hsz : W.heap.size ≤ WA.heap.size := hb.size
  have hws : w0.heap.size ≤ W.heap.size := h.below.size
  refine Kd.S_append_step (W := WA) k47 (w0 := WA) w0.heap.size hw s x 29 47 _ 128 ho Try.underlying29 info47 rfl (by decide) (by decide) v xs p (declV p v9) (fun _ => True) (fun k => W.heap.size ≤ k) hs hx (k47_mkM WA w0.heap.size _ p (Kd.R_lower (Kd.R_mono (Kd.R_bound hn) (fun k hk => hk.2.1)) hws)) (fun k hk => ⟨trivial, fun e => by have := Kd.S_lt h.row k e.symm; omega⟩) (fun _ _ => trivial) (Kd.S_mono (Kd.S_below (Kd.S_bound h.row) hb) (fun k hk => ⟨trivial, by have := hk.2.2.1; omega⟩)) (Below.refl _ _) (Nat.le_trans hws hsz) hl ?_
  intro v1 w1 hS _ hg _
  have h2 := h.move hb
  obtain ⟨k1, _, _⟩ := h2.kept hg
  exact hK v1 w1 (k1.cell 0) (blk_frozen k1 0) ⟨h2.put hne hg hS⟩
end
theorem one_go (s : ByteArray) (w : World) : Calls Try.prog 16 #[.string s] w fun e w' => ∃ v, e = .returned v ∧ Kd.R k44 44 w' w.heap.size (fun _ => True) v [⟨s, 0, 0⟩] ∧ Below w.heap.size w w' := canon_one.calls s _ w rfl
def singleL (kind : Int) (l : List ByteArray) : List S47 := l.map (fun s => ⟨kind, 0, 0, z44, z44, [⟨s, 0, 0⟩], false, 0, 0⟩)
def doubleL (kind : Int) (l : List S59) : List S47 := l.map (fun q => ⟨kind, 0, 0, ⟨q.f0, 0, 0⟩, z44, [⟨q.f1, 0, 0⟩], false, 0, 0⟩)
def subjL (l : List S42) : List S47 := l.map (fun q => ⟨2, 0, 0, z44, z44, [⟨q.f0, 0, 0⟩], false, 0, q.f1⟩)
def excL (l : List S53) : List S47 := l.map (fun q => ⟨12, 0, 0, ⟨q.f0, 0, 0⟩, ⟨q.f1, 0, 0⟩, [⟨q.f2, 0, 0⟩], false, 0, 0⟩)
theorem take_snoc {α β : Type} (f : α → β) (l : List α) (i : Nat) (h : i < l.length) : (l.map f).take (i + 1) = (l.map f).take i ++ [f l[i]] := by
  rw [List.take_succ_eq_append_getElem (by rw [List.length_map]; exact h), List.getElem_map]
theorem wrap_nat (j : Nat) (h : j ≤ 4194304000) : wrap64 ((j : Int) + 1) = ((j + 1 : Nat) : Int) := by unfold wrap64; omega
theorem round_end {n j : Nat} {P : Prop} (h : j < n) (hn : j ≤ 4194304000) (hP : ∀ _ : Value.int .i64 (wrap64 ((j : Int) + 1)) = Value.int .i64 ((j + 1 : Nat) : Int), P) : P ∧ n - (intOf (Value.int .i64 (wrap64 ((j : Int) + 1)))).toNat < n - (intOf (Value.int .i64 (j : Int))).toNat := by
  refine ⟨hP (by rw [wrap_nat j hn]), ?_⟩
  rw [wrap_nat j hn]
  simp only [intOf]
  omega
end Go.Proofs.Ytacggjhgdkkclaa.KDP
/- canon.Decls$1: the closure that lists names. -/
namespace Go.Proofs.Ytacggjhgdkkclaa.KDSingle
open Go.RowKit Go.Proofs.YtacggjhgdkkclaaW.PrintWords Go.Proofs.YtacggjhgdkkclaaW.PrintLast Go.Proofs.YtacggjhgdkkclaaW.PrintMore Go.Maps
open Go.Proofs.Ytacggjhgdkkclaa Go.Proofs.Ytacggjhgdkkclaa.PG Go.Proofs.YtacggjhgdkkclaaF Go.Proofs.Ytacggjhgdkkclaa.KBase Go.Proofs.Ytacggjhgdkkclaa.KDP
set_option linter.unusedSimpArgs false
attribute [local go_sem high] run_feq run_fne run_flt_lt run_flt_le run_flt_gt run_flt_ge
set_option maxHeartbeats 8000000 in
set_option maxRecDepth 100000 in
theorem single_calls (w0 : World) (gp : Nat) (pc : Array Value) (g3 : Nat) (xs : List S47) (v : Value) (kind : Int) (A : Option Addr) (c : Nat) (l : List ByteArray) (w : World) (hne : gp ≠ g3) (hV : Dv w0 gp pc g3 xs w v) (hC : ∀ W, Below w0.heap.size w0 W → Kd.C Kd.string W A l.length l) (hl : xs.length + l.length ≤ 16777216) :
    Calls Try.prog 15 #[.int .i8 kind, .slice A l.length c, .pointer (some ⟨g3, 0, none⟩)] w fun e w' => e = .returned (.tuple #[]) ∧ ∃ v', Dv w0 gp pc g3 (xs ++ singleL kind l) w' v' := by
  have HV0 := Aside0.mk hV
  have HNE := Aside0.mk hne
  have HC := Aside0.mk hC
  have HL := Aside0.mk hl
  clear hV hne hC hl
  go_enter Try.func15, Try.ntmps15
  go_wp2
  go_loopw [9] (fun u9 wr => ∃ (i : Nat) (v : Value), i ≤ l.length ∧ u9 = .int .i64 i ∧ Aside0 (Dv w0 gp pc g3 (xs ++ (singleL kind l).take i) wr v)) (fun u9 _ => l.length - (intOf u9).toNat)
  case atStart => exact ⟨0, v, by omega, rfl, by rw [List.take_zero, List.append_nil]; exact HV0⟩
  case round =>
    clear HV0
    obtain ⟨i, v, hi, rfl, HV⟩ := hrel
    by_cases hlt : i < l.length
    · have hlt' : ((i : Int) < l.length) := by omega
      obtain ⟨ad, cs, rfl, hcl, hK, hcc⟩ := Kd.C_get (HC.out wr HV.out.below) ByteArray.empty (i : Int) (by omega) (by omega)
      have hs0 : cs = [.string l[i]] := by have h1 : cs = [.string (l.getD (i : Int).toNat ByteArray.empty)] := hK; rw [h1]; simp [List.getD_eq_getElem?_getD, hlt]
      obtain ⟨s, hs⟩ : ∃ s, s = l[i] := ⟨_, rfl⟩
      rw [← hs] at hs0
      have hx0 := hcc 0 (.string s) (by rw [hs0]; rfl)
      simp only [Int.toNat_natCast, show Kd.string.sz = 1 from rfl, Nat.mul_one, Nat.add_zero] at hx0
      have HNX := Aside0.mk (show xs ++ (singleL kind l).take (i + 1) = (xs ++ (singleL kind l).take i) ++ [(⟨kind, 0, 0, z44, z44, [⟨s, 0, 0⟩], false, 0, 0⟩ : S47)] by rw [List.append_assoc, hs]; congr 1; exact take_snoc _ l i hlt)
      have HLM := Aside0.mk (show ((xs ++ (singleL kind l).take i).length + 1) * 128 ≤ 140737488355328 by have := HL.out; have h2 : ((singleL kind l).take i).length ≤ i := List.length_take_le _ _; rw [List.length_append]; omega)
      clear hcc hK hs0 hs hcl
      go_upto_region 3 with fail
      refine start_ (n := 8) (S := fun w' => w'.cell? ⟨g3, 0, none⟩ = some v) (ds := [6, 7]) #[false, false, false, false, false, false, false, false] (by kernel_rfl) rfl rfl (show wr.drew.cell? ⟨g3, 0, none⟩ = some v from HV.out.cell) (fun hHeld => ?_)
      refine pure_ (i := 1) (N := some 14) (v := ?_) (a' := ?_) #[false, true, false, false, false, false, false, false] rfl rfl (by kernel_rfl) (fun _ _ _ h => h) (Or.inl ⟨by rfl, ?_⟩) ?_ ?_
      rotate_left
      · intro w'
        go_simp
        with_reducible rfl
      rotate_left
      · simp only [Act.put, List.setIfInBounds_toArray, List.set_cons_zero, List.set_cons_succ]
        rfl
      refine pure_ (i := 2) (N := some 15) (v := ?_) (a' := ?_) #[false, true, true, false, false, false, false, false] rfl rfl (by kernel_rfl) (fun _ _ _ h => h) (Or.inl ⟨by rfl, ?_⟩) ?_ ?_
      rotate_left
      · intro w'
        go_simp
        with_reducible rfl
      rotate_left
      · simp only [Act.put, List.setIfInBounds_toArray, List.set_cons_zero, List.set_cons_succ]
        rfl
      refine take_ (i := 0) (N := some 13) (v := ?_) (a' := ?_) #[true, true, true, false, false, false, false, false] rfl rfl (by kernel_rfl) (fun _ _ _ h => h) (Or.inl ⟨by rfl, ?_⟩) hHeld ?_ ?_
      rotate_left
      · rintro w' s0
        go_simp
        with_reducible rfl
      rotate_left
      · simp only [Act.put, List.setIfInBounds_toArray, List.set_cons_zero, List.set_cons_succ]
        rfl
      refine one_ (i := 3) (N := some 16) #[true, true, true, true, false, false, false, false] rfl rfl (by kernel_rfl) (by decide) (fun K hK => ?_)
      refine goes_ Try.func16 (by kernel_rfl) rfl #[.string s] (by rfl) rfl rfl (by (try simp only [List.map_toArray, List.map_cons, List.map_nil]); first | done | rfl) ?_
      refine (one_go s _).mono ?_
      rintro e W1 ⟨v9, rfl, hR1, hb1⟩
      refine ⟨_, rfl, ?_⟩
      obtain ⟨A9, c9, e9⟩ := Kd.R_slice hR1
      replace e9 : v9 = .slice A9 1 c9 := e9
      subst e9
      have hb2 : Below wr.heap.size wr W1 := below_then (below_drew (Below.refl wr.heap.size wr)) (Nat.le_refl _) hb1
      have HB1 := Aside0.mk hb2
      have HR1 := Aside0.mk (show Kd.R k44 44 W1 wr.heap.size (fun _ => True) (.slice A9 1 c9) [⟨s, 0, 0⟩] from hR1)
      have hh := pw_cell_below hb2 HV.out.cell
      clear hR1 hb1 hb2
      refine hK.out _ _ hh (fun hHeld => ?_)
      clear hK K hh
      refine norm_ (a' := ?_) ?_ ?_
      rotate_left
      · show Act.put _ (some 16) _ = _
        simp only [Act.put, List.setIfInBounds_toArray, List.set_cons_zero, List.set_cons_succ]
        rfl
      refine pure_ (i := 4) (N := some 17) (v := ?_) (a' := ?_) #[true, true, true, true, true, false, false, false] rfl rfl (by kernel_rfl) (fun _ _ _ h => h) (Or.inl ⟨by rfl, ?_⟩) ?_ ?_
      rotate_left
      · intro w'
        go_simp
        with_reducible rfl
      rotate_left
      · simp only [Act.put, List.setIfInBounds_toArray, List.set_cons_zero, List.set_cons_succ]
        rfl
      refine one_ (i := 5) (N := some 18) #[true, true, true, true, true, true, false, false] rfl rfl (by kernel_rfl) (by decide) (fun K hK => ?_)
      refine step_run (w' := W1.alloc (.cells #[.int .i8 kind, .int .i64 0, .int .i64 0, .string ⟨#[]⟩, .int .i64 0, .int .i64 0, .string ⟨#[]⟩, .int .i64 0, .int .i64 0, .slice A9 1 c9, .bool false, .int .i8 0, .float .f64 0] 47)) (v := .slice (some ⟨W1.heap.size, 0, none⟩) 1 1) rfl rfl (by go_simp) ?_
      have hh := pw_cell_below (below_alloc (Below.refl _ W1) (.cells #[.int .i8 kind, .int .i64 0, .int .i64 0, .string ⟨#[]⟩, .int .i64 0, .int .i64 0, .string ⟨#[]⟩, .int .i64 0, .int .i64 0, .slice A9 1 c9, .bool false, .int .i8 0, .float .f64 0] 47)) hHeld
      clear hHeld
      refine hK.out _ _ hh (fun hHeld => ?_)
      clear hK K hh hHeld
      refine norm_ (a' := ?_) ?_ ?_
      rotate_left
      · show Act.put _ (some 18) _ = _
        simp only [Act.put, List.setIfInBounds_toArray, List.set_cons_zero, List.set_cons_succ]
        rfl
      refine last_ (i := 6) (N := some 19) #[true, true, true, true, true, true, true, false] rfl rfl (by kernel_rfl) (by decide) (fun K hK => ?_)
      refine app_step HV.out HNE.out HB1.out (⟨kind, 0, 0, z44, z44, [⟨s, 0, 0⟩], false, 0, 0⟩ : S47) HR1.out HLM.out rfl (.tmp 13) (.tmp 18) rfl rfl rfl [.int .i8 kind, .int .i64 0, .int .i64 0, .string ⟨#[]⟩, .int .i64 0, .int .i64 0, .string ⟨#[]⟩, .int .i64 0, .int .i64 0, .slice A9 1 c9, .bool false, .int .i8 0, .float .f64 0] rfl ?_
      intro v2 w2 x2 y2 HV2
      refine hK.out _ _ ?_
      clear hK K
      refine norm_ (a' := ?_) ?_ ?_
      rotate_left
      · show Act.put _ (some 19) _ = _
        simp only [Act.put, List.setIfInBounds_toArray, List.set_cons_zero, List.set_cons_succ]
        rfl
      refine last_ (i := 7) (N := none) #[true, true, true, true, true, true, true, true] rfl rfl (by kernel_rfl) (by decide) (fun K hK => ?_)
      refine KBase.step_skip (w' := w2.setCell ⟨g3, 0, none⟩ v2) rfl rfl (by obtain ⟨A2, c2, e2⟩ := Kd.S_slice HV2.out.row; rw [e2] at *; go_simp) ?_
      refine hK.out _ _ ?_
      clear hK K x2 y2
      refine done_ (by kernel_rfl) ?_
      rw [← HNX.out] at HV2
      go_wp2
      exact round_end hlt (by have := HL.out; omega) (fun hq => ⟨i + 1, v2, by omega, hq, HV2⟩)
    · have hil : i = l.length := by omega
      subst hil
      have hlt' : ¬ ((l.length : Int) < l.length) := by omega
      have hfull : (singleL kind l).take l.length = singleL kind l := List.take_of_length_le (by unfold singleL; rw [List.length_map]; exact Nat.le_refl _)
      rw [hfull] at HV
      clear hfull hlt hi
      go_wp2
      (try simp only [Exit.inBlock, Exit.then])
      refine bodyPost_end (results_none rfl _ _ _) rfl ?_
      exact ⟨rfl, v, HV.out⟩
end Go.Proofs.Ytacggjhgdkkclaa.KDSingle
/- canon.Decls$2: the closure that lists pairs. -/
namespace Go.Proofs.Ytacggjhgdkkclaa.KDDouble
open Go.RowKit Go.Proofs.YtacggjhgdkkclaaW.PrintWords Go.Proofs.YtacggjhgdkkclaaW.PrintLast Go.Proofs.YtacggjhgdkkclaaW.PrintMore Go.Maps
open Go.Proofs.Ytacggjhgdkkclaa Go.Proofs.Ytacggjhgdkkclaa.PG Go.Proofs.YtacggjhgdkkclaaF Go.Proofs.Ytacggjhgdkkclaa.KBase Go.Proofs.Ytacggjhgdkkclaa.KDP
set_option linter.unusedSimpArgs false
attribute [local go_sem high] run_feq run_fne run_flt_lt run_flt_le run_flt_gt run_flt_ge
set_option maxHeartbeats 8000000 in
set_option maxRecDepth 100000 in
theorem double_calls (w0 : World) (gp : Nat) (pc : Array Value) (g3 : Nat) (xs : List S47) (v : Value) (kind : Int) (A : Option Addr) (c : Nat) (l : List S59) (w : World) (hne : gp ≠ g3) (hV : Dv w0 gp pc g3 xs w v) (hC : ∀ W, Below w0.heap.size w0 W → Kd.C k59 W A l.length l) (hl : xs.length + l.length ≤ 16777216) :
    Calls Try.prog 17 #[.int .i8 kind, .slice A l.length c, .pointer (some ⟨g3, 0, none⟩)] w fun e w' => e = .returned (.tuple #[]) ∧ ∃ v', Dv w0 gp pc g3 (xs ++ doubleL kind l) w' v' := by
  have HV0 := Aside0.mk hV
  have HNE := Aside0.mk hne
  have HC := Aside0.mk hC
  have HL := Aside0.mk hl
  clear hV hne hC hl
  go_enter Try.func17, Try.ntmps17
  go_wp2
  go_loopw [9] (fun u9 wr => ∃ (i : Nat) (v : Value), i ≤ l.length ∧ u9 = .int .i64 i ∧ Aside0 (Dv w0 gp pc g3 (xs ++ (doubleL kind l).take i) wr v)) (fun u9 _ => l.length - (intOf u9).toNat)
  case atStart => exact ⟨0, v, by omega, rfl, by rw [List.take_zero, List.append_nil]; exact HV0⟩
  case round =>
    clear HV0
    obtain ⟨i, v, hi, rfl, HV⟩ := hrel
    by_cases hlt : i < l.length
    · have hlt' : ((i : Int) < l.length) := by omega
      obtain ⟨ad, rfl, hx0, hx1⟩ := at_T59 (HC.out wr HV.out.below) (i : Int) (by omega) (by omega)
      have hq : rd_T59 l (i : Int) = l[i] := by simp [rd_T59, List.getD_eq_getElem?_getD, hlt]
      rw [hq] at hx0 hx1
      obtain ⟨q, hqq⟩ : ∃ q, q = l[i] := ⟨_, rfl⟩
      rw [← hqq] at hx0 hx1
      simp only [Int.toNat_natCast] at hx0 hx1
      have HNX := Aside0.mk (show xs ++ (doubleL kind l).take (i + 1) = (xs ++ (doubleL kind l).take i) ++ [(⟨kind, 0, 0, ⟨q.f0, 0, 0⟩, z44, [⟨q.f1, 0, 0⟩], false, 0, 0⟩ : S47)] by rw [List.append_assoc, hqq]; congr 1; exact take_snoc _ l i hlt)
      have HLM := Aside0.mk (show ((xs ++ (doubleL kind l).take i).length + 1) * 128 ≤ 140737488355328 by have := HL.out; have h2 : ((doubleL kind l).take i).length ≤ i := List.length_take_le _ _; rw [List.length_append]; omega)
      clear hq hqq
      have hz59 : ∀ w : World, (zeroValue 59).run Try.prog w = .ok (.agg #[.string ⟨#[]⟩, .string ⟨#[]⟩]) w := fun w => by kernel_rfl
      have HZ := Aside0.mk hz59
      clear hz59
      go_upto_region 3 with (first | ((with_reducible refine gate_dst (N := 6) rfl ?_); refine wpList_alloc_store rfl rfl 59 6 (.tmp 12) rfl rfl rfl #[.string ⟨#[]⟩, .string ⟨#[]⟩] #[.string q.f0, .string q.f1] _ (HZ.out _) rfl (by kernel_rfl) rfl (by simp [Value.oneCell']) rfl rfl ?_))
      have hg6 : Stays (wr.alloc (.cells #[.string q.f0, .string q.f1] 59)) wr.heap.size #[.string q.f0, .string q.f1] 59 := heap_alloc_new wr (.cells #[.string q.f0, .string q.f1] 59)
      have HV := Aside0.mk (HV.out.move (below_alloc (Below.refl _ wr) (.cells #[.string q.f0, .string q.f1] 59)))
      obtain ⟨g6, hg6e⟩ : ∃ g6, g6 = wr.heap.size := ⟨_, rfl⟩
      rw [← hg6e] at hg6 ⊢
      have HG6 := Aside0.mk hg6
      generalize wr.alloc (.cells #[.string q.f0, .string q.f1] 59) = wr at HV HG6 ⊢
      clear hg6 hg6e HZ hx0 hx1
      refine start_ (n := 12) (S := fun w' => w'.cell? ⟨g3, 0, none⟩ = some v ∧ w'.cell? ⟨g6, 0, none⟩ = some (.string q.f0) ∧ w'.cell? ⟨g6, 1, none⟩ = some (.string q.f1)) (ds := [10, 11]) #[false, false, false, false, false, false, false, false, false, false, false, false] (by kernel_rfl) rfl rfl (show wr.drew.cell? ⟨g3, 0, none⟩ = some v ∧ wr.drew.cell? ⟨g6, 0, none⟩ = some (.string q.f0) ∧ wr.drew.cell? ⟨g6, 1, none⟩ = some (.string q.f1) from ⟨HV.out.cell, HG6.out.cell 0, HG6.out.cell 1⟩) (fun hHeld => ?_)
      refine pure_ (i := 1) (N := some 14) (v := ?_) (a' := ?_) #[false, true, false, false, false, false, false, false, false, false, false, false] rfl rfl (by kernel_rfl) (fun _ _ _ h => h) (Or.inl ⟨by rfl, ?_⟩) ?_ ?_
      rotate_left
      · intro w'
        go_simp
        with_reducible rfl
      rotate_left
      · simp only [Act.put, List.setIfInBounds_toArray, List.set_cons_zero, List.set_cons_succ]
        rfl
      refine pure_ (i := 2) (N := some 15) (v := ?_) (a' := ?_) #[false, true, true, false, false, false, false, false, false, false, false, false] rfl rfl (by kernel_rfl) (fun _ _ _ h => h) (Or.inl ⟨by rfl, ?_⟩) ?_ ?_
      rotate_left
      · intro w'
        go_simp
        with_reducible rfl
      rotate_left
      · simp only [Act.put, List.setIfInBounds_toArray, List.set_cons_zero, List.set_cons_succ]
        rfl
      refine pure_ (i := 5) (N := some 18) (v := ?_) (a' := ?_) #[false, true, true, false, false, true, false, false, false, false, false, false] rfl rfl (by kernel_rfl) (fun _ _ _ h => h) (Or.inl ⟨by rfl, ?_⟩) ?_ ?_
      rotate_left
      · intro w'
        go_simp
        with_reducible rfl
      rotate_left
      · simp only [Act.put, List.setIfInBounds_toArray, List.set_cons_zero, List.set_cons_succ]
        rfl
      refine take_ (i := 0) (N := some 13) (v := ?_) (a' := ?_) #[true, true, true, false, false, true, false, false, false, false, false, false] rfl rfl (by kernel_rfl) (fun _ _ _ h => h) (Or.inl ⟨by rfl, ?_⟩) hHeld ?_ ?_
      rotate_left
      · rintro w' ⟨s0, s1, s2⟩
        go_simp
        with_reducible rfl
      rotate_left
      · simp only [Act.put, List.setIfInBounds_toArray, List.set_cons_zero, List.set_cons_succ]
        rfl
      refine take_ (i := 3) (N := some 16) (v := ?_) (a' := ?_) #[true, true, true, true, false, true, false, false, false, false, false, false] rfl rfl (by kernel_rfl) (fun _ _ _ h => h) (Or.inl ⟨by rfl, ?_⟩) hHeld ?_ ?_
      rotate_left
      · rintro w' ⟨s0, s1, s2⟩
        go_simp
        with_reducible rfl
      rotate_left
      · simp only [Act.put, List.setIfInBounds_toArray, List.set_cons_zero, List.set_cons_succ]
        rfl
      refine take_ (i := 6) (N := some 19) (v := ?_) (a' := ?_) #[true, true, true, true, false, true, true, false, false, false, false, false] rfl rfl (by kernel_rfl) (fun _ _ _ h => h) (Or.inl ⟨by rfl, ?_⟩) hHeld ?_ ?_
      rotate_left
      · rintro w' ⟨s0, s1, s2⟩
        go_simp
        with_reducible rfl
      rotate_left
      · simp only [Act.put, List.setIfInBounds_toArray, List.set_cons_zero, List.set_cons_succ]
        rfl
      refine pure_ (i := 4) (N := some 17) (v := ?_) (a' := ?_) #[true, true, true, true, true, true, true, false, false, false, false, false] rfl rfl (by kernel_rfl) (fun _ _ _ h => h) (Or.inl ⟨by rfl, ?_⟩) ?_ ?_
      rotate_left
      · intro w'
        go_simp
        with_reducible rfl
      rotate_left
      · simp only [Act.put, List.setIfInBounds_toArray, List.set_cons_zero, List.set_cons_succ]
        rfl
      refine one_ (i := 7) (N := some 20) #[true, true, true, true, true, true, true, true, false, false, false, false] rfl rfl (by kernel_rfl) (by decide) (fun K hK => ?_)
      refine goes_ Try.func16 (by kernel_rfl) rfl #[.string q.f1] (by rfl) rfl rfl (by (try simp only [List.map_toArray, List.map_cons, List.map_nil]); first | done | rfl) ?_
      refine (one_go q.f1 _).mono ?_
      rintro e W1 ⟨v9, rfl, hR1, hb1⟩
      refine ⟨_, rfl, ?_⟩
      obtain ⟨A9, c9, e9⟩ := Kd.R_slice hR1
      replace e9 : v9 = .slice A9 1 c9 := e9
      subst e9
      have hb2 : Below wr.heap.size wr W1 := below_then (below_drew (Below.refl wr.heap.size wr)) (Nat.le_refl _) hb1
      have HB1 := Aside0.mk hb2
      have HR1 := Aside0.mk (show Kd.R k44 44 W1 wr.heap.size (fun _ => True) (.slice A9 1 c9) [⟨q.f1, 0, 0⟩] from hR1)
      have hh := And.intro (pw_cell_below hb2 HV.out.cell) (And.intro (pw_cell_below hb2 (HG6.out.cell 0)) (pw_cell_below hb2 (HG6.out.cell 1)))
      clear hR1 hb1 hb2
      refine hK.out _ _ hh (fun hHeld => ?_)
      clear hK K hh
      refine norm_ (a' := ?_) ?_ ?_
      rotate_left
      · show Act.put _ (some 20) _ = _
        simp only [Act.put, List.setIfInBounds_toArray, List.set_cons_zero, List.set_cons_succ]
        rfl
      refine pure_ (i := 8) (N := some 21) (v := ?_) (a' := ?_) #[true, true, true, true, true, true, true, true, true, false, false, false] rfl rfl (by kernel_rfl) (fun _ _ _ h => h) (Or.inl ⟨by rfl, ?_⟩) ?_ ?_
      rotate_left
      · intro w'
        go_simp
        with_reducible rfl
      rotate_left
      · simp only [Act.put, List.setIfInBounds_toArray, List.set_cons_zero, List.set_cons_succ]
        rfl
      refine one_ (i := 9) (N := some 22) #[true, true, true, true, true, true, true, true, true, true, false, false] rfl rfl (by kernel_rfl) (by decide) (fun K hK => ?_)
      refine step_run (w' := W1.alloc (.cells #[.int .i8 kind, .int .i64 0, .int .i64 0, .string q.f0, .int .i64 0, .int .i64 0, .string ⟨#[]⟩, .int .i64 0, .int .i64 0, .slice A9 1 c9, .bool false, .int .i8 0, .float .f64 0] 47)) (v := .slice (some ⟨W1.heap.size, 0, none⟩) 1 1) rfl rfl (by go_simp) ?_
      have hba := below_alloc (Below.refl _ W1) (.cells #[.int .i8 kind, .int .i64 0, .int .i64 0, .string q.f0, .int .i64 0, .int .i64 0, .string ⟨#[]⟩, .int .i64 0, .int .i64 0, .slice A9 1 c9, .bool false, .int .i8 0, .float .f64 0] 47)
      have hh := And.intro (pw_cell_below hba hHeld.1) (And.intro (pw_cell_below hba hHeld.2.1) (pw_cell_below hba hHeld.2.2))
      clear hba
      clear hHeld
      refine hK.out _ _ hh (fun hHeld => ?_)
      clear hK K hh hHeld
      refine norm_ (a' := ?_) ?_ ?_
      rotate_left
      · show Act.put _ (some 22) _ = _
        simp only [Act.put, List.setIfInBounds_toArray, List.set_cons_zero, List.set_cons_succ]
        rfl
      refine last_ (i := 10) (N := some 23) #[true, true, true, true, true, true, true, true, true, true, true, false] rfl rfl (by kernel_rfl) (by decide) (fun K hK => ?_)
      refine app_step HV.out HNE.out HB1.out (⟨kind, 0, 0, ⟨q.f0, 0, 0⟩, z44, [⟨q.f1, 0, 0⟩], false, 0, 0⟩ : S47) HR1.out HLM.out rfl (.tmp 13) (.tmp 22) rfl rfl rfl [.int .i8 kind, .int .i64 0, .int .i64 0, .string q.f0, .int .i64 0, .int .i64 0, .string ⟨#[]⟩, .int .i64 0, .int .i64 0, .slice A9 1 c9, .bool false, .int .i8 0, .float .f64 0] rfl ?_
      intro v2 w2 x2 y2 HV2
      refine hK.out _ _ ?_
      clear hK K
      refine norm_ (a' := ?_) ?_ ?_
      rotate_left
      · show Act.put _ (some 23) _ = _
        simp only [Act.put, List.setIfInBounds_toArray, List.set_cons_zero, List.set_cons_succ]
        rfl
      refine last_ (i := 11) (N := none) #[true, true, true, true, true, true, true, true, true, true, true, true] rfl rfl (by kernel_rfl) (by decide) (fun K hK => ?_)
      refine KBase.step_skip (w' := w2.setCell ⟨g3, 0, none⟩ v2) rfl rfl (by obtain ⟨A2, c2, e2⟩ := Kd.S_slice HV2.out.row; rw [e2] at *; go_simp) ?_
      refine hK.out _ _ ?_
      clear hK K x2 y2
      refine done_ (by kernel_rfl) ?_
      rw [← HNX.out] at HV2
      go_wp2
      exact round_end hlt (by have := HL.out; omega) (fun hq => ⟨i + 1, v2, by omega, hq, HV2⟩)
    · have hil : i = l.length := by omega
      subst hil
      have hlt' : ¬ ((l.length : Int) < l.length) := by omega
      have hfull : (doubleL kind l).take l.length = doubleL kind l := List.take_of_length_le (by unfold doubleL; rw [List.length_map]; exact Nat.le_refl _)
      rw [hfull] at HV
      clear hfull hlt hi
      go_wp2
      (try simp only [Exit.inBlock, Exit.then])
      refine bodyPost_end (results_none rfl _ _ _) rfl ?_
      exact ⟨rfl, v, HV.out⟩
end Go.Proofs.Ytacggjhgdkkclaa.KDDouble
/- canon.Decls: many declarations more. -/
namespace Go.Proofs.Ytacggjhgdkkclaa.KDR
open Go.RowKit Go.Proofs.YtacggjhgdkkclaaW.PrintWords Go.Proofs.YtacggjhgdkkclaaW.PrintLast Go.Proofs.YtacggjhgdkkclaaW.PrintMore Go.Maps
open Go.Proofs.Ytacggjhgdkkclaa Go.Proofs.Ytacggjhgdkkclaa.PG Go.Proofs.YtacggjhgdkkclaaF Go.Proofs.Ytacggjhgdkkclaa.KBase Go.Proofs.Ytacggjhgdkkclaa.KDP
set_option linter.unusedSimpArgs false
theorem Stays.range {w : World} {g t : Nat} {cs : Array Value} (h : Stays w g cs t) (l : List Value) (hl : cs.toList = l) : w.rangeAt g 0 l := fun j v hv => by
  subst hl
  rw [h.cell, Nat.zero_add, ← hv]; simp
open Classical in
theorem S_rows {α : Type} {d : Kd α} {e base : Nat} {ok1 ok2 : Nat → Prop} {W : World} {v1 v2 : Value} {xs ys : List α} (h1 : Kd.S d e W base ok1 v1 xs) (h2 : Kd.S d e W base ok2 v2 ys) (hdis : ∀ k, ok2 k → ¬ ok1 k) :
    ∃ f, (Kd.tag f d).R e W base ok1 v1 xs.zipIdx ∧ (Kd.tag f d).R e W base ok2 v2 (ys.zipIdx xs.length) := by
  obtain ⟨f1, hR1⟩ := h1
  obtain ⟨f2, h0, inner, ho, hr⟩ := h2
  refine ⟨fun k => if ok1 k then f1 k else xs.length + f2 k, Kd.R_tag hR1 (fun k hk _ => if_pos hk), h0, inner, by rw [List.length_zipIdx] at ho ⊢; exact ho, ?_, fun j p hj => ?_⟩
  · have := hr.1
    rw [List.length_zipIdx] at this ⊢
    exact this
  · rw [List.getElem?_zipIdx] at hj
    obtain ⟨y, hy, rfl⟩ := Option.map_eq_some_iff.1 hj
    have hM : (Kd.tag f2 d).M W base (fun k => ok2 k ∧ some k ≠ v2.ownBlock) (y, j) ((inner.drop (j * d.sz)).take d.sz) := hr.2 j (y, j) (Kd.zip_at hy)
    exact d.M_mono (fun k hk => ⟨hk.1, by
      show (if ok1 k then f1 k else xs.length + f2 k) = xs.length + j
      rw [if_neg (hdis k hk.1.1)]
      have : f2 k = j := hk.2
      rw [this]⟩) hM
theorem rows_step {w0 W WA : World} {gp g3 : Nat} {pc : Array Value} {xs rs : List S47} {v : Value} {A : Option Addr} {c : Nat} {ops : Array Oper} {o : Oper} {a : Act} {Q : Exit → Act → World → Prop} {Kc : Act → World → Prop} (h : Dv w0 gp pc g3 xs W v) (hne : gp ≠ g3) (hb : Below W.heap.size W WA) (hS : Kd.S k47 47 WA W.heap.size (fun _ => True) (.slice A rs.length c) rs) (hl : (xs.length + rs.length) * 128 ≤ 140737488355328)
    (hw : Region.wanted o (yielded ops a.tmps) = true) (s x : Operand) (ho : o.op = .call { callee := .builtin .append, args := #[s, x], argTypes := #[29, 29] }) (hs : a.eval s = v) (hx : a.eval x = .slice A rs.length c)
    (hK : ∀ v1 w1, w1.cell? ⟨g3, 0, none⟩ = some v → w1.frozen? ⟨g3, 0, none⟩ = false → Aside0 (Dv w0 gp pc g3 (xs ++ rs) (w1.setCell ⟨g3, 0, none⟩ v1) v1) → Kc (a.put o.dst v1) w1) :
    if Region.wanted o (yielded ops a.tmps) = true then Oper.wp Try.prog o a WA Kc Q else Kc (a.put o.dst undef) WA := by
  have hsz : W.heap.size ≤ WA.heap.size := hb.size
  have hws : w0.heap.size ≤ W.heap.size := h.below.size
  obtain ⟨f, hR1, hR2⟩ := S_rows (ok1 := fun k => k < W.heap.size) (ok2 := fun k => W.heap.size ≤ k) (Kd.S_mono (Kd.S_below (Kd.S_bound h.row) hb) (fun k hk => hk.2.2.1)) (Kd.S_lower (Kd.S_mono (Kd.S_bound hS) (fun k hk => hk.2.1)) hws) (fun k hk => by omega)
  obtain ⟨hok2, inner, ho2, hr2⟩ := hR2
  have hn : (rs.zipIdx xs.length).length = rs.length := List.length_zipIdx
  rw [hn] at ho2
  obtain ⟨A', c', hv, HR⟩ := own_reads_row ho2 hr2 hn
  injection hv with hA _ hc
  subst hA; subst hc
  refine Kd.R_append_rows_step (Kd.tag f k47) (w0 := WA) w0.heap.size hw s x 29 47 _ 128 ho Try.underlying29 info47 rfl (show 0 < 13 by decide) (by decide) v xs.zipIdx (rs.zipIdx xs.length) A rs.length c (fun _ => True) (fun k => W.heap.size ≤ k ∧ some k ≠ (Value.slice A rs.length c).ownBlock) hs hx (Kd.R_mono hR1 (fun _ _ => trivial)) HR (fun _ _ h => h) (fun k hk => ⟨trivial, fun e => by have := Kd.S_lt h.row k e.symm; omega⟩) (fun _ _ => trivial) (Below.refl _ _) (Nat.le_trans hws hsz) (by rw [List.length_zipIdx]; exact hl) ?_
  intro v1 w1 hS1 _ hg _
  have h2 := h.move hb
  obtain ⟨k1, _, _⟩ := h2.kept hg
  have hz : xs.zipIdx ++ rs.zipIdx xs.length = (xs ++ rs).zipIdx := by rw [List.zipIdx_append, Nat.zero_add]
  rw [hz] at hS1
  exact hK v1 w1 (k1.cell 0) (blk_frozen k1 0) ⟨h2.put hne hg ⟨f, hS1⟩⟩
end Go.Proofs.Ytacggjhgdkkclaa.KDR
