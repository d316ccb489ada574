/- Of this session's texts, what the row uses: RRun, EStep, EWords, EEnded, RIndex, RHcheck, CPure, CBits, GBlk, CClasses, MSubj, MAbout, MAllowsPure, MAllow, MIdx, MAllows, MRelPure, MAbout2. -/
import Derived.Test.YtdgkppldopiaoaaGreatZ3
import Derived.Test.YtdgkppldopiaoaaGreatZ2
import Derived.Deep.OwnRows
import Derived.Laws.MakeOwn
import Derived.Deep.MidRow
set_option linter.unusedSimpArgs false
set_option linter.unusedVariables false
set_option maxHeartbeats 8000000
set_option maxRecDepth 100000
/- A step of a check, whatever comes next; finish (gatehouselaw23), walked. -/
namespace Go.Proofs.YtdgkppldopiaoaaGreat.RRun
open Go.RowKit YtdgkppldopiaoaaGreatW.PrintWords YtdgkppldopiaoaaGreatW.PrintLast YtdgkppldopiaoaaGreatW.PrintMore BMap BRow GDiffer MLines MPol MPut RMem RCells REpoch RMach RSteps RSeek RLook RNum RCache RBegin RCat RCget RCput RVer RKnown RLk RMask RTrace RMStep Go.Maps
open PG
set_option maxHeartbeats 1000000
set_option maxRecDepth 100000
theorem Ry.step3 {F : Nat → Prop} {S : Sh} {w w1 : World} {x x1 : X} {bset : Nat} {C : Cst} (h : Ry F S w x bset C) (hr : Rd F S w1 x1) (hk : Keep (Out3 F S) w w1) (hc : x1.m.cache = x.m.cache) : Ry F S w1 x1 bset C :=
 ⟨hr, fun bc e => by
  have h0 := h.cd bc (hc.symm.trans e)
  exact ⟨CacheAt.move h0.at_ (fun k hk' hn => hk.at_ k hk' ⟨(h0.own k hn).1, (h0.own k hn).2.1, (h0.own k hn).2.2.2.2⟩), h0.own⟩⟩
def verS (flaw : Int) (x : X) (C : Cst) : Option (X × Cst) :=
 if lkE x.ws x.m.page = 0 then
  if x.m.check = false then some ({ x.acc x.m.page with m := verM x.m (lkV x.ws x.m.page) }, C)
  else match x.m.cache with
   | none => some ({ x.acc x.m.page with m := { verM x.m (lkV x.ws x.m.page) with next := some 106 } }, C)
   | some _ => (getC C (tagI flaw (verM x.m (lkV x.ws x.m.page))) x.m.y0 x.m.y1 x.m.y2).map fun r => ({ x.acc x.m.page with m := gotM (verM x.m (lkV x.ws x.m.page)) r.1 r.2.1 }, r.2.2)
 else some ({ x.acc x.m.page with m := brk x.m }, C)
theorem ver_calls (F : Nat → Prop) (S : Sh) (w : World) (x : X) (now : Int) (bset : Nat) (C : Cst) (hy : Ry F S w x bset C) (hl : x.tr.length < 1000000000000) (x' : X) (C' : Cst) (hs : verS S.flaw x C = some (x', C')) :
  Calls Tryz.prog 84 #[.pointer (some ⟨S.b, 0, none⟩), .int .i64 now] w fun e w' => e = .returned (.tuple #[]) ∧ Ry F S w' x' bset C' ∧ Keep (KF F S x.m.cache bset C) w w' := by
 unfold verS at hs
 split at hs
 ·rename_i h0
  split at hs
  ·rename_i hc
   cases hs
   exact (version_plain F S w x now _ hy.rd hl h0 rfl hc).mono fun e w' h => ⟨h.1, hy.step h.2.1 h.2.2 rfl, h.2.2.less KF_out⟩
  ·rename_i hc
   have hc' : x.m.check = true := by cases h : x.m.check <;> simp_all
   split at hs
   ·rename_i hn
    cases hs
    exact (version_bare F S w x now _ hy.rd hl h0 rfl hc' hn).mono fun e w' h => ⟨h.1, hy.step h.2.1 h.2.2 rfl, h.2.2.less KF_out⟩
   ·rename_i bc hn
    obtain ⟨⟨al, hit, C1⟩, h1, h2⟩ := Option.map_eq_some_iff.1 hs
    cases h2
    refine (version_cache F S w x now _ bc bset C _ al hit hy.rd hl h0 rfl hc' hn (hy.cd bc hn) h1).mono fun e w' h => ⟨h.1, ⟨h.2.1, fun bc' e' => ?_⟩, h.2.2.2.less (fun k hk => ⟨⟨hk.1, hk.2.1⟩, hk.2.2.2 bc hn⟩)⟩
    obtain rfl : bc' = bc := Option.some.inj (e'.symm.trans hn)
    exact Cd.of (hy.cd bc' hn) (getC_blks h1) h.2.2.1
 ·rename_i h0
  cases hs
  exact (version_bad F S w x now hy.rd hl h0).mono fun e w' h => ⟨h.1, hy.step h.2.1 h.2.2 rfl, h.2.2.less KF_out⟩
theorem verS_blks {flaw : Int} {x x' : X} {C C' : Cst} (hs : verS flaw x C = some (x', C')) : blks C' = blks C := by
 unfold verS at hs
 split at hs
 ·split at hs
  ·cases hs; rfl
  ·split at hs
   ·cases hs; rfl
   ·obtain ⟨⟨al, hit, C1⟩, h1, h2⟩ := Option.map_eq_some_iff.1 hs
    cases h2
    exact getC_blks h1
 ·cases hs; rfl
theorem lookS_blks {flaw : Int} {x x' : X} {C C' : Cst} (hs : lookS flaw x C = some (x', C')) : blks C' = blks C := by
 unfold lookS at hs
 split at hs
 ·split at hs
  ·cases hs; rfl
  ·split at hs
   ·obtain ⟨C1, h1, h2⟩ := Option.map_eq_some_iff.1 hs
    cases h2
    exact knownC_blks h1
   ·cases hs; rfl
 ·cases hs; rfl
theorem maskS_blks {flaw : Int} {x x' : X} {C C' : Cst} (hs : maskS flaw x C = some (x', C')) : blks C' = blks C := by
 unfold maskS at hs
 split at hs
 ·split at hs
  ·cases hs; rfl
  ·obtain ⟨C1, h1, h2⟩ := Option.map_eq_some_iff.1 hs
   cases h2
   exact knownC_blks h1
 ·cases hs; rfl
def kindOk (m : Mst) : Bool := (m.kind == 0 || (m.kind == 1 || m.kind == 2)) && decide (2 ≤ m.size)
theorem kindOk_iff {m : Mst} (h : kindOk m = true) : (m.kind = 0 ∨ m.kind = 1 ∨ m.kind = 2) ∧ 2 ≤ m.size := by
 simpa [kindOk] using h
def preS (S : Sh) (now : Int) (x : X) (C : Cst) : Option (X × Cst) :=
 match x.m.next with
 | some 60 => if x.stp = 0 ∨ x.stp = 1 then some (markX S x, C) else none
 | some 61 => some (curX S now x, C)
 | some 84 => verS S.flaw x C
 | some 106 => some (tableX x, C)
 | some 127 => if kindOk x.m then lookS S.flaw x C else none
 | some 133 => if kindOk x.m then some (numberX x, C) else none
 | some 139 => some (widthX x, C)
 | some 142 => maskS S.flaw x C
 | _ => none
theorem preS_blks {S : Sh} {now : Int} {x x' : X} {C C' : Cst} (hs : preS S now x C = some (x', C')) : blks C' = blks C := by
 unfold preS at hs
 split at hs
 ·split at hs <;> cases hs; rfl
 ·cases hs; rfl
 ·exact verS_blks hs
 ·cases hs; rfl
 ·split at hs
  ·exact lookS_blks hs
  ·cases hs
 ·split at hs <;> cases hs; rfl
 ·cases hs; rfl
 ·exact maskS_blks hs
 ·cases hs
def stepS (S : Sh) (now : Int) (x : X) (C : Cst) : Option (X × Cst) :=
 if x.m.next = some 103 then some (leaveX S x, C)
 else match preS S now x C with
  | none => none
  | some (x', C') => if x'.m.next.isSome = true then some (x', C') else none
def One (x x' : X) : Prop := x'.tr.length = x.tr.length + 1 ∧ x'.m.cache = x.m.cache
theorem one_at (x : X) (a : Int) (good : X → Int → X) (h : ∀ v, One x (good (x.acc a) v)) : One x (X.at_ x a good) := by
 unfold X.at_
 split
 ·exact h _
 ·exact ⟨by simp [X.acc], rfl⟩
theorem one_mark (S : Sh) (x : X) : One x (markX S x) := by
 unfold markX
 split
 ·exact ⟨by simp [X.acc], rfl⟩
 ·exact ⟨by simp [X.tel], rfl⟩
theorem one_cur (S : Sh) (now : Int) (x : X) : One x (curX S now x) := by
 unfold curX
 simp only
 split
 ·exact ⟨by simp [X.acc, setPage], rfl⟩
 ·exact ⟨by simp [X.acc], rfl⟩
theorem one_table (x : X) : One x (tableX x) := one_at x _ _ fun v => by
 split
 ·exact ⟨by simp [X.acc], rfl⟩
 ·exact ⟨by simp [X.acc, seekX], rfl⟩
theorem one_width (x : X) : One x (widthX x) := one_at x _ _ fun v => ⟨by simp [X.acc], rfl⟩
theorem setF_cache (m : Mst) (v : Int) : (setF m v).cache = m.cache := by
 unfold setF
 split
 ·rfl
 ·split <;> rfl
theorem one_number (x : X) : One x (numberX x) := one_at x _ _ fun v => by
 simp only
 split
 ·exact ⟨by simp [X.acc, seekX], setF_cache _ _⟩
 ·exact ⟨by simp [X.acc], setF_cache _ _⟩
theorem one_ver {flaw : Int} {x x' : X} {C C' : Cst} (hs : verS flaw x C = some (x', C')) : One x x' := by
 unfold verS at hs
 split at hs
 ·split at hs
  ·cases hs; exact ⟨by simp [X.acc], rfl⟩
  ·split at hs
   ·cases hs; exact ⟨by simp [X.acc], rfl⟩
   ·obtain ⟨⟨al, hit, C1⟩, h1, h2⟩ := Option.map_eq_some_iff.1 hs
    cases h2; exact ⟨by simp [X.acc], rfl⟩
 ·cases hs; exact ⟨by simp [X.acc], rfl⟩
theorem one_look {flaw : Int} {x x' : X} {C C' : Cst} (hs : lookS flaw x C = some (x', C')) : One x x' := by
 unfold lookS at hs
 split at hs
 ·split at hs
  ·cases hs; exact ⟨by simp [X.acc], rfl⟩
  ·split at hs
   ·obtain ⟨C1, h1, h2⟩ := Option.map_eq_some_iff.1 hs
    cases h2; exact ⟨by simp [X.acc], rfl⟩
   ·cases hs; exact ⟨by simp [X.acc], rfl⟩
 ·cases hs; exact ⟨by simp [X.acc], rfl⟩
theorem one_mask {flaw : Int} {x x' : X} {C C' : Cst} (hs : maskS flaw x C = some (x', C')) : One x x' := by
 unfold maskS at hs
 split at hs
 ·split at hs
  ·cases hs; exact ⟨by simp [X.acc], rfl⟩
  ·obtain ⟨C1, h1, h2⟩ := Option.map_eq_some_iff.1 hs
   cases h2; exact ⟨by simp [X.acc], rfl⟩
 ·cases hs; exact ⟨by simp [X.acc], rfl⟩
theorem one_pre {S : Sh} {now : Int} {x x' : X} {C C' : Cst} (hs : preS S now x C = some (x', C')) : One x x' := by
 unfold preS at hs
 split at hs
 ·split at hs <;> cases hs; exact one_mark S x
 ·cases hs; exact one_cur S now x
 ·exact one_ver hs
 ·cases hs; exact one_table x
 ·split at hs
  ·exact one_look hs
  ·cases hs
 ·split at hs <;> cases hs; exact one_number x
 ·cases hs; exact one_width x
 ·exact one_mask hs
 ·cases hs
theorem stepS_blks {S : Sh} {now : Int} {x x' : X} {C C' : Cst} (hs : stepS S now x C = some (x', C')) : blks C' = blks C ∧ One x x' := by
 unfold stepS at hs
 split at hs
 ·cases hs; exact ⟨rfl, by simp [leaveX, X.tel], rfl⟩
 ·split at hs
  ·cases hs
  ·rename_i x1 C1 h1
   split at hs
   ·rename_i h2
    cases hs
    exact ⟨preS_blks h1, one_pre h1⟩
   ·cases hs
theorem step_calls (F : Nat → Prop) (S : Sh) (w : World) (x : X) (now : Int) (bset : Nat) (C : Cst) (hy : Ry F S w x bset C) (hl : x.tr.length < 1000000000000) (x' : X) (C' : Cst) (hs : stepS S now x C = some (x', C')) :
  Calls Tryz.prog 36 #[.pointer (some ⟨S.b, 0, none⟩), .int .i64 now] w fun e w' => e = .returned (.bool x'.m.next.isNone) ∧ Ry F S w' x' bset C' ∧ Keep (KF F S x.m.cache bset C) w w' := by
 unfold stepS at hs
 split at hs
 ·rename_i hn
  cases hs
  have hq := (leave_m F S w x now hy.rd hl).mono (R' := fun e w' => e = .returned (.tuple #[]) ∧ MachAt w' S.b S.bsite S.bx (leaveX S x).m ∧ (Ry F S w' (leaveX S x) bset C ∧ Keep (KF F S x.m.cache bset C) w w')) fun e w' h => ⟨h.1, h.2.1.mach, hy.step h.2.1 h.2.2 rfl, h.2.2.less KF_out⟩
  exact (step69_none w S.b S.bsite S.bx x.m (leaveX S x).m now _ hy.rd.mach hn rfl hq).mono fun e w' h => ⟨h.1, h.2.2⟩
 ·split at hs
  ·cases hs
  ·rename_i x1 C1 h1
   split at hs
   ·rename_i h2
    cases hs
    obtain ⟨g, hg⟩ := Option.isSome_iff_exists.1 h2
    have hco := (one_pre h1).2
    rw [hg]
    have fin : ∀ f (hQ : Calls Tryz.prog f #[.pointer (some ⟨S.b, 0, none⟩), .int .i64 now] w fun e w' => e = .returned (.tuple #[]) ∧ Ry F S w' x' bset C' ∧ Keep (KF F S x.m.cache bset C) w w'), Calls Tryz.prog f #[.pointer (some ⟨S.b, 0, none⟩), .int .i64 now] w fun e w' => e = .returned (.tuple #[]) ∧ MachAt w' S.b S.bsite S.bx x'.m ∧ (Ry F S w' x' bset C' ∧ Keep (KF F S x.m.cache bset C) w w') := fun f hQ => hQ.mono fun e w' h => ⟨h.1, h.2.1.rd.mach, h.2⟩
    unfold preS at h1
    split at h1
    ·rename_i hn
     split at h1
     ·rename_i hst
      cases h1
      exact (step49_some w S.b S.bsite S.bx x.m _ now g _ hy.rd.mach hn hg (fin 60 ((mark_calls F S w x now hy.rd hl hst).mono fun e w' h => ⟨h.1, Ry.step3 hy h.2.1 h.2.2 hco, h.2.2.less (fun k hk => ⟨hk.1, hk.2.1, hk.2.2.1⟩)⟩))).mono fun e w' h => ⟨h.1, h.2.2⟩
     ·cases h1
    ·rename_i hn
     cases h1
     exact (step50_some w S.b S.bsite S.bx x.m _ now g _ hy.rd.mach hn hg (fin 61 ((current_calls F S w x now hy.rd hl).mono fun e w' h => ⟨h.1, hy.step h.2.1 h.2.2 hco, h.2.2.less KF_out⟩))).mono fun e w' h => ⟨h.1, h.2.2⟩
    ·rename_i hn
     exact (step60_some w S.b S.bsite S.bx x.m _ now g _ hy.rd.mach hn hg (fin 84 (ver_calls F S w x now bset C hy hl x' C' h1))).mono fun e w' h => ⟨h.1, h.2.2⟩
    ·rename_i hn
     cases h1
     exact (step72_some w S.b S.bsite S.bx x.m _ now g _ hy.rd.mach hn hg (fin 106 ((table_calls F S w x now hy.rd hl).mono fun e w' h => ⟨h.1, hy.step h.2.1 h.2.2 hco, h.2.2.less KF_out⟩))).mono fun e w' h => ⟨h.1, h.2.2⟩
    ·rename_i hn
     split at h1
     ·rename_i hk
      obtain ⟨k1, k2⟩ := kindOk_iff hk
      exact (step88_some w S.b S.bsite S.bx x.m _ now g _ hy.rd.mach hn hg (fin 127 (look_calls F S w x now bset C hy hl k1 k2 x' C' h1))).mono fun e w' h => ⟨h.1, h.2.2⟩
     ·cases h1
    ·rename_i hn
     split at h1
     ·rename_i hk
      obtain ⟨k1, k2⟩ := kindOk_iff hk
      cases h1
      exact (step90_some w S.b S.bsite S.bx x.m _ now g _ hy.rd.mach hn hg (fin 133 ((number_calls F S w x now hy.rd hl k1 k2).mono fun e w' h => ⟨h.1, hy.step h.2.1 h.2.2 hco, h.2.2.less KF_out⟩))).mono fun e w' h => ⟨h.1, h.2.2⟩
     ·cases h1
    ·rename_i hn
     cases h1
     exact (step92_some w S.b S.bsite S.bx x.m _ now g _ hy.rd.mach hn hg (fin 139 ((width_calls F S w x now hy.rd hl).mono fun e w' h => ⟨h.1, hy.step h.2.1 h.2.2 hco, h.2.2.less KF_out⟩))).mono fun e w' h => ⟨h.1, h.2.2⟩
    ·rename_i hn
     exact (step94_some w S.b S.bsite S.bx x.m _ now g _ hy.rd.mach hn hg (fin 142 (mask_calls F S w x now bset C hy hl x' C' h1))).mono fun e w' h => ⟨h.1, h.2.2⟩
    ·cases h1
   ·cases hs
theorem step_end (w : World) (b bsite bx : Nat) (m : Mst) (now : Int) (hm : MachAt w b bsite bx m) (hn : m.next = none) :
  Calls Tryz.prog 36 #[.pointer (some ⟨b, 0, none⟩), .int .i64 now] w fun e w' => e = .returned (.bool true) ∧ w' = w := by
 have c8 := cellOf hm 8 (nextV b m.next) rfl
 rw [hn] at c8
 have c8' : w.cell? ⟨b, 8, none⟩ = some .nilFunc := c8
 have q1 : ∀ w : World, (binOp .neq 128 .nilFunc .nilFunc).run Tryz.prog w = .ok (.bool false) w := fun w => by rfl
 have q3 := neql
 clear hm hn c8
 go_enter Tryz.func36, Tryz.ntmps36
 go_wp2
 go_ret
 exact ⟨rfl, rfl⟩
def runS (S : Sh) : Nat → Nat → X → Cst → Option (Nat × X × Cst)
 | 0, _, _, _ => none
 | f + 1, n, x, C => match stepS S n x C with
  | none => none
  | some (x1, C1) => if x1.m.next.isNone = true then some (n, x1, C1) else runS S f (n + 1) x1 C1
theorem runS_len {S : Sh} : ∀ (f n : Nat) (x : X) (C : Cst) (k : Nat) (x' : X) (C' : Cst), runS S f n x C = some (k, x', C') → x'.tr.length ≤ x.tr.length + f ∧ blks C' = blks C
 | 0, n, x, C, k, x', C', h => by simp [runS] at h
 | f + 1, n, x, C, k, x', C', h => by
  unfold runS at h
  split at h
  ·cases h
  ·rename_i x1 C1 h1
   have ho := stepS_blks h1
   split at h
   ·cases h; exact ⟨by have := ho.2.1; omega, ho.1⟩
   ·have := runS_len f (n + 1) x1 C1 k x' C' h
    exact ⟨by have := ho.2.1; omega, this.2.trans ho.1⟩
theorem runS_cache {S : Sh} : ∀ (f n : Nat) (x : X) (C : Cst) (k : Nat) (x' : X) (C' : Cst), runS S f n x C = some (k, x', C') → x'.m.cache = x.m.cache
 | 0, n, x, C, k, x', C', h => by simp [runS] at h
 | f + 1, n, x, C, k, x', C', h => by
  unfold runS at h
  split at h
  ·cases h
  ·rename_i x1 C1 h1
   have ho := stepS_blks h1
   split at h
   ·cases h; exact ho.2.2
   ·exact (runS_cache f (n + 1) x1 C1 k x' C' h).trans ho.2.2
theorem cellBelow {w w1 : World} {a : Addr} {v : Value} (hb : Below w.heap.size w w1) (h : w.cell? a = some v) : w1.cell? a = some v := by
 rw [hb.cell (World.block_lt_of_cell? w _ h)]; exact h
theorem _root_.Go.Proofs.YtdgkppldopiaoaaGreat.RKnown.Ry.below {F : Nat → Prop} {S : Sh} {w w1 : World} {x : X} {bset : Nat} {C : Cst} (h : Ry F S w x bset C) (hb1 : Below w.heap.size w w1) : Ry F S w1 x bset C := by
 obtain ⟨tv', hM'⟩ := h.rd.mem
 exact ⟨{ h.rd with mem := ⟨tv', hM'.below hb1⟩, site := Rd.blk ((Keep.refl F w).below hb1) h.rd.fsite h.rd.site, slots := Rd.blk ((Keep.refl F w).below hb1) h.rd.fs h.rd.slots, mach := Rd.blk ((Keep.refl F w).below hb1) h.rd.fb h.rd.mach, sec := Rd.blk ((Keep.refl F w).below hb1) h.rd.fx h.rd.sec }, fun bc e => ⟨CacheAt.below (h.cd bc e).at_ hb1, (h.cd bc e).own⟩⟩
theorem trace_mem {F : Nat → Prop} {S : Sh} {w : World} {x : X} {L : Nat} (h : ∃ tv, Mem F w S.bm S.bw x.ws x.tr x.bad tv) (hl : x.tr.length = L ∧ L ≤ 1000000000000) :
  Calls Tryz.prog 12 #[.pointer (some ⟨S.bm, 0, none⟩)] w fun e w' => ∃ A1 c1, e = .returned (.slice A1 L c1) ∧ Below w.heap.size w w' := by
 obtain ⟨tv, hM⟩ := h
 have := trace_calls F w S.bm S.bw x.ws x.tr x.bad tv hM (by omega)
 rw [hl.1] at this
 exact this
theorem finish_calls (F : Nat → Prop) (S : Sh) (w : World) (x : X) (most : Nat) (bset bh : Nat) (C : Cst) (hy : Ry F S w x bset C) (hh : w.cell? ⟨bh, 0, none⟩ = some (.pointer (some ⟨S.bm, 0, none⟩))) (hF : KF F S x.m.cache bset C bh) (hl : x.tr.length + most < 1000000000000) (hm : most ≤ 1000) (n : Nat) (x' : X) (C' : Cst) (hs : runS S most 1 x C = some (n, x', C')) :
  Calls Tryz.prog 27 #[.pointer (some ⟨bh, 0, none⟩), .pointer (some ⟨S.b, 0, none⟩), .int .i64 most] w fun e w' => e = .returned (.int .i64 n) ∧ Ry F S w' x' bset C' ∧ Keep (KF F S x.m.cache bset C) w w' := by
 have HY := jA hy
 have HH := jA hh
 have HF := jA hF
 have HL := jA hl
 have HS := jA hs
 clear hy hh hF hl hs
 go_enter Tryz.func27, Tryz.ntmps27
 go_wp2
 go_loopw [7] (fun u wr => ∃ (j : Nat) (x1 : X) (C1 : Cst), 1 ≤ j ∧ j ≤ most + 1 ∧ u = .int .i64 j ∧ Aside0 (Ry F S wr x1 bset C1 ∧ Keep (KF F S x.m.cache bset C) w wr ∧ runS S (most + 1 - j) j x1 C1 = some (n, x', C') ∧ x1.tr.length = x.tr.length + (j - 1) ∧ blks C1 = blks C ∧ x1.m.cache = x.m.cache)) (fun u _ => most + 1 - (intOf u).toNat)
 case atStart => exact ⟨1, x, C, by omega, by omega, rfl, ⟨HY.out, Keep.refl _ _, HS.out, by omega, rfl, rfl⟩⟩
 case round =>
  obtain ⟨j, x1, C1, hj1, hj2, rfl, HR⟩ := hrel
  by_cases hlt : j ≤ most
  ·have hrun := HR.out.2.2.1
   rw [show most + 1 - j = (most - j) + 1 by omega] at hrun
   unfold runS at hrun
   split at hrun
   ·cases hrun
   ·rename_i x2 C2 h2
    ·have hlen := (stepS_blks h2).2.1
     have hl1 : x1.tr.length < 1000000000000 := by have h1 := HL.out; have h3 := HR.out.2.2.2.1; omega
     have hc0 : wr.cell? ⟨bh, 0, none⟩ = some (.pointer (some ⟨S.bm, 0, none⟩)) := Keep.cell HR.out.2.1 HH.out HF.out
     obtain ⟨tv, hM⟩ := HR.out.1.rd.mem
     have HT1 := jA (trace_calls F wr S.bm S.bw x1.ws x1.tr x1.bad tv hM (by omega))
     have hb := stepS_blks h2
     have HB := jA hb
     have hlen' : (x2.tr.length : Int) = (x1.tr.length : Int) + 1 := by omega
     have hsmall : (x1.tr.length : Int) < 1000000000000 := by omega
     obtain ⟨L1, hL1⟩ : ∃ L1 : Nat, L1 = x1.tr.length := ⟨_, rfl⟩
     obtain ⟨L2, hL2⟩ : ∃ L2 : Nat, L2 = x2.tr.length := ⟨_, rfl⟩
     rw [← hL1, ← hL2] at hlen'
     rw [← hL1] at hsmall HT1
     have HL1 := jA hL1
     have HL2 := jA hL2
     have H2 := jA h2
     have HLE := jA hlen
     have cellB : ∀ w1, Below wr.heap.size wr w1 → w1.cell? ⟨bh, 0, none⟩ = some (.pointer (some ⟨S.bm, 0, none⟩)) := fun w1 hb1 => Keep.cell (HR.out.2.1.below hb1) HH.out HF.out
     have ryB : ∀ w1, Below wr.heap.size wr w1 → Ry F S w1 x1 bset C1 := fun w1 hb1 => Ry.below HR.out.1 hb1
     have HCB := jA cellB
     have HRB := jA ryB
     have HHL := jA hl1
     have HLE2 := jA (show x2.tr.length = L2 ∧ L2 ≤ 1000000000000 from ⟨hL2.symm, by omega⟩)
     clear hM hb hL1 hL2 h2 hlen cellB ryB hl1
     have aft : ∀ w1 w2, Below wr.heap.size wr w1 → Ry F S w2 x2 bset C2 → Keep (KF F S x1.m.cache bset C1) w1 w2 → (w2.cell? ⟨bh, 0, none⟩ = some (.pointer (some ⟨S.bm, 0, none⟩)) ∧ Keep (KF F S x.m.cache bset C) w w2) := fun w1 w2 hb1 hr2 hk2 => by
      have hk := (HR.out.2.1.below hb1).trans (hk2.less (fun k hk => by have := KF_of HR.out.2.2.2.2.1 k hk; rw [← HR.out.2.2.2.2.2] at this; exact this))
      exact ⟨Keep.cell hk HH.out HF.out, hk⟩
     have HAFT := jA aft
     clear aft
     cases hnx : x2.m.next with
     | some g =>
      rw [hnx] at hrun
      have hrun' : runS S (most - j) (j + 1) x2 C2 = some (n, x', C') := hrun
      have HRUN := jA hrun'
      have HNX := jA hnx
      clear hrun hrun' hnx
      have c0' : (j : Int) ≤ (most : Int) := by omega
      go_wp2_with (first | (go_at_call 12; first | ((refine HT1.out.mono ?_); rintro e w1 ⟨A1, c1, rfl, hb1⟩; have d0 := HCB.out w1 hb1; have HB1 := jA hb1; clear hb1 hc0) | ((refine HT2.out.mono ?_); rintro e w3 ⟨A3, c3, rfl, hb3⟩; have HB3 := jA hb3; clear hb3)) | (go_at_call 36; (refine (step_calls F S w1 x1 (j : Int) bset C1 (HRB.out w1 HB1.out) HHL.out x2 C2 H2.out).mono ?_); rintro e w2 ⟨rfl, hr2, hk2⟩; rw [HNX.out]; obtain ⟨f0, fk⟩ := HAFT.out w1 w2 HB1.out hr2 hk2; have HK2 := jA fk; have HR2 := jA hr2; have HT2 := jA (trace_mem hr2.rd.mem HLE2.out); clear hr2 hk2 fk d0))
      go_roundw
      case rel =>
       refine ⟨j + 1, x2, C2, by omega, by omega, by go_num, ⟨HR2.out.below HB3.out, HK2.out.below HB3.out, ?_, ?_, HB.out.1.trans HR.out.2.2.2.2.1, HB.out.2.2.trans HR.out.2.2.2.2.2⟩⟩
       ·rw [show most + 1 - (j + 1) = most - j by omega]; exact HRUN.out
       ·have h3 := HLE.out; have h4 := HR.out.2.2.2.1; omega
      case measure => simp [intOf]; omega
     | none =>
      rw [hnx] at hrun
      have hrun' : some (j, x2, C2) = some (n, x', C') := hrun
      have e1 : j = n := by injection hrun' with h; injection h
      have e2 : x2 = x' := by injection hrun' with h; injection h with _ h; injection h
      have e3 : C2 = C' := by injection hrun' with h; injection h with _ h; injection h
      subst e1
      subst e2
      subst e3
      have HNX := jA hnx
      clear hrun hrun' hnx
      have c0' : (j : Int) ≤ (most : Int) := by omega
      go_wp2_with (first | (go_at_call 12; first | ((refine HT1.out.mono ?_); rintro e w1 ⟨A1, c1, rfl, hb1⟩; have d0 := HCB.out w1 hb1; have HB1 := jA hb1; clear hb1 hc0) | ((refine HT2.out.mono ?_); rintro e w3 ⟨A3, c3, rfl, hb3⟩; have f3 := cellBelow hb3 f0; have HT3 := jA (trace_mem (HR2.out.below hb3).rd.mem HLE2.out); have HE3 := jA (fun now => step_end w3 S.b S.bsite S.bx x2.m now (HR2.out.below hb3).rd.mach HNX.out); have HB3 := jA hb3; clear hb3 f0) | ((refine HT3.out.mono ?_); rintro e w4 ⟨A4, c4, rfl, hb4⟩; have HB4 := jA hb4; clear hb4)) | (go_at_call 36; first | ((refine (HE3.out _).mono ?_); rintro e w3' ⟨rfl, rfl⟩) | ((refine (step_calls F S w1 x1 (j : Int) bset C1 (HRB.out w1 HB1.out) HHL.out x2 C2 H2.out).mono ?_); rintro e w2 ⟨rfl, hr2, hk2⟩; rw [HNX.out]; obtain ⟨f0, fk⟩ := HAFT.out w1 w2 HB1.out hr2 hk2; have HK2 := jA fk; have HR2 := jA hr2; have HT2 := jA (trace_mem hr2.rd.mem HLE2.out); clear hr2 hk2 fk d0)))
      go_ret
      exact ⟨rfl, (HR2.out.below HB3.out).below HB4.out, (HK2.out.below HB3.out).below HB4.out⟩
  ·have := HR.out.2.2.1
   rw [show most + 1 - j = 0 by omega] at this
   cases this
end Go.Proofs.YtdgkppldopiaoaaGreat.RRun
/- Any check without a cache, over any memory: it steps, it ends, it leaves its slot clean. -/
namespace Go.Proofs.YtdgkppldopiaoaaGreat.EStep
open Go.RowKit YtdgkppldopiaoaaGreatW.PrintWords RCells RMach RSteps RSeek RLook RNum RCget RCput RBegin RVer RKnown RLk RMask RRun
open PG
set_option maxHeartbeats 1000000
set_option maxRecDepth 100000
def remN (flaw : Int) (x : X) : Option Nat → Int
 | none => 0
 | some 103 => 1
 | some 142 => 2
 | some 139 => 3
 | some 133 => 4 + (2 - x.m.kind) * (x.m.size + 1)
 | some 127 => (x.m.size - x.m.seen) + 4 + (2 - x.m.kind) * (x.m.size + 1)
 | some 106 => 12295
 | some 84 => if x.m.check then 12296 else 2
 | some 61 => (if flaw = 4 then 3 else 1) + (if x.m.check then 12296 else 2)
 | some 60 => (2 - x.stp) + (if flaw = 4 then 0 else 1) + (if x.m.check then 12296 else 2)
 | _ => 0
def rem (flaw : Int) (x : X) : Int := remN flaw x x.m.next
def Kz (m : Mst) : Prop := (m.kind = 0 ∨ m.kind = 1 ∨ m.kind = 2) ∧ 2 ≤ m.size ∧ m.size ≤ 4096
structure Inv (flaw : Int) (x : X) : Prop where
 nocache : x.m.cache = none
 nx : x.m.next = none ∨ x.m.next = some 103 ∨ (x.m.next = some 142 ∧ x.m.check = true) ∨ (x.m.next = some 139 ∧ x.m.check = true) ∨ (x.m.next = some 133 ∧ x.m.check = true ∧ Kz x.m) ∨
  (x.m.next = some 127 ∧ x.m.check = true ∧ Kz x.m ∧ 0 ≤ x.m.seen ∧ x.m.seen < x.m.size) ∨ (x.m.next = some 106 ∧ x.m.check = true) ∨ x.m.next = some 84 ∨ (x.m.next = some 61 ∧ (flaw = 4 → x.stp = 0)) ∨ (x.m.next = some 60 ∧ (x.stp = 0 ∨ x.stp = 1))
 sane : x.m.br = true → x.m.al = false
 chk : x.m.check = false → x.m.al = false
 fresh : x.m.next ≠ none → x.m.next ≠ some 103 → x.m.br = false
structure Stp (S : Sh) (now : Int) (x : X) (C : Cst) (x' : X) : Prop where
 step : stepS S now x C = some (x', C)
 inv : Inv S.flaw x'
 less : rem S.flaw x' + 1 ≤ rem S.flaw x
section
variable {S : Sh} {now : Int} {x : X} {C : Cst}
theorem step_of {x' : X} (hn : x.m.next ≠ some 103) (hp : preS S now x C = some (x', C)) (hs : x'.m.next.isSome = true) : stepS S now x C = some (x', C) := by
 unfold stepS
 rw [if_neg hn, hp]
 simp [hs]
theorem broke {x' : X} (h : Inv S.flaw x) (hn : x.m.next ≠ some 103) (hp : preS S now x C = some (x', C)) (hm : x'.m = brk x.m) (hr : 2 ≤ rem S.flaw x) : ∃ x', Stp S now x C x' := by
 have hnx : x'.m.next = some 103 := by rw [hm]; rfl
 refine ⟨x', step_of hn hp (by rw [hnx]; rfl), ⟨by rw [hm]; exact h.nocache, .inr (.inl hnx), fun _ => by rw [hm]; rfl, fun _ => by rw [hm]; rfl, fun _ e => absurd hnx e⟩, ?_⟩
 have : rem S.flaw x' = 1 := by rw [rem, hnx]; rfl
 omega
theorem made {x' : X} {m : Mst} {al : Bool} (h : Inv S.flaw x) (hn : x.m.next ≠ some 103) (hn0 : x.m.next ≠ none) (hp : preS S now x C = some (x', C)) (hm : x'.m = knownM m al) (hc : m.cache = x.m.cache) (hck : m.check = true) (hb : m.br = x.m.br) (hr : 2 ≤ rem S.flaw x) : ∃ x', Stp S now x C x' := by
 have hnx : x'.m.next = some 103 := by rw [hm]; rfl
 have hbr : x'.m.br = false := by rw [hm]; exact hb.trans (h.fresh hn0 hn)
 refine ⟨x', step_of hn hp (by rw [hnx]; rfl), ⟨by rw [hm]; exact hc.trans h.nocache, .inr (.inl hnx), fun e => (by rw [hbr] at e; cases e), fun e => (by rw [hm] at e; exact absurd (hck.symm.trans e) (by simp)), fun _ e => absurd hnx e⟩, ?_⟩
 have : rem S.flaw x' = 1 := by rw [rem, hnx]; rfl
 omega
theorem goes {x' : X} {g : Nat} (h : Inv S.flaw x) (hn : x.m.next ≠ some 103) (hn0 : x.m.next ≠ none) (hp : preS S now x C = some (x', C)) (hg : x'.m.next = some g) (hc : x'.m.cache = x.m.cache) (hb : x'.m.br = x.m.br) (ha : x'.m.al = x.m.al) (hk : x'.m.check = x.m.check)
  (hx : (x'.m.next = some 142 ∧ x'.m.check = true) ∨ (x'.m.next = some 139 ∧ x'.m.check = true) ∨ (x'.m.next = some 133 ∧ x'.m.check = true ∧ Kz x'.m) ∨
  (x'.m.next = some 127 ∧ x'.m.check = true ∧ Kz x'.m ∧ 0 ≤ x'.m.seen ∧ x'.m.seen < x'.m.size) ∨ (x'.m.next = some 106 ∧ x'.m.check = true) ∨ x'.m.next = some 84 ∨ (x'.m.next = some 61 ∧ (S.flaw = 4 → x'.stp = 0)) ∨ (x'.m.next = some 60 ∧ (x'.stp = 0 ∨ x'.stp = 1)))
  (hr : rem S.flaw x' + 1 ≤ rem S.flaw x) : ∃ x', Stp S now x C x' := by
 refine ⟨x', step_of hn hp (by rw [hg]; rfl), ⟨hc.trans h.nocache, .inr (.inr hx), fun e => ?_, fun e => ?_, fun _ _ => hb.trans (h.fresh hn0 hn)⟩, hr⟩
 ·rw [ha]; exact h.sane (by rw [← hb]; exact e)
 ·rw [ha]; exact h.chk (by rw [← hk]; exact e)
theorem broke' {x' : X} (h : Inv S.flaw x) (hn : x.m.next ≠ some 103) (hp : preS S now x C = some (x', C)) (hm : x'.m.cache = none ∧ x'.m.al = false ∧ x'.m.next = some 103) (hr : 2 ≤ rem S.flaw x) : ∃ x', Stp S now x C x' := by
 have hnx := hm.2.2
 refine ⟨x', step_of hn hp (by rw [hnx]; rfl), ⟨hm.1, .inr (.inl hnx), fun _ => hm.2.1, fun _ => hm.2.1, fun _ e => absurd hnx e⟩, ?_⟩
 have : rem S.flaw x' = 1 := by rw [rem, hnx]; rfl
 omega
theorem go_leave (h : Inv S.flaw x) (hn : x.m.next = some 103) : ∃ x', Stp S now x C x' := by
 refine ⟨leaveX S x, by unfold stepS; rw [if_pos hn], ⟨h.nocache, .inl rfl, h.sane, h.chk, fun e => absurd rfl e⟩, ?_⟩
 have e1 : rem S.flaw (leaveX S x) = 0 := rfl
 have e2 : rem S.flaw x = 1 := by rw [rem, hn]; rfl
 omega
theorem go_mask (h : Inv S.flaw x) (hn : x.m.next = some 142) (hk : x.m.check = true) : ∃ x', Stp S now x C x' := by
 have n1 : x.m.next ≠ some 103 := by rw [hn]; decide
 have n0 : x.m.next ≠ none := by rw [hn]; decide
 have hr : rem S.flaw x = 2 := by rw [rem, hn]; rfl
 by_cases h0 : lkE x.ws (maskA x.m) = 0
 ·by_cases h1 : x.m.f2 < 1 ∨ 16 < x.m.f2
  ·exact broke h n1 (x' := { x.acc (maskA x.m) with m := brk x.m }) (by unfold preS; rw [hn]; simp only [maskS, if_pos h0, if_pos h1]) rfl (by omega)
  ·exact made h n1 n0 (m := x.m) (x' := { x.acc (maskA x.m) with m := knownM x.m (bitI (lkV x.ws (maskA x.m)) x.m.f2) }) (by unfold preS; rw [hn]; simp only [maskS, if_pos h0, if_neg h1, knownC, if_pos h.nocache, Option.map_some]) rfl rfl hk rfl (by omega)
 ·exact broke h n1 (x' := { x.acc (maskA x.m) with m := brk x.m }) (by unfold preS; rw [hn]; simp only [maskS, if_neg h0]) rfl (by omega)
theorem go_width (h : Inv S.flaw x) (hn : x.m.next = some 139) (hk : x.m.check = true) : ∃ x', Stp S now x C x' := by
 have n1 : x.m.next ≠ some 103 := by rw [hn]; decide
 have n0 : x.m.next ≠ none := by rw [hn]; decide
 have hr : rem S.flaw x = 3 := by rw [rem, hn]; rfl
 by_cases h0 : lkE x.ws (wrap64 (x.m.page + 3)) = 0
 ·refine goes h n1 n0 (g := 142) (x' := { x.acc (wrap64 (x.m.page + 3)) with m := { x.m with cols := lkV x.ws (wrap64 (x.m.page + 3)), next := some 142 } }) (by unfold preS; rw [hn]; simp only [widthX, X.at_, if_pos h0]) rfl rfl rfl rfl rfl (.inl ⟨rfl, hk⟩) ?_
  show (2 : Int) + 1 ≤ _
  omega
 ·exact broke h n1 (x' := { x.acc (wrap64 (x.m.page + 3)) with m := brk x.m }) (by unfold preS; rw [hn]; simp only [widthX, X.at_, if_neg h0]) rfl (by omega)
theorem go_table (h : Inv S.flaw x) (hn : x.m.next = some 106) (hk : x.m.check = true) : ∃ x', Stp S now x C x' := by
 have n1 : x.m.next ≠ some 103 := by rw [hn]; decide
 have n0 : x.m.next ≠ none := by rw [hn]; decide
 have hr : rem S.flaw x = 12295 := by rw [rem, hn]; rfl
 by_cases h0 : lkE x.ws (wrap64 (x.m.page + 1)) = 0
 ·obtain ⟨t, ht⟩ : ∃ t, t = lkV x.ws (wrap64 (x.m.page + 1)) := ⟨_, rfl⟩
  by_cases h1 : t < 2 ∨ 4096 < t ∨ bits .and .i64 t (t - 1) ≠ 0
  ·exact broke h n1 (x' := { x.acc (wrap64 (x.m.page + 1)) with m := brk x.m }) (by unfold preS; rw [hn]; simp only [tableX, X.at_, if_pos h0]; rw [← ht, if_pos h1]; rfl) rfl (by omega)
  ·refine goes h n1 n0 (g := 127) (x' := seekX 0 { x.acc (wrap64 (x.m.page + 1)) with m := { x.m with size := t } }) (by unfold preS; rw [hn]; simp only [tableX, X.at_, if_pos h0]; rw [← ht, if_neg h1]; rfl) rfl rfl rfl rfl rfl (.inr (.inr (.inr (.inl ⟨rfl, hk, ⟨.inl rfl, ?_, ?_⟩, Int.le_refl 0, ?_⟩)))) ?_
   ·show (2 : Int) ≤ t; omega
   ·show t ≤ (4096 : Int); omega
   ·show (0 : Int) < t; omega
   ·show (t - 0) + 4 + (2 - 0) * (t + 1) + 1 ≤ _
    omega
 ·exact broke h n1 (x' := { x.acc (wrap64 (x.m.page + 1)) with m := brk x.m }) (by unfold preS; rw [hn]; simp only [tableX, X.at_, if_neg h0]) rfl (by omega)
theorem go_number (h : Inv S.flaw x) (hn : x.m.next = some 133) (hk : x.m.check = true) (hz : Kz x.m) : ∃ x', Stp S now x C x' := by
 have n1 : x.m.next ≠ some 103 := by rw [hn]; decide
 have n0 : x.m.next ≠ none := by rw [hn]; decide
 have hr : rem S.flaw x = 4 + (2 - x.m.kind) * (x.m.size + 1) := by rw [rem, hn]; rfl
 have hko : RRun.kindOk x.m = true := by simp [RRun.kindOk]; exact ⟨hz.1, hz.2.1⟩
 obtain ⟨z1, z2, z3⟩ := hz
 have hr2 : 2 ≤ rem S.flaw x := by rw [hr]; rcases z1 with e | e | e <;> rw [e] <;> omega
 by_cases h0 : lkE x.ws (slotA 5 x.m) = 0
 ·obtain ⟨v, hv⟩ : ∃ v, v = lkV x.ws (slotA 5 x.m) := ⟨_, rfl⟩
  by_cases h2 : x.m.kind < 2
  ·have hF : (setF x.m v).cache = x.m.cache ∧ (setF x.m v).br = x.m.br ∧ (setF x.m v).al = x.m.al ∧ (setF x.m v).check = x.m.check ∧ (setF x.m v).size = x.m.size := by
    unfold setF; split
    ·exact ⟨rfl, rfl, rfl, rfl, rfl⟩
    ·split <;> exact ⟨rfl, rfl, rfl, rfl, rfl⟩
   obtain ⟨f1, f2, f3, f4, f5⟩ := hF
   refine goes h n1 n0 (g := 127) (x' := seekX (x.m.kind + 1) { x.acc (slotA 5 x.m) with m := setF x.m v }) (by unfold preS; rw [hn]; simp only [hko, if_true]; rw [show numberX x = seekX (x.m.kind + 1) { x.acc (slotA 5 x.m) with m := setF x.m v } by unfold numberX X.at_; rw [if_pos h0, ← hv]; exact if_pos h2]) rfl f1 f2 f3 f4 (.inr (.inr (.inr (.inl ⟨rfl, f4.trans hk, ⟨?_, ?_, ?_⟩, Int.le_refl 0, ?_⟩)))) ?_
   ·show x.m.kind + 1 = 0 ∨ x.m.kind + 1 = 1 ∨ x.m.kind + 1 = 2; omega
   ·show (2 : Int) ≤ (setF x.m v).size; omega
   ·show (setF x.m v).size ≤ (4096 : Int); omega
   ·show (0 : Int) < (setF x.m v).size; omega
   ·rw [hr]
    show ((setF x.m v).size - 0) + 4 + (2 - (x.m.kind + 1)) * ((setF x.m v).size + 1) + 1 ≤ _
    rw [f5]
    have : x.m.kind = 0 ∨ x.m.kind = 1 := by omega
    rcases this with e | e <;> rw [e] <;> omega
  ·have hF : (setF x.m v).cache = x.m.cache ∧ (setF x.m v).br = x.m.br ∧ (setF x.m v).al = x.m.al ∧ (setF x.m v).check = x.m.check := by
    unfold setF; split
    ·exact ⟨rfl, rfl, rfl, rfl⟩
    ·split <;> exact ⟨rfl, rfl, rfl, rfl⟩
   obtain ⟨f1, f2, f3, f4⟩ := hF
   refine goes h n1 n0 (g := 139) (x' := { x.acc (slotA 5 x.m) with m := { setF x.m v with next := some 139 } }) (by unfold preS; rw [hn]; simp only [hko, if_true]; rw [show numberX x = { x.acc (slotA 5 x.m) with m := { setF x.m v with next := some 139 } } by unfold numberX X.at_; rw [if_pos h0, ← hv]; exact if_neg h2]) rfl f1 f2 f3 f4 (.inr (.inl ⟨rfl, f4.trans hk⟩)) ?_
   rw [hr]
   show (3 : Int) + 1 ≤ _
   have : x.m.kind = 2 := by omega
   rw [this]; omega
 ·exact broke h n1 (x' := { x.acc (slotA 5 x.m) with m := brk x.m }) (by unfold preS; rw [hn]; simp only [hko, if_true, numberX, X.at_, if_neg h0]) rfl hr2
theorem go_look (h : Inv S.flaw x) (hn : x.m.next = some 127) (hk : x.m.check = true) (hz : Kz x.m) (s0 : 0 ≤ x.m.seen) (s1 : x.m.seen < x.m.size) : ∃ x', Stp S now x C x' := by
 have n1 : x.m.next ≠ some 103 := by rw [hn]; decide
 have n0 : x.m.next ≠ none := by rw [hn]; decide
 have hr : rem S.flaw x = (x.m.size - x.m.seen) + 4 + (2 - x.m.kind) * (x.m.size + 1) := by rw [rem, hn]; rfl
 have hko : RRun.kindOk x.m = true := by simp [RRun.kindOk]; exact ⟨hz.1, hz.2.1⟩
 obtain ⟨z1, z2, z3⟩ := hz
 have hw : wrap64 (x.m.seen + 1) = x.m.seen + 1 := by unfold wrap64; omega
 have hr2 : 2 ≤ rem S.flaw x := by rw [hr]; rcases z1 with e | e | e <;> rw [e] <;> omega
 by_cases h0 : lkE x.ws (slotA 4 x.m) = 0
 ·by_cases h1 : lkV x.ws (slotA 4 x.m) = keyM x.m
  ·refine goes h n1 n0 (g := 133) (x' := { x.acc (slotA 4 x.m) with m := { x.m with next := some 133 } }) (by unfold preS; rw [hn]; simp only [hko, if_true, lookS, if_pos h0, if_pos h1]) rfl rfl rfl rfl rfl (.inr (.inr (.inl ⟨rfl, hk, z1, z2, z3⟩))) ?_
   rw [hr]
   show 4 + (2 - x.m.kind) * (x.m.size + 1) + 1 ≤ _
   omega
  ·by_cases h2 : lkV x.ws (slotA 4 x.m) = 0 ∨ (nextM x.m).seen = x.m.size
   ·exact made h n1 n0 (m := nextM x.m) (x' := { x.acc (slotA 4 x.m) with m := knownM (nextM x.m) false }) (by unfold preS; rw [hn]; simp only [hko, if_true, lookS, if_pos h0, if_neg h1, if_pos h2]; rw [knownC, if_pos (show (nextM x.m).cache = none from h.nocache)]; rfl) rfl rfl hk rfl hr2
   ·have h3 : (nextM x.m).seen = x.m.seen + 1 := hw
    refine goes h n1 n0 (g := 127) (x' := { x.acc (slotA 4 x.m) with m := nextM x.m }) (by unfold preS; rw [hn]; simp only [hko, if_true, lookS, if_pos h0, if_neg h1, if_neg h2]) hn rfl rfl rfl rfl (.inr (.inr (.inr (.inl ⟨hn, hk, ⟨z1, z2, z3⟩, ?_, ?_⟩)))) ?_
    ·show (0 : Int) ≤ (nextM x.m).seen; omega
    ·show (nextM x.m).seen < x.m.size; omega
    ·have e : rem S.flaw { x.acc (slotA 4 x.m) with m := nextM x.m } = (x.m.size - (nextM x.m).seen) + 4 + (2 - x.m.kind) * (x.m.size + 1) := by show remN _ _ x.m.next = _; rw [hn]; rfl
     rw [e, hr, h3]
     omega
 ·exact broke h n1 (x' := { x.acc (slotA 4 x.m) with m := brk x.m }) (by unfold preS; rw [hn]; simp only [hko, if_true, lookS, if_neg h0]) rfl hr2
theorem go_ver (h : Inv S.flaw x) (hn : x.m.next = some 84) : ∃ x', Stp S now x C x' := by
 have n1 : x.m.next ≠ some 103 := by rw [hn]; decide
 have n0 : x.m.next ≠ none := by rw [hn]; decide
 have hr : rem S.flaw x = if x.m.check then 12296 else 2 := by rw [rem, hn]; rfl
 have hr2 : 2 ≤ rem S.flaw x := by rw [hr]; split <;> decide
 by_cases h0 : lkE x.ws x.m.page = 0
 ·by_cases hk : x.m.check = true
  ·refine goes h n1 n0 (g := 106) (x' := { x.acc x.m.page with m := { verM x.m (lkV x.ws x.m.page) with next := some 106 } }) (by unfold preS; rw [hn]; simp only [verS, if_pos h0, hk, h.nocache]; rfl) rfl rfl rfl rfl rfl (.inr (.inr (.inr (.inr (.inl ⟨rfl, hk⟩))))) ?_
   rw [hr, if_pos hk]
   show (12295 : Int) + 1 ≤ _
   omega
  ·have hk' : x.m.check = false := by simpa using hk
   refine ⟨{ x.acc x.m.page with m := verM x.m (lkV x.ws x.m.page) }, step_of n1 (by unfold preS; rw [hn]; simp only [verS, if_pos h0, hk', if_true]) rfl, ⟨h.nocache, .inr (.inl rfl), h.sane, h.chk, fun _ e => absurd rfl e⟩, ?_⟩
   rw [hr, if_neg hk]
   show (1 : Int) + 1 ≤ _
   omega
 ·exact broke h n1 (x' := { x.acc x.m.page with m := brk x.m }) (by unfold preS; rw [hn]; simp only [verS, if_neg h0]) rfl hr2
theorem go_cur (h : Inv S.flaw x) (hn : x.m.next = some 61) (hs : S.flaw = 4 → x.stp = 0) : ∃ x', Stp S now x C x' := by
 have n1 : x.m.next ≠ some 103 := by rw [hn]; decide
 have n0 : x.m.next ≠ none := by rw [hn]; decide
 have hr : rem S.flaw x = (if S.flaw = 4 then 3 else 1) + (if x.m.check then 12296 else 2) := by rw [rem, hn]; rfl
 have hr2 : 2 ≤ rem S.flaw x := by rw [hr]; split <;> split <;> decide
 by_cases h0 : lkE x.ws S.cur = 0
 ·by_cases hf : S.flaw = 4
  ·refine goes h n1 n0 (g := 60) (x' := curX S now x) (by unfold preS; rw [hn]; rfl) (by simp only [curX, if_pos h0, if_pos hf]; rfl) (by simp only [curX, if_pos h0]; rfl) (by simp only [curX, if_pos h0]; rfl) (by simp only [curX, if_pos h0]; rfl) (by simp only [curX, if_pos h0]; rfl) (.inr (.inr (.inr (.inr (.inr (.inr (.inr ⟨by simp only [curX, if_pos h0, if_pos hf]; rfl, .inl (by simp only [curX, if_pos h0]; exact hs hf)⟩))))))) ?_
   have e : rem S.flaw (curX S now x) = (2 - x.stp) + (if S.flaw = 4 then 0 else 1) + (if x.m.check then 12296 else 2) := by rw [show curX S now x = setPage (X.acc { x with m := { x.m with point := now, next := some 60 } } S.cur) (lkV x.ws S.cur) by simp only [curX, if_pos h0, if_pos hf]]; rfl
   rw [e, hr, if_pos hf, if_pos hf, hs hf]
   omega
  ·refine goes h n1 n0 (g := 84) (x' := curX S now x) (by unfold preS; rw [hn]; rfl) (by simp only [curX, if_pos h0, if_neg hf]; rfl) (by simp only [curX, if_pos h0]; rfl) (by simp only [curX, if_pos h0]; rfl) (by simp only [curX, if_pos h0]; rfl) (by simp only [curX, if_pos h0]; rfl) (.inr (.inr (.inr (.inr (.inr (.inl (by simp only [curX, if_pos h0, if_neg hf]; rfl))))))) ?_
   have e : rem S.flaw (curX S now x) = (if x.m.check then 12296 else 2) := by simp only [curX, if_pos h0, if_neg hf]; rfl
   rw [e, hr, if_neg hf]
   omega
 ·exact broke' h n1 (x' := curX S now x) (by unfold preS; rw [hn]; rfl) (by simp only [curX, if_neg h0]; exact ⟨h.nocache, rfl, rfl⟩) hr2
theorem go_mark (h : Inv S.flaw x) (hn : x.m.next = some 60) (hs : x.stp = 0 ∨ x.stp = 1) : ∃ x', Stp S now x C x' := by
 have n1 : x.m.next ≠ some 103 := by rw [hn]; decide
 have n0 : x.m.next ≠ none := by rw [hn]; decide
 have hr : rem S.flaw x = (2 - x.stp) + (if S.flaw = 4 then 0 else 1) + (if x.m.check then 12296 else 2) := by rw [rem, hn]; rfl
 have hp : preS S now x C = some (markX S x, C) := by unfold preS; rw [hn]; simp only [if_pos hs]
 rcases hs with h0 | h1
 ·have e1 : markX S x = { x.acc S.ep with stp := 1, sn := lkV x.ws S.ep } := by simp only [markX, if_pos h0]
  rw [e1] at hp
  refine goes h n1 n0 (g := 60) hp hn rfl rfl rfl rfl (.inr (.inr (.inr (.inr (.inr (.inr (.inr ⟨hn, .inr rfl⟩))))))) ?_
  have e : rem S.flaw { x.acc S.ep with stp := 1, sn := lkV x.ws S.ep } = (2 - 1) + (if S.flaw = 4 then 0 else 1) + (if x.m.check then 12296 else 2) := by show remN _ _ x.m.next = _; rw [hn]; rfl
  rw [e, hr, h0]
  omega
 ·have hne : ¬ x.stp = 0 := by omega
  by_cases hf : S.flaw = 4
  ·have e1 : markX S x = { X.tel S x x.sn with stp := 2, m := { x.m with next := some 84 } } := by simp only [markX, if_neg hne, if_pos hf]
   rw [e1] at hp
   refine goes h n1 n0 (g := 84) hp rfl rfl rfl rfl rfl (.inr (.inr (.inr (.inr (.inr (.inl rfl)))))) ?_
   have e : rem S.flaw { X.tel S x x.sn with stp := 2, m := { x.m with next := some 84 } } = (if x.m.check then 12296 else 2) := rfl
   rw [e, hr, h1, if_pos hf]
   omega
  ·have e1 : markX S x = { X.tel S x x.sn with stp := 2, m := { x.m with next := some 61 } } := by simp only [markX, if_neg hne, if_neg hf]
   rw [e1] at hp
   refine goes h n1 n0 (g := 61) hp rfl rfl rfl rfl rfl (.inr (.inr (.inr (.inr (.inr (.inr (.inl ⟨rfl, fun e => absurd e hf⟩))))))) ?_
   have e : rem S.flaw { X.tel S x x.sn with stp := 2, m := { x.m with next := some 61 } } = (if S.flaw = 4 then 3 else 1) + (if x.m.check then 12296 else 2) := rfl
   rw [e, hr, h1, if_neg hf, if_neg hf]
   omega
theorem go_any (h : Inv S.flaw x) (h0 : x.m.next ≠ none) (now : Int) (C : Cst) : ∃ x', Stp S now x C x' := by
 rcases h.nx with e | e | e | e | e | e | e | e | e | e
 ·exact absurd e h0
 ·exact go_leave h e
 ·exact go_mask h e.1 e.2
 ·exact go_width h e.1 e.2
 ·exact go_number h e.1 e.2.1 e.2.2
 ·exact go_look h e.1 e.2.1 e.2.2.1 e.2.2.2.1 e.2.2.2.2
 ·exact go_table h e.1 e.2
 ·exact go_ver h e
 ·exact go_cur h e.1 e.2
 ·exact go_mark h e.1 e.2
theorem rem_pos (h : Inv S.flaw x) (h0 : x.m.next ≠ none) : 1 ≤ rem S.flaw x := by
 rcases h.nx with e | e | e | e | e | e | e | e | e | e
 ·exact absurd e h0
 all_goals (unfold rem)
 ·rw [e]; show (1 : Int) ≤ 1; decide
 ·rw [e.1]; show (1 : Int) ≤ 2; decide
 ·rw [e.1]; show (1 : Int) ≤ 3; decide
 ·rw [e.1]
  obtain ⟨_, _, z1, z2, z3⟩ := e
  show (1 : Int) ≤ 4 + (2 - x.m.kind) * (x.m.size + 1)
  rcases z1 with e | e | e <;> rw [e] <;> omega
 ·rw [e.1]
  obtain ⟨_, _, ⟨z1, z2, z3⟩, s0, s1⟩ := e
  show (1 : Int) ≤ (x.m.size - x.m.seen) + 4 + (2 - x.m.kind) * (x.m.size + 1)
  rcases z1 with e | e | e <;> rw [e] <;> omega
 ·rw [e.1]; show (1 : Int) ≤ 12295; decide
 ·rw [e]; show (1 : Int) ≤ if x.m.check then 12296 else 2; split <;> decide
 ·rw [e.1]; show (1 : Int) ≤ (if S.flaw = 4 then 3 else 1) + (if x.m.check then 12296 else 2); split <;> split <;> decide
 ·rw [e.1]; show (1 : Int) ≤ (2 - x.stp) + (if S.flaw = 4 then 0 else 1) + (if x.m.check then 12296 else 2)
  have := e.2
  split <;> split <;> omega
end
theorem stW_len (ws : List Int) (a v : Int) : (stW ws a v).length = ws.length := by unfold stW; split <;> simp
theorem stW_get (ws : List Int) (a v : Int) (k : Nat) (hk : (k : Int) ≠ a) : (stW ws a v).getD k 0 = ws.getD k 0 := by
 unfold stW
 split
 ·rename_i h
  obtain ⟨j, rfl, hj⟩ := lkE_in h
  have : j ≠ k := by omega
  rw [List.getD_eq_getElem?_getD, List.getD_eq_getElem?_getD, Int.toNat_natCast, List.getElem?_set_ne this]
 ·rfl
theorem stW_ne (ws : List Int) (a v : Int) (k : Nat) (p : Int) (hv : v ≠ p) (hk : ws.getD k 0 ≠ p) : (stW ws a v).getD k 0 ≠ p := by
 by_cases e : (k : Int) = a
 ·unfold stW
  split
  ·rename_i h
   obtain ⟨j, rfl, hj⟩ := lkE_in h
   obtain rfl : k = j := by omega
   rw [List.getD_eq_getElem?_getD, Int.toNat_natCast, List.getElem?_set_self hj]
   exact hv
  ·exact hk
 ·rw [stW_get ws a v k e]; exact hk
theorem stW_hit (ws : List Int) (v : Int) (k : Nat) (hk : k < ws.length) (hp : ws.getD k 0 ≠ poison) : (stW ws (k : Int) v).getD k 0 = v := by
 have h : lkE ws (k : Int) = 0 := by unfold lkE; rw [if_neg (by omega), Int.toNat_natCast, if_neg hp]
 unfold stW
 rw [if_pos h, Int.toNat_natCast, List.getD_eq_getElem?_getD, List.getElem?_set_self hk]
 rfl
def Sm (x x' : X) : Prop := x'.ws = x.ws ∧ x'.sn = x.sn ∧ x'.m.slot = x.m.slot
theorem sm_at (x : X) (a : Int) (good : X → Int → X) (h : ∀ v, Sm x (good (x.acc a) v)) : Sm x (X.at_ x a good) := by
 unfold X.at_
 split
 ·exact h _
 ·exact ⟨rfl, rfl, rfl⟩
theorem setF_slot (m : Mst) (v : Int) : (setF m v).slot = m.slot := by
 unfold setF
 split
 ·rfl
 ·split <;> rfl
theorem sm_pre {S : Sh} {now : Int} {x x' : X} {C C' : Cst} (hs : preS S now x C = some (x', C')) (hn : x.m.next ≠ some 60) : Sm x x' := by
 unfold preS at hs
 split at hs
 ·rename_i e; exact absurd e hn
 ·cases hs
  unfold curX
  simp only
  split <;> exact ⟨rfl, rfl, rfl⟩
 ·unfold verS at hs
  split at hs
  ·split at hs
   ·cases hs; exact ⟨rfl, rfl, rfl⟩
   ·split at hs
    ·cases hs; exact ⟨rfl, rfl, rfl⟩
    ·obtain ⟨⟨al, hit, C1⟩, h1, h2⟩ := Option.map_eq_some_iff.1 hs
     cases h2; exact ⟨rfl, rfl, rfl⟩
  ·cases hs; exact ⟨rfl, rfl, rfl⟩
 ·cases hs
  exact sm_at x _ _ fun v => by split <;> exact ⟨rfl, rfl, rfl⟩
 ·split at hs
  ·unfold lookS at hs
   split at hs
   ·split at hs
    ·cases hs; exact ⟨rfl, rfl, rfl⟩
    ·split at hs
     ·obtain ⟨C1, h1, h2⟩ := Option.map_eq_some_iff.1 hs
      cases h2; exact ⟨rfl, rfl, rfl⟩
     ·cases hs; exact ⟨rfl, rfl, rfl⟩
   ·cases hs; exact ⟨rfl, rfl, rfl⟩
  ·cases hs
 ·split at hs
  ·cases hs
   exact sm_at x _ _ fun v => by
    simp only
    split
    ·exact ⟨rfl, rfl, setF_slot _ _⟩
    ·exact ⟨rfl, rfl, setF_slot _ _⟩
  ·cases hs
 ·cases hs
  exact sm_at x _ _ fun v => ⟨rfl, rfl, rfl⟩
 ·unfold maskS at hs
  split at hs
  ·split at hs
   ·cases hs; exact ⟨rfl, rfl, rfl⟩
   ·obtain ⟨C1, h1, h2⟩ := Option.map_eq_some_iff.1 hs
    cases h2; exact ⟨rfl, rfl, rfl⟩
  ·cases hs; exact ⟨rfl, rfl, rfl⟩
 ·cases hs
structure Cl (S : Sh) (o s : Nat) (x : X) : Prop where
 len : 6 ≤ x.ws.length
 w1 : x.ws.getD 1 0 ≠ poison
 wo : x.ws.getD o 0 = 0
 ok : x.ws.getD s 0 ≠ poison
 sn : x.sn ≠ poison
 done : x.m.next = none → x.ws.getD s 0 = 0
 slot : x.m.slot = (s : Int) - 4
structure Fix (S : Sh) (o s : Nat) : Prop where
 ep : S.ep = 1
 first : S.first = 4
 os : (o = 4 ∧ s = 5) ∨ (o = 5 ∧ s = 4)
section
variable {S : Sh} {o s : Nat} {x x' : X}
theorem Cl.spot (hf : Fix S o s) (h : Cl S o s x) : RSteps.spot S x = (s : Int) := by
 have := hf.os
 unfold RSteps.spot
 rw [hf.first, h.slot]
 unfold wrap64
 omega
theorem Cl.step {now : Int} {C C' : Cst} (hf : Fix S o s) (h : Cl S o s x) (hs : stepS S now x C = some (x', C')) : Cl S o s x' := by
 have hos := hf.os
 have hlt : s < x.ws.length := by have := h.len; omega
 have hsp := h.spot hf
 unfold stepS at hs
 split at hs
 ·cases hs
  have hit := stW_hit x.ws 0 s hlt h.ok
  have e : (leaveX S x).ws = stW x.ws (s : Int) 0 := by show stW x.ws (RSteps.spot S x) 0 = _; rw [hsp]
  exact ⟨by rw [e, stW_len]; exact h.len, by rw [e]; exact stW_ne _ _ _ _ _ (by decide) h.w1, by rw [e, stW_get _ _ _ _ (by omega)]; exact h.wo, by rw [e, hit]; decide, h.sn, fun _ => by rw [e, hit], h.slot⟩
 ·split at hs
  ·cases hs
  ·rename_i x1 C1 h1
   split at hs
   ·rename_i h2
    cases hs
    have hnn : x'.m.next ≠ none := by intro e; rw [e] at h2; cases h2
    by_cases hn : x.m.next = some 60
    ·unfold preS at h1
     rw [hn] at h1
     simp only at h1
     split at h1
     ·cases h1
      unfold markX at hnn ⊢
      split at hnn
      ·rename_i h0
       rw [if_pos h0]
       refine ⟨h.len, h.w1, h.wo, h.ok, ?_, fun e => absurd e hnn, h.slot⟩
       show lkV x.ws S.ep ≠ poison
       rw [hf.ep]
       unfold lkV
       split
       ·decide
       ·exact h.w1
      ·rename_i h0
       rw [if_neg h0]
       have e : (X.tel S x x.sn).ws = stW x.ws (s : Int) x.sn := by show stW x.ws (RSteps.spot S x) x.sn = _; rw [hsp]
       refine ⟨?_, ?_, ?_, ?_, h.sn, fun e => absurd e hnn, h.slot⟩
       ·show 6 ≤ (X.tel S x x.sn).ws.length
        rw [e, stW_len]; exact h.len
       ·show (X.tel S x x.sn).ws.getD 1 0 ≠ poison
        rw [e]; exact stW_ne _ _ _ _ _ h.sn h.w1
       ·show (X.tel S x x.sn).ws.getD o 0 = 0
        rw [e, stW_get _ _ _ _ (by omega)]; exact h.wo
       ·show (X.tel S x x.sn).ws.getD s 0 ≠ poison
        rw [e]; exact stW_ne _ _ _ _ _ h.sn h.ok
     ·cases h1
    ·obtain ⟨a, b, c⟩ := sm_pre h1 hn
     exact ⟨by rw [a]; exact h.len, by rw [a]; exact h.w1, by rw [a]; exact h.wo, by rw [a]; exact h.ok, by rw [b]; exact h.sn, fun e => absurd e hnn, by rw [c]; exact h.slot⟩
   ·cases hs
theorem Cl.store {a v : Int} {tr : List S115} {bad : Int} (hf : Fix S o s) (h : Cl S o s x) (h4 : a ≠ 4) (h5 : a ≠ 5) (hv : v ≠ poison) : Cl S o s { x with ws := stW x.ws a v, tr := tr, bad := bad } := by
 have hos := hf.os
 exact ⟨by show 6 ≤ (stW x.ws a v).length; rw [stW_len]; exact h.len, stW_ne _ _ _ _ _ hv h.w1, (stW_get _ _ _ _ (by omega)).trans h.wo, stW_ne _ _ _ _ _ hv h.ok, h.sn, fun e => (stW_get _ _ _ _ (by omega)).trans (h.done e), h.slot⟩
theorem Inv.store {flaw : Int} {a v : Int} {tr : List S115} {bad : Int} (h : Inv flaw x) : Inv flaw { x with ws := stW x.ws a v, tr := tr, bad := bad } := ⟨h.nocache, h.nx, h.sane, h.chk, h.fresh⟩
end
end Go.Proofs.YtdgkppldopiaoaaGreat.EStep
/- A memory's Words (two of them), a check without a cache, a version, walked. -/
namespace Go.Proofs.YtdgkppldopiaoaaGreat.EWords
open Go.RowKit YtdgkppldopiaoaaGreatW.PrintWords YtdgkppldopiaoaaGreatW.PrintLast YtdgkppldopiaoaaGreatW.PrintMore BMap BRow GDiffer MLines MPol MPut RMem RCells REpoch RMach RSteps RSeek RLook RNum RNew RCache RCget RCput RBegin RVer RKnown RLk RMask RTrace RCheck RRun EStep Go.Maps
open PG
set_option maxHeartbeats 1000000
set_option maxRecDepth 100000
theorem setF_check (m : Mst) (v : Int) : (setF m v).check = m.check := by
 unfold setF
 split
 ·rfl
 ·split <;> rfl
theorem chk_at (x : X) (a : Int) (good : X → Int → X) (h : ∀ v, (good (x.acc a) v).m.check = x.m.check) : (X.at_ x a good).m.check = x.m.check := by
 unfold X.at_
 split
 ·exact h _
 ·rfl
theorem chk_pre {S : Sh} {now : Int} {x x' : X} {C C' : Cst} (hs : preS S now x C = some (x', C')) : x'.m.check = x.m.check := by
 unfold preS at hs
 split at hs
 ·split at hs
  ·cases hs
   unfold markX
   split <;> rfl
  ·cases hs
 ·cases hs
  unfold curX
  simp only
  split <;> rfl
 ·unfold verS at hs
  split at hs
  ·split at hs
   ·cases hs; rfl
   ·split at hs
    ·cases hs; rfl
    ·obtain ⟨⟨al, hit, C1⟩, h1, h2⟩ := Option.map_eq_some_iff.1 hs
     cases h2; rfl
  ·cases hs; rfl
 ·cases hs
  exact chk_at x _ _ fun v => by split <;> rfl
 ·split at hs
  ·unfold lookS at hs
   split at hs
   ·split at hs
    ·cases hs; rfl
    ·split at hs
     ·obtain ⟨C1, h1, h2⟩ := Option.map_eq_some_iff.1 hs
      cases h2; rfl
     ·cases hs; rfl
   ·cases hs; rfl
  ·cases hs
 ·split at hs
  ·cases hs
   exact chk_at x _ _ fun v => by
    simp only
    split
    ·exact setF_check _ _
    ·exact setF_check _ _
  ·cases hs
 ·cases hs
  exact chk_at x _ _ fun v => rfl
 ·unfold maskS at hs
  split at hs
  ·split at hs
   ·cases hs; rfl
   ·obtain ⟨C1, h1, h2⟩ := Option.map_eq_some_iff.1 hs
    cases h2; rfl
  ·cases hs; rfl
 ·cases hs
theorem chk_step {S : Sh} {now : Int} {x x' : X} {C C' : Cst} (hs : stepS S now x C = some (x', C')) : x'.m.check = x.m.check := by
 unfold stepS at hs
 split at hs
 ·cases hs; rfl
 ·split at hs
  ·cases hs
  ·rename_i x1 C1 h1
   split at hs
   ·cases hs; exact chk_pre h1
   ·cases hs
abbrev kI : Kd Int := Kd.int .i64
abbrev BkAt (w : World) (bk bm : Nat) (v : Value) : Prop := w.heap[bk]? = some (.cells #[.pointer (some ⟨bm, 0, none⟩), v] 133 (0, 0))
theorem info3 : (Tryz.prog.info? 3).map (fun i => (i.zero, i.size, i.bytes)) = some (some (.int .i64 0), 1, 8) := by kernel_rfl
theorem store_int_row {W : World} {base : Nat} {ok : Nat → Prop} {v old : Value} {l : List Int} {a : Addr} (hR : Kd.R kI 3 W base ok v l) (hc : W.cell? a = some old) (hf : W.frozen? a = false) :
  (Instr.storeAt 22 (.pointer (some a)) v).run Tryz.prog W = .ok () (W.setCell a v) := by
 obtain ⟨A, c, rfl⟩ := Kd.R_slice hR
 have hu := Tryz.underlying22
 simp [Instr.storeAt, Instr.sureAddr, go_sem, hc, hf, hu]
theorem take_calls (w : World) (base bm bw bk n k : Nat) (x : Int) (v : Value) (l : List Int) (h1 : bm < base) (h2 : bw < base) (h3 : base ≤ bk) (hz : base ≤ w.heap.size) (c0 : w.cell? ⟨bm, 0, none⟩ = some (.slice (some ⟨bw, 0, none⟩) n n)) (cw : w.cell? ⟨bw, k, none⟩ = some (.int .i64 x)) (hk : k < n) (hn : n ≤ 65536) (hB : BkAt w bk bm v) (hR : Kd.R kI 3 w base (fun j => j ≠ bk) v l) (hl : l.length ≤ 1000) :
  Calls Tryz.prog 46 #[.pointer (some ⟨bk, 0, none⟩), .int .i64 k] w fun e w' => e = .returned (.tuple #[]) ∧ ∃ v', BkAt w' bk bm v' ∧ Kd.R kI 3 w' base (fun j => j ≠ bk) v' (l ++ [x]) ∧ Below base w w' := by
 have HB := jA hB
 have HR := jA hR
 have HLIM := jA (show (l.length + 1) * 8 ≤ 140737488355328 by omega)
 have hbk : bk < w.heap.size := (Array.getElem?_eq_some_iff.1 hB).1
 have HLT := jA (show bm < base ∧ bw < base ∧ base ≤ bk ∧ base ≤ w.heap.size ∧ bk < w.heap.size from ⟨h1, h2, h3, hz, hbk⟩)
 have b0 := cellOf hB 0 (.pointer (some ⟨bm, 0, none⟩)) rfl
 have b1 := cellOf hB 1 v rfl
 have hne : some bk ≠ v.ownBlock := fun e => hR.1 _ e.symm rfl
 have HNE := jA hne
 clear hB hR hl h1 h2 h3 hz hbk hne
 go_enter Tryz.func46, Tryz.ntmps46
 go_upto_region 0 with fail
 refine start_ (n := 20) (S := fun w' => w'.cell? ⟨bk, 0, none⟩ = some (.pointer (some ⟨bm, 0, none⟩)) ∧ w'.cell? ⟨bk, 1, none⟩ = some v ∧ w'.cell? ⟨bm, 0, none⟩ = some (.slice (some ⟨bw, 0, none⟩) n n) ∧ w'.cell? ⟨bw, k, none⟩ = some (.int .i64 x)) (ds := [19]) (Jb 20 0) (by kernel_rfl) rfl (by kernel_rfl) ⟨b0, b1, c0, cw⟩ (fun hHeld => ?_)
 refine Jp 0 4 (Jb 20 1) rfl rfl ?_
 refine Jp 1 5 (Jb 20 3) rfl rfl ?_
 refine Jp 2 6 (Jb 20 7) rfl rfl ?_
 refine Jp 3 7 (Jb 20 15) rfl rfl ?_
 refine Jk 4 8 (Jb 20 31) rfl rfl hHeld (.inl ⟨by rfl, by rintro w' ⟨s0, s1, s2, s3⟩; go_simp; with_reducible rfl⟩) ?_
 refine Jp 5 9 (Jb 20 63) rfl rfl ?_
 refine Jp 6 10 (Jb 20 127) rfl rfl ?_
 refine Jp 7 11 (Jb 20 255) rfl rfl ?_
 refine Jk 8 12 (Jb 20 511) rfl rfl hHeld (.inl ⟨by rfl, by rintro w' ⟨s0, s1, s2, s3⟩; go_simp; with_reducible rfl⟩) ?_
 refine Jp 9 13 (Jb 20 1023) rfl rfl ?_
 refine Jp 10 14 (Jb 20 2047) rfl rfl ?_
 refine Jk 11 15 (Jb 20 4095) rfl rfl hHeld (.inl ⟨by rfl, by rintro w' ⟨s0, s1, s2, s3⟩; go_simp; with_reducible rfl⟩) ?_
 refine Jp 12 16 (Jb 20 8191) rfl rfl ?_
 refine Jp 13 17 (Jb 20 16383) rfl rfl ?_
 refine Jk 14 18 (Jb 20 32767) rfl rfl hHeld (.inl ⟨by rfl, by rintro w' ⟨s0, s1, s2, s3⟩; go_simp; with_reducible rfl⟩) ?_
 refine one_ (i := 15) (N := some 19) (Jb 20 65535) rfl rfl (by kernel_rfl) (by decide) (fun K hK => ?_)
 refine GDiffer.step_run rfl rfl (w' := w.drew.alloc (.cells #[.int .i64 x] 3)) (v := .slice (some ⟨w.drew.heap.size, 0, none⟩) 1 1) (by go_simp) ?_
 refine hK.out _ _ ⟨pw_cell_below (below_alloc (Below.refl _ _) _) b0, pw_cell_below (below_alloc (Below.refl _ _) _) b1, pw_cell_below (below_alloc (Below.refl _ _) _) c0, pw_cell_below (below_alloc (Below.refl _ _) _) cw⟩ (fun hHeld => ?_)
 clear hK K
 refine norm_ (a' := ?_) ?_ ?_; rotate_left; (show Act.put _ (some 19) _ = _; simp only [Act.put, Jq, Jr, Js]; rfl)
 refine one_ (i := 16) (N := some 20) (Jb 20 131071) rfl rfl (by kernel_rfl) (by decide) (fun K hK => ?_)
 refine Kd.R_append_step kI (w0 := w.drew) base rfl (.tmp 8) (.tmp 19) 22 3 (.int .i64 0) 8 rfl Tryz.underlying22 info3 rfl (by decide) (by decide) v l x [.int .i64 x] (fun j => j ≠ bk) (fun _ => False) rfl rfl rfl (fun _ hk => hk.elim) (fun j hj => by have := HLT.out.2.2.2.2; have : w.drew.heap.size = w.heap.size := rfl; omega) (Kd.R_below HR.out (below_drew (Below.refl _ _))) (Below.refl _ _) HLT.out.2.2.2.1 HLIM.out (fun v8 w8 hR8 hB8 hg8 hat8 => ?_)
 have hbk8 : BkAt w8 bk bm v := (hg8.block _ HLT.out.2.2.2.2 HNE.out).trans HB.out
 have HR8 := jA hR8
 have HB8 := jA hB8
 have HBK8 := jA hbk8
 refine hK.out _ _ ⟨cellOf hbk8 0 _ rfl, cellOf hbk8 1 _ rfl, (by rw [hB8.cell HLT.out.1]; exact c0), (by rw [hB8.cell HLT.out.2.1]; exact cw)⟩ (fun hHeld => ?_)
 clear hK K hR8 hB8 hg8 hat8 hbk8
 refine norm_ (a' := ?_) ?_ ?_; rotate_left; (show Act.put _ (some 20) _ = _; simp only [Act.put, Jq, Jr, Js]; rfl)
 refine Jp 17 21 (Jb 20 262143) rfl rfl ?_
 refine Jp 18 22 (Jb 20 524287) rfl rfl ?_
 refine last_ (i := 19) (N := none) (Jb 20 1048575) rfl rfl (by kernel_rfl) (by decide) (fun K hK => ?_)
 refine GDiffer.step_skip (w' := w8.setCell ⟨bk, 1, none⟩ v8) rfl rfl (by have hst := store_int_row HR8.out (cellOf HBK8.out 1 v rfl) (MPut.frozen_of_row HBK8.out 1); simp [execOp, Act.eval, hst]) ?_
 refine hK.out _ _ ?_
 clear hK K
 refine done_ (by kernel_rfl) ?_
 go_wp2
 go_end0
 refine ⟨rfl, v8, by have := blk_set HBK8.out 1 v8; simpa using this, Kd.R_far HR8.out (fun j hj => hj) _, ?_⟩
 exact Below.setCell (Below.trans (below_drew (Below.refl _ _)) HB8.out) HLT.out.2.2.1 _
theorem over_calls (w : World) (base bm bw bk n : Nat) (x y : Int) (h1 : bm < base) (h2 : bw < base) (h3 : base ≤ bk) (hz : base ≤ w.heap.size) (c0 : w.cell? ⟨bm, 0, none⟩ = some (.slice (some ⟨bw, 0, none⟩) n n)) (cx : w.cell? ⟨bw, 4, none⟩ = some (.int .i64 x)) (cy : w.cell? ⟨bw, 5, none⟩ = some (.int .i64 y)) (h6 : 6 ≤ n) (hn : n ≤ 65536) (hB : BkAt w bk bm (.slice none 0 0)) :
  Calls Tryz.prog 45 #[.pointer (some ⟨bm, 0, none⟩), .int .i64 4, .int .i64 2, .func (.func 46) #[.pointer (some ⟨bk, 0, none⟩)] #[]] w fun e w' => e = .returned (.int .i64 0) ∧ ∃ v', BkAt w' bk bm v' ∧ Kd.R kI 3 w' base (fun j => j ≠ bk) v' [x, y] ∧ Below base w w' := by
 have HB := jA hB
 have HLT := jA (show bm < base ∧ bw < base ∧ base ≤ bk ∧ base ≤ w.heap.size from ⟨h1, h2, h3, hz⟩)
 have HC := jA (And.intro c0 (And.intro cx cy))
 have HN := jA (And.intro h6 hn)
 have hn1 : ¬ ((4 : Int) > (n : Int) - 2) := by omega
 have hn2 : (n : Int) ≤ 65536 := by omega
 clear hB h1 h2 h3 hz cx cy
 go_enter Tryz.func45, Tryz.ntmps45
 go_wp2
 go_loopw [28] (fun u wr => ∃ j : Nat, j ≤ 2 ∧ u = .int .i64 j ∧ Aside0 (∃ v', BkAt wr bk bm v' ∧ Kd.R kI 3 wr base (fun j => j ≠ bk) v' (([x, y] : List Int).take j) ∧ Below base w wr)) (fun u _ => 2 - (intOf u).toNat)
 case atStart => exact ⟨0, by omega, rfl, ⟨_, HB.out, Kd.R_nil _ _ _ _ _, Below.refl _ _⟩⟩
 case round =>
  obtain ⟨j, hj, rfl, HR⟩ := hrel
  by_cases hlt : j < 2
  ·obtain ⟨v', hb', hr', hw'⟩ := HR.out
   have cz : wr.cell? ⟨bw, 4 + j, none⟩ = some (.int .i64 (([x, y] : List Int).getD j 0)) := by
    rw [hw'.cell HLT.out.2.1]
    rcases (by omega : j = 0 ∨ j = 1) with rfl | rfl
    ·exact HC.out.2.1
    ·exact HC.out.2.2
   have ct := take_calls wr base bm bw bk n (4 + j) (([x, y] : List Int).getD j 0) v' (([x, y] : List Int).take j) HLT.out.1 HLT.out.2.1 HLT.out.2.2.1 (Nat.le_trans HLT.out.2.2.2 hw'.size) (by rw [hw'.cell HLT.out.1]; exact HC.out.1) cz (by have := HN.out; omega) HN.out.2 hb' hr' (by simp; omega)
   have e4 : ((4 + j : Nat) : Int) = 4 + (j : Int) := by omega
   rw [e4] at ct
   have HT := jA ct
   have HW := jA hw'
   clear hb' hr' hw' cz ct e4
   go_wp2_with (first | (go_at_call 46; (refine HT.out.mono ?_); rintro e w2 ⟨rfl, v2, hb2, hr2, hw2⟩; have H2 := jA (And.intro hb2 (And.intro hr2 hw2)); clear hb2 hr2 hw2))
   go_roundw
   case rel =>
    refine ⟨j + 1, by omega, by go_num, ⟨v2, H2.out.1, ?_, HW.out.trans H2.out.2.2⟩⟩
    have := H2.out.2.1
    rcases (by omega : j = 0 ∨ j = 1) with rfl | rfl
    ·exact this
    ·exact this
   case measure => simp [intOf]; omega
  ·obtain rfl : j = 2 := by omega
   go_wp2
   go_ret
   obtain ⟨v', hb', hr', hw'⟩ := HR.out
   exact ⟨rfl, v', hb', hr', hw'⟩
theorem words_calls (F : Nat → Prop) (w : World) (bm bw : Nat) (ws : List Int) (tr : List S115) (bad : Int) (tv : Value) (hM : Mem F w bm bw ws tr bad tv) (h6 : 6 ≤ ws.length) :
  Calls Tryz.prog 20 #[.pointer (some ⟨bm, 0, none⟩), .int .i64 4, .int .i64 2] w fun e w' => ∃ A c, e = .returned (.tuple #[.slice (some A) 2 c, .int .i64 0]) ∧ (2 : Int) ≤ c ∧ w'.cell? A = some (.int .i64 (ws.getD 4 0)) ∧ w'.cell? (A.add 1) = some (.int .i64 (ws.getD 5 0)) ∧ Below w.heap.size w w' := by
 have c0 := hM.cell0
 have cx := hM.cellw 4 (by omega)
 have cy := hM.cellw 5 (by omega)
 have hal : BkAt (w.alloc (.cells #[.pointer (some ⟨bm, 0, none⟩), .slice none 0 0] 133)) w.heap.size bm (.slice none 0 0) := heap_alloc_new w _
 have hb0 := below_alloc (Below.refl w.heap.size w) (.cells #[.pointer (some ⟨bm, 0, none⟩), .slice none 0 0] 133)
 have HQ := jA (over_calls _ w.heap.size bm bw w.heap.size ws.length (ws.getD 4 0) (ws.getD 5 0) hM.ltm hM.ltw (Nat.le_refl _) hb0.size (pw_cell_below hb0 c0) (pw_cell_below hb0 cx) (pw_cell_below hb0 cy) h6 hM.small hal)
 have HB0 := jA hb0
 clear hM c0 cx cy h6 hal hb0
 go_enter Tryz.func20, Tryz.ntmps20
 go_wp2_with (first | (go_at_call 45; (refine HQ.out.mono ?_); rintro e w2 ⟨rfl, v2, hb2, hr2, hw2⟩; have HR := jA hr2; have HW := jA hw2; have c1 := cellOf hb2 1 v2 rfl; obtain ⟨A2, q2, rfl⟩ := Kd.R_slice hr2; clear hb2 hr2 hw2))
 go_ret2
 obtain ⟨_, hc, hC⟩ := Kd.R_reads' HR.out
 obtain ⟨ad, rfl, hel⟩ := hC.2.2 (by simp)
 have g0 := hel 0 _ rfl
 have g1 := hel 1 _ rfl
 obtain ⟨u0, _, rfl, h0⟩ := g0
 obtain ⟨u1, _, rfl, h1⟩ := g1
 exact ⟨ad, q2, rfl, by simp at hc ⊢; omega, h0 0 _ rfl, h1 0 _ rfl, HB0.out.trans HW.out⟩
def mN (slot flaw s o a : Int) : Mst := { m0 slot flaw with check := true, y0 := s, y1 := o, y2 := a }
theorem check_nil (w : World) (bsite bm bs : Nat) (cur flaw ep first n slot s o a : Int) (hs : SiteAt w bsite bm bs cur flaw) (hS : SlotsAt w bs bm ep first n) (h0 : 0 ≤ slot) (h1 : slot < n) :
  Calls Tryz.prog 17 #[.pointer (some ⟨bsite, 0, none⟩), .int .i64 slot, .pointer none, .int .i64 s, .int .i64 o, .int .i64 a] w fun e w' => ∃ b, e = .returned (.pointer (some ⟨b, 0, none⟩)) ∧ w.heap.size < b ∧ MachAt w' b bsite w.heap.size (mN slot flaw s o a) ∧ SecAt w' w.heap.size bs slot 0 0 ∧ Below w.heap.size w w' := by
 have HQ := jA (begin_calls w bsite bm bs cur flaw ep first n slot hs hS h0 h1)
 have aft : ∀ w1 b, MachAt w1 b bsite w.heap.size (m0 slot flaw) → ((w1).cell? ⟨b, 2, none⟩ = some (.pointer none) ∧ (w1).frozen? ⟨b, 2, none⟩ = false ∧ ((w1).setCell ⟨b, 2, none⟩ (.pointer none)).cell? ⟨b, 3, none⟩ = some (.bool false) ∧ ((w1).setCell ⟨b, 2, none⟩ (.pointer none)).frozen? ⟨b, 3, none⟩ = false ∧ (((w1).setCell ⟨b, 2, none⟩ (.pointer none)).setCell ⟨b, 3, none⟩ (.bool true)).cell? ⟨b, 4, none⟩ = some (.int .i64 0) ∧ (((w1).setCell ⟨b, 2, none⟩ (.pointer none)).setCell ⟨b, 3, none⟩ (.bool true)).frozen? ⟨b, 4, none⟩ = false ∧ ((((w1).setCell ⟨b, 2, none⟩ (.pointer none)).setCell ⟨b, 3, none⟩ (.bool true)).setCell ⟨b, 4, none⟩ (.int .i64 s)).cell? ⟨b, 5, none⟩ = some (.int .i64 0) ∧ ((((w1).setCell ⟨b, 2, none⟩ (.pointer none)).setCell ⟨b, 3, none⟩ (.bool true)).setCell ⟨b, 4, none⟩ (.int .i64 s)).frozen? ⟨b, 5, none⟩ = false ∧ (((((w1).setCell ⟨b, 2, none⟩ (.pointer none)).setCell ⟨b, 3, none⟩ (.bool true)).setCell ⟨b, 4, none⟩ (.int .i64 s)).setCell ⟨b, 5, none⟩ (.int .i64 o)).cell? ⟨b, 6, none⟩ = some (.int .i64 0) ∧ (((((w1).setCell ⟨b, 2, none⟩ (.pointer none)).setCell ⟨b, 3, none⟩ (.bool true)).setCell ⟨b, 4, none⟩ (.int .i64 s)).setCell ⟨b, 5, none⟩ (.int .i64 o)).frozen? ⟨b, 6, none⟩ = false ∧ MachAt ((((((w1).setCell ⟨b, 2, none⟩ (.pointer none)).setCell ⟨b, 3, none⟩ (.bool true)).setCell ⟨b, 4, none⟩ (.int .i64 s)).setCell ⟨b, 5, none⟩ (.int .i64 o)).setCell ⟨b, 6, none⟩ (.int .i64 a)) b bsite w.heap.size (mN slot flaw s o a) ∧ Only b w1 ((((((w1).setCell ⟨b, 2, none⟩ (.pointer none)).setCell ⟨b, 3, none⟩ (.bool true)).setCell ⟨b, 4, none⟩ (.int .i64 s)).setCell ⟨b, 5, none⟩ (.int .i64 o)).setCell ⟨b, 6, none⟩ (.int .i64 a))) := fun w1 b hm => by
  have k0 := blk_set hm 2 (.pointer none)
  have k1 := blk_set k0 3 (.bool true)
  have k2 := blk_set k1 4 (.int .i64 s)
  have k3 := blk_set k2 5 (.int .i64 o)
  have k4 := blk_set k3 6 (.int .i64 a)
  exact ⟨cellOf hm 2 _ rfl, MPut.frozen_of_row hm 2, cellOf k0 3 _ rfl, MPut.frozen_of_row k0 3, cellOf k1 4 _ rfl, MPut.frozen_of_row k1 4, cellOf k2 5 _ rfl, MPut.frozen_of_row k2 5, cellOf k3 6 _ rfl, MPut.frozen_of_row k3 6, k4, (((((Only.refl b w1).setCell 2 _).setCell 3 _).setCell 4 _).setCell 5 _).setCell 6 _⟩
 have HAFT := jA aft
 have hi := i87
 clear hs hS aft
 go_enter Tryz.func17, Tryz.ntmps17
 go_wp2_with (first | (go_at_call 44; (refine HQ.out.mono ?_); rintro e w1 ⟨b, rfl, hlt, hm, hx, hb⟩; obtain ⟨f0, f1, f2, f3, f4, f5, f6, f7, f8, f9, f10, f11⟩ := HAFT.out w1 b hm; have HA := jA f10; have HO := jA f11; have HX := jA hx; have HB := jA hb; have HLT := jA hlt; clear hm hx hb f10 f11 hlt))
 go_ret
 refine ⟨_, rfl, HLT.out, HA.out, (HO.out.at_ _ (by have := HLT.out; omega)).trans HX.out, ?_⟩
 have hl' : w.heap.size ≤ b := Nat.le_of_lt HLT.out
 exact Below.setCell (Below.setCell (Below.setCell (Below.setCell (Below.setCell HB.out hl' _) hl' _) hl' _) hl' _) hl' _
theorem version_calls (w : World) (bsite bm bs : Nat) (cur flaw ep first n slot : Int) (hs : SiteAt w bsite bm bs cur flaw) (hS : SlotsAt w bs bm ep first n) (h0 : 0 ≤ slot) (h1 : slot < n) :
  Calls Tryz.prog 18 #[.pointer (some ⟨bsite, 0, none⟩), .int .i64 slot] w fun e w' => ∃ b, e = .returned (.pointer (some ⟨b, 0, none⟩)) ∧ w.heap.size < b ∧ MachAt w' b bsite w.heap.size (m0 slot flaw) ∧ SecAt w' w.heap.size bs slot 0 0 ∧ Below w.heap.size w w' := by
 have HQ := jA (begin_calls w bsite bm bs cur flaw ep first n slot hs hS h0 h1)
 clear hs hS
 go_enter Tryz.func18, Tryz.ntmps18
 go_wp2_with (first | (go_at_call 44; (refine HQ.out.mono ?_); rintro e w1 ⟨b, rfl, hlt, hm, hx, hb⟩; have HM := jA hm; have HX := jA hx; have HB := jA hb; have HLT := jA hlt; clear hm hx hb hlt))
 go_ret
 exact ⟨_, rfl, HLT.out, HM.out, HX.out, HB.out⟩
end Go.Proofs.YtdgkppldopiaoaaGreat.EWords
/- ended (gatehouselaw23), walked: a check without a cache ends, whatever is written between its steps. -/
namespace Go.Proofs.YtdgkppldopiaoaaGreat.EEnded
open Go.RowKit YtdgkppldopiaoaaGreatW.PrintWords YtdgkppldopiaoaaGreatW.PrintLast YtdgkppldopiaoaaGreatW.PrintMore BMap BRow GDiffer MLines MPol MPut RMem RCells REpoch RMach RSteps RSeek RLook RNum RNew RCache RCget RCput RBegin RVer RKnown RLk RMask RTrace RCheck RRun EStep EWords Go.Maps
open PG
set_option maxHeartbeats 1000000
set_option maxRecDepth 100000
theorem len_step {S : Sh} {now : Int} {x x' : X} {C C' : Cst} (hs : stepS S now x C = some (x', C')) : x'.ws.length = x.ws.length := by
 unfold stepS at hs
 split at hs
 ·cases hs
  exact stW_len _ _ _
 ·split at hs
  ·cases hs
  ·rename_i x1 C1 h1
   split at hs
   ·cases hs
    by_cases hn : x.m.next = some 60
    ·unfold preS at h1
     rw [hn] at h1
     simp only at h1
     split at h1
     ·cases h1
      unfold markX
      split
      ·rfl
      ·exact stW_len _ _ _
     ·cases h1
    ·rw [(sm_pre h1 hn).1]
   ·cases hs
theorem ablk {F : Nat → Prop} {ad : Addr} {n : Nat} (h : F ad.block) : F (ad.add n).block := by rw [show (ad.add n).block = ad.block by unfold Addr.add; split <;> rfl]; exact h
def Nums (F : Nat → Prop) (w : World) (A : Option Addr) (ns : List Int) : Prop := 0 < ns.length → ∃ ad, A = some ad ∧ F ad.block ∧ ∀ i, i < ns.length → w.cell? (ad.add i) = some (.int .i64 (ns.getD i 0))
theorem Nums.keep {F : Nat → Prop} {w W : World} {A : Option Addr} {ns : List Int} (h : Nums F w A ns) (hk : Keep F w W) : Nums F W A ns := fun h0 => by
 obtain ⟨ad, rfl, hf, hc⟩ := h h0
 exact ⟨ad, rfl, hf, fun i hi => Keep.cell hk (hc i hi) (by rw [show (ad.add i).block = ad.block by unfold Addr.add; split <;> rfl]; exact hf)⟩
theorem store_ry {F : Nat → Prop} {S : Sh} {w : World} {x : X} {bset : Nat} {C : Cst} (hy : Ry F S w x bset C) (hc : x.m.cache = none) (a v : Int) (hl : x.tr.length < 1000000000) :
  Calls Tryz.prog 15 #[.pointer (some ⟨S.bm, 0, none⟩), .int .i64 a, .int .i64 v] w fun e w' => e = .returned (.int .i64 (lkE x.ws a)) ∧ Ry F S w' { x with ws := stW x.ws a v, tr := x.tr ++ [accS x.ws a v], bad := lkB x.ws a x.bad } bset C ∧ Keep F w w' := by
 obtain ⟨tv, hM⟩ := hy.rd.mem
 refine (store_calls F w S.bm S.bw x.ws x.tr x.bad tv a v hM (by omega)).mono ?_
 rintro e w' ⟨rfl, hD⟩
 exact ⟨rfl, ⟨hy.rd.used hD (by simp; omega), fun bc e => by rw [hc] at e; cases e⟩, hD.keep⟩
structure Lp (F : Nat → Prop) (S : Sh) (bset : Nat) (C : Cst) (cl : Prop) (o s most : Nat) (w wr : World) (x x1 : X) (j : Nat) : Prop where
 ry : Ry F S wr x1 bset C
 inv : Inv S.flaw x1
 on : x1.m.next ≠ none
 rem_ : rem S.flaw x1 + j ≤ most
 chk : x1.m.check = x.m.check
 cl_ : cl → Cl S o s x1
 tr_ : x1.tr.length ≤ x.tr.length + 2 * j
 ws_ : x1.ws.length = x.ws.length
 keep : Keep (Out2 F S.b S.bx) w wr
structure Fin (F : Nat → Prop) (S : Sh) (bset : Nat) (C : Cst) (cl : Prop) (o s most : Nat) (w wr : World) (x x1 : X) : Prop where
 ry : Ry F S wr x1 bset C
 inv : Inv S.flaw x1
 off : x1.m.next = none
 chk : x1.m.check = x.m.check
 cl_ : cl → Cl S o s x1
 tr_ : x1.tr.length ≤ x.tr.length + 2 * most
 ws_ : x1.ws.length = x.ws.length
 keep : Keep (Out2 F S.b S.bx) w wr
theorem Lp.step {F : Nat → Prop} {S : Sh} {bset : Nat} {C : Cst} {cl : Prop} {o s most : Nat} {w wr w1 w2 w3 : World} {x x1 x2 : X} {j : Nat} (h : Lp F S bset C cl o s most w wr x x1 j) (hf : Fix S o s) (hs : Stp S j x1 C x2) (hn : x2.m.next ≠ none) (hb1 : Below wr.heap.size wr w1) (hr2 : Ry F S w2 x2 bset C) (hk2 : Keep (KF F S x1.m.cache bset C) w1 w2) (hb3 : Below w2.heap.size w2 w3) : Lp F S bset C cl o s most w w3 x x2 (j + 1) := by
 have hone := (stepS_blks hs.step).2
 refine ⟨hr2.below hb3, hs.inv, hn, by have := hs.less; have := h.rem_; omega, (chk_step hs.step).trans h.chk, fun c => (h.cl_ c).step hf hs.step, by have := hone.1; have := h.tr_; omega, (len_step hs.step).trans h.ws_, ?_⟩
 refine Keep.below ((h.keep.below hb1).trans (hk2.less fun k hk => ⟨hk.1, hk.2.1, hk.2.2, fun bc e => by rw [h.inv.nocache] at e; cases e⟩)) hb3
theorem Lp.fin {F : Nat → Prop} {S : Sh} {bset : Nat} {C : Cst} {cl : Prop} {o s most : Nat} {w wr w1 w2 w3 : World} {x x1 x2 : X} {j : Nat} (h : Lp F S bset C cl o s most w wr x x1 j) (hf : Fix S o s) (hs : Stp S j x1 C x2) (hn : x2.m.next = none) (hj : j < most) (hb1 : Below wr.heap.size wr w1) (hr2 : Ry F S w2 x2 bset C) (hk2 : Keep (KF F S x1.m.cache bset C) w1 w2) (hb3 : Below w2.heap.size w2 w3) : Fin F S bset C cl o s most w w3 x x2 := by
 have hone := (stepS_blks hs.step).2
 refine ⟨hr2.below hb3, hs.inv, hn, (chk_step hs.step).trans h.chk, fun c => (h.cl_ c).step hf hs.step, by have := hone.1; have := h.tr_; omega, (len_step hs.step).trans h.ws_, ?_⟩
 refine Keep.below ((h.keep.below hb1).trans (hk2.less fun k hk => ⟨hk.1, hk.2.1, hk.2.2, fun bc e => by rw [h.inv.nocache] at e; cases e⟩)) hb3
theorem Lp.store {F : Nat → Prop} {S : Sh} {bset : Nat} {C : Cst} {cl : Prop} {o s most : Nat} {w w3 w4 : World} {x x2 : X} {j : Nat} {a v : Int} (h : Lp F S bset C cl o s most w w3 x x2 j) (hf : Fix S o s) (ht : x2.tr.length + 1 ≤ x.tr.length + 2 * j) (h4 : a ≠ 4) (h5 : a ≠ 5) (hv : cl → v ≠ poison) (hr : Ry F S w4 { x2 with ws := stW x2.ws a v, tr := x2.tr ++ [accS x2.ws a v], bad := lkB x2.ws a x2.bad } bset C) (hk : Keep F w3 w4) : Lp F S bset C cl o s most w w4 x { x2 with ws := stW x2.ws a v, tr := x2.tr ++ [accS x2.ws a v], bad := lkB x2.ws a x2.bad } j := by
 refine ⟨hr, h.inv.store, h.on, h.rem_, h.chk, fun c => (h.cl_ c).store hf h4 h5 (hv c), ?_, (stW_len _ _ _).trans h.ws_, h.keep.trans (hk.less fun k hk => hk.1)⟩
 show (x2.tr ++ [_]).length ≤ _
 simp; omega
theorem ended_some (F : Nat → Prop) (S : Sh) (w : World) (x : X) (bset : Nat) (C : Cst) (most : Nat) (ad : Addr) (nc : Nat) (ns : List Int) (cl : Prop) (o s : Nat) (hy : Ry F S w x bset C) (hi : Inv S.flaw x) (hn : x.m.next ≠ none) (hr : rem S.flaw x ≤ most) (hm : most ≤ 20000) (hl : x.tr.length ≤ 100000) (hf : Fix S o s) (hcl : cl → Cl S o s x) (hns : cl → ∀ v ∈ ns, v ≠ poison) (hA : Nums (Out2 F S.b S.bx) w (some ad) ns) (nL : Nat) (hnL : ns.length = nL) (hlen : nL ≤ 9223372036854775807) :
  Calls Tryz.prog 19 #[.pointer (some ⟨S.bm, 0, none⟩), .pointer (some ⟨S.b, 0, none⟩), .slice (some ad) nL nc, .int .i64 most] w fun e w' => e = .returned (.bool true) ∧ ∃ x', Fin F S bset C cl o s most w w' x x' := by
 have HL0 := jA (show Lp F S bset C cl o s most w w x x 0 from ⟨hy, hi, hn, by omega, rfl, hcl, by omega, rfl, Keep.refl _ _⟩)
 have HF := jA hf
 have HNS := jA hns
 have HNUM := jA hA
 have HL := jA hl
 have HNL := jA hnL
 clear hnL
 clear hy hi hn hr hl hf hcl hns hA
 go_enter Tryz.func19, Tryz.ntmps19
 go_wp2
 go_loopw [9] (fun u wr => ∃ (j : Nat) (x1 : X), u = .int .i64 j ∧ Aside0 (Lp F S bset C cl o s most w wr x x1 j)) (fun u _ => most - (intOf u).toNat)
 case atStart => exact ⟨0, x, rfl, HL0⟩
 case round =>
  obtain ⟨j, x1, rfl, HR⟩ := hrel
  have hpos := rem_pos HR.out.inv HR.out.on
  have hj : (j : Int) < most := by have := HR.out.rem_; omega
  have hl1 : x1.tr.length < 1000000000000 := by have := HR.out.tr_; have := HL.out; omega
  obtain ⟨x2, hst⟩ := go_any HR.out.inv HR.out.on j C
  have hone := (stepS_blks hst.step).2.1
  obtain ⟨tv, hM⟩ := HR.out.ry.rd.mem
  have HT1 := jA (trace_calls F wr S.bm S.bw x1.ws x1.tr x1.bad tv hM (by omega))
  have hlen' : (x2.tr.length : Int) = (x1.tr.length : Int) + 1 := by omega
  have hsmall : (x1.tr.length : Int) < 1000000000000 := by omega
  obtain ⟨L1, hL1⟩ : ∃ L1 : Nat, L1 = x1.tr.length := ⟨_, rfl⟩
  obtain ⟨L2, hL2⟩ : ∃ L2 : Nat, L2 = x2.tr.length := ⟨_, rfl⟩
  rw [← hL1, ← hL2] at hlen'
  rw [← hL1] at hsmall HT1
  have HLE2 := jA (show x2.tr.length = L2 ∧ L2 ≤ 1000000000000 from ⟨hL2.symm, by omega⟩)
  have HT2L := jA (show x2.tr.length + 1 ≤ x.tr.length + 2 * (j + 1) ∧ x2.tr.length < 1000000000 by have := HR.out.tr_; have := HL.out; omega)
  have ryB : ∀ w1, Below wr.heap.size wr w1 → Ry F S w1 x1 bset C := fun w1 hb1 => Ry.below HR.out.ry hb1
  have HRB := jA ryB
  have HHL := jA hl1
  have HST := jA hst
  have HJ := jA (show j < most by omega)
  clear hM hL1 hL2 hst hone ryB hl1 hpos
  cases hnx : x2.m.next with
  | none =>
   have HNX := jA hnx
   clear hnx
   go_wp2_with (first | (go_at_call 12; first | ((refine HT1.out.mono ?_); rintro e w1 ⟨A1, c1, rfl, hb1⟩; have HB1 := jA hb1; clear hb1) | ((refine HT2.out.mono ?_); rintro e w3 ⟨A3, c3, rfl, hb3⟩; have HB3 := jA hb3; clear hb3)) | (go_at_call 36; (refine (step_calls F S w1 x1 (j : Int) bset C (HRB.out w1 HB1.out) HHL.out x2 C HST.out.step).mono ?_); rintro e w2 ⟨rfl, hr2, hk2⟩; rw [HNX.out]; have HK2 := jA hk2; have HR2 := jA hr2; have HT2 := jA (trace_mem hr2.rd.mem HLE2.out); clear hr2 hk2))
   go_ret
   exact ⟨rfl, x2, HR.out.fin HF.out HST.out HNX.out HJ.out HB1.out HR2.out HK2.out HB3.out⟩
  | some g =>
   have HNX := jA hnx
   have HON := jA (show x2.m.next ≠ none by rw [hnx]; exact fun e => by cases e)
   clear hnx
   by_cases hlt : 2 * j + 1 < nL
   ·have hlt' : 2 * (j : Int) + 1 < (nL : Int) := by omega
    have HPOS := jA (show 0 < ns.length by have := HNL.out; omega)
    have HI0 := jA (show 2 * j < ns.length by have := HNL.out; omega)
    have HI1 := jA (show 2 * j + 1 < ns.length by rw [HNL.out]; exact hlt)
    obtain ⟨v0, hv0⟩ : ∃ v0, Aside0 (ns.getD (2 * j) 0 = v0) := ⟨_, ⟨rfl⟩⟩
    obtain ⟨v1, hv1⟩ : ∃ v1, Aside0 (ns.getD (2 * j + 1) 0 = v1) := ⟨_, ⟨rfl⟩⟩
    obtain ⟨q, hq⟩ : ∃ q : Nat, q = 2 * j := ⟨_, rfl⟩
    have HQ := jA hq
    have hdec : decide (2 * (j : Int) + 1 < (nL : Int)) = true := decide_eq_true hlt'
    clear hlt hq
    by_cases h4 : v0 = 4
    ·go_wp2_with (first | (go_at_call 12; first | ((refine HT1.out.mono ?_); rintro e w1 ⟨A1, c1, rfl, hb1⟩; have HB1 := jA hb1; clear hb1) | ((refine HT2.out.mono ?_); rintro e w3 ⟨A3, c3, rfl, hb3⟩; have HB3 := jA hb3; obtain ⟨ad', hA, _, hcl⟩ := HNUM.out.keep ((HR.out.step HF.out HST.out HON.out HB1.out HR2.out HK2.out hb3).keep) HPOS.out; have d0 := hcl (2 * j) HI0.out; have d1 := hcl (2 * j + 1) HI1.out; rw [hv0.out] at d0; rw [hv1.out] at d1; rw [← Option.some.inj hA] at d0 d1; clear hcl hA; clear hb3)) | (go_at_call 36; (refine (step_calls F S w1 x1 (j : Int) bset C (HRB.out w1 HB1.out) HHL.out x2 C HST.out.step).mono ?_); rintro e w2 ⟨rfl, hr2, hk2⟩; rw [HNX.out]; have HK2 := jA hk2; have HR2 := jA hr2; have HT2 := jA (trace_mem hr2.rd.mem HLE2.out); clear hr2 hk2))
     go_roundw
     case rel => exact ⟨j + 1, x2, by go_num, ⟨HR.out.step HF.out HST.out HON.out HB1.out HR2.out HK2.out HB3.out⟩⟩
     case measure => simp [intOf]; omega
    ·by_cases h5 : v0 = 5
     ·go_wp2_with (first | (go_at_call 12; first | ((refine HT1.out.mono ?_); rintro e w1 ⟨A1, c1, rfl, hb1⟩; have HB1 := jA hb1; clear hb1) | ((refine HT2.out.mono ?_); rintro e w3 ⟨A3, c3, rfl, hb3⟩; have HB3 := jA hb3; obtain ⟨ad', hA, _, hcl⟩ := HNUM.out.keep ((HR.out.step HF.out HST.out HON.out HB1.out HR2.out HK2.out hb3).keep) HPOS.out; have d0 := hcl (2 * j) HI0.out; have d1 := hcl (2 * j + 1) HI1.out; rw [hv0.out] at d0; rw [hv1.out] at d1; rw [← Option.some.inj hA] at d0 d1; clear hcl hA; clear hb3)) | (go_at_call 36; (refine (step_calls F S w1 x1 (j : Int) bset C (HRB.out w1 HB1.out) HHL.out x2 C HST.out.step).mono ?_); rintro e w2 ⟨rfl, hr2, hk2⟩; rw [HNX.out]; have HK2 := jA hk2; have HR2 := jA hr2; have HT2 := jA (trace_mem hr2.rd.mem HLE2.out); clear hr2 hk2))
      go_roundw
      case rel => exact ⟨j + 1, x2, by go_num, ⟨HR.out.step HF.out HST.out HON.out HB1.out HR2.out HK2.out HB3.out⟩⟩
      case measure => simp [intOf]; omega
     ·have hb4 : (v0 != 4) = true := bne_iff_ne.2 h4
      have hb5 : (v0 != 5) = true := bne_iff_ne.2 h5
      have hd4 : (v0 == 4) = false := beq_eq_false_iff_ne.2 h4
      have hd5 : (v0 == 5) = false := beq_eq_false_iff_ne.2 h5
      have he4 : (v0 = 4) = False := eq_false h4
      have he5 : (v0 = 5) = False := eq_false h5
      have HFB := jA (show F ad.block by obtain ⟨a', e, hf', _⟩ := HNUM.out HPOS.out; rw [Option.some.inj e]; exact hf'.1)
      have HV := jA (show cl → v1 ≠ poison from fun c => HNS.out c v1 (by rw [← hv1.out, List.getD_eq_getElem?_getD, List.getElem?_eq_getElem HI1.out]; exact List.getElem_mem _))
      have hw0 : IntKind.i64.wrap (2 * (j : Int)) = 2 * (j : Int) := by rw [i64_w]; unfold wrap64; omega
      have hw1 : IntKind.i64.wrap (2 * (j : Int) + 1) = 2 * (j : Int) + 1 := by rw [i64_w]; unfold wrap64; omega
      have hin0 : (0 ≤ 2 * (j : Int) ∧ 2 * (j : Int) < (nL : Int)) = True := eq_true ⟨by omega, by omega⟩
      have hin1 : (0 ≤ 2 * (j : Int) + 1 ∧ 2 * (j : Int) + 1 < (nL : Int)) = True := eq_true ⟨by omega, by omega⟩
      have hge1 : (0 ≤ 2 * (j : Int) + 1) = True := eq_true (by omega)
      have ead : ad.add (2 * j + 1) = ⟨ad.block, ad.off + (2 * j + 1), none⟩ := by unfold Addr.add; rw [if_neg (by omega)]
      have EAD := jA ead
      clear ead
      have ht0 : (2 * (j : Int)).toNat = 2 * j := by omega
      have ht1 : (2 * (j : Int) + 1).toNat = 2 * j + 1 := by omega
      go_upto_region 11 with (first | (go_at_call 12; first | ((refine HT1.out.mono ?_); rintro e w1 ⟨A1, c1, rfl, hb1⟩; have HB1 := jA hb1; clear hb1) | ((refine HT2.out.mono ?_); rintro e w3 ⟨A3, c3, rfl, hb3⟩; have HB3 := jA hb3; obtain ⟨ad', hA, _, hcl⟩ := HNUM.out.keep ((HR.out.step HF.out HST.out HON.out HB1.out HR2.out HK2.out hb3).keep) HPOS.out; have d0 := hcl (2 * j) HI0.out; have d1 := hcl (2 * j + 1) HI1.out; rw [hv0.out] at d0; rw [hv1.out] at d1; rw [← Option.some.inj hA] at d0 d1; clear hcl hA; clear hb3)) | (go_at_call 36; (refine (step_calls F S w1 x1 (j : Int) bset C (HRB.out w1 HB1.out) HHL.out x2 C HST.out.step).mono ?_); rintro e w2 ⟨rfl, hr2, hk2⟩; rw [HNX.out]; have HK2 := jA hk2; have HR2 := jA hr2; have HT2 := jA (trace_mem hr2.rd.mem HLE2.out); clear hr2 hk2))
      refine start_ (n := 13) (S := fun w' => w'.cell? (ad.add (2 * j)) = some (.int .i64 v0) ∧ w'.cell? ⟨ad.block, ad.off + (2 * j + 1), none⟩ = some (.int .i64 v1)) (ds := []) (Jb 13 0) (by kernel_rfl) rfl (by kernel_rfl) ⟨d0, (by rw [EAD.out] at d1; exact d1)⟩ (fun hHeld => ?_)
      refine Jp 0 52 (Jb 13 1) rfl rfl ?_
      refine Jp 1 53 (Jb 13 3) rfl rfl ?_
      refine Jp 2 54 (Jb 13 7) rfl rfl ?_
      refine Jp 3 55 (Jb 13 15) rfl rfl ?_
      refine Jp 4 56 (Jb 13 31) rfl rfl ?_
      refine Jk 5 57 (Jb 13 63) rfl rfl hHeld (.inl ⟨by rfl, by rintro w' ⟨s0, s1⟩; go_simp; with_reducible rfl⟩) ?_
      refine Jp 6 58 (Jb 13 127) rfl rfl ?_
      refine Jp 7 59 (Jb 13 255) rfl rfl ?_
      refine Jp 8 60 (Jb 13 511) rfl rfl ?_
      refine Jp 9 61 (Jb 13 1023) rfl rfl ?_
      refine Jp 10 62 (Jb 13 2047) rfl rfl ?_
      refine Jk 11 63 (Jb 13 4095) rfl rfl hHeld (.inl ⟨by rfl, by rintro w' ⟨s0, s1⟩; go_simp; with_reducible rfl⟩) ?_
      refine one_ (i := 12) (N := some 64) (Jb 13 8191) rfl rfl (by kernel_rfl) (by decide) (fun K hK => ?_)
      refine goes_ Tryz.func15 (by kernel_rfl) rfl #[.pointer (some ⟨S.bm, 0, none⟩), .int .i64 v0, .int .i64 v1] (by rfl) rfl rfl (by (try simp only [List.map_toArray, List.map_cons, List.map_nil]); first | done | rfl) ?_
      refine (store_ry ((HR2.out.below HB3.out).below (below_drew (Below.refl _ _))) HST.out.inv.nocache v0 v1 HT2L.out.2).mono ?_
      rintro e w4 ⟨rfl, hr4, hk4⟩
      refine ⟨_, rfl, ?_⟩
      have HR4 := jA hr4
      have HK4 := jA (((Keep.refl F w3).below (below_drew (Below.refl _ _))).trans hk4)
      refine hK.out _ _ ⟨Keep.cell hk4 d0 (ablk HFB.out), (by have := Keep.cell hk4 d1 (ablk HFB.out); rw [EAD.out] at this; exact this)⟩ (fun hHeld => ?_)
      clear hK K hr4 hk4
      refine norm_ (a' := ?_) ?_ ?_; rotate_left; (show Act.put _ (some 64) _ = _; simp only [Act.put, Jq, Jr, Js]; rfl)
      refine done_ (by kernel_rfl) ?_
      clear d0 d1
      go_wp2
      go_roundw
      case rel => exact ⟨j + 1, _, by go_num, ⟨(HR.out.step HF.out HST.out HON.out HB1.out HR2.out HK2.out HB3.out).store HF.out HT2L.out.1 h4 h5 HV.out HR4.out HK4.out⟩⟩
      case measure => simp [intOf]; omega
   ·have hdec : (2 * (j : Int) + 1 < (nL : Int)) = False := eq_false (by omega)
    clear hlt
    go_wp2_with (first | (go_at_call 12; first | ((refine HT1.out.mono ?_); rintro e w1 ⟨A1, c1, rfl, hb1⟩; have HB1 := jA hb1; clear hb1) | ((refine HT2.out.mono ?_); rintro e w3 ⟨A3, c3, rfl, hb3⟩; have HB3 := jA hb3; clear hb3)) | (go_at_call 36; (refine (step_calls F S w1 x1 (j : Int) bset C (HRB.out w1 HB1.out) HHL.out x2 C HST.out.step).mono ?_); rintro e w2 ⟨rfl, hr2, hk2⟩; rw [HNX.out]; have HK2 := jA hk2; have HR2 := jA hr2; have HT2 := jA (trace_mem hr2.rd.mem HLE2.out); clear hr2 hk2))
    go_roundw
    case rel => exact ⟨j + 1, x2, by go_num, ⟨HR.out.step HF.out HST.out HON.out HB1.out HR2.out HK2.out HB3.out⟩⟩
    case measure => simp [intOf]; omega
theorem ended_none (F : Nat → Prop) (S : Sh) (w : World) (x : X) (bset : Nat) (C : Cst) (most : Nat) (A : Option Addr) (nc : Nat) (ns : List Int) (cl : Prop) (o s : Nat) (hy : Ry F S w x bset C) (hi : Inv S.flaw x) (hn : x.m.next ≠ none) (hr : rem S.flaw x ≤ most) (hm : most ≤ 20000) (hl : x.tr.length ≤ 100000) (hf : Fix S o s) (hcl : cl → Cl S o s x) (hns : cl → ∀ v ∈ ns, v ≠ poison) (hA : Nums (Out2 F S.b S.bx) w A ns) (nL : Nat) (hnL : ns.length = nL) (hz : nL = 0) (hlen : nL ≤ 9223372036854775807) :
  Calls Tryz.prog 19 #[.pointer (some ⟨S.bm, 0, none⟩), .pointer (some ⟨S.b, 0, none⟩), .slice A 0 nc, .int .i64 most] w fun e w' => e = .returned (.bool true) ∧ ∃ x', Fin F S bset C cl o s most w w' x x' := by
 have HL0 := jA (show Lp F S bset C cl o s most w w x x 0 from ⟨hy, hi, hn, by omega, rfl, hcl, by omega, rfl, Keep.refl _ _⟩)
 have HF := jA hf
 have HNS := jA hns
 have HNUM := jA hA
 have HL := jA hl
 have HNL := jA hnL
 clear hnL
 subst hz
 clear hy hi hn hr hl hf hcl hns hA
 go_enter Tryz.func19, Tryz.ntmps19
 go_wp2
 go_loopw [9] (fun u wr => ∃ (j : Nat) (x1 : X), u = .int .i64 j ∧ Aside0 (Lp F S bset C cl o s most w wr x x1 j)) (fun u _ => most - (intOf u).toNat)
 case atStart => exact ⟨0, x, rfl, HL0⟩
 case round =>
  obtain ⟨j, x1, rfl, HR⟩ := hrel
  have hpos := rem_pos HR.out.inv HR.out.on
  have hj : (j : Int) < most := by have := HR.out.rem_; omega
  have hl1 : x1.tr.length < 1000000000000 := by have := HR.out.tr_; have := HL.out; omega
  obtain ⟨x2, hst⟩ := go_any HR.out.inv HR.out.on j C
  have hone := (stepS_blks hst.step).2.1
  obtain ⟨tv, hM⟩ := HR.out.ry.rd.mem
  have HT1 := jA (trace_calls F wr S.bm S.bw x1.ws x1.tr x1.bad tv hM (by omega))
  have hlen' : (x2.tr.length : Int) = (x1.tr.length : Int) + 1 := by omega
  have hsmall : (x1.tr.length : Int) < 1000000000000 := by omega
  obtain ⟨L1, hL1⟩ : ∃ L1 : Nat, L1 = x1.tr.length := ⟨_, rfl⟩
  obtain ⟨L2, hL2⟩ : ∃ L2 : Nat, L2 = x2.tr.length := ⟨_, rfl⟩
  rw [← hL1, ← hL2] at hlen'
  rw [← hL1] at hsmall HT1
  have HLE2 := jA (show x2.tr.length = L2 ∧ L2 ≤ 1000000000000 from ⟨hL2.symm, by omega⟩)
  have HT2L := jA (show x2.tr.length + 1 ≤ x.tr.length + 2 * (j + 1) ∧ x2.tr.length < 1000000000 by have := HR.out.tr_; have := HL.out; omega)
  have ryB : ∀ w1, Below wr.heap.size wr w1 → Ry F S w1 x1 bset C := fun w1 hb1 => Ry.below HR.out.ry hb1
  have HRB := jA ryB
  have HHL := jA hl1
  have HST := jA hst
  have HJ := jA (show j < most by omega)
  clear hM hL1 hL2 hst hone ryB hl1 hpos
  cases hnx : x2.m.next with
  | none =>
   have HNX := jA hnx
   clear hnx
   go_wp2_with (first | (go_at_call 12; first | ((refine HT1.out.mono ?_); rintro e w1 ⟨A1, c1, rfl, hb1⟩; have HB1 := jA hb1; clear hb1) | ((refine HT2.out.mono ?_); rintro e w3 ⟨A3, c3, rfl, hb3⟩; have HB3 := jA hb3; clear hb3)) | (go_at_call 36; (refine (step_calls F S w1 x1 (j : Int) bset C (HRB.out w1 HB1.out) HHL.out x2 C HST.out.step).mono ?_); rintro e w2 ⟨rfl, hr2, hk2⟩; rw [HNX.out]; have HK2 := jA hk2; have HR2 := jA hr2; have HT2 := jA (trace_mem hr2.rd.mem HLE2.out); clear hr2 hk2))
   go_ret
   exact ⟨rfl, x2, HR.out.fin HF.out HST.out HNX.out HJ.out HB1.out HR2.out HK2.out HB3.out⟩
  | some g =>
   have HNX := jA hnx
   have HON := jA (show x2.m.next ≠ none by rw [hnx]; exact fun e => by cases e)
   clear hnx
   have hdec : (2 * (j : Int) + 1 < 0) = False := eq_false (by omega)
   go_wp2_with (first | (go_at_call 12; first | ((refine HT1.out.mono ?_); rintro e w1 ⟨A1, c1, rfl, hb1⟩; have HB1 := jA hb1; clear hb1) | ((refine HT2.out.mono ?_); rintro e w3 ⟨A3, c3, rfl, hb3⟩; have HB3 := jA hb3; clear hb3)) | (go_at_call 36; (refine (step_calls F S w1 x1 (j : Int) bset C (HRB.out w1 HB1.out) HHL.out x2 C HST.out.step).mono ?_); rintro e w2 ⟨rfl, hr2, hk2⟩; rw [HNX.out]; have HK2 := jA hk2; have HR2 := jA hr2; have HT2 := jA (trace_mem hr2.rd.mem HLE2.out); clear hr2 hk2))
   go_roundw
   case rel => exact ⟨j + 1, x2, by go_num, ⟨HR.out.step HF.out HST.out HON.out HB1.out HR2.out HK2.out HB3.out⟩⟩
   case measure => simp [intOf]; omega
theorem ended_calls (F : Nat → Prop) (S : Sh) (w : World) (x : X) (bset : Nat) (C : Cst) (most : Nat) (A : Option Addr) (nc : Nat) (ns : List Int) (cl : Prop) (o s : Nat) (hy : Ry F S w x bset C) (hi : Inv S.flaw x) (hn : x.m.next ≠ none) (hr : rem S.flaw x ≤ most) (hm : most ≤ 20000) (hl : x.tr.length ≤ 100000) (hf : Fix S o s) (hcl : cl → Cl S o s x) (hns : cl → ∀ v ∈ ns, v ≠ poison) (hA : Nums (Out2 F S.b S.bx) w A ns) (nL : Nat) (hnL : ns.length = nL) (hlen : nL ≤ 9223372036854775807) :
  Calls Tryz.prog 19 #[.pointer (some ⟨S.bm, 0, none⟩), .pointer (some ⟨S.b, 0, none⟩), .slice A nL nc, .int .i64 most] w fun e w' => e = .returned (.bool true) ∧ ∃ x', Fin F S bset C cl o s most w w' x x' := by
 cases A with
 | none =>
  have hz : nL = 0 := by
   rcases Nat.eq_zero_or_pos nL with h | h
   ·exact h
   ·obtain ⟨ad, e, _⟩ := hA (by omega)
    cases e
  have := ended_none F S w x bset C most none nc ns cl o s hy hi hn hr hm hl hf hcl hns hA nL hnL hz hlen
  rw [hz]
  exact this
 | some ad => exact ended_some F S w x bset C most ad nc ns cl o s hy hi hn hr hm hl hf hcl hns hA nL hnL hlen
end Go.Proofs.YtdgkppldopiaoaaGreat.EEnded
/- names.Index: its blocks; NewIndex, Find, Of, Len, walked. -/
namespace Go.Proofs.YtdgkppldopiaoaaGreat.RIndex
open Go.RowKit YtdgkppldopiaoaaGreatW.PrintWords YtdgkppldopiaoaaGreatW.PrintLast YtdgkppldopiaoaaGreatW.PrintMore BMap BRow GDiffer MLines MPol MPut RMem RCells REpoch RMach Go.Maps
open PG
set_option maxHeartbeats 1000000
set_option maxRecDepth 100000
def ixF (L : List ByteArray) : ByteArray → Option Int := fun s => (L.findIdx? (fun x => decide (x = s))).map (fun i => ((i : Nat) : Int) + 1)
theorem ixF_snoc {L : List ByteArray} {k : ByteArray} (h : ixF L k = none) : upd (ixF L) k ((L.length : Int) + 1) = ixF (L ++ [k]) := by
 have h0 : L.findIdx? (fun x => decide (x = k)) = none := by simpa [ixF] using h
 funext s
 by_cases e : s = k
 ·subst e
  rw [upd_same]
  simp only [ixF, List.findIdx?_append, h0]
  simp
 ·rw [upd_other _ _ e]
  simp only [ixF, List.findIdx?_append]
  have : ¬ (k = s) := fun h => e h.symm
  cases h1 : L.findIdx? (fun x => decide (x = s)) <;> simp [this]
structure Ix (F : Nat → Prop) (w : World) (bi bm : Nat) (L : List ByteArray) (v : Value) (n : Nat) : Prop where
 var : w.heap[bi]? = some (.cells #[.map (some bm), v] 166 (0, 0))
 map : MapF Value.string (Value.int .i64) okS w bm (ixF L) n
 row : Kd.R Kd.string 9 w 0 (fun k => k ≠ bi ∧ k ≠ bm ∧ ¬ F k) v L
 ne : bi ≠ bm
 fi : ¬ F bi
 fm : ¬ F bm
 lt : ∀ k, F k → k < w.heap.size
abbrev IxE (F : Nat → Prop) (w : World) (bi bm : Nat) (L : List ByteArray) : Prop := ∃ v n, Ix F w bi bm L v n
theorem Ix.below {F : Nat → Prop} {w w1 : World} {bi bm : Nat} {L : List ByteArray} {v : Value} {n : Nat} (h : Ix F w bi bm L v n) (hb : Below w.heap.size w w1) : Ix F w1 bi bm L v n :=
 { h with var := (hb.block _ (Array.getElem?_eq_some_iff.1 h.var).1).trans h.var, map := h.map.below hb, row := Kd.R_below h.row hb, lt := fun k hk => Nat.lt_of_lt_of_le (h.lt k hk) hb.size }
theorem Ix.widen {F F' : Nat → Prop} {w : World} {bi bm : Nat} {L : List ByteArray} {v : Value} {n : Nat} (h : Ix F w bi bm L v n) (hi : ¬ F' bi) (hm : ¬ F' bm) (hv : ∀ k, v.ownBlock = some k → ¬ F' k) (hl : ∀ k, F' k → k < w.heap.size) : Ix F' w bi bm L v n :=
 { h with row := Kd.R_reok rfl h.row (fun k hk => ⟨(h.row.1 k hk).1, (h.row.1 k hk).2.1, hv k hk⟩), fi := hi, fm := hm, lt := hl }
theorem newix_calls (F : Nat → Prop) (w : World) (hF : ∀ k, F k → k < w.heap.size) :
  Calls Tryz.prog 47 #[] w fun e w' => e = .returned (.pointer (some ⟨w.heap.size + 1, 0, none⟩)) ∧ Ix F w' (w.heap.size + 1) w.heap.size [] (.slice none 0 0) 0 ∧ Below w.heap.size w w' := by
 have hmm := @run_makeMap Tryz.prog
 go_enter Tryz.func47, Tryz.ntmps47
 go_wp2
 go_ret
 have hb := below_alloc (below_alloc (Below.refl w.heap.size w) (.map #[] 0)) (.cells #[.map (some w.heap.size), .slice none 0 0] 166)
 have hz : (w.alloc (.map #[] 0)).heap.size = w.heap.size + 1 := Array.size_push _
 have hv := heap_alloc_new (w.alloc (.map #[] 0)) (.cells #[.map (some w.heap.size), .slice none 0 0] 166)
 rw [hz] at hv
 have hM : MapF Value.string (Value.int .i64) okS (w.alloc (.map #[] 0)) w.heap.size (ixF []) 0 := MapF.made w
 exact ⟨by first | rfl | (rw [hz]), ⟨hv, hM.alloc _, Kd.R_nil _ _ _ _ _, by omega, fun h => by have := hF _ h; omega, fun h => by have := hF _ h; omega, fun k hk => Nat.lt_of_lt_of_le (hF k hk) hb.size⟩, hb⟩
theorem lenix_calls (F : Nat → Prop) (w : World) (bi bm : Nat) (L : List ByteArray) (v : Value) (n : Nat) (h : Ix F w bi bm L v n) :
  Calls Tryz.prog 90 #[.pointer (some ⟨bi, 0, none⟩)] w fun e w' => e = .returned (.int .i64 L.length) ∧ w' = w := by
 obtain ⟨A, c, rfl⟩ := Kd.R_slice h.row
 have c1 := cellOf h.var 1 _ rfl
 clear h
 go_enter Tryz.func90, Tryz.ntmps90
 go_wp2
 go_ret
 exact ⟨rfl, rfl⟩
theorem look_ix {F : Nat → Prop} {w : World} {bi bm : Nat} {L : List ByteArray} {v : Value} {n : Nat} (h : Ix F w bi bm L v n) (k : ByteArray) (hk : okS k) : (Instr.lookup 164 (.map (some bm)) (.string k) true).run Tryz.prog w = .ok (.tuple #[.int .i64 ((ixF L k).getD 0), .bool (ixF L k).isSome]) w := by
 have hq := h.map.lookup str_key Tryz.underlying164 (zero3 w) hk true
 have e : ((ixF L k).map (Value.int IntKind.i64)).getD (.int .i64 0) = .int .i64 ((ixF L k).getD 0) := by cases ixF L k <;> rfl
 simpa only [if_true, e] using hq
theorem find_calls (F : Nat → Prop) (w : World) (bi bm : Nat) (L : List ByteArray) (v : Value) (n : Nat) (h : Ix F w bi bm L v n) (k : ByteArray) (hk : okS k) :
  Calls Tryz.prog 89 #[.pointer (some ⟨bi, 0, none⟩), .string k] w fun e w' => e = .returned (.tuple #[.int .i64 ((ixF L k).getD 0), .bool (ixF L k).isSome]) ∧ w' = w := by
 have hlk := look_ix h k hk
 have c0 := cellOf h.var 0 _ rfl
 clear h
 go_enter Tryz.func89, Tryz.ntmps89
 go_wp2
 go_ret2
 exact ⟨rfl, rfl⟩
theorem of_old (F : Nat → Prop) (w : World) (bi bm : Nat) (L : List ByteArray) (v : Value) (n : Nat) (h : Ix F w bi bm L v n) (k : ByteArray) (hk : okS k) (i : Int) (hi : ixF L k = some i) :
  Calls Tryz.prog 50 #[.pointer (some ⟨bi, 0, none⟩), .string k] w fun e w' => e = .returned (.int .i64 i) ∧ w' = w := by
 have hlk := look_ix h k hk
 rw [hi] at hlk
 simp only [Option.getD_some, Option.isSome_some] at hlk
 have c0 := cellOf h.var 0 _ rfl
 clear h hi
 go_enter Tryz.func50, Tryz.ntmps50
 go_wp2
 go_ret
 exact ⟨rfl, rfl⟩
theorem of_new (F : Nat → Prop) (w : World) (bi bm : Nat) (L : List ByteArray) (v : Value) (n : Nat) (h : Ix F w bi bm L v n) (hL : L.length ≤ 1000) (k : ByteArray) (hk : okS k) (hi : ixF L k = none) :
  Calls Tryz.prog 50 #[.pointer (some ⟨bi, 0, none⟩), .string k] w fun e w' => e = .returned (.int .i64 ((L.length : Int) + 1)) ∧ IxE F w' bi bm (L ++ [k]) ∧ Keep F w w' := by
 have hlk := look_ix h k hk
 have hsn := ixF_snoc hi
 rw [hi] at hlk
 simp only [Option.getD_none, Option.isSome_none] at hlk
 obtain ⟨A, c, rfl⟩ := Kd.R_slice h.row
 have c0 := cellOf h.var 0 _ rfl
 have c1 := cellOf h.var 1 _ rfl
 have g1 := MPut.frozen_of_row h.var 1
 have HLIM := jA (show (L.length + 1) * 16 ≤ 140737488355328 by omega)
 have HM := jA h
 have HOK := jA hk
 have HSN := jA hsn
 have hbi : bi < w.heap.size := (Array.getElem?_eq_some_iff.1 h.var).1
 have hbm : bm < w.heap.size := h.map.lt
 have HLT := jA (And.intro hbi hbm)
 have hfresh : ∀ q, w.heap.size ≤ q → q ≠ bi ∧ q ≠ bm ∧ ¬ F q := fun q hq => ⟨by omega, by omega, fun hF => by have := h.lt q hF; omega⟩
 have HFR := jA hfresh
 have hge1 : ¬ ((1048576 : Int) ≤ (L.length : Int)) := by omega
 have hge2 : ¬ (1048576 ≤ L.length) := by omega
 have hmx : L.length ≤ 9223372036854775807 := by omega
 clear hL
 clear h hi hk hfresh hsn hbi hbm
 go_enter Tryz.func50, Tryz.ntmps50
 go_upto_region 6 with fail
 clear hlk
 go_upto_region 7 with (first | ((with_reducible refine gate_builtin (b := .append) (xs := #[.tmp 28, .tmp 30]) rfl ?_); at_builtin; refine Kd.R_append Kd.string (w0 := w) 0 rfl (.tmp 28) (.tmp 30) 76 9 (.string ⟨#[]⟩) 16 rfl Tryz.underlying76 info9 rfl (by decide) (by decide) (.slice A L.length c) L k [.string k] (fun q => q ≠ bi ∧ q ≠ bm ∧ ¬ F q) (fun _ => False) rfl rfl rfl (fun _ hk => hk.elim) HFR.out HM.out.row (Below.refl 0 w) (Nat.zero_le _) HLIM.out ?_; intro v8 w8 hR8 hB8 hg8 hat8; obtain ⟨A8, c8, rfl⟩ := Kd.R_slice hR8; have hv8 : w8.heap[bi]? = _ := (hg8.block _ HLT.out.1 (fun e => (HM.out.row.1 _ e.symm).1 rfl)).trans HM.out.var; have d1 := cellOf hv8 1 _ rfl; have q1 := MPut.frozen_of_row hv8 1; have HR8 := jA hR8; have HG8 := jA hg8; have HV8 := jA hv8; clear hR8 hB8 hg8 hat8 hv8))
 have hne : bm ≠ bi := fun e => HM.out.ne e.symm
 have hM8 := (HM.out.map.grown HG8.out (fun e => (HM.out.row.1 _ e.symm).2.1 rfl)).setCell (p := ⟨bi, 1, none⟩) (fun e => hne e.symm) (.slice A8 (L.length + 1) c8)
 have hR9 := Kd.R_far HR8.out (p := ⟨bi, 1, none⟩) (fun q hq => hq.1) (.slice A8 (L.length + 1) c8)
 have hll : (L ++ [k]).length = L.length + 1 := by simp
 rw [hll] at hR9
 have hv9 := blk_set HV8.out 1 (.slice A8 (L.length + 1) c8)
 have hk9 : Keep F w (w8.setCell ⟨bi, 1, none⟩ (.slice A8 (L.length + 1) c8)) := ((Keep.refl F w).grown HG8.out (fun q hq e => (HM.out.row.1 _ e.symm).2.2 hq)).setCell HM.out.fi _
 obtain ⟨w9, hw9⟩ : ∃ q, q = w8.setCell ⟨bi, 1, none⟩ (.slice A8 (L.length + 1) c8) := ⟨_, rfl⟩
 rw [← hw9] at hM8 hR9 hv9 hk9 ⊢
 obtain ⟨w10, hrun, hM10, hg10⟩ := (hM8.drew).update str_key Tryz.underlying164 HOK.out ((L.length : Int) + 1)
 rw [HSN.out] at hM10
 have hrun' : (Instr.mapUpdate 164 (.map (some bm)) (.string k) (.int .i64 ((L.length : Int) + 1))).run Tryz.prog w9.drew = .ok () w10 := hrun
 have hv10 : w10.heap[bi]? = _ := (hg10.block _ (Array.getElem?_eq_some_iff.1 (show w9.drew.heap[bi]? = _ from hv9)).1 (fun e => HM.out.ne (Option.some.inj e))).trans (show w9.drew.heap[bi]? = _ from hv9)
 have hR10 := Kd.R_grown (show Kd.R Kd.string 9 w9.drew 0 (fun q => q ≠ bi ∧ q ≠ bm ∧ ¬ F q) (.slice A8 (L.length + 1) c8) (L ++ [k]) from Kd.R_below hR9 (below_drew (Below.refl _ _))) hg10 (fun q hq e => hq.2.1 (Option.some.inj e))
 have hk10 : Keep F w w10 := (hk9.below (below_drew (Below.refl _ _))).grown hg10 (fun q hq e => HM.out.fm (Option.some.inj e ▸ hq))
 have e0 := cellOf hv9 0 (.map (some bm)) rfl
 have e1 := cellOf hv9 1 (.slice A8 (L.length + 1) c8) rfl
 have f1 := cellOf hv10 1 (.slice A8 (L.length + 1) c8) rfl
 have HV10 := jA hv10
 have HR10 := jA hR10
 have HK10 := jA hk10
 have HM10 := jA hM10
 clear hM8 hR9 hv9 hk9 hw9 hrun hv10 hR10 hk10 hM10 hg10 c0 c1 g1 d1 q1
 refine start_ (n := 11) (S := fun w' => w'.cell? ⟨bi, 0, none⟩ = some (.map (some bm)) ∧ w'.cell? ⟨bi, 1, none⟩ = some (.slice A8 (L.length + 1) c8)) (ds := [10]) (Jb 11 0) (by kernel_rfl) rfl (by kernel_rfl) ⟨e0, e1⟩ (fun hHeld => ?_)
 refine Jp 0 34 (Jb 11 1) rfl rfl ?_
 refine Jp 1 35 (Jb 11 3) rfl rfl ?_
 refine Jp 2 36 (Jb 11 7) rfl rfl ?_
 refine Jk 3 37 (Jb 11 15) rfl rfl hHeld (.inl ⟨by rfl, by rintro w' ⟨s0, s1⟩; go_simp; with_reducible rfl⟩) ?_
 refine Jp 4 38 (Jb 11 31) rfl rfl ?_
 refine Jp 5 39 (Jb 11 63) rfl rfl ?_
 refine Jp 6 40 (Jb 11 127) rfl rfl ?_
 refine Jp 7 41 (Jb 11 255) rfl rfl ?_
 refine Jk 8 42 (Jb 11 511) rfl rfl hHeld (.inl ⟨by rfl, by rintro w' ⟨s0, s1⟩; go_simp; with_reducible rfl⟩) ?_
 refine Jp 9 43 (Jb 11 1023) rfl rfl ?_
 refine last_ (i := 10) (N := none) (Jb 11 2047) rfl rfl (by kernel_rfl) (by decide) (fun K hK => ?_)
 refine GDiffer.step_skip (w' := w10) rfl rfl (by simp [execOp, Act.eval, hrun']) ?_
 refine hK.out _ _ ?_
 clear hK K
 refine done_ (by kernel_rfl) ?_
 clear e0 e1 hrun'
 have hl1 : ((L.length + 1 : Nat) : Int) = (L.length : Int) + 1 := by omega
 go_wp2
 go_ret
 refine ⟨by first | rfl | (rw [hl1]), ⟨_, _, ⟨HV10.out, HM10.out, HR10.out, HM.out.ne, HM.out.fi, HM.out.fm, fun q hq => Nat.lt_of_lt_of_le (HM.out.lt q hq) HK10.out.size⟩⟩, HK10.out⟩
end Go.Proofs.YtdgkppldopiaoaaGreat.RIndex
/- House.check (gatehouselaw23), avc.New of one set of two places, walked. -/
namespace Go.Proofs.YtdgkppldopiaoaaGreat.RHcheck
open Go.RowKit YtdgkppldopiaoaaGreatW.PrintWords YtdgkppldopiaoaaGreatW.PrintLast YtdgkppldopiaoaaGreatW.PrintMore BMap BRow GDiffer MLines MPol MPut RMem RCells REpoch RMach RCache RBegin RCheck RCget RCput RIndex RRun Go.Maps
open PG
set_option maxHeartbeats 1000000
set_option maxRecDepth 100000
abbrev houseV (bm bs bsite bi : Nat) (vP vS : Value) : Array Value := #[.pointer (some ⟨bm, 0, none⟩), .pointer (some ⟨bs, 0, none⟩), .pointer (some ⟨bsite, 0, none⟩), .pointer (some ⟨bi, 0, none⟩), vP, vS]
abbrev HouseAt (w : World) (bh bm bs bsite bi : Nat) (vP vS : Value) : Prop := w.heap[bh]? = some (.cells (houseV bm bs bsite bi vP vS) 138 (0, 0))
theorem hcheck_calls (F : Nat → Prop) (w : World) (bh bm bs bsite bi bmp : Nat) (vP vS : Value) (cur flaw ep first n : Int) (L : List ByteArray) (v : Value) (q : Nat) (bc : Nat) (s o a : ByteArray) (si oi ai : Int) (hH : HouseAt w bh bm bs bsite bi vP vS) (hs : SiteAt w bsite bm bs cur flaw) (hS : SlotsAt w bs bm ep first n) (hn : 2 ≤ n) (hI : Ix F w bi bmp L v q) (ks : okS s) (ko : okS o) (ka : okS a) (is : ixF L s = some si) (io : ixF L o = some oi) (ia : ixF L a = some ai) :
  Calls Tryz.prog 25 #[.pointer (some ⟨bh, 0, none⟩), .pointer (some ⟨bc, 0, none⟩), .agg #[.string s, .string o, .string a]] w fun e w' => ∃ b bx, e = .returned (.pointer (some ⟨b, 0, none⟩)) ∧ w.heap.size ≤ bx ∧ bx < b ∧ MachAt w' b bsite bx (mC 1 flaw si oi ai bc) ∧ SecAt w' bx bs 1 0 0 ∧ Below w.heap.size w w' := by
 obtain ⟨w1, hw1⟩ : ∃ q, q = w.alloc (.cells #[.string s, .string o, .string a] 89) := ⟨_, rfl⟩
 have hb1 : Below w.heap.size w w1 := by rw [hw1]; exact below_alloc (Below.refl _ _) _
 have ht1 : w1.heap[w.heap.size]? = some (.cells #[.string s, .string o, .string a] 89 (0, 0)) := by rw [hw1]; exact heap_alloc_new w _
 have hH1 : HouseAt w1 bh bm bs bsite bi vP vS := (hb1.block _ (Array.getElem?_eq_some_iff.1 hH).1).trans hH
 have hs1 : SiteAt w1 bsite bm bs cur flaw := (hb1.block _ (Array.getElem?_eq_some_iff.1 hs).1).trans hs
 have hS1 : SlotsAt w1 bs bm ep first n := (hb1.block _ (Array.getElem?_eq_some_iff.1 hS).1).trans hS
 have hI1 := hI.below hb1
 have h3 := cellOf hH1 3 (.pointer (some ⟨bi, 0, none⟩)) rfl
 have h2 := cellOf hH1 2 (.pointer (some ⟨bsite, 0, none⟩)) rfl
 have t0 := cellOf ht1 0 (.string s) rfl
 have t1 := cellOf ht1 1 (.string o) rfl
 have t2 := cellOf ht1 2 (.string a) rfl
 have dI : ∀ {W : World}, Ix F W bi bmp L v q → Ix F W.drew bi bmp L v q := fun h => Ix.below h (below_drew (Below.refl _ _))
 have HQ0 := jA (of_old F w1.drew bi bmp L v q (dI hI1) s ks si is)
 have HQ1 := jA (of_old F w1.drew.drew bi bmp L v q (dI (dI hI1)) o ko oi io)
 have HQ2 := jA (of_old F w1.drew.drew.drew bi bmp L v q (dI (dI (dI hI1))) a ka ai ia)
 have HQ3 := jA (check_calls w1.drew.drew.drew bsite bm bs bc cur flaw ep first n 1 si oi ai hs1 hS1 (by omega) (by omega))
 have HB1 := jA (below_drew (below_drew (below_drew hb1)))
 have HSZ := jA hb1.size
 have HW1 := jA hw1
 clear hb1 ht1 hH1 hs1 hS1 hI1 hH hs hS hI is io ia hw1 dI
 go_enter Tryz.func25, Tryz.ntmps25
 go_upto_region 1 with fail
 rw [← HW1.out]
 refine start_ (n := 8) (S := fun w' => w'.cell? ⟨bh, 3, none⟩ = some (.pointer (some ⟨bi, 0, none⟩)) ∧ w'.cell? ⟨w.heap.size, 0, none⟩ = some (.string s)) (ds := []) (Jb 8 0) (by kernel_rfl) rfl (by kernel_rfl) ⟨h3, t0⟩ (fun hHeld => ?_)
 refine Jp 0 10 (Jb 8 1) rfl rfl ?_
 refine Jp 1 11 (Jb 8 3) rfl rfl ?_
 refine Jp 2 12 (Jb 8 7) rfl rfl ?_
 refine Jk 3 13 (Jb 8 15) rfl rfl hHeld (.inl ⟨by rfl, by rintro w' ⟨s0, s1⟩; go_simp; with_reducible rfl⟩) ?_
 refine Jp 4 14 (Jb 8 31) rfl rfl ?_
 refine Jk 5 15 (Jb 8 63) rfl rfl hHeld (.inl ⟨by rfl, by rintro w' ⟨s0, s1⟩; go_simp; with_reducible rfl⟩) ?_
 refine one_ (i := 6) (N := some 16) (Jb 8 127) rfl rfl (by kernel_rfl) (by decide) (fun K hK => ?_)
 refine goes_ Tryz.func50 (by kernel_rfl) rfl #[.pointer (some ⟨bi, 0, none⟩), .string s] (by rfl) rfl rfl (by (try simp only [List.map_toArray, List.map_cons, List.map_nil]); first | done | rfl) ?_
 refine HQ0.out.mono ?_
 rintro e w9 ⟨rfl, rfl⟩
 refine ⟨_, rfl, ?_⟩
 refine hK.out _ _ ⟨h3, t0⟩ (fun hHeld => ?_)
 clear hK K
 refine norm_ (a' := ?_) ?_ ?_; rotate_left; (show Act.put _ (some 16) _ = _; simp only [Act.put, Jq, Jr, Js]; rfl)
 refine Jp 7 7 (Jb 8 255) rfl rfl ?_
 refine done_ (by kernel_rfl) ?_
 go_upto_region 2 with fail
 refine start_ (n := 8) (S := fun w' => w'.cell? ⟨bh, 3, none⟩ = some (.pointer (some ⟨bi, 0, none⟩)) ∧ w'.cell? ⟨w.heap.size, 1, none⟩ = some (.string o)) (ds := []) (Jb 8 0) (by kernel_rfl) rfl (by kernel_rfl) ⟨h3, t1⟩ (fun hHeld => ?_)
 refine Jp 0 17 (Jb 8 1) rfl rfl ?_
 refine Jp 1 18 (Jb 8 3) rfl rfl ?_
 refine Jp 2 19 (Jb 8 7) rfl rfl ?_
 refine Jk 3 20 (Jb 8 15) rfl rfl hHeld (.inl ⟨by rfl, by rintro w' ⟨s0, s1⟩; go_simp; with_reducible rfl⟩) ?_
 refine Jp 4 21 (Jb 8 31) rfl rfl ?_
 refine Jk 5 22 (Jb 8 63) rfl rfl hHeld (.inl ⟨by rfl, by rintro w' ⟨s0, s1⟩; go_simp; with_reducible rfl⟩) ?_
 refine one_ (i := 6) (N := some 23) (Jb 8 127) rfl rfl (by kernel_rfl) (by decide) (fun K hK => ?_)
 refine goes_ Tryz.func50 (by kernel_rfl) rfl #[.pointer (some ⟨bi, 0, none⟩), .string o] (by rfl) rfl rfl (by (try simp only [List.map_toArray, List.map_cons, List.map_nil]); first | done | rfl) ?_
 refine HQ1.out.mono ?_
 rintro e w9 ⟨rfl, rfl⟩
 refine ⟨_, rfl, ?_⟩
 refine hK.out _ _ ⟨h3, t1⟩ (fun hHeld => ?_)
 clear hK K
 refine norm_ (a' := ?_) ?_ ?_; rotate_left; (show Act.put _ (some 23) _ = _; simp only [Act.put, Jq, Jr, Js]; rfl)
 refine Jp 7 8 (Jb 8 255) rfl rfl ?_
 refine done_ (by kernel_rfl) ?_
 go_upto_region 3 with fail
 refine start_ (n := 8) (S := fun w' => w'.cell? ⟨bh, 3, none⟩ = some (.pointer (some ⟨bi, 0, none⟩)) ∧ w'.cell? ⟨w.heap.size, 2, none⟩ = some (.string a)) (ds := []) (Jb 8 0) (by kernel_rfl) rfl (by kernel_rfl) ⟨h3, t2⟩ (fun hHeld => ?_)
 refine Jp 0 24 (Jb 8 1) rfl rfl ?_
 refine Jp 1 25 (Jb 8 3) rfl rfl ?_
 refine Jp 2 26 (Jb 8 7) rfl rfl ?_
 refine Jk 3 27 (Jb 8 15) rfl rfl hHeld (.inl ⟨by rfl, by rintro w' ⟨s0, s1⟩; go_simp; with_reducible rfl⟩) ?_
 refine Jp 4 28 (Jb 8 31) rfl rfl ?_
 refine Jk 5 29 (Jb 8 63) rfl rfl hHeld (.inl ⟨by rfl, by rintro w' ⟨s0, s1⟩; go_simp; with_reducible rfl⟩) ?_
 refine one_ (i := 6) (N := some 30) (Jb 8 127) rfl rfl (by kernel_rfl) (by decide) (fun K hK => ?_)
 refine goes_ Tryz.func50 (by kernel_rfl) rfl #[.pointer (some ⟨bi, 0, none⟩), .string a] (by rfl) rfl rfl (by (try simp only [List.map_toArray, List.map_cons, List.map_nil]); first | done | rfl) ?_
 refine HQ2.out.mono ?_
 rintro e w9 ⟨rfl, rfl⟩
 refine ⟨_, rfl, ?_⟩
 refine hK.out _ _ ⟨h3, t2⟩ (fun hHeld => ?_)
 clear hK K
 refine norm_ (a' := ?_) ?_ ?_; rotate_left; (show Act.put _ (some 30) _ = _; simp only [Act.put, Jq, Jr, Js]; rfl)
 refine Jp 7 9 (Jb 8 255) rfl rfl ?_
 refine done_ (by kernel_rfl) ?_
 have h2' : w1.drew.drew.drew.cell? ⟨bh, 2, none⟩ = some (.pointer (some ⟨bsite, 0, none⟩)) := h2
 clear h3 h2 t0 t1 t2
 go_wp2_with (first | (go_at_call 17; (refine HQ3.out.mono ?_); rintro e w5 ⟨b, rfl, hlt, hm, hx, hb5⟩; have HM := jA hm; have HX := jA hx; have HB5 := jA hb5; have HLT := jA hlt; clear hm hx hb5 hlt))
 go_ret
 exact ⟨b, w1.heap.size, rfl, HSZ.out, HLT.out, HM.out, HX.out, below_then HB1.out HB1.out.size HB5.out⟩
def pz : Pl := ⟨false, 0, 0, 0, 0, false, false⟩
theorem made_pls : madeCells #[.bool false, .int .i64 0, .int .i64 0, .int .i64 0, .int .i64 0, .bool false, .bool false] 14 = plsV [pz, pz] := by kernel_rfl
theorem make_pls (w : World) : (Instr.makeSlice 149 (.int .i64 2) (.int .i64 2)).run Tryz.prog w = .ok (.slice (some ⟨w.heap.size, 0, none⟩) 2 2) (w.alloc (.cells (plsV [pz, pz]) 233)) := by
 have h : (Tryz.prog.info? 233).map (fun i => (i.zero, i.size, i.bytes)) = some (some (.agg #[.bool false, .int .i64 0, .int .i64 0, .int .i64 0, .int .i64 0, .bool false, .bool false]), 7, 48) := by kernel_rfl
 obtain ⟨i, h1, hz⟩ := Option.map_eq_some_iff.1 h
 simp only [Prod.mk.injEq] at hz
 obtain ⟨h2, h3, h4⟩ := hz
 have := run_make (P := Tryz.prog) w 149 233 i _ Tryz.underlying149 h1 h2 .i64 .i64 2 2 (by omega) (by omega) (by rw [h4]; omega) (by omega)
 rw [h3] at this
 rw [← made_pls]
 simpa [Value.cells] using this
theorem make_set (w : World) : (Instr.makeSlice 107 (.int .i64 1) (.int .i64 1)).run Tryz.prog w = .ok (.slice (some ⟨w.heap.size, 0, none⟩) 1 1) (w.alloc (.cells #[.slice none 0 0, .int .i64 0] 151)) := by
 have h : (Tryz.prog.info? 151).map (fun i => (i.zero, i.size, i.bytes)) = some (some (.agg #[.slice none 0 0, .int .i64 0]), 2, 32) := by kernel_rfl
 obtain ⟨i, h1, hz⟩ := Option.map_eq_some_iff.1 h
 simp only [Prod.mk.injEq] at hz
 obtain ⟨h2, h3, h4⟩ := hz
 have := run_make (P := Tryz.prog) w 107 151 i _ Tryz.underlying107 h1 h2 .i64 .i64 1 1 (by omega) (by omega) (by rw [h4]; omega) (by omega)
 rw [h3] at this
 have e : madeCells #[.slice none 0 0, .int .i64 0] 2 = #[.slice none 0 0, .int .i64 0] := by kernel_rfl
 rw [← e]
 simpa [Value.cells] using this
def C0 (bp : Nat) : Cst := ⟨[⟨[pz, pz], 0, bp⟩], ⟨0, 0, 0, 0⟩⟩
theorem store_pls {W : World} {A : Option Addr} {n : Nat} {old : Value} {a : Addr} (hc : W.cell? a = some old) (hf : W.frozen? a = false) :
  (Instr.storeAt 149 (.pointer (some a)) (.slice A n n)).run Tryz.prog W = .ok () (W.setCell a (.slice A n n)) := by
 have hu := Tryz.underlying149
 simp [Instr.storeAt, Instr.sureAddr, go_sem, hc, hf, hu]
theorem newc_calls (w : World) : Calls Tryz.prog 24 #[.int .i64 1, .int .i64 2] w fun e w' => ∃ bc bset bp, e = .returned (.tuple #[.pointer (some ⟨bc, 0, none⟩), .int .i64 0]) ∧ w.heap.size ≤ bc ∧ w.heap.size ≤ bset ∧ w.heap.size ≤ bp ∧ CAt w' bc bset (C0 bp) ∧ Below w.heap.size w w' := by
 have hm1 := make_set
 have hm2 := make_pls
 obtain ⟨w2, hw2⟩ : ∃ q, q = (w.alloc (.cells #[.slice none 0 0, .int .i64 0] 151)).alloc (.cells (topV w.heap.size 1 ⟨0, 0, 0, 0⟩) 109) := ⟨_, rfl⟩
 have hz1 : (w.alloc (.cells #[.slice none 0 0, .int .i64 0] 151)).heap.size = w.heap.size + 1 := Array.size_push _
 have hz2 : w2.heap.size = w.heap.size + 2 := by rw [hw2]; exact (Array.size_push _).trans (by rw [hz1])
 have hb2 : Below w.heap.size w w2 := by rw [hw2]; exact below_alloc (below_alloc (Below.refl _ _) _) _
 have htop : w2.heap[w.heap.size + 1]? = some (.cells (topV w.heap.size 1 ⟨0, 0, 0, 0⟩) 109 (0, 0)) := by
  have := heap_alloc_new (w.alloc (.cells #[.slice none 0 0, .int .i64 0] 151)) (.cells (topV w.heap.size 1 ⟨0, 0, 0, 0⟩) 109)
  rw [hz1, ← hw2] at this
  exact this
 have hset : w2.heap[w.heap.size]? = some (.cells #[.slice none 0 0, .int .i64 0] 151 (0, 0)) := by
  rw [hw2]
  exact (Below.heap_alloc _ _ _ (by rw [hz1]; omega)).trans (heap_alloc_new w _)
 have HW2 := jA hw2
 have HZ2 := jA hz2
 have HB2 := jA hb2
 have HTOP := jA htop
 have HSET := jA hset
 have HZ1 := jA hz1
 clear hw2 hz2 hb2 htop hset hz1
 go_enter Tryz.func24, Tryz.ntmps24
 go_upto_region 4 with fail
 (try rw [HZ1.out])
 have e2 : (w.alloc (.cells #[.slice none 0 0, .int .i64 0] 151)).alloc (.cells #[.slice (some ⟨w.heap.size, 0, none⟩) 1 1, .int .i64 0, .int .i64 0, .int .i64 0, .int .i64 0] 109) = w2 := HW2.out.symm
 rw [e2]
 have c0 := cellOf HTOP.out 0 (.slice (some ⟨w.heap.size, 0, none⟩) 1 1) rfl
 clear e2
 go_wp2
 go_loopw [31] (fun u wr => (u = .int .i64 0 ∧ wr = w2) ∨ (u = .int .i64 1 ∧ Aside0 (CAt wr (w.heap.size + 1) w.heap.size (C0 (w.heap.size + 2)) ∧ Below w.heap.size w wr))) (fun u _ => 1 - (intOf u).toNat)
 case atStart => exact .inl ⟨rfl, rfl⟩
 case round =>
  rcases hrel with ⟨rfl, hwr⟩ | ⟨rfl, HR⟩
  ·rw [hwr]
   clear hwr
   go_upto_region 7 with fail
   refine start_ (n := 10) (S := fun w' => w'.cell? ⟨w.heap.size + 1, 0, none⟩ = some (.slice (some ⟨w.heap.size, 0, none⟩) 1 1)) (ds := [9]) (Jb 10 0) (by kernel_rfl) rfl (by kernel_rfl) c0 (fun hHeld => ?_)
   refine Jp 0 34 (Jb 10 1) rfl rfl ?_
   refine Jp 1 35 (Jb 10 3) rfl rfl ?_
   refine Jp 2 36 (Jb 10 7) rfl rfl ?_
   refine Jk 3 37 (Jb 10 15) rfl rfl hHeld (.inl ⟨by rfl, by rintro w' s0; go_simp; with_reducible rfl⟩) ?_
   refine Jp 4 38 (Jb 10 31) rfl rfl ?_
   refine Jp 5 39 (Jb 10 63) rfl rfl ?_
   refine one_ (i := 6) (N := some 40) (Jb 10 127) rfl rfl (by kernel_rfl) (by decide) (fun K hK => ?_)
   refine event_step rfl (w1 := w2.drew.alloc (.cells (plsV [pz, pz]) 233)) (v := .slice (some ⟨w2.heap.size, 0, none⟩) 2 2) (by simp [execOp, Act.eval, make_pls]) ?_
   refine hK.out _ _ (cellBelow (below_alloc (Below.refl _ w2.drew) _) (show w2.drew.cell? ⟨w.heap.size + 1, 0, none⟩ = some (.slice (some ⟨w.heap.size, 0, none⟩) 1 1) from c0)) (fun hHeld => ?_)
   clear hK K
   refine norm_ (a' := ?_) ?_ ?_; rotate_left; (show Act.put _ (some 40) _ = _; simp only [Act.put, Jq, Jr, Js]; rfl)
   refine Jp 7 41 (Jb 10 255) rfl rfl ?_
   refine Jp 8 42 (Jb 10 511) rfl rfl ?_
   refine last_ (i := 9) (N := none) (Jb 10 1023) rfl rfl (by kernel_rfl) (by decide) (fun K hK => ?_)
   refine GDiffer.step_skip (w' := (w2.drew.alloc (.cells (plsV [pz, pz]) 233)).setCell ⟨w.heap.size, 0, none⟩ (.slice (some ⟨w2.heap.size, 0, none⟩) 2 2)) rfl rfl (by have hst := store_pls (W := w2.drew.alloc (.cells (plsV [pz, pz]) 233)) (A := some ⟨w2.heap.size, 0, none⟩) (n := 2) (cellBelow (below_alloc (Below.refl _ w2.drew) _) (show w2.drew.cell? ⟨w.heap.size, 0, none⟩ = some (.slice none 0 0) from cellOf HSET.out 0 _ rfl)) (MPut.frozen_of_row ((Below.heap_alloc _ _ _ (by have := HZ2.out; show w.heap.size < w2.heap.size; omega)).trans HSET.out) 0); simp [execOp, Act.eval, hst]) ?_
   refine hK.out _ _ ?_
   clear hK K
   refine done_ (by kernel_rfl) ?_
   have hset3 := blk_set (show (w2.drew.alloc (.cells (plsV [pz, pz]) 233)).heap[w.heap.size]? = some (.cells #[.slice none 0 0, .int .i64 0] 151 (0, 0)) from (Below.heap_alloc _ _ _ (by have := HZ2.out; show w.heap.size < w2.heap.size; omega)).trans HSET.out) 0 (.slice (some ⟨w2.heap.size, 0, none⟩) 2 2)
   have htop3 : ((w2.drew.alloc (.cells (plsV [pz, pz]) 233)).setCell ⟨w.heap.size, 0, none⟩ (.slice (some ⟨w2.heap.size, 0, none⟩) 2 2)).heap[w.heap.size + 1]? = _ := (Below.heap_setCell _ _ _ _ (by simp)).trans ((Below.heap_alloc _ _ _ (by have := HZ2.out; show w.heap.size + 1 < w2.heap.size; omega)).trans HTOP.out)
   have hpl3 : ((w2.drew.alloc (.cells (plsV [pz, pz]) 233)).setCell ⟨w.heap.size, 0, none⟩ (.slice (some ⟨w2.heap.size, 0, none⟩) 2 2)).heap[w2.heap.size]? = some (.cells (plsV [pz, pz]) 233 (0, 0)) := (Below.heap_setCell _ _ _ _ (by have := HZ2.out; show w2.heap.size ≠ w.heap.size; omega)).trans (heap_alloc_new w2.drew _)
   have hb3 : Below w.heap.size w ((w2.drew.alloc (.cells (plsV [pz, pz]) 233)).setCell ⟨w.heap.size, 0, none⟩ (.slice (some ⟨w2.heap.size, 0, none⟩) 2 2)) := (below_alloc (below_drew HB2.out) _).setCell (Nat.le_refl _) _
   obtain ⟨w3, hw3⟩ : ∃ q, q = (w2.drew.alloc (.cells (plsV [pz, pz]) 233)).setCell ⟨w.heap.size, 0, none⟩ (.slice (some ⟨w2.heap.size, 0, none⟩) 2 2) := ⟨_, rfl⟩
   rw [← hw3] at hset3 htop3 hpl3 hb3 ⊢
   rw [HZ2.out] at hset3 hpl3
   have HC3 : Aside0 (CAt w3 (w.heap.size + 1) w.heap.size (C0 (w.heap.size + 2)) ∧ Below w.heap.size w w3) := ⟨{ top := htop3, sets := hset3, each := by intro s hs; rw [List.mem_singleton.1 hs]; exact hpl3, nd := by simp [C0], ne := by omega, off := by intro s hs; rw [List.mem_singleton.1 hs]; exact ⟨by show w.heap.size + 2 ≠ w.heap.size + 1; omega, by show w.heap.size + 2 ≠ w.heap.size; omega⟩, some_ := Nat.le_refl 1, small := (by decide : 1 ≤ 256), ways := by intro s hs; rw [List.mem_singleton.1 hs]; exact (by decide : 1 ≤ 2 ∧ 2 ≤ 8), hands := by intro s hs; rw [List.mem_singleton.1 hs]; exact (by decide : (0 : Int) ≤ 0 ∧ (0 : Int) < ((2 : Nat) : Int)) }, hb3⟩
   clear hset3 htop3 hpl3 hb3 hw3
   go_wp2
   go_roundw
   case rel => exact .inr ⟨rfl, HC3⟩
   case measure => simp [intOf]
  ·go_wp2
   go_ret2
   exact ⟨_, _, _, rfl, by omega, by omega, by omega, HR.out.1, HR.out.2⟩
end Go.Proofs.YtdgkppldopiaoaaGreat.RHcheck
/- Classes of lines, and the graph of a matrix: plain. -/
namespace Go.Proofs.YtdgkppldopiaoaaGreat.CPure
section
variable {α : Type} [DecidableEq α]
def one1 (L : List α) (x : α) : List α := if x ∈ L then L else L ++ [x]
def uniq (ls : List α) : List α := ls.foldl one1 []
theorem uniq_snoc (ls : List α) (x : α) : uniq (ls ++ [x]) = one1 (uniq ls) x := by simp [uniq]
theorem mem_one1 {L : List α} {x y : α} : y ∈ one1 L x ↔ y ∈ L ∨ y = x := by
 unfold one1
 split
 ·rename_i h
  constructor
  ·exact .inl
  ·rintro (h' | rfl)
   ·exact h'
   ·exact h
 ·rw [List.mem_append, List.mem_singleton]
omit [DecidableEq α] in
theorem snoc_ind {P : List α → Prop} (h0 : P []) (h1 : ∀ l x, P l → P (l ++ [x])) (l : List α) : P l := by
 have : ∀ n, ∀ l : List α, l.length = n → P l := by
  intro n
  induction n with
  | zero => intro l hl; rw [List.length_eq_zero_iff.1 hl]; exact h0
  | succ n ih =>
   intro l hl
   have hne : l ≠ [] := by intro e; subst e; simp at hl
   rw [← List.dropLast_concat_getLast hne]
   exact h1 _ _ (ih _ (by simp; omega))
 exact this _ l rfl
theorem mem_uniq {ls : List α} {y : α} : y ∈ uniq ls ↔ y ∈ ls := by
 refine snoc_ind (P := fun ls => y ∈ uniq ls ↔ y ∈ ls) (by simp [uniq]) (fun l x ih => ?_) ls
 rw [uniq_snoc, mem_one1, ih, List.mem_append, List.mem_singleton]
theorem uniq_length (ls : List α) : (uniq ls).length ≤ ls.length := by
 refine snoc_ind (P := fun ls => (uniq ls).length ≤ ls.length) (by simp [uniq]) (fun l x ih => ?_) ls
 rw [uniq_snoc, one1]
 split
 ·simp; omega
 ·simpa using ih
def clsN (ls : List α) (x : α) : Nat := (uniq ls).idxOf x
def num (ls : List α) (x : α) : Int := ((clsN ls x + 1 : Nat) : Int)
def numsOf (ls : List α) : List Int := ls.map (num ls)
def firstsN (ls : List α) : List Nat := (uniq ls).map (fun x => ls.idxOf x)
def firstsOf (ls : List α) : List Int := (firstsN ls).map (fun (n : Nat) => (n : Int))
theorem num_old {ls : List α} {x y : α} (h : y ∈ ls) : num (ls ++ [x]) y = num ls y := by
 unfold num clsN
 rw [uniq_snoc, one1]
 split
 ·rfl
 ·rw [List.idxOf_append, if_pos (mem_uniq.2 h)]
theorem num_new {ls : List α} {x : α} (h : x ∉ ls) : num (ls ++ [x]) x = (((uniq ls).length + 1 : Nat) : Int) := by
 unfold num clsN
 have h' : x ∉ uniq ls := fun e => h (mem_uniq.1 e)
 rw [uniq_snoc, one1, if_neg h', List.idxOf_append, if_neg h']
 simp
theorem numsOf_snoc (ls : List α) (x : α) : numsOf (ls ++ [x]) = numsOf ls ++ [num (ls ++ [x]) x] := by
 unfold numsOf
 rw [List.map_append, List.map_singleton]
 congr 1
 exact List.map_congr_left fun y hy => num_old hy
theorem firstsN_snoc (ls : List α) (x : α) : firstsN (ls ++ [x]) = firstsN ls ++ if x ∈ ls then [] else [ls.length] := by
 unfold firstsN
 rw [uniq_snoc, one1]
 have key : ∀ y ∈ uniq ls, (ls ++ [x]).idxOf y = ls.idxOf y := fun y hy => by rw [List.idxOf_append, if_pos (mem_uniq.1 hy)]
 by_cases h : x ∈ ls
 ·rw [if_pos (mem_uniq.2 h), if_pos h, List.append_nil]
  exact List.map_congr_left key
 ·rw [if_neg (fun e => h (mem_uniq.1 e)), if_neg h, List.map_append, List.map_singleton]
  congr 1
  ·exact List.map_congr_left key
  ·rw [List.idxOf_append, if_neg h]; simp
theorem firstsOf_snoc (ls : List α) (x : α) : firstsOf (ls ++ [x]) = firstsOf ls ++ if x ∈ ls then [] else [(ls.length : Int)] := by
 unfold firstsOf
 rw [firstsN_snoc, List.map_append]
 congr 1
 split <;> rfl
theorem firstsOf_old {ls : List α} {x : α} (h : x ∈ ls) : firstsOf (ls ++ [x]) = firstsOf ls := by rw [firstsOf_snoc, if_pos h, List.append_nil]
theorem firstsOf_new {ls : List α} {x : α} (h : x ∉ ls) : firstsOf (ls ++ [x]) = firstsOf ls ++ [(ls.length : Int)] := by rw [firstsOf_snoc, if_neg h]
theorem firstsOf_length (ls : List α) : (firstsOf ls).length = (uniq ls).length := by simp [firstsOf, firstsN]
theorem firstsN_lt {ls : List α} {n : Nat} (h : n ∈ firstsN ls) : n < ls.length := by
 obtain ⟨x, hx, rfl⟩ := List.mem_map.1 h
 exact List.idxOf_lt_length_of_mem (mem_uniq.1 hx)
theorem num_pos (ls : List α) (x : α) : 1 ≤ num ls x := by unfold num clsN; omega
theorem num_le {ls : List α} {x : α} (h : x ∈ ls) : num ls x ≤ (uniq ls).length := by
 have := List.idxOf_lt_length_of_mem (mem_uniq.2 h)
 unfold num clsN; omega
end
def fill (m : Nat) (M : Nat → Nat → Int) (i j : Nat) : Int := if j < m then M i j else 0
def lines (n m : Nat) (M : Nat → Nat → Int) : List (List Int) := (List.range n).map fun a => (List.range 64).map (fill m M a)
def ofM (n m : Nat) (M : Nat → Nat → Int) : List Int := numsOf (lines n m M)
def masksM (n m : Nat) (M : Nat → Nat → Int) : List (List Int) := (firstsN (lines n m M)).map fun i => (firstsN (lines m n (fun j i => M i j))).map fun j => M i j
def maskN (f : Nat → Bool) : Nat → Nat
 | 0 => 0
 | n + 1 => maskN f n ||| (if f n then 2 ^ n else 0)
theorem maskN_bit (f : Nat → Bool) : ∀ (n k : Nat), (maskN f n).testBit k = (decide (k < n) && f k)
 | 0, k => by simp [maskN]
 | n + 1, k => by
  rw [maskN, Nat.testBit_or, maskN_bit f n k]
  by_cases h : f n
  ·rw [if_pos h, Nat.testBit_two_pow]
   by_cases e : n = k
   ·subst e; simp [h]
   ·have e1 : decide (k < n + 1) = decide (k < n) := by simp; omega
    simp [e, e1]
  ·rw [if_neg h]
   by_cases e : n = k
   ·subst e; simp [h]
   ·have e1 : decide (k < n + 1) = decide (k < n) := by simp; omega
    simp [e1]
theorem maskN_lt (f : Nat → Bool) : ∀ n, maskN f n < 2 ^ n
 | 0 => by simp [maskN]
 | n + 1 => by
  rw [maskN]
  have := maskN_lt f n
  refine Nat.or_lt_two_pow (by omega) ?_
  split
  ·exact Nat.pow_lt_pow_right (by omega) (by omega)
  ·exact Nat.two_pow_pos _
end Go.Proofs.YtdgkppldopiaoaaGreat.CPure
/- bits.Mask: a mask out of a list of places; or. -/
namespace Go.Proofs.YtdgkppldopiaoaaGreat.CBits
open Go.RowKit YtdgkppldopiaoaaGreatW.PrintWords YtdgkppldopiaoaaGreatW.PrintLast YtdgkppldopiaoaaGreatW.PrintMore CPure
open PG
theorem or_both (m n : Nat) (hm : m < 65536) (hn : n < 65536) : Go.bits .or .u16 (m : Int) (n : Int) = ((m ||| n : Nat) : Int) := by
 show IntKind.wrap .u16 (((BitVec.ofInt 16 (m : Int)) ||| (BitVec.ofInt 16 (n : Int))).toNat : Int) = _
 rw [BitVec.ofInt_natCast, BitVec.ofInt_natCast, BitVec.toNat_or, BitVec.toNat_ofNat, BitVec.toNat_ofNat, Nat.mod_eq_of_lt (by omega), Nat.mod_eq_of_lt (by omega)]
 have h := Nat.or_lt_two_pow (n := 16) hm hn
 generalize m ||| n = z at *
 simp only [IntKind.wrap, IntKind.bits, IntKind.signed]
 simp
 omega
theorem shl_pow (k : Nat) (hk : k ≤ 15) : shl .u16 1 (k : Int) = ((2 ^ k : Nat) : Int) := by
 have : ∀ k : Fin 16, shl .u16 1 (k.val : Int) = ((2 ^ k.val : Nat) : Int) := by decide
 exact this ⟨k, by omega⟩
theorem or_shl (m k : Nat) (hm : m < 65536) (hk : k ≤ 15) : Go.bits .or .u16 (m : Int) (shl .u16 1 (k : Int)) = ((m ||| 2 ^ k : Nat) : Int) := by
 rw [shl_pow k hk]
 exact or_both m _ hm (by calc 2 ^ k ≤ 2 ^ 15 := Nat.pow_le_pow_right (by omega) hk
  _ < 65536 := by decide)
def orStep (m : Nat) (x : Int) : Nat := if 0 ≤ x ∧ x < 16 then m ||| 2 ^ x.toNat else m
def orBits (l : List Int) : Nat := l.foldl orStep 0
theorem orBits_snoc (l : List Int) (x : Int) : orBits (l ++ [x]) = orStep (orBits l) x := by simp [orBits]
theorem orStep_lt {m : Nat} (hm : m < 65536) (x : Int) : orStep m x < 65536 := by
 unfold orStep
 split
 ·rename_i h
  refine Nat.or_lt_two_pow (n := 16) hm ?_
  exact Nat.pow_lt_pow_right (by omega) (by omega)
 ·exact hm
theorem orBits_lt (l : List Int) : orBits l < 65536 := by
 refine snoc_ind (P := fun l => orBits l < 65536) (by simp [orBits]) (fun l x ih => ?_) l
 rw [orBits_snoc]; exact orStep_lt ih x
theorem orStep_bit (m : Nat) (x : Int) (k : Nat) : (orStep m x).testBit k = (m.testBit k || decide (k < 16 ∧ (k : Int) = x)) := by
 unfold orStep
 by_cases h : 0 ≤ x ∧ x < 16
 ·rw [if_pos h, Nat.testBit_or, Nat.testBit_two_pow]
  congr 1
  rw [decide_eq_decide]
  omega
 ·rw [if_neg h]
  have : decide (k < 16 ∧ (k : Int) = x) = false := by rw [decide_eq_false_iff_not]; omega
  rw [this, Bool.or_false]
theorem orBits_bit (l : List Int) (k : Nat) : (orBits l).testBit k = decide (k < 16 ∧ (k : Int) ∈ l) := by
 refine snoc_ind (P := fun l => (orBits l).testBit k = decide (k < 16 ∧ (k : Int) ∈ l)) (by simp [orBits]) (fun l x ih => ?_) l
 rw [orBits_snoc, orStep_bit, ih, Bool.eq_iff_iff]
 simp only [Bool.or_eq_true, decide_eq_true_eq, List.mem_append, List.mem_singleton]
 constructor
 ·rintro (⟨h1, h2⟩ | ⟨h1, h2⟩)
  ·exact ⟨h1, .inl h2⟩
  ·exact ⟨h1, .inr h2⟩
 ·rintro ⟨h1, h2 | h2⟩
  ·exact .inl ⟨h1, h2⟩
  ·exact .inr ⟨h1, h2⟩
theorem mask_ev (l : List Int) (hl : l.length ≤ 9223372036854775807) : ∀ (d n : Nat), n + d = l.length → Ev (fun k => bits_Mask.l0 k (orBits (l.take n) : Nat) l l.length n) ((orBits l : Nat) : Int)
 | 0, n, h => by
  rw [List.take_of_length_le (by omega)]
  refine Ev.step (f := fun _ => some _) (fun k => ?_) (Ev.now _)
  simp only [bits_Mask.l0]
  rw [if_neg (by omega)]
 | d + 1, n, h => by
  have hlt : n < l.length := by omega
  have htk : l.take (n + 1) = l.take n ++ [l[n]] := List.take_succ_eq_append_getElem hlt
  have hnx : orBits (l.take (n + 1)) = orStep (orBits (l.take n)) l[n] := by rw [htk, orBits_snoc]
  have hb := orBits_lt (l.take n)
  refine Ev.step (f := fun k => bits_Mask.l0 k (orBits (l.take (n + 1)) : Nat) l l.length ((n + 1 : Nat) : Int)) (fun k => ?_) (mask_ev l hl d (n + 1) (by omega))
  simp only [bits_Mask.l0]
  rw [if_pos (by omega), if_pos (by omega), if_pos (by omega), VPure.rd_get l n hlt, VPure.w64n hlt (by omega), hnx]
  unfold orStep
  by_cases h0 : 0 ≤ l[n]
  ·by_cases h1 : l[n] < 16
   ·rw [if_pos (by omega), if_pos h1, if_pos h0, if_pos ⟨h0, h1⟩]
    obtain ⟨q, hq⟩ := Int.eq_ofNat_of_zero_le h0
    rw [hq] at h1 ⊢
    rw [or_shl _ q hb (by omega)]
    simp
   ·rw [if_pos (by omega), if_neg h1, if_neg (fun e => h1 e.2)]
  ·rw [if_neg (by omega), if_neg (fun e => h0 e.1)]
theorem mask_go (A : Option Addr) (c : Nat) (l : List Int) (w : World) (hC : Kd.C (Kd.int .i64) w A l.length l) (hc : l.length ≤ c) :
  Calls Tryz.prog 93 #[.slice A l.length c] w fun e w' => e = .returned (.int .u16 ((orBits l : Nat) : Int)) ∧ Drawn0 w w' := by
 obtain ⟨k, hk⟩ := (mask_ev l hC.2.1 l.length 0 (by omega)).rounds
 exact bits_Mask.calls k A c l _ w hC hc hk
end Go.Proofs.YtdgkppldopiaoaaGreat.CBits
/- Rows of lines of one's own: n lines of 64 masks in one block. -/
namespace Go.Proofs.YtdgkppldopiaoaaGreat.GBlk
open Go.RowKit YtdgkppldopiaoaaGreatW.PrintWords YtdgkppldopiaoaaGreatW.PrintLast BMap BRow GDiffer Go.Maps
def Blk (w : World) (g n : Nat) (F : Nat → Nat → Int) : Prop := w.rowIs g 183 (n * 64) (fun k => .int .u16 (F (k / 64) (k % 64)))
theorem div_of {i j : Nat} (hj : j < 64) : (i * 64 + j) / 64 = i := by omega
theorem mod_of {i j : Nat} (hj : j < 64) : (i * 64 + j) % 64 = j := by omega
namespace Blk
variable {w w1 : World} {g n : Nat} {F F' : Nat → Nat → Int}
theorem lt (h : Blk w g n F) : g < w.heap.size := World.rowIs.lt h
theorem below (h : Blk w g n F) (hb : Below w.heap.size w w1) : Blk w1 g n F := World.rowIs.of_block h (hb.block _ h.lt)
theorem drew (h : Blk w g n F) : Blk w.drew g n F := World.rowIs.drew h
theorem far (h : Blk w g n F) {a : Addr} (ha : g ≠ a.block) (v : Value) : Blk (w.setCell a v) g n F := World.rowIs.setOther h ha v
theorem cell (h : Blk w g n F) {i j : Nat} (hi : i < n) (hj : j < 64) : w.cell? ⟨g, i * 64 + j, none⟩ = some (.int .u16 (F i j)) := by
 have := World.rowIs.cell h (i := i * 64 + j) (by omega)
 rwa [div_of hj, mod_of hj] at this
theorem frozen (h : Blk w g n F) (i : Nat) : w.frozen? ⟨g, i, none⟩ = false := World.rowIs.frozen h i
theorem congr (h : Blk w g n F) (e : ∀ a b, a < n → b < 64 → F a b = F' a b) : Blk w g n F' :=
 World.rowIs.congr h fun k hk => by rw [e (k / 64) (k % 64) (by omega) (by omega)]
theorem set (h : Blk w g n F) {i j : Nat} (hj : j < 64) (x : Int) : Blk (w.setCell ⟨g, i * 64 + j, none⟩ (.int .u16 x)) g n (fun a b => if a = i ∧ b = j then x else F a b) :=
 World.rowIs.congr (World.rowIs.set h (i * 64 + j) (.int .u16 x)) fun k _ => by
  have : k = i * 64 + j ↔ (k / 64 = i ∧ k % 64 = j) := by omega
  show (if k = i * 64 + j then Value.int .u16 x else .int .u16 (F (k / 64) (k % 64))) = Value.int .u16 (if k / 64 = i ∧ k % 64 = j then x else F (k / 64) (k % 64))
  by_cases e : k = i * 64 + j
  ·rw [if_pos e, if_pos (this.1 e)]
  ·rw [if_neg e, if_neg (fun hh => e (this.2 hh))]
end Blk
theorem Blk.made (w : World) (n : Nat) (z : Array Value) (hz : z = Array.replicate 64 (.int .u16 0)) : Blk (w.alloc (.cells (madeCells z (n * 64)) 183)) w.heap.size n (fun _ _ => 0) := by
 subst hz
 have := World.rowIs_alloc w (madeCells (Array.replicate 64 (.int .u16 0)) (n * 64)) 183 (fun _ => .int .u16 0) (fun i hi => by
  rw [size_madeCells] at hi
  have : i % 64 < 64 := by omega
  simp [madeCells, hi, this])
 rw [size_madeCells] at this
 exact this
def linesOf (n : Nat) (F : Nat → Nat → Int) : List (List Int) := (List.range n).map fun a => (List.range 64).map (F a)
theorem linesOf_length (n : Nat) (F : Nat → Nat → Int) : (linesOf n F).length = n := by simp [linesOf]
theorem Blk.C {w : World} {g n : Nat} {F : Nat → Nat → Int} (h : Blk w g n F) (hn : n ≤ 9223372036854775807) : kLine.C w (some ⟨g, 0, none⟩) n (linesOf n F) := by
 refine ⟨linesOf_length n F, hn, fun _ => ⟨_, rfl, fun a p hp => ?_⟩⟩
 have ha : a < n := by have := (List.getElem?_eq_some_iff.1 hp).1; rwa [linesOf_length] at this
 have hp' : p = (List.range 64).map (F a) := by
  simp [linesOf, ha] at hp
  exact hp.symm
 subst hp'
 refine ⟨nums .u16 ((List.range 64).map (F a)), by simp [nums]; rfl, Kd.K_of_M (base := 0) (ok := fun _ => True) _ (Kd.arr_of_cells (by simp)), fun j u hu => ?_⟩
 have hj : j < 64 := by have := (List.getElem?_eq_some_iff.1 hu).1; simpa [nums] using this
 have hu' : u = .int .u16 (F a j) := by
  simp [nums, hj] at hu
  exact hu.symm
 subst hu'
 have := h.cell ha hj
 have e : ((⟨g, 0, none⟩ : Addr).add (a * 64 + j)) = ⟨g, a * 64 + j, none⟩ := by rw [Addr.add_mid, Nat.zero_add]
 show w.cell? ((⟨g, 0, none⟩ : Addr).add (a * 64 + j)) = _
 rw [e]
 exact this
theorem linesOf_ok {n : Nat} {F : Nat → Nat → Int} (hF : ∀ a b, a < n → b < 64 → (Lit.int .u16 (F a b)).wf = true) : ∀ l ∈ linesOf n F, lineOk l := by
 intro l hl
 obtain ⟨a, ha, rfl⟩ := List.mem_map.1 hl
 refine ⟨by simp, fun x hx => ?_⟩
 obtain ⟨b, hb, rfl⟩ := List.mem_map.1 hx
 exact hF a b (by simpa using ha) (by simpa using hb)
theorem info183 : ∃ i : TypeInfo, Tryz.prog.info? 183 = some i ∧ i.zero = some (.agg (Array.replicate 64 (.int .u16 0))) ∧ i.size = 64 ∧ i.bytes = 128 := by
 have h : (Tryz.prog.info? 183).map (fun i => (i.zero, i.size, i.bytes)) = some (some (.agg (Array.replicate 64 (.int .u16 0))), 64, 128) := by kernel_rfl
 obtain ⟨i, hi, hz⟩ := Option.map_eq_some_iff.1 h
 simp only [Prod.mk.injEq] at hz
 exact ⟨i, hi, hz.1, hz.2.1, hz.2.2⟩
abbrev made (n : Nat) : Obj := .cells (madeCells (Array.replicate 64 (.int .u16 0)) (n * 64)) 183
theorem make_lines (n : Nat) (hn : n ≤ 64) (w : World) : (Instr.makeSlice 179 (.int .i64 (n : Int)) (.int .i64 (n : Int))).run Tryz.prog w = .ok (.slice (some ⟨w.heap.size, 0, none⟩) n n) (w.alloc (made n)) := by
 obtain ⟨i, h1, h2, h3, h4⟩ := info183
 have := run_make (P := Tryz.prog) w 179 183 i _ Tryz.underlying179 h1 h2 .i64 .i64 (n : Int) n (by omega) (by omega) (by rw [h4]; omega) (by omega)
 rw [h3] at this
 simpa [Value.cells] using this
end Go.Proofs.YtdgkppldopiaoaaGreat.GBlk
/- graph.classes, walked. -/
namespace Go.Proofs.YtdgkppldopiaoaaGreat.CClasses
open Go.RowKit YtdgkppldopiaoaaGreatW.PrintWords YtdgkppldopiaoaaGreatW.PrintLast YtdgkppldopiaoaaGreatW.PrintMore BMap BRow GDiffer GBlk CPure MLines MSide MPol Go.Maps
open PG
structure Cl (w wr : World) (v4 v5 : Value) (L4 L5 : List Int) (f : List Int → Option Int) (n : Nat) : Prop where
 map : MapL wr w.heap.size f n
 r4 : Kd.R (Kd.int .i64) 3 wr w.heap.size (fun b => b ≠ w.heap.size) v4 L4
 r5 : Kd.R (Kd.int .i64) 3 wr w.heap.size (fun b => b ≠ w.heap.size) v5 L5
 apart : ∀ b, v4.ownBlock = some b → v5.ownBlock ≠ some b
 below : Below w.heap.size w wr
namespace Cl
variable {w wr w1 : World} {v4 v5 v' : Value} {L4 L5 : List Int} {f : List Int → Option Int} {n : Nat}
theorem move (h : Cl w wr v4 v5 L4 L5 f n) (hb : Below wr.heap.size wr w1) : Cl w w1 v4 v5 L4 L5 f n :=
 ⟨h.map.below hb, Kd.R_below h.r4 hb, Kd.R_below h.r5 hb, h.apart, below_then h.below h.below.size hb⟩
theorem okR {e base : Nat} {W : World} {ok : Nat → Prop} {v : Value} {xs : List Int} {ok' : Nat → Prop} (h : Kd.R (Kd.int .i64) e W base ok v xs) (h' : ∀ k, v.ownBlock = some k → ok' k) : Kd.R (Kd.int .i64) e W base ok' v xs := ⟨h', h.2⟩
theorem ltR {e base : Nat} {W : World} {ok : Nat → Prop} {v : Value} {xs : List Int} (h : Kd.R (Kd.int .i64) e W base ok v xs) (k : Nat) (hk : v.ownBlock = some k) : k < W.heap.size := (Kd.R_bound h).1 k hk |>.2.2.1
theorem app5 {L : List Int} (h : Cl w wr v4 v5 L4 L5 f n) (hr : Kd.R (Kd.int .i64) 3 w1 w.heap.size (fun b => b ≠ w.heap.size) v' L) (hb : Below w.heap.size w w1) (hg : wr.grownBy w1 v5.ownBlock) (hat : v'.ownBlock = v5.ownBlock ∨ ∃ b, v'.ownBlock = some b ∧ wr.heap.size ≤ b) : Cl w w1 v4 v' L4 L f n where
 map := h.map.grown hg (fun e => h.r5.1 _ e.symm rfl)
 r4 := Kd.R_mono (Kd.R_grown (okR (ok' := fun b => b ≠ w.heap.size ∧ v5.ownBlock ≠ some b) h.r4 (fun k hk => ⟨h.r4.1 k hk, h.apart k hk⟩)) hg (fun k hk => hk.2.symm)) (fun k hk => hk.1)
 r5 := hr
 apart := fun b hb => by
  rcases hat with e | ⟨g, e, hge⟩
  ·rw [e]; exact h.apart b hb
  ·rw [e]; intro k; have := ltR h.r4 b hb; have := Option.some.inj k; omega
 below := hb
theorem app4 {L : List Int} (h : Cl w wr v4 v5 L4 L5 f n) (hr : Kd.R (Kd.int .i64) 3 w1 w.heap.size (fun b => b ≠ w.heap.size) v' L) (hb : Below w.heap.size w w1) (hg : wr.grownBy w1 v4.ownBlock) (hat : v'.ownBlock = v4.ownBlock ∨ ∃ b, v'.ownBlock = some b ∧ wr.heap.size ≤ b) : Cl w w1 v' v5 L L5 f n where
 map := h.map.grown hg (fun e => h.r4.1 _ e.symm rfl)
 r5 := Kd.R_mono (Kd.R_grown (okR (ok' := fun b => b ≠ w.heap.size ∧ v4.ownBlock ≠ some b) h.r5 (fun k hk => ⟨h.r5.1 k hk, fun e => h.apart k e hk⟩)) hg (fun k hk => hk.2.symm)) (fun k hk => hk.1)
 r4 := hr
 apart := fun b hb => by
  rcases hat with e | ⟨g, e, hge⟩
  ·rw [e] at hb; exact h.apart b hb
  ·rw [e] at hb; intro k; have := ltR h.r5 b k; have := Option.some.inj hb; omega
 below := hb
theorem put {f' : List Int → Option Int} {n' : Nat} (h : Cl w wr v4 v5 L4 L5 f n) (hM : MapL w1 w.heap.size f' n') (hg : wr.grownBy w1 (some w.heap.size)) : Cl w w1 v4 v5 L4 L5 f' n' where
 map := hM
 r4 := Kd.R_grown h.r4 hg (fun k hk e => hk (Option.some.inj e))
 r5 := Kd.R_grown h.r5 hg (fun k hk e => hk (Option.some.inj e))
 apart := h.apart
 below := h.below.grown hg h.below.size (fun k hk => by cases hk; exact Nat.le_refl _)
end Cl
theorem map_ne {κ β : Type} {kenc : κ → Value} {venc : β → Value} {ok : κ → Prop} {w : World} {b n : Nat} {f : κ → Option β} (h : MapF kenc venc ok w b f n) {g t : Nat} {cs : Array Value} (hS : Stays w g cs t) : g ≠ b := by
 rintro rfl
 obtain ⟨es, cl, l, h2, _⟩ := h.out
 have h1 : w.heap[g]? = some (.cells cs t (0, 0)) := hS
 rw [h1] at h2
 cases h2
theorem zero112' : ∃ cur : Array Value, cur.size = 64 ∧ ∀ w : World, (zeroValue 183).run Tryz.prog w = .ok (.agg cur) w := ⟨Array.replicate 64 (.int .u16 0), by simp, fun w => by kernel_rfl⟩
theorem i65 : (Tryz.prog.info? 183).map (·.size) = some 64 := by kernel_rfl
theorem look_line {w : World} {b : Nat} {f : List Int → Option Int} {n : Nat} (hM : MapL w b f n) {l : List Int} (hl : lineOk l) (v : Array Value) (hv : v = (nums .u16 l).toArray) : (Instr.lookup 204 (.map (some b)) (.agg v) false).run Tryz.prog w = .ok (.int .i64 ((f l).getD 0)) w := by
 subst hv
 have hq := hM.lookup line_key Tryz.underlying204 (zero3 w) hl false
 have e : ((f l).map (Value.int IntKind.i64)).getD (.int .i64 0) = .int .i64 ((f l).getD 0) := by cases f l <;> rfl
 simp only [Bool.false_eq_true, if_false, e] at hq
 exact hq
theorem classes_calls (A : Option Addr) (c : Nat) (ls : List (List Int)) (w : World) (hC : kLine.C w A ls.length ls) (hok : ∀ l ∈ ls, lineOk l) (hl : ls.length ≤ 64) :
  Calls Tryz.prog 74 #[.slice A ls.length c] w fun e w' => ∃ v4 v5, e = .returned (.tuple #[v4, v5]) ∧ Kd.R (Kd.int .i64) 3 w' w.heap.size (fun _ => True) v4 (numsOf ls) ∧ Kd.R (Kd.int .i64) 3 w' w.heap.size (fun _ => True) v5 (firstsOf ls) ∧ Below w.heap.size w w' := by
 have HC := jA hC
 have HOK := jA hok
 have HLL := jA hl
 have hmax : ls.length ≤ 9223372036854775807 := hC.2.1
 clear hC hok hl
 have hmm := @run_makeMap Tryz.prog
 go_enter Tryz.func74, Tryz.ntmps74
 go_wp2
 clear hmm
 obtain ⟨cur, hcur, hz⟩ := zero112'
 have HCUR := jA hcur
 clear hcur
 go_loopw [4, 5, 12] (fun u4 u5 u12 wr => ∃ (k : Nat) (f : List Int → Option Int) (n : Nat), k ≤ ls.length ∧ u12 = .int .i64 k ∧ Aside0 (Cl w wr u4 u5 (numsOf (ls.take k)) (firstsOf (ls.take k)) f n) ∧ Aside0 (∀ l, (l ∈ ls.take k → f l = some (num (ls.take k) l)) ∧ (l ∉ ls.take k → f l = none))) (fun _ _ u12 _ => ls.length - (intOf u12).toNat)
 case atStart => exact ⟨0, _, _, Nat.zero_le _, rfl, ⟨⟨MapF.made w, Kd.R_nil _ _ _ _ _, Kd.R_nil _ _ _ _ _, fun b h => by simp [Value.ownBlock] at h, (Below.refl _ _).alloc (Nat.le_refl _) _⟩⟩, ⟨fun l => by simp⟩⟩
 case round =>
  obtain ⟨k, f, n, hk, rfl, HR, HF⟩ := hrel
  by_cases hlt : k < ls.length
  ·obtain ⟨ad, cs, e0, hl, hK, hcell⟩ := Kd.C_get HC.out ([] : List Int) (k : Int) (by omega) (by omega)
   cases e0
   have hlo := HOK.out (ls[k]) (List.getElem_mem hlt)
   have hget : ls.getD (k : Int).toNat [] = ls[k] := by simp [hlt]
   rw [hget] at hK
   obtain ⟨_, rfl⟩ := Kd.arr_cells hK
   have htk : ls.take (k + 1) = ls.take k ++ [ls[k]] := List.take_succ_eq_append_getElem hlt
   obtain ⟨x, hxx⟩ : ∃ x, x = ls[k] := ⟨_, rfl⟩
   rw [← hxx] at hcell hlo htk
   have hcw : ∀ (j : Nat) (v : Value), (nums .u16 x)[j]? = some v → wr.cell? ((ad.add (k * 64)).add j) = some v := by
    intro j v hj
    have : w.cell? (ad.add (k * 64 + j)) = some v := hcell j v hj
    rw [← add_add] at this
    rw [HR.out.below.cell (World.block_lt_of_cell? w _ this)]
    exact this
   have hsz : (nums .u16 x).length = 64 := by rw [nums_length, hlo.1]
   have hfx := HF.out x
   have hlen : (ls.take k).length = k := by rw [List.length_take]; omega
   have h64 := HLL.out
   have hnl : (numsOf (ls.take k)).length = k := by rw [numsOf, List.length_map, hlen]
   have hfl : (firstsOf (ls.take k)).length ≤ k := by rw [firstsOf_length]; have := uniq_length (ls.take k); omega
   have Zb : ((numsOf (ls.take k)).length + 1) * 8 ≤ 140737488355328 := by omega
   have Zc : ((firstsOf (ls.take k)).length + 1) * 8 ≤ 140737488355328 := by omega
   have hnew : ls.take (k + 1) = ls.take k ++ [x] := htk
   have hl4 : numsOf (ls.take (k + 1)) = numsOf (ls.take k) ++ [num (ls.take (k + 1)) x] := by rw [htk]; exact numsOf_snoc _ _
   have hl5o : x ∈ ls.take k → firstsOf (ls.take (k + 1)) = firstsOf (ls.take k) := fun h => by rw [htk, firstsOf_old h]
   have hl5n : x ∉ ls.take k → firstsOf (ls.take (k + 1)) = firstsOf (ls.take k) ++ [(k : Int)] := fun h => by rw [htk, firstsOf_new h, hlen]
   have hnum : ∀ y, y ∈ ls.take k → num (ls.take (k + 1)) y = num (ls.take k) y := fun y hy => by rw [htk]; exact num_old hy
   have hnn : x ∉ ls.take k → num (ls.take (k + 1)) x = (((firstsOf (ls.take k)).length + 1 : Nat) : Int) := fun h => by rw [htk, num_new h, firstsOf_length]
   have hmem : ∀ y, y ∈ ls.take (k + 1) ↔ y ∈ ls.take k ∨ y = x := fun y => by rw [htk, List.mem_append, List.mem_singleton]
   have hpos := num_pos (ls.take k) x
   have hle : x ∈ ls.take k → num (ls.take k) x ≤ k := fun h => by have h1 := num_le h; have h2 := uniq_length (ls.take k); omega
   generalize numsOf (ls.take k) = L4 at *
   generalize firstsOf (ls.take k) = L5 at *
   have HCW := jA hcw
   have HLO := jA hlo
   have HSZ := jA hsz
   have HFX := jA hfx
   have Zd := jA Zb
   have Zf := jA Zc
   have HL4 := jA hl4
   have HL5o := jA hl5o
   have HL5n := jA hl5n
   have HNUM := jA hnum
   have HNN := jA hnn
   have HMEM := jA hmem
   have HPOS := jA hpos
   have HLE := jA hle
   clear hl hK hcell hget hcw hlo hsz hfx Zb Zc hl4 hl5o hl5n hnum hnn hmem hpos hle htk hxx hnl hfl hnew hlen h64
   have c0' : (k : Int) < ls.length := by omega
   have HSA := jA (show (nums .u16 x).toArray.size = cur.size by rw [List.size_toArray, HSZ.out, HCUR.out])
   have HIA := jA (show (Tryz.prog.info? 183).map (·.size) = some (nums .u16 x).toArray.size by rw [List.size_toArray, HSZ.out]; exact i65)
   have HIL := jA (show (Tryz.prog.info? 183).map (·.size) = some (nums .u16 x).length by rw [HSZ.out]; exact i65)
   have HOA := jA (show (nums .u16 x).toArray.all (·.oneCell') = true by rw [Array.all_eq_true_iff_forall_mem]; intro u hu; exact nums_one _ _ u (by simpa using hu))
   go_upto_region 6 with (first | ((with_reducible refine gate_dst (N := 16) rfl ?_); refine wpList_load_at rfl 183 (.tmp 15) rfl (ad.add (k * 64)) ?hx (nums .u16 x) HCW.out _ Tryz.underlying183 rfl HIL.out ?_; (case hx => rfl)) | ((with_reducible refine gate_store (t := 183) (p := 8) (v := .tmp 16) rfl ?_); refine wpList_store_var rfl 183 (.tmp 8) (.tmp 16) rfl wr.heap.size (nums .u16 x).toArray ?hx ?hy (cs := cur) (t := 183) (heap_alloc_new wr _) HSA.out HIA.out HOA.out ?_; (case hx => rfl); (case hy => rfl)))
   (try simp only [Act.put])
   have hb2 : Below wr.heap.size wr ((wr.alloc (.cells cur 183)).setCells wr.heap.size 0 (nums .u16 x).toArray.toList) := setCells_below (below_alloc (Below.refl _ _) _) (Nat.le_refl _) _
   have hS2 : Stays ((wr.alloc (.cells cur 183)).setCells wr.heap.size 0 (nums .u16 x).toArray.toList) wr.heap.size (nums .u16 x).toArray 183 := setCells_var (vs := (nums .u16 x).toArray) (heap_alloc_new wr _) (by rw [List.size_toArray, HSZ.out, HCUR.out])
   have hR2 := HR.out.move hb2
   obtain ⟨W2, hW2⟩ : ∃ W2, W2 = ((wr.alloc (.cells cur 183)).setCells wr.heap.size 0 (nums .u16 x).toArray.toList) := ⟨_, rfl⟩
   obtain ⟨g8, hg8⟩ : ∃ g8, g8 = wr.heap.size := ⟨_, rfl⟩
   rw [← hW2] at hS2 hR2 ⊢
   rw [← hg8] at hS2 ⊢
   obtain ⟨xa, hxa⟩ : ∃ xa, xa = (nums .u16 x).toArray := ⟨_, rfl⟩
   rw [← hxa] at hS2
   have HXA := jA hxa
   have hxs : (Tryz.prog.info? 183).map (·.size) = some xa.size := by rw [hxa, List.size_toArray, HSZ.out]; exact i65
   have HXS := jA hxs
   have HS2 := jA hS2
   have HR2 := jA hR2
   clear hb2 hS2 hR2 hW2 hg8 hxa hxs
   by_cases hin : x ∈ ls.take k
   ·have hlk := look_line HR2.out.map HLO.out xa HXA.out
    have hfx := HFX.out.1 hin
    rw [hfx, Option.getD_some] at hlk
    have hp := HPOS.out
    generalize hqq : num (ls.take k) x = q at *
    have hq0 : (q == (0 : Int)) = false := by rw [beq_eq_false_iff_ne]; omega
    have HIN := jA hin
    have HQQ := jA hqq
    have Zl := jA hfx
    clear hp hfx hqq hin
    go_wp2_with (first | ((with_reducible refine gate_dst (N := 18) rfl ?_); refine wpList_load_blk rfl 183 (.tmp 8) rfl g8 ?hx xa 183 HS2.out _ Tryz.underlying183 rfl HXS.out ?_; (case hx => rfl)) | ((with_reducible refine gate_dst (N := 31) rfl ?_); refine wpList_load_blk rfl 183 (.tmp 8) rfl g8 ?hx xa 183 HS2.out _ Tryz.underlying183 rfl HXS.out ?_; (case hx => rfl)) | ((with_reducible refine gate_builtin (b := .append) (xs := #[.tmp 29, .tmp 33]) rfl ?_); at_builtin; refine Kd.R_append (Kd.int .i64) (w0 := w) w.heap.size rfl (.tmp 29) (.tmp 33) 22 3 (.int .i64 0) 8 rfl Tryz.underlying22 info3 rfl (by decide) (by decide) u4 L4 q [.int .i64 q] (fun b => b ≠ w.heap.size) (fun _ => False) rfl rfl rfl (fun _ hk => hk.elim) (fun k hk e => by have := HR2.out.map.lt; omega) HR2.out.r4 HR2.out.below HR2.out.below.size Zd.out ?_; intro v8 w8 hR8 hB8 hg8 Za; have HR8 := jA (HR2.out.app4 hR8 hB8 hg8 Za); clear hR8 hB8 hg8 Za))
    go_roundw
    case rel => exact ⟨k + 1, f, n, by omega, by go_num, ⟨by rw [HL4.out, HNUM.out x HIN.out, HQQ.out, HL5o.out HIN.out]; exact HR8.out⟩, ⟨fun l => ⟨fun hl => by
     have hl2 : l ∈ ls.take k := by
      rcases (HMEM.out l).1 hl with h | h
      ·exact h
      ·rw [h]; exact HIN.out
     rw [HNUM.out l hl2]; exact (HF.out l).1 hl2, fun hl => (HF.out l).2 (fun h => hl ((HMEM.out l).2 (.inl h)))⟩⟩⟩
    case measure => simp [intOf]; omega
   ·have hlk := look_line HR2.out.map HLO.out xa HXA.out
    have hfx := HFX.out.2 hin
    rw [hfx, Option.getD_none] at hlk
    have HNIN := jA hin
    clear hfx hin
    go_upto_region 8 with (first | ((with_reducible refine gate_dst (N := 18) rfl ?_); refine wpList_load_blk rfl 183 (.tmp 8) rfl g8 ?hx xa 183 HS2.out _ Tryz.underlying183 rfl HXS.out ?_; (case hx => rfl)) | ((with_reducible refine gate_builtin (b := .append) (xs := #[.tmp 21, .tmp 23]) rfl ?_); at_builtin; refine Kd.R_append (Kd.int .i64) (w0 := w) w.heap.size rfl (.tmp 21) (.tmp 23) 22 3 (.int .i64 0) 8 rfl Tryz.underlying22 info3 rfl (by decide) (by decide) u5 L5 (k : Int) [.int .i64 k] (fun b => b ≠ w.heap.size) (fun _ => False) rfl rfl rfl (fun _ hk => hk.elim) (fun k hk e => by have := HR2.out.map.lt; omega) HR2.out.r5 HR2.out.below HR2.out.below.size Zf.out ?_; intro v8 w8 hR8 hB8 hg8 Za; have HR8 := jA (HR2.out.app5 hR8 hB8 hg8 Za); have HS8 := jA (show Stays w8 g8 xa 183 from (hg8.block _ (Array.getElem?_eq_some_iff.1 HS2.out).1 (Kd.R_ne HR2.out.r5 HS2.out (by decide))).trans HS2.out); clear hR8 hB8 hg8 Za))
    clear hlk
    obtain ⟨A8, c8, e8⟩ := Kd.R_slice HR8.out.r5
    obtain ⟨m, hm⟩ : ∃ m, m = (L5 ++ [(k : Int)]).length := ⟨_, rfl⟩
    rw [← hm] at e8
    subst e8
    have hm1 : m = L5.length + 1 := by rw [hm]; simp
    have HMM := jA hm1
    clear hm hm1
    obtain ⟨w9, hrun, hM9, hg9⟩ := HR8.out.map.update line_key Tryz.underlying204 HLO.out (m : Int)
    have Zg : (Instr.mapUpdate 204 (.map (some w.heap.size)) (.agg xa) (.int .i64 (m : Int))).run Tryz.prog w8 = .ok () w9 := by rw [HXA.out]; exact hrun
    have HR9 := jA (HR8.out.put hM9 hg9)
    have HS9 := jA (show Stays w9 g8 xa 183 from (hg9.block _ (Array.getElem?_eq_some_iff.1 HS8.out).1 (fun e => map_ne HR8.out.map HS8.out (Option.some.inj e))).trans HS8.out)
    clear hrun hM9 hg9
    go_upto_region 9 with (first | ((with_reducible refine gate_dst (N := 26) rfl ?_); refine wpList_load_blk rfl 183 (.tmp 8) rfl g8 ?hx xa 183 HS8.out _ Tryz.underlying183 rfl HXS.out ?_; (case hx => rfl)))
    clear Zg
    have hlk := look_line HR9.out.map HLO.out xa HXA.out
    rw [upd_same, Option.getD_some] at hlk
    go_wp2_with (first | ((with_reducible refine gate_dst (N := 31) rfl ?_); refine wpList_load_blk rfl 183 (.tmp 8) rfl g8 ?hx xa 183 HS9.out _ Tryz.underlying183 rfl HXS.out ?_; (case hx => rfl)) | ((with_reducible refine gate_builtin (b := .append) (xs := #[.tmp 29, .tmp 33]) rfl ?_); at_builtin; refine Kd.R_append (Kd.int .i64) (w0 := w) w.heap.size rfl (.tmp 29) (.tmp 33) 22 3 (.int .i64 0) 8 rfl Tryz.underlying22 info3 rfl (by decide) (by decide) u4 L4 (m : Int) [.int .i64 m] (fun b => b ≠ w.heap.size) (fun _ => False) rfl rfl rfl (fun _ hk => hk.elim) (fun k hk e => by have := HR9.out.map.lt; omega) HR9.out.r4 HR9.out.below HR9.out.below.size Zd.out ?_; intro v10 w10 Zh Zi Zj Ze; have Zk := jA (HR9.out.app4 Zh Zi Zj Ze); clear Zh Zi Zj Ze))
    go_roundw
    case rel => exact ⟨k + 1, _, _, by omega, by go_num, ⟨by rw [HL4.out, HNN.out HNIN.out, ← HMM.out, HL5n.out HNIN.out]; exact Zk.out⟩, ⟨fun l => ⟨fun hl => by
     by_cases e : l = x
     ·rw [e, upd_same, HNN.out HNIN.out, HMM.out]
     ·have hl2 : l ∈ ls.take k := by
       rcases (HMEM.out l).1 hl with h | h
       ·exact h
       ·exact absurd h e
      rw [upd_other _ _ e, HNUM.out l hl2]; exact (HF.out l).1 hl2, fun hl => by
     have e : l ≠ x := fun e => hl ((HMEM.out l).2 (.inr e))
     rw [upd_other _ _ e]; exact (HF.out l).2 (fun h => hl ((HMEM.out l).2 (.inl h)))⟩⟩⟩
    case measure => simp [intOf]; omega
  ·have hkk : k = ls.length := by omega
   subst hkk
   have hfin := HR.out
   rw [List.take_length] at hfin
   have HFI := jA hfin
   clear hfin
   obtain ⟨A4, c4, e4⟩ := Kd.R_slice HFI.out.r4
   obtain ⟨A5, c5, e5⟩ := Kd.R_slice HFI.out.r5
   go_wp2
   go_ret2
   exact ⟨_, _, rfl, Kd.R_mono HFI.out.r4 (fun _ _ => trivial), Kd.R_mono HFI.out.r5 (fun _ _ => trivial), HFI.out.below⟩
end Go.Proofs.YtdgkppldopiaoaaGreat.CClasses
/- mean.subject. -/
namespace Go.Proofs.YtdgkppldopiaoaaGreat.MPol
open Go.RowKit YtdgkppldopiaoaaGreatW.PrintWords YtdgkppldopiaoaaGreatW.PrintLast YtdgkppldopiaoaaGreatW.PrintMore BMap BRow MLines MPut MClose MConcat MStand MSide Go.Maps
open PG YtdgkppldopiaoaaGreatF
theorem wpList_store_one {P : Program} {w : World} {ops : Array Oper} {rest : List Oper} {op : Oper} {a : Act} {Q : Exit → Act → World → Prop} (hgd : op.guard = none) (ty : TypeId) (x y : Operand) (ho : op.op = .store ty x y) (b o : Nat) (v : Value) (hv : v.cells = #[v]) (h1 : v.oneCell' = true)
  (hx : a.eval x = .pointer (some ⟨b, o, none⟩)) (hy : a.eval y = v) (ht : w.there b o 1) (hi : (P.info? ty).map (·.size) = some 1) (h : wpList P ops Q rest (a.put op.dst undef) (w.setCell ⟨b, o, none⟩ v)) : wpList P ops Q (op :: rest) a w := by
 refine wpList_plain hgd fun K hK => ?_
 have hrun : (storeVar ty ⟨b, o, none⟩ v).run P w = .ok () (w.setCell ⟨b, o, none⟩ v) := by
  have := run_storeCells_cells (P := P) b o [v] 0 w (fun j hj => by simpa using (ht j (by simpa using hj)).1) (fun j hj => by simpa using (ht j (by simpa using hj)).2) (fun u hu => by rw [List.mem_singleton.1 hu]; exact h1)
  cases hq : P.info? ty with
  | none => simp [hq] at hi
  | some i =>
   have hs : i.size = 1 := by simpa [hq] using hi
   simp only [Nat.add_zero, World.setCells] at this
   simp [storeVar, sizeOf, typeInfo, hq, hv, hs, this]
 unfold Oper.wp execOp
 simp only [ho, hx, hy, Instr.storeAt, Instr.sureAddr, Sem.run_bind, Sem.run_pure, Result.andThen_ok, hrun]
 exact hK _ _ h
theorem z146 (w : World) : (zeroValue 146).run Tryz.prog w = .ok (.agg #[.string ⟨#[]⟩, .float .f64 0]) w := by kernel_rfl
theorem i54 : (Tryz.prog.info? 146).map (·.size) = some 2 := by kernel_rfl
theorem i52 : (Tryz.prog.info? 144).map (·.size) = some 1 := by kernel_rfl
theorem trust_skip {d : PolD} {s : ByteArray} {k : Nat} (hk : k < d.subs.length) (h : ∀ x ∈ d.subs.take k, x.f0 ≠ s) (he : d.subs[k].f0 = s) : d.trust s = some d.subs[k].f1 := by
 unfold PolD.trust
 have e : d.subs = d.subs.take k ++ d.subs[k] :: d.subs.drop (k + 1) := by rw [← List.drop_eq_getElem_cons hk, List.take_append_drop]
 have e2 : d.subs.find? (fun x => decide (x.f0 = s)) = some d.subs[k] := by
  rw [congrArg (List.find? (fun x => decide (x.f0 = s))) e, List.find?_append, List.find?_eq_none.2 (fun x hx => by simpa using h x hx), Option.none_or, List.find?_cons_of_pos (by simpa using he)]
 rw [e2]
 rfl
theorem trust_none {d : PolD} {s : ByteArray} (h : ∀ x ∈ d.subs, x.f0 ≠ s) : d.trust s = none := by
 unfold PolD.trust
 rw [List.find?_eq_none.2 (fun x hx => by simpa using h x hx)]
 rfl
theorem subject_calls (p : Pol) (s : ByteArray) (w : World) (hp : p.In w) (hd : p.d.Ok) (hs : okS s) :
  Calls Tryz.prog 111 #[.agg p.cells, .string s] w fun e w' => ∃ v, e = .returned (.tuple #[.agg v, .bool (p.d.trust s).isSome]) ∧ SideOf w' (p.d.trust s).isSome v s ((p.d.trust s).getD 0) (p.d.who s) ∧ Below w.heap.size w w' := by
 obtain ⟨d, A0, c0, A1, c1, A2, c2, A3, c3, A4, c4, A5, c5, A6, c6, A7, c7, A8, c8, A9, c9, A10, c10⟩ := p
 have hmax : d.subs.length ≤ 9223372036854775807 := hp.h1.2.1
 have HP := jA hp
 have HD := jA hd
 have HS := jA hs
 clear hd hp hs
 have hT := Two.start (Pol.mk d A0 c0 A1 c1 A2 c2 A3 c3 A4 c4 A5 c5 A6 c6 A7 c7 A8 c8 A9 c9 A10 c10) w
 have e1 := hT.s0.cell 1
 simp only [Pol.cells, Jt, Ju, Jv, noneV] at e1
 have HT := jA hT
 clear hT
 have hz := z222
 have hPost : ∀ v W, (∃ v', v = v' ∧ SideOf W (d.trust s).isSome v' s ((d.trust s).getD 0) (d.who s)) → True := fun _ _ _ => trivial
 clear hPost
 unfold Pol.cells
 unfold Pol.cells noneV at HT
 simp only [] at HT e1 ⊢
 go_enter Tryz.func111, Tryz.ntmps111
 go_wp2
 clear e1
 go_loopw [12] (fun u wr => ∃ k : Nat, k ≤ d.subs.length ∧ u = .int .i64 k ∧ Aside0 (Two (Pol.mk d A0 c0 A1 c1 A2 c2 A3 c3 A4 c4 A5 c5 A6 c6 A7 c7 A8 c8 A9 c9 A10 c10) w wr noneV) ∧ Aside0 (∀ x ∈ d.subs.take k, x.f0 ≠ s)) (fun u _ => d.subs.length - (intOf u).toNat)
 case atStart => exact ⟨0, Nat.zero_le _, rfl, HT, ⟨by simp⟩⟩
 case round =>
  obtain ⟨k, hk, rfl, HR, HN⟩ := hrel
  by_cases hlt : k < d.subs.length
  ·obtain ⟨ad, e0, hx0, hx1⟩ := at_T146 (HP.out.below HR.out.below).h1 (k : Int) (by omega) (by simp only []; omega)
   have hget : rd_T146 d.subs (k : Int) = d.subs[k] := by simp [rd_T146, hlt]
   simp only [hget, Int.toNat_natCast] at hx0 hx1
   have e0 : A1 = some ad := e0
   subst e0
   have htk : d.subs.take (k + 1) = d.subs.take k ++ [d.subs[k]] := List.take_succ_eq_append_getElem hlt
   have htr := trust_skip (s := s) hlt HN.out
   obtain ⟨x, hxx⟩ : ∃ x, x = d.subs[k] := ⟨_, rfl⟩
   rw [← hxx] at hx0 hx1 htk htr
   have HTK := jA htk
   have HTR := jA htr
   have hcw : ∀ (j : Nat) (v : Value), ([.string x.f0, .float .f64 x.f1] : List Value)[j]? = some v → wr.cell? ((ad.add (k * 2)).add j) = some v := by
    intro j v hj
    have hj2 : j < 2 := (List.getElem?_eq_some_iff.1 hj).1
    have : j = 0 ∨ j = 1 := by omega
    rcases this with rfl | rfl
    ·obtain rfl : Value.string x.f0 = v := by simpa using hj
     rw [Addr.add_zero']; exact hx0
    ·obtain rfl : Value.float .f64 x.f1 = v := by simpa using hj
     rw [add_add, add_field _ _ 1 (by omega)]; exact hx1
   have HCW := jA hcw
   have c0' : (k : Int) < d.subs.length := by omega
   clear hx0 hx1 hget htk htr hxx hcw
   go_upto_region 4 with (first | ((with_reducible refine gate_dst (N := 15) rfl ?_); refine wpList_load_at rfl 146 (.tmp 14) rfl (ad.add (k * 2)) ?hx [.string x.f0, .float .f64 x.f1] HCW.out _ Tryz.underlying146 rfl i54 ?_; (case hx => rfl); refine wpList_alloc_store rfl rfl 146 7 (.tmp 15) rfl rfl rfl #[.string ⟨#[]⟩, .float .f64 0] #[.string x.f0, .float .f64 x.f1] _ (z146 _) rfl i54 rfl (by simp [Value.oneCell']) ?hy ?hp ?_; (case hy => rfl); (case hp => rfl)))
   simp only [Act.put, List.setIfInBounds_toArray, List.set_cons_succ, List.set_cons_zero]
   have hS2 := heap_alloc_new wr (.cells #[.string x.f0, .float .f64 x.f1] 146)
   have hT2 := HR.out.move (below_alloc (Below.refl _ wr) (.cells #[.string x.f0, .float .f64 x.f1] 146))
   obtain ⟨W2, hW2⟩ : ∃ W2, W2 = wr.alloc (.cells #[.string x.f0, .float .f64 x.f1] 146) := ⟨_, rfl⟩
   obtain ⟨g7, hg7⟩ : ∃ g7, g7 = wr.heap.size := ⟨_, rfl⟩
   rw [← hg7] at hS2 ⊢
   rw [← hW2] at hS2 hT2 ⊢
   have hS2 : Stays W2 g7 #[.string x.f0, .float .f64 x.f1] 146 := hS2
   have x0 : W2.cell? ⟨g7, 0, none⟩ = some (.string x.f0) := hS2.cell 0
   have e5 := hT2.s0.cell 5
   have e6 := hT2.s0.cell 6
   simp only [Pol.cells, Jt, Ju, Jv] at e5 e6
   have HT2 := jA hT2
   have HS2 := jA hS2
   clear hS2 hT2 hW2 hg7
   by_cases he : x.f0 = s
   ·have hq : (x.f0.toList == s.toList) = true := by rw [he]; exact beq_self_eq_true _
    have Ze := jA (HTR.out he)
    clear he
    go_upto_region 6 with (first | (go_at_call 121; (with_reducible refine (stand_calls s A5 c5 d.mem A6 c6 d.inh _ (HP.out.below HT2.out.below).h5 (HP.out.below HT2.out.below).h6 HS.out (fun q hq => (List.mem_append.1 hq).elim (HD.out.mem q) (HD.out.inh q)) (by have := HD.out.lmem; have := HD.out.linh; omega)).mono ?_); rintro e w3 ⟨b, rfl, hS, hge, hb3⟩; have HT3 := jA (HT2.out.move hb3); have HS3 := jA (HS2.out.below hb3); have HSET := jA hS; have HLT := jA hS.lt; have HNE := jA (show b ≠ w.heap.size + 1 by have := (Array.getElem?_eq_some_iff.1 HT2.out.s1).1; omega); clear hS hge hb3) | ((with_reducible refine gate_dst (N := 8) rfl ?_); refine wpList_alloc_store rfl rfl 222 8 (.tmp 25) rfl rfl rfl noneV (sideV s 0 b) _ (z222 _) rfl i95 rfl (by simp [sideV, Value.oneCell']) ?hy ?hp ?_; (case hy => rfl); (case hp => rfl)))
    simp only [Act.put, List.setIfInBounds_toArray, List.set_cons_succ, List.set_cons_zero]
    have hS4 := heap_alloc_new w3 (.cells (sideV s 0 b) 222)
    have hb4 := below_alloc (Below.refl _ w3) (.cells (sideV s 0 b) 222)
    have hT4 := HT3.out.move hb4
    have hS7 := HS3.out.below hb4
    have Za := HSET.out.below hb4
    obtain ⟨W4, hW4⟩ : ∃ W4, W4 = w3.alloc (.cells (sideV s 0 b) 222) := ⟨_, rfl⟩
    obtain ⟨g8, hg8⟩ : ∃ g8, g8 = w3.heap.size := ⟨_, rfl⟩
    rw [← hg8] at hS4 ⊢
    rw [← hW4] at hS4 hT4 hS7 Za ⊢
    have hb8 : b ≠ g8 := by rw [hg8]; exact Nat.ne_of_lt HLT.out
    have h18 : w.heap.size + 1 < g8 := by rw [hg8]; exact (Array.getElem?_eq_some_iff.1 HT3.out.s1).1
    have hS4 : Stays W4 g8 (sideV s 0 b) 222 := hS4
    have x1 : W4.cell? ⟨g7, 1, none⟩ = some (.float .f64 x.f1) := hS7.cell 1
    have hth : W4.there g8 1 1 := fun j hj => by
     obtain rfl : j = 0 := by omega
     exact ⟨by rw [hS4.cell]; rfl, MPut.frozen_of_row hS4 _⟩
    have hS5 : Stays (W4.setCell ⟨g8, 1, none⟩ (.float .f64 x.f1)) g8 (sideV s x.f1 b) 222 := blk_put hS4 1 _ rfl
    have h15 : Stays (W4.setCell ⟨g8, 1, none⟩ (.float .f64 x.f1)) (w.heap.size + 1) noneV 222 := (Below.heap_setCell _ _ _ _ (by show w.heap.size + 1 ≠ g8; omega)).trans hT4.s1
    have Zb : IsSet (W4.setCell ⟨g8, 1, none⟩ (.float .f64 x.f1)) b (d.who s) := by
     obtain ⟨f, n, hM, hf⟩ := Za
     exact ⟨f, n, hM.setCell (by show g8 ≠ b; exact hb8.symm) _, hf⟩
    have Zc : Below w.heap.size w (W4.setCell ⟨g8, 1, none⟩ (.float .f64 x.f1)) := below_set hT4.below (by omega)
    have HTH := jA hth
    have HS5 := jA hS5
    have H15 := jA h15
    have Zd := jA Zb
    have HBEL := jA Zc
    clear hS4 hb4 hT4 hS7 Za hW4 hg8 hth hS5 h15 Zb Zc
    go_wp2_with (first | ((with_reducible refine gate_store (t := 144) (p := 28) (v := .tmp 27) rfl ?_); refine wpList_store_one rfl 144 (.tmp 28) (.tmp 27) rfl g8 1 (.float .f64 x.f1) rfl rfl ?hx ?hy HTH.out i52 ?_; (case hx => rfl); (case hy => rfl)) | ((with_reducible refine gate_dst (N := 29) rfl ?_); refine wpList_load_blk rfl 222 (.tmp 8) rfl g8 ?hx (sideV s x.f1 b) 222 HS5.out _ Tryz.underlying222 rfl i95 ?_; (case hx => rfl); refine wpList_store_var rfl 222 (.tmp 4) (.tmp 29) rfl (w.heap.size + 1) (sideV s x.f1 b) ?hx ?hy H15.out rfl i95 (by simp [sideV, Value.oneCell']) ?_; (case hx => rfl); (case hy => rfl)))
    (try simp only [Exit.inBlock, Exit.then])
    refine bodyPost_ret (results_ct rfl _ _ (w.heap.size + 1) 222 (sideV s x.f1 b) (0, 0) _ rfl (setCells_var H15.out rfl) Tryz.underlying222 rfl i95) rfl ?_
    rw [Ze.out]
    exact ⟨sideV s x.f1 b, rfl, ⟨fun _ => ⟨b, rfl, setCells_set Zd.out HNE.out _⟩, fun e => (by cases e)⟩, setCells_below HBEL.out (by omega) _⟩
   ·have hq : (x.f0.toList == s.toList) = false := by
     rw [Bool.eq_false_iff]
     intro e
     rw [beq_iff_eq, ByteArray.toList_eq, ByteArray.toList_eq] at e
     exact he (ByteArray.ext (Array.toList_inj.mp e))
    have HE := jA he
    clear he
    go_wp2
    go_roundw
    case rel => exact ⟨k + 1, by omega, by go_num, HT2, ⟨fun y hy => by rw [HTK.out, List.mem_append, List.mem_singleton] at hy; rcases hy with hy | rfl; exact HN.out y hy; exact HE.out⟩⟩
    case measure => simp [intOf]; omega
  ·have hkk : k = d.subs.length := by omega
   subst hkk
   have htn := trust_none (d := d) (s := s) (fun x hx => HN.out x (by rw [List.take_length]; exact hx))
   have HTN := jA htn
   clear htn
   go_wp2_with (first | ((with_reducible refine gate_store (t := 222) (p := 4) (v := .tmp 31) rfl ?_); refine wpList_store_var rfl 222 (.tmp 4) (.tmp 31) rfl (w.heap.size + 1) noneV ?hx ?hy HR.out.s1 rfl i95 (by simp [noneV, Value.oneCell']) ?_; (case hx => rfl); (case hy => rfl)))
   (try simp only [Exit.inBlock, Exit.then])
   refine bodyPost_ret (results_ct rfl _ _ (w.heap.size + 1) 222 noneV (0, 0) _ rfl (setCells_var HR.out.s1 rfl) Tryz.underlying222 rfl i95) rfl ?_
   rw [HTN.out]
   exact ⟨noneV, rfl, ⟨fun e => (by cases e), fun _ => rfl⟩, setCells_below HR.out.below (by omega) _⟩
end Go.Proofs.YtdgkppldopiaoaaGreat.MPol
/- mean.about. -/
namespace Go.Proofs.YtdgkppldopiaoaaGreat.MPol
open Go.RowKit YtdgkppldopiaoaaGreatW.PrintWords YtdgkppldopiaoaaGreatW.PrintLast YtdgkppldopiaoaaGreatW.PrintMore BMap BRow MLines MPut MClose MConcat MStand MSide Go.Maps
open PG YtdgkppldopiaoaaGreatF
structure Abt (p : Pol) (w W : World) (v1 v2 : Array Value) (b1 b2 : Nat) (R1 R2 : ByteArray → Prop) : Prop where
 below : Below w.heap.size w W
 s0 : Stays W w.heap.size p.cells 82
 s1 : Stays W (w.heap.size + 1) v1 222
 s2 : Stays W (w.heap.size + 1 + 1) v2 222
 set1 : IsSet W b1 R1
 set2 : IsSet W b2 R2
theorem Abt.move {p : Pol} {w W W1 : World} {v1 v2 : Array Value} {b1 b2 : Nat} {R1 R2 : ByteArray → Prop} (h : Abt p w W v1 v2 b1 b2 R1 R2) (hb : Below W.heap.size W W1) : Abt p w W1 v1 v2 b1 b2 R1 R2 :=
 ⟨below_then h.below h.below.size hb, h.s0.below hb, h.s1.below hb, h.s2.below hb, h.set1.below hb, h.set2.below hb⟩
theorem Abt.start (p : Pol) (w : World) (v1 v2 : Array Value) {b1 b2 : Nat} {R1 R2 : ByteArray → Prop} (h1 : IsSet w b1 R1) (h2 : IsSet w b2 R2) : Abt p w (((w.alloc (.cells p.cells 82)).alloc (.cells v1 222)).alloc (.cells v2 222)) v1 v2 b1 b2 R1 R2 := by
 have hb1 : Below w.heap.size w (w.alloc (.cells p.cells 82)) := below_alloc (Below.refl _ _) _
 have hb2 := below_alloc hb1 (.cells v1 222)
 have hb3 := below_alloc hb2 (.cells v2 222)
 have e1 := heap_alloc_new (w.alloc (.cells p.cells 82)) (.cells v1 222)
 have e2 := heap_alloc_new ((w.alloc (.cells p.cells 82)).alloc (.cells v1 222)) (.cells v2 222)
 rw [World.size_alloc] at e1
 rw [World.size_alloc, World.size_alloc] at e2
 exact ⟨hb3, (Below.heap_alloc _ _ _ (by simp only [World.size_alloc]; omega)).trans ((Below.heap_alloc _ _ _ (by simp only [World.size_alloc]; omega)).trans (heap_alloc_new w _)), (Below.heap_alloc _ _ _ (by simp only [World.size_alloc]; omega)).trans e1, e2, h1.below hb3, h2.below hb3⟩
theorem Abt.grown {p : Pol} {w W W1 : World} {v1 v2 : Array Value} {b1 b2 : Nat} {R1 R2 : ByteArray → Prop} (h : Abt p w W v1 v2 b1 b2 R1 R2) {row : Option Nat} (hg : W.grownBy W1 row) (hb : Below w.heap.size w W1) (h0 : some w.heap.size ≠ row) (h1 : some (w.heap.size + 1) ≠ row) (h2 : some (w.heap.size + 1 + 1) ≠ row) (h3 : some b1 ≠ row) (h4 : some b2 ≠ row) : Abt p w W1 v1 v2 b1 b2 R1 R2 := by
 have mv : ∀ {b : Nat} {R : ByteArray → Prop}, IsSet W b R → some b ≠ row → IsSet W1 b R := by
  rintro b R ⟨f, n, hM, hf⟩ hne
  exact ⟨f, n, hM.grown hg hne, hf⟩
 exact ⟨hb, (hg.block _ (Array.getElem?_eq_some_iff.1 h.s0).1 h0).trans h.s0, (hg.block _ (Array.getElem?_eq_some_iff.1 h.s1).1 h1).trans h.s1, (hg.block _ (Array.getElem?_eq_some_iff.1 h.s2).1 h2).trans h.s2, mv h.set1 h3, mv h.set2 h4⟩
theorem z78v (w : World) : (zeroValue 148).run Tryz.prog w = .ok (.agg #[(.bool false), (.string ⟨#[]⟩), (.string ⟨#[]⟩), (.slice none 0 0), (.int .i8 0), (.float .f64 0)]) w := by kernel_rfl
theorem speaks_go (r : S148) (A3 : Option Addr) (c3 : Nat) (n1 : ByteArray) (t1 b1 : Nat) (R1 : ByteArray → Prop) (n2 : ByteArray) (t2 b2 : Nat) (R2 : ByteArray → Prop) (w : World) (q : Bool) (hq : speaksB r R1 R2 t1 = q)
  (hC : Kd.C Kd.string w A3 r.f3.length r.f3) (hc : r.f3.length ≤ c3) (h1 : IsSet w b1 R1) (h2 : IsSet w b2 R2) (o1 : okS r.f1) (o2 : okS r.f2) (v1 v2 : Array Value) (hv1 : v1 = sideV n1 t1 b1) (hv2 : v2 = sideV n2 t2 b2) :
  Calls Tryz.prog 122 #[.agg (ruleV r A3 c3), .agg v1, .agg v2] w fun e w' => e = .returned (.bool q) ∧ Below w.heap.size w w' := by
 subst hq; subst hv1; subst hv2; exact speaks_calls r A3 c3 n1 t1 b1 R1 n2 t2 b2 R2 w hC hc h1 h2 o1 o2
end Go.Proofs.YtdgkppldopiaoaaGreat.MPol
/- mean.allows, in plain words. -/
namespace Go.Proofs.YtdgkppldopiaoaaGreat.MPol
open Go.RowKit YtdgkppldopiaoaaGreatW.PrintWords YtdgkppldopiaoaaGreatW.PrintLast YtdgkppldopiaoaaGreatW.PrintMore MLines MSide
open PG YtdgkppldopiaoaaGreatF
theorem beq_str (a b : ByteArray) : (a.toList == b.toList) = decide (a = b) := by
 rw [Bool.eq_iff_iff, decide_eq_true_iff, beq_iff_eq, ByteArray.toList_eq, ByteArray.toList_eq]
 exact ⟨fun h => ByteArray.ext (Array.toList_inj.mp h), fun h => by rw [h]⟩
def namesP (r : S148) (a : ByteArray) : Prop := r.f3 = [] ∨ a ∈ r.f3
def mayP (rules : List S148) (a : ByteArray) : Prop := (∃ r ∈ rules, namesP r a) ∧ ∀ r ∈ rules, namesP r a → r.f0 = false
open Classical in
noncomputable def allowsF (rules : List S148) (exc : List S89) (t : S89) : Bool := decide (mayP rules t.f2 ∧ t ∉ exc)
theorem names_f (r : S148) (a : ByteArray) (hl : r.f3.length ≤ 9223372036854775807) : ∃ b, Ev (fun k => mean_names.f k r.f0 r.f1 r.f2 r.f3 r.f4 r.f5 a) b ∧ (b = true ↔ namesP r a) := by
 unfold mean_names.f namesP
 by_cases h : r.f3 = []
 ·rw [h]
  exact ⟨true, Ev.congr (f := fun _ => some true) (fun k => by simp) (Ev.now _), by simp⟩
 ·have hne : ¬ ((r.f3.length : Int) = 0) := by
   intro e
   exact h (List.eq_nil_of_length_eq_zero (by omega))
  refine ⟨_, Ev.congr (f := fun k => (slices_Contains_string_string.f k r.f3 a).bind fun t => some t) (fun k => by rw [if_neg hne]) (Ev.bind (f := fun _ t => some t) (VPure.contains_f r.f3 a hl) (Ev.now _)), ?_⟩
  rw [decide_eq_true_iff, mem_nm]
  simp [h]
theorem triple_l0 (l : List S89) (t : S89) (hl : l.length ≤ 9223372036854775807) : ∀ (d n : Nat), n + d = l.length → ∃ i : Int, Ev (fun k => api_Triple_132.l0 k l l.length n t.f0 t.f1 t.f2) i ∧ (0 ≤ i ↔ t ∈ l.drop n)
 | 0, n, h => by
  rw [List.drop_eq_nil_of_le (by omega)]
  refine ⟨-1, Ev.step (f := fun _ => some (-1)) (fun k => ?_) (Ev.now _), by simp⟩
  simp only [api_Triple_132.l0]
  rw [if_neg (by omega)]
 | d + 1, n, h => by
  have hlt : n < l.length := by omega
  have hrd : rd_T89 l (n : Int) = l[n] := by simp [rd_T89, hlt]
  have hdr : l.drop n = l[n] :: l.drop (n + 1) := List.drop_eq_getElem_cons hlt
  by_cases he : t = l[n]
  ·refine ⟨n, Ev.step (f := fun _ => some (n : Int)) (fun k => ?_) (Ev.now _), by rw [hdr, he]; exact ⟨fun _ => List.mem_cons_self, fun _ => by omega⟩⟩
   simp only [api_Triple_132.l0]
   rw [if_pos (by omega), if_pos (by omega), if_pos (by omega), hrd, if_pos (by rw [← he]; simp)]
  ·obtain ⟨i, h1, h2⟩ := triple_l0 l t hl d (n + 1) (by omega)
   refine ⟨i, Ev.step (fun k => ?_) h1, by rw [h2, hdr, List.mem_cons]; simp [he]⟩
   have hne : ¬ ((t.f0.toList == l[n].f0.toList && (t.f1.toList == l[n].f1.toList && (t.f2.toList == l[n].f2.toList))) = true) := by
    rw [beq_str, beq_str, beq_str]
    simp only [Bool.and_eq_true, decide_eq_true_eq]
    rintro ⟨a, b, c⟩
    refine he ?_
    cases t; cases hx : l[n]; rw [hx] at a b c; simp only at a b c; subst a; subst b; subst c; rfl
   simp only [api_Triple_132.l0]
   rw [if_pos (by omega), if_pos (by omega), if_pos (by omega), hrd, if_neg hne, Go.Proofs.YtdgkppldopiaoaaGreat.VPure.w64n hlt hl]
theorem excepted_f (l : List S89) (t : S89) (hl : l.length ≤ 9223372036854775807) : ∃ b, Ev (fun k => api_Triple_124.f k l t.f0 t.f1 t.f2) b ∧ (b = true ↔ t ∈ l) := by
 obtain ⟨i, h1, h2⟩ := triple_l0 l t hl l.length 0 (by omega)
 rw [List.drop_zero] at h2
 exact ⟨_, Ev.bind (f := fun _ t => some (decide (t ≥ 0))) h1 (Ev.now _), by rw [decide_eq_true_iff]; exact h2⟩
theorem bool_is {b q : Bool} {p : Prop} [Decidable p] (h : b = true ↔ p) (hq : decide p = q) : b = q := by
 subst hq
 rw [Bool.eq_iff_iff, decide_eq_true_iff]
 exact h
open Classical in
theorem names_go (r : S148) (A3 : Option Addr) (c3 : Nat) (a : ByteArray) (w : World) (q : Bool) (hq : decide (namesP r a) = q) (h : Kd.C Kd.string w A3 r.f3.length r.f3) (hc : r.f3.length ≤ c3) :
  Calls Tryz.prog 123 #[.agg (ruleV r A3 c3), .string a] w fun e w' => e = .returned (.bool q) ∧ Below w.heap.size w w' := by
 obtain ⟨b, h1, h2⟩ := names_f r a h.2.1
 obtain rfl := bool_is h2 hq
 obtain ⟨k, hk⟩ := h1.rounds
 exact mean_names.calls k r.f0 r.f1 r.f2 A3 c3 r.f3 r.f4 r.f5 a _ w h hc hk
open Classical in
theorem excepted_go (A : Option Addr) (c : Nat) (l : List S89) (t : S89) (w : World) (q : Bool) (hq : decide (t ∈ l) = q) (h : Kd.C k89 w A l.length l) (hc : l.length ≤ c) :
  Calls Tryz.prog 124 #[.slice A l.length c, .agg #[.string t.f0, .string t.f1, .string t.f2]] w fun e w' => e = .returned (.bool q) ∧ Below w.heap.size w w' := by
 obtain ⟨b, h1, h2⟩ := excepted_f l t h.2.1
 obtain rfl := bool_is h2 hq
 obtain ⟨k, hk⟩ := h1.rounds
 exact api_Triple_124.calls k A c l t.f0 t.f1 t.f2 _ w h hc hk
end Go.Proofs.YtdgkppldopiaoaaGreat.MPol
/- mean.allows. -/
namespace Go.Proofs.YtdgkppldopiaoaaGreat.MPol
open Go.RowKit YtdgkppldopiaoaaGreatW.PrintWords YtdgkppldopiaoaaGreatW.PrintLast YtdgkppldopiaoaaGreatW.PrintMore BMap BRow MLines MPut MClose MConcat MStand MSide Go.Maps
open PG YtdgkppldopiaoaaGreatF
def tripV (t : S89) : Array Value := #[.string t.f0, .string t.f1, .string t.f2]
structure Alw (p : Pol) (w W : World) (t : S89) : Prop where
 below : Below w.heap.size w W
 s0 : Stays W w.heap.size p.cells 82
 s1 : Stays W (w.heap.size + 1) (tripV t) 89
theorem Alw.move {p : Pol} {w W W1 : World} {t : S89} (h : Alw p w W t) (hb : Below W.heap.size W W1) : Alw p w W1 t := ⟨below_then h.below h.below.size hb, h.s0.below hb, h.s1.below hb⟩
theorem Alw.start (p : Pol) (w : World) (t : S89) : Alw p w ((w.alloc (.cells p.cells 82)).alloc (.cells (tripV t) 89)) t := by
 have hb1 : Below w.heap.size w (w.alloc (.cells p.cells 82)) := below_alloc (Below.refl _ _) _
 have e1 := heap_alloc_new (w.alloc (.cells p.cells 82)) (.cells (tripV t) 89)
 rw [World.size_alloc] at e1
 exact ⟨below_alloc hb1 _, (Below.heap_alloc _ _ _ (by simp only [World.size_alloc]; omega)).trans (heap_alloc_new w _), e1⟩
open Classical in
theorem allowsF_iff (rules : List S148) (exc : List S89) (t : S89) : allowsF rules exc t = true ↔ mayP rules t.f2 ∧ t ∉ exc := by unfold allowsF; exact decide_eq_true_iff
theorem i28 : (Tryz.prog.info? 89).map (·.size) = some 3 := by kernel_rfl
open Classical in
theorem allows_calls (p : Pol) (A : Option Addr) (c : Nat) (l1 : List S148) (t : S89) (w : World) (hC : Kd.C k148 w A l1.length l1) (hE : Kd.C k89 w p.A10 p.d.exc.length p.d.exc) (hc : p.d.exc.length ≤ p.c10) (q : Bool) (hq : allowsF l1 p.d.exc t = q) :
  Calls Tryz.prog 115 #[.agg p.cells, .slice A l1.length c, .agg (tripV t)] w fun e w' => e = .returned (.bool q) ∧ Below w.heap.size w w' := by
 have hmax : l1.length ≤ 9223372036854775807 := hC.2.1
 have HC := jA hC
 have HE := jA hE
 have HCC := jA hc
 have HQ := jA hq
 have hA := Alw.start p w t
 have HA := jA hA
 clear hA hC hE hc hq
 have hpv : ∃ pv, pv = p.cells := ⟨_, rfl⟩
 unfold Pol.cells tripV
 unfold Pol.cells tripV at HA
 clear hpv
 go_enter Tryz.func115, Tryz.ntmps115
 go_wp2
 go_loopw [7, 12] (fun u7 u12 wr => ∃ (k : Nat) (y : Bool), k ≤ l1.length ∧ u12 = .int .i64 k ∧ u7 = .bool y ∧ Aside0 (Alw p w wr t) ∧ Aside0 (y = true ↔ ∃ r ∈ l1.take k, namesP r t.f2) ∧ Aside0 (∀ r ∈ l1.take k, namesP r t.f2 → r.f0 = false)) (fun _ u12 _ => l1.length - (intOf u12).toNat)
 case atStart => exact ⟨0, false, Nat.zero_le _, rfl, rfl, HA, ⟨by simp⟩, ⟨by simp⟩⟩
 case round =>
  obtain ⟨k, y, hk, rfl, rfl, HR, HY, HN⟩ := hrel
  by_cases hlt : k < l1.length
  ·obtain ⟨ad, cs, e0, hcl, hK, hcell⟩ := Kd.C_get HC.out z148 (k : Int) (by omega) (by omega)
   subst e0
   have hget : l1.getD (k : Int).toNat z148 = l1[k] := by simp [hlt]
   have hK : k148.K w l1[k] cs := by rw [← hget]; exact hK
   have htk : l1.take (k + 1) = l1.take k ++ [l1[k]] := List.take_succ_eq_append_getElem hlt
   have hin : l1[k] ∈ l1 := List.getElem_mem hlt
   obtain ⟨x, hxx⟩ : ∃ x, x = l1[k] := ⟨_, rfl⟩
   rw [← hxx] at hK htk hin
   obtain ⟨A3', c3', rfl, l3, g3⟩ := k148_open hK
   have hcw : ∀ (j : Nat) (v : Value), ([.bool x.f0, .string x.f1, .string x.f2, .slice A3' x.f3.length c3', .int .i8 x.f4, .float .f64 x.f5] : List Value)[j]? = some v → wr.cell? ((ad.add (k * 6)).add j) = some v := by
    intro j v hj
    have h0 : w.cell? (ad.add (k * 6 + j)) = some v := hcell j v hj
    rw [add_add]
    exact pw_cell_below HR.out.below h0
   have HCW := jA hcw
   have HTK := jA htk
   have HIN := jA hin
   have HL3 := jA l3
   have HG3 := jA g3
   have c0' : (k : Int) < l1.length := by omega
   clear hcell hK hget htk hin hxx hcw hcl l3 g3
   go_upto_region 5 with (first | ((with_reducible refine gate_dst (N := 15) rfl ?_); refine wpList_load_at rfl 148 (.tmp 14) rfl (ad.add (k * 6)) ?hx [.bool x.f0, .string x.f1, .string x.f2, .slice A3' x.f3.length c3', .int .i8 x.f4, .float .f64 x.f5] HCW.out _ Tryz.underlying148 rfl i78 ?_; (case hx => rfl); refine wpList_alloc_store rfl rfl 148 9 (.tmp 15) rfl rfl rfl #[(.bool false), (.string ⟨#[]⟩), (.string ⟨#[]⟩), (.slice none 0 0), (.int .i8 0), (.float .f64 0)] (ruleV x A3' c3') _ (z78v _) rfl i78 rfl (by simp [ruleV, Value.oneCell']) ?hy ?hp ?_; (case hy => rfl); (case hp => rfl)))
   simp only [Act.put, List.setIfInBounds_toArray, List.set_cons_succ, List.set_cons_zero]
   have hS2 := heap_alloc_new wr (.cells (ruleV x A3' c3') 148)
   have hA2 := HR.out.move (below_alloc (Below.refl _ wr) (.cells (ruleV x A3' c3') 148))
   obtain ⟨W2, hW2⟩ : ∃ W2, W2 = wr.alloc (.cells (ruleV x A3' c3') 148) := ⟨_, rfl⟩
   obtain ⟨g9, hg9⟩ : ∃ g9, g9 = wr.heap.size := ⟨_, rfl⟩
   rw [← hg9] at hS2 ⊢
   rw [← hW2] at hS2 hA2 ⊢
   have hS2 : Stays W2 g9 (ruleV x A3' c3') 148 := hS2
   have e2 : W2.cell? ⟨w.heap.size + 1, 2, none⟩ = some (.string t.f2) := hA2.s1.cell 2
   have HA2 := jA hA2
   have HS2 := jA hS2
   clear hS2 hA2 hW2 hg9
   obtain ⟨nb, hnb⟩ : ∃ nb, decide (namesP x t.f2) = nb := ⟨_, rfl⟩
   have HNB := jA hnb
   clear hnb
   obtain ⟨db, hdb⟩ : ∃ db, x.f0 = db := ⟨_, rfl⟩
   have HDB := jA hdb
   clear hdb
   have WALK : True := trivial
   cases nb with
   | false =>
    go_wp2_with (first | ((with_reducible refine gate_dst (N := 16) rfl ?_); refine wpList_load_blk rfl 148 (.tmp 9) rfl g9 ?hx (ruleV x A3' c3') 148 HS2.out _ Tryz.underlying148 rfl i78 ?_; (case hx => rfl)) | (go_at_call 123; (with_reducible refine (names_go x A3' c3' t.f2 _ _ HNB.out (Kd.C_below HG3.out HA2.out.below) HL3.out).mono ?_); rintro e w3 ⟨rfl, hb3⟩; have HA3 := jA (HA2.out.move hb3); clear hb3))
    go_roundw
    case rel => exact ⟨k + 1, y, by omega, by go_num, rfl, HA3, ⟨by rw [HTK.out, HY.out]; simp [of_decide_eq_false HNB.out]⟩, ⟨fun r hr hn => by rw [HTK.out, List.mem_append, List.mem_singleton] at hr; rcases hr with hr | rfl; exact HN.out r hr hn; exact absurd hn (of_decide_eq_false HNB.out)⟩⟩
    case measure => simp [intOf]; omega
   | true =>
    cases db with
    | true =>
     go_wp2_with (first | ((with_reducible refine gate_dst (N := 16) rfl ?_); refine wpList_load_blk rfl 148 (.tmp 9) rfl g9 ?hx (ruleV x A3' c3') 148 HS2.out _ Tryz.underlying148 rfl i78 ?_; (case hx => rfl)) | (go_at_call 123; (with_reducible refine (names_go x A3' c3' t.f2 _ _ HNB.out (Kd.C_below HG3.out HA2.out.below) HL3.out).mono ?_); rintro e w3 ⟨rfl, hb3⟩; have x0 : w3.cell? ⟨g9, 0, none⟩ = some (.bool true) := ((HS2.out.below hb3).cell 0).trans (by simp [ruleV, HDB.out]); have HA3 := jA (HA2.out.move hb3); clear hb3))
     go_ret
     refine ⟨?_, HA3.out.below⟩
     have hqf : q = false := by
      rw [← HQ.out]
      refine decide_eq_false ?_
      rintro ⟨⟨-, h2⟩, -⟩
      have := h2 x HIN.out (of_decide_eq_true HNB.out)
      rw [HDB.out] at this
      cases this
     rw [hqf]
     rfl
    | false =>
     go_wp2_with (first | ((with_reducible refine gate_dst (N := 16) rfl ?_); refine wpList_load_blk rfl 148 (.tmp 9) rfl g9 ?hx (ruleV x A3' c3') 148 HS2.out _ Tryz.underlying148 rfl i78 ?_; (case hx => rfl)) | (go_at_call 123; (with_reducible refine (names_go x A3' c3' t.f2 _ _ HNB.out (Kd.C_below HG3.out HA2.out.below) HL3.out).mono ?_); rintro e w3 ⟨rfl, hb3⟩; have x0 : w3.cell? ⟨g9, 0, none⟩ = some (.bool false) := ((HS2.out.below hb3).cell 0).trans (by simp [ruleV, HDB.out]); have HA3 := jA (HA2.out.move hb3); clear hb3))
     go_roundw
     case rel => exact ⟨k + 1, true, by omega, by go_num, rfl, HA3, ⟨by rw [HTK.out]; exact ⟨fun _ => ⟨x, by simp, of_decide_eq_true HNB.out⟩, fun _ => rfl⟩⟩, ⟨fun r hr hn => by rw [HTK.out, List.mem_append, List.mem_singleton] at hr; rcases hr with hr | rfl; exact HN.out r hr hn; exact HDB.out⟩⟩
     case measure => simp [intOf]; omega
  ·have hkk : k = l1.length := by omega
   subst hkk
   have hY := HY.out
   have hN := HN.out
   rw [List.take_length] at hY hN
   have HY2 := jA hY
   have HN2 := jA hN
   clear hY hN
   have e10 := HR.out.s0.cell 10
   simp only [Pol.cells, Jt, Ju, Jv] at e10
   have f0 : wr.cell? ⟨w.heap.size + 1, 0, none⟩ = some (.string t.f0) := HR.out.s1.cell 0
   have f1 : wr.cell? ⟨w.heap.size + 1, 1, none⟩ = some (.string t.f1) := HR.out.s1.cell 1
   have f2 : wr.cell? ⟨w.heap.size + 1, 2, none⟩ = some (.string t.f2) := HR.out.s1.cell 2
   obtain ⟨xb, hxb⟩ : ∃ xb, decide (t ∈ p.d.exc) = xb := ⟨_, rfl⟩
   have HXB := jA hxb
   clear hxb
   have hqv : q = (y && !xb) := by
    rw [← HQ.out, Bool.eq_iff_iff, Bool.and_eq_true, Bool.not_eq_true', HY2.out, ← HXB.out, decide_eq_false_iff_not]
    rw [allowsF_iff]
    exact ⟨fun h => ⟨h.1.1, h.2⟩, fun h => ⟨⟨h.1, HN2.out⟩, h.2⟩⟩
   have HQV := jA hqv
   clear hqv
   cases y with
   | false =>
    go_wp2
    go_ret
    refine ⟨?_, HR.out.below⟩
    rw [HQV.out]
    rfl
   | true =>
    go_wp2_with (first | (go_at_call 124; (with_reducible refine (excepted_go p.A10 p.c10 p.d.exc t _ _ HXB.out (Kd.C_below HE.out HR.out.below) HCC.out).mono ?_); rintro e w3 ⟨rfl, hb3⟩; have HA3 := jA (HR.out.move hb3); clear hb3))
    go_ret
    refine ⟨?_, HA3.out.below⟩
    rw [HQV.out]
    rfl
end Go.Proofs.YtdgkppldopiaoaaGreat.MPol
/- slices.IndexFunc of the subjects; mean.once. -/
namespace Go.Proofs.YtdgkppldopiaoaaGreat.MPol
open Go.RowKit YtdgkppldopiaoaaGreatW.PrintWords YtdgkppldopiaoaaGreatW.PrintLast YtdgkppldopiaoaaGreatW.PrintMore BMap BRow MLines MPut MClose MConcat MStand MSide Go.Maps
open PG YtdgkppldopiaoaaGreatF
theorem same_calls (n : ByteArray) (f g : Nat) (s : ByteArray) (w : World) (h : w.cell? ⟨g, 0, none⟩ = some (.string s)) (q : Bool) (hq : decide (n = s) = q) :
  Calls Tryz.prog 110 #[.agg #[.string n, .float .f64 f], .pointer (some ⟨g, 0, none⟩)] w fun e w' => e = .returned (.bool q) ∧ Below w.heap.size w w' := by
 have hb := beq_str n s
 rw [hq] at hb
 have h2 : (w.alloc (.cells #[.string n, .float .f64 f] 146)).cell? ⟨g, 0, none⟩ = some (.string s) := pw_cell_below (below_alloc (Below.refl _ _) _) h
 clear hq h
 go_enter Tryz.func110, Tryz.ntmps110
 go_wp2
 go_ret
 refine ⟨?_, below_alloc (Below.refl _ _) _⟩
 first | rfl | (rw [← hb]; rfl)
theorem index_calls (A : Option Addr) (c : Nat) (l : List S146) (g : Nat) (s : ByteArray) (w : World) (hC : Kd.C k146 w A l.length l) (hg : w.cell? ⟨g, 0, none⟩ = some (.string s)) (i : Nat) (hi : i < l.length) (he : l[i].f0 = s) :
  Calls Tryz.prog 109 #[.slice A l.length c, .func (.func 110) #[] #[.pointer (some ⟨g, 0, none⟩)]] w fun e w' => ∃ j : Nat, e = .returned (.int .i64 j) ∧ j ≤ i ∧ (∃ h : j < l.length, l[j].f0 = s) ∧ (∀ x ∈ l.take j, x.f0 ≠ s) ∧ Below w.heap.size w w' := by
 have hmax : l.length ≤ 9223372036854775807 := hC.2.1
 have HC := jA hC
 have HG := jA hg
 have HE := jA he
 have HI := jA hi
 clear hC hg he
 go_enter Tryz.func109, Tryz.ntmps109
 go_wp2
 go_loopw [8] (fun u wr => ∃ k : Nat, k ≤ i ∧ u = .int .i64 k ∧ Aside0 (Below w.heap.size w wr) ∧ Aside0 (∀ x ∈ l.take k, x.f0 ≠ s)) (fun u _ => l.length - (intOf u).toNat)
 case atStart => exact ⟨0, Nat.zero_le _, rfl, ⟨Below.refl _ _⟩, ⟨by simp⟩⟩
 case round =>
  obtain ⟨k, hk, rfl, HB, HN⟩ := hrel
  have hlt : k < l.length := Nat.lt_of_le_of_lt hk HI.out
  obtain ⟨ad, e0, hx0, hx1⟩ := at_T146 HC.out (k : Int) (by omega) (by omega)
  subst e0
  have hget : rd_T146 l (k : Int) = l[k] := by simp [rd_T146, hlt]
  simp only [hget, Int.toNat_natCast] at hx0 hx1
  have htk : l.take (k + 1) = l.take k ++ [l[k]] := List.take_succ_eq_append_getElem hlt
  have hki : l[k].f0 ≠ s → k < i := fun h => by
   have : k ≠ i := fun e => h (by subst e; exact HE.out)
   omega
  have HW := jA (show ∃ h : k < l.length, l[k].f0 = l[k].f0 from ⟨hlt, rfl⟩)
  obtain ⟨x, hxx⟩ : ∃ x, x = l[k] := ⟨_, rfl⟩
  rw [← hxx] at hx0 hx1 htk hki
  have HXX := jA hxx
  have HTK := jA htk
  have HKI := jA hki
  have y0 := pw_cell_below HB.out hx0
  have y1 := pw_cell_below HB.out hx1
  have hg2 := pw_cell_below HB.out HG.out
  have HG2 := jA hg2
  have c0' : (k : Int) < l.length := by omega
  obtain ⟨q, hq⟩ : ∃ q, decide (x.f0 = s) = q := ⟨_, rfl⟩
  have HQ := jA hq
  clear hq hx0 hx1 hget hxx htk hki hg2
  cases q with
  | true =>
   go_wp2_with (first | (go_at_call 110; (with_reducible refine (same_calls x.f0 x.f1 g s _ HG2.out _ HQ.out).mono ?_); rintro e w3 ⟨rfl, hb3⟩; have HB3 := jA (below_then HB.out HB.out.size hb3); clear hb3))
   go_ret
   exact ⟨k, rfl, hk, ⟨hlt, by rw [← HXX.out]; exact of_decide_eq_true HQ.out⟩, HN.out, HB3.out⟩
  | false =>
   go_wp2_with (first | (go_at_call 110; (with_reducible refine (same_calls x.f0 x.f1 g s _ HG2.out _ HQ.out).mono ?_); rintro e w3 ⟨rfl, hb3⟩; have HB3 := jA (below_then HB.out HB.out.size hb3); clear hb3))
   have hne := of_decide_eq_false HQ.out
   go_roundw
   case rel => exact ⟨k + 1, HKI.out hne, by go_num, HB3, ⟨fun y hy => by rw [HTK.out, List.mem_append, List.mem_singleton] at hy; rcases hy with hy | rfl; exact HN.out y hy; exact hne⟩⟩
   case measure => simp [intOf]; omega
theorem putAll_short (L : List ByteArray) : ∀ xs : List ByteArray, (MPut.putAll L xs).length ≤ L.length + xs.length := by
 intro xs
 induction xs generalizing L with
 | nil => simp [MPut.putAll]
 | cons x r ih =>
  have h1 := ih (put1 L x)
  have h2 : (put1 L x).length ≤ L.length + 1 := by unfold put1; split <;> simp
  show (MPut.putAll (put1 L x) r).length ≤ _
  simp only [List.length_cons]
  omega
theorem once_ev (l : List ByteArray) (hl : l.length ≤ 8796093022207) : ∀ (d n : Nat), n + d = l.length → Ev (fun k => mean_once.l0 k (MPut.putAll [] (l.take n)) l l.length n) (MPut.putAll [] l)
 | 0, n, h => by
  rw [List.take_of_length_le (by omega)]
  refine Ev.step (f := fun _ => some _) (fun k => ?_) (Ev.now _)
  simp only [mean_once.l0]
  rw [if_neg (by omega)]
 | d + 1, n, h => by
  have hlt : n < l.length := by omega
  have hrd : rdOf ByteArray.empty l (n : Int) = l[n] := by simp [rdOf, hlt]
  have htk : l.take (n + 1) = l.take n ++ [l[n]] := List.take_succ_eq_append_getElem hlt
  have hnx : MPut.putAll [] (l.take (n + 1)) = put1 (MPut.putAll [] (l.take n)) l[n] := by rw [htk, MPut.putAll_snoc]
  have hsh := putAll_short [] (l.take n)
  have hsh : (MPut.putAll [] (l.take n)).length < 8796093022208 := by
   rw [List.length_take] at hsh
   simp only [List.length_nil] at hsh
   omega
  have hc := VPure.contains_f (MPut.putAll [] (l.take n)) l[n] (by omega)
  refine Ev.step (f := fun k => (slices_Contains_string_string.f k (MPut.putAll [] (l.take n)) l[n]).bind fun t => if t = true then mean_once.l0 k (MPut.putAll [] (l.take n)) l l.length ((n + 1 : Nat) : Int) else if (MPut.putAll [] (l.take n)).length < 8796093022208 then mean_once.l0 k (MPut.putAll [] (l.take n) ++ [l[n]]) l l.length ((n + 1 : Nat) : Int) else none) (fun k => ?_) (Ev.bind (f := fun k t => if t = true then mean_once.l0 k (MPut.putAll [] (l.take n)) l l.length ((n + 1 : Nat) : Int) else if (MPut.putAll [] (l.take n)).length < 8796093022208 then mean_once.l0 k (MPut.putAll [] (l.take n) ++ [l[n]]) l l.length ((n + 1 : Nat) : Int) else none) hc ?_)
  ·simp only [mean_once.l0]
   rw [if_pos (by omega), if_pos (by omega), if_pos (by omega), hrd, VPure.w64n hlt (by omega)]
  ·have ih := once_ev l hl d (n + 1) (by omega)
   rw [hnx] at ih
   by_cases hm : l[n] ∈ MPut.putAll [] (l.take n)
   ·rw [decide_eq_true ((mem_nm _ _).2 hm)]
    refine Ev.congr (fun k => ?_) ih
    rw [if_pos rfl, put1, if_pos hm]
   ·rw [decide_eq_false (fun e => hm ((mem_nm _ _).1 e))]
    refine Ev.congr (fun k => ?_) ih
    rw [if_neg (by simp), if_pos hsh, put1, if_neg hm]
theorem once_go (A : Option Addr) (c : Nat) (l : List ByteArray) (w : World) (hC : Kd.C Kd.string w A l.length l) (hc : l.length ≤ c) (hl : l.length ≤ 8796093022207) :
  Calls Tryz.prog 112 #[.slice A l.length c] w fun e w' => ∃ v, e = .returned v ∧ Kd.R Kd.string 9 w' w.heap.size (fun _ => True) v (MPut.putAll [] l) ∧ Below w.heap.size w w' := by
 obtain ⟨k, hk⟩ := (once_ev l hl l.length 0 (by omega)).rounds
 exact mean_once.calls k A c l _ w hC hc hk
end Go.Proofs.YtdgkppldopiaoaaGreat.MPol
/- mean.Allows. -/
namespace Go.Proofs.YtdgkppldopiaoaaGreat.MPol
open Go.RowKit YtdgkppldopiaoaaGreatW.PrintWords YtdgkppldopiaoaaGreatW.PrintLast YtdgkppldopiaoaaGreatW.PrintMore BMap BRow MLines MPut MClose MConcat MStand MSide Go.Maps
open PG YtdgkppldopiaoaaGreatF
noncomputable def PolD.speak (d : PolD) (s o : ByteArray) (tr : Nat) : List S148 := d.rules.filter fun r => speaksB r (d.who s) (d.what o) tr
open Classical in
noncomputable def PolD.allowB (d : PolD) (t : S89) : Bool := (d.trust t.f0).isSome && (decide (t.f1 ∈ d.objs) && (decide (t.f2 ∈ d.acts) && allowsF (d.speak t.f0 t.f1 ((d.trust t.f0).getD 0)) d.exc t))
structure AlS (p : Pol) (w : World) (t : S89) (g5 g7 : Nat) (v5 v7 : Array Value) (W : World) : Prop where
 below : Below w.heap.size w W
 s0 : Stays W w.heap.size p.cells 82
 s1 : Stays W (w.heap.size + 1) (tripV t) 89
 s5 : Stays W g5 v5 222
 s7 : Stays W g7 v7 222
theorem AlS.move {p : Pol} {w W W1 : World} {t : S89} {g5 g7 : Nat} {v5 v7 : Array Value} (h : AlS p w t g5 g7 v5 v7 W) (hb : Below W.heap.size W W1) : AlS p w t g5 g7 v5 v7 W1 := ⟨below_then h.below h.below.size hb, h.s0.below hb, h.s1.below hb, h.s5.below hb, h.s7.below hb⟩
theorem Stays.range {w : World} {g t : Nat} {cs : Array Value} (h : Stays w g cs t) (l : List Value) (hl : cs.toList = l) : w.rangeAt g 0 l := fun j v hv => by
 subst hl
 rw [h.cell, Nat.zero_add, ← hv]; simp
theorem i39 : (Tryz.prog.info? 82).map (·.size) = some 11 := by kernel_rfl
end Go.Proofs.YtdgkppldopiaoaaGreat.MPol
/- What Relation has got so far, in plain words. -/
namespace Go.Proofs.YtdgkppldopiaoaaGreat.MPol
open Go.RowKit PG
def Got (d : PolD) (ns LO LA : List ByteArray) (i j l : Nat) (t : S89) : Prop :=
 d.allowB t = true ∧ t.f1 ∈ LO ∧ t.f2 ∈ LA ∧ (t.f0 ∈ ns.take i ∨ ∃ h : i < ns.length, t.f0 = ns[i] ∧ (t.f1 ∈ LO.take j ∨ ∃ h : j < LO.length, t.f1 = LO[j] ∧ t.f2 ∈ LA.take l))
section
variable {d : PolD} {ns LO LA : List ByteArray} {i j l : Nat} {t : S89}
theorem Got.start : ¬ Got d ns LO LA 0 0 0 t := by
 rintro ⟨-, -, -, h | ⟨_, -, h | ⟨_, -, h⟩⟩⟩
 ·simp at h
 ·simp at h
 ·simp at h
theorem Got.next (hi : i < ns.length) (hj : j < LO.length) (hl : l < LA.length) : Got d ns LO LA i j (l + 1) t ↔ (Got d ns LO LA i j l t ∨ (t = ⟨ns[i], LO[j], LA[l]⟩ ∧ d.allowB t = true)) := by
 have htk : LA.take (l + 1) = LA.take l ++ [LA[l]] := List.take_succ_eq_append_getElem hl
 unfold Got
 rw [htk]
 constructor
 ·rintro ⟨h1, h2, h3, h4 | ⟨_, h5, h6 | ⟨_, h7, h8⟩⟩⟩
  ·exact .inl ⟨h1, h2, h3, .inl h4⟩
  ·exact .inl ⟨h1, h2, h3, .inr ⟨hi, h5, .inl h6⟩⟩
  ·rcases List.mem_append.1 h8 with h8 | h8
   ·exact .inl ⟨h1, h2, h3, .inr ⟨hi, h5, .inr ⟨hj, h7, h8⟩⟩⟩
   ·refine .inr ⟨?_, h1⟩
    have h9 := List.mem_singleton.1 h8
    rw [← h5, ← h7, ← h9]
 ·rintro (⟨h1, h2, h3, h4 | ⟨_, h5, h6 | ⟨_, h7, h8⟩⟩⟩ | ⟨rfl, h1⟩)
  ·exact ⟨h1, h2, h3, .inl h4⟩
  ·exact ⟨h1, h2, h3, .inr ⟨hi, h5, .inl h6⟩⟩
  ·exact ⟨h1, h2, h3, .inr ⟨hi, h5, .inr ⟨hj, h7, List.mem_append_left _ h8⟩⟩⟩
  ·exact ⟨h1, List.getElem_mem hj, List.getElem_mem hl, .inr ⟨hi, rfl, .inr ⟨hj, rfl, List.mem_append_right _ (List.mem_singleton.2 rfl)⟩⟩⟩
theorem Got.nextObj (hj : j < LO.length) : Got d ns LO LA i j LA.length t ↔ Got d ns LO LA i (j + 1) 0 t := by
 have htk : LO.take (j + 1) = LO.take j ++ [LO[j]] := List.take_succ_eq_append_getElem hj
 unfold Got
 rw [htk, List.take_length]
 constructor
 ·rintro ⟨h1, h2, h3, h4 | ⟨hi, h5, h6 | ⟨_, h7, h8⟩⟩⟩
  ·exact ⟨h1, h2, h3, .inl h4⟩
  ·exact ⟨h1, h2, h3, .inr ⟨hi, h5, .inl (List.mem_append_left _ h6)⟩⟩
  ·exact ⟨h1, h2, h3, .inr ⟨hi, h5, .inl (by rw [h7]; exact List.mem_append_right _ (List.mem_singleton.2 rfl))⟩⟩
 ·rintro ⟨h1, h2, h3, h4 | ⟨hi, h5, h6 | ⟨_, h7, h8⟩⟩⟩
  ·exact ⟨h1, h2, h3, .inl h4⟩
  ·rcases List.mem_append.1 h6 with h6 | h6
   ·exact ⟨h1, h2, h3, .inr ⟨hi, h5, .inl h6⟩⟩
   ·exact ⟨h1, h2, h3, .inr ⟨hi, h5, .inr ⟨hj, List.mem_singleton.1 h6, h3⟩⟩⟩
  ·simp at h8
theorem Got.nextSub (hi : i < ns.length) : Got d ns LO LA i LO.length 0 t ↔ Got d ns LO LA (i + 1) 0 0 t := by
 have htk : ns.take (i + 1) = ns.take i ++ [ns[i]] := List.take_succ_eq_append_getElem hi
 unfold Got
 rw [htk, List.take_length]
 constructor
 ·rintro ⟨h1, h2, h3, h4 | ⟨_, h5, h6 | ⟨h, _⟩⟩⟩
  ·exact ⟨h1, h2, h3, .inl (List.mem_append_left _ h4)⟩
  ·exact ⟨h1, h2, h3, .inl (by rw [h5]; exact List.mem_append_right _ (List.mem_singleton.2 rfl))⟩
  ·omega
 ·rintro ⟨h1, h2, h3, h4 | ⟨_, h5, h6 | ⟨_, h7, h8⟩⟩⟩
  ·rcases List.mem_append.1 h4 with h4 | h4
   ·exact ⟨h1, h2, h3, .inl h4⟩
   ·exact ⟨h1, h2, h3, .inr ⟨hi, List.mem_singleton.1 h4, .inl h2⟩⟩
  ·simp at h6
  ·simp at h8
theorem Got.all : Got d ns LO LA ns.length 0 0 t ↔ (d.allowB t = true ∧ t.f1 ∈ LO ∧ t.f2 ∈ LA ∧ t.f0 ∈ ns) := by
 unfold Got
 rw [List.take_length]
 constructor
 ·rintro ⟨h1, h2, h3, h4 | ⟨h, _⟩⟩
  ·exact ⟨h1, h2, h3, h4⟩
  ·omega
 ·rintro ⟨h1, h2, h3, h4⟩
  exact ⟨h1, h2, h3, .inl h4⟩
end
end Go.Proofs.YtdgkppldopiaoaaGreat.MPol
/- mean.about, its row as the call's own. -/
namespace Go.Proofs.YtdgkppldopiaoaaGreat.MPol
open Go.RowKit YtdgkppldopiaoaaGreatW.PrintWords YtdgkppldopiaoaaGreatW.PrintLast YtdgkppldopiaoaaGreatW.PrintMore BMap BRow MLines MPut MClose MConcat MStand MSide Go.Maps
open PG YtdgkppldopiaoaaGreatF
theorem about_own (p : Pol) (w0 : World) (n1 : ByteArray) (t1 b1 : Nat) (R1 : ByteArray → Prop) (n2 : ByteArray) (t2 b2 : Nat) (R2 : ByteArray → Prop) (w : World) (hw0 : Below w0.heap.size w0 w) (hp0 : p.In w0) (hd : p.d.Ok) (h1 : IsSet w b1 R1) (h2 : IsSet w b2 R2) :
  Calls Tryz.prog 114 #[.agg p.cells, .agg (sideV n1 t1 b1), .agg (sideV n2 t2 b2)] w fun e w' => ∃ v, e = .returned v ∧ OwnRow (k148.K w0) 148 6 w' w.heap.size v (p.d.rules.filter fun r => speaksB r R1 R2 t1) ∧ Below w.heap.size w w' := by
 obtain ⟨d, A0, c0, A1, c1, A2, c2, A3, c3, A4, c4, A5, c5, A6, c6, A7, c7, A8, c8, A9, c9, A10, c10⟩ := p
 have hp := hp0.below hw0
 have hmax : d.rules.length ≤ 9223372036854775807 := hp.h9.2.1
 have HP0 := jA hp0
 have HW0 := jA hw0
 have Za := h1.lt
 have Zb := h2.lt
 have HP := jA hp
 have HD := jA hd
 have hA := Abt.start (Pol.mk d A0 c0 A1 c1 A2 c2 A3 c3 A4 c4 A5 c5 A6 c6 A7 c7 A8 c8 A9 c9 A10 c10) w (sideV n1 t1 b1) (sideV n2 t2 b2) h1 h2
 have e9 := hA.s0.cell 9
 simp only [Pol.cells, Jt, Ju, Jv] at e9
 have HA := jA hA
 clear hA hp hd h1 h2 hp0 hw0
 unfold Pol.cells
 unfold Pol.cells at HA
 obtain ⟨v1, hv1⟩ : ∃ v1, v1 = sideV n1 t1 b1 := ⟨_, rfl⟩
 obtain ⟨v2, hv2⟩ : ∃ v2, v2 = sideV n2 t2 b2 := ⟨_, rfl⟩
 have sz1 : v1.size = 3 := by rw [hv1]; rfl
 have sz2 : v2.size = 3 := by rw [hv2]; rfl
 rw [← hv1, ← hv2] at HA ⊢
 rw [← hv1, ← hv2] at e9
 have HV1 := jA hv1
 have HV2 := jA hv2
 have Zc := jA sz1
 have Zd := jA sz2
 clear hv1 hv2 sz1 sz2
 simp only [] at HA e9 ⊢
 go_enter Tryz.func114, Tryz.ntmps114
 go_wp2
 clear e9
 go_loopw [7, 13] (fun u7 u13 wr => ∃ k : Nat, k ≤ d.rules.length ∧ u13 = .int .i64 k ∧ Aside0 (Abt (Pol.mk d A0 c0 A1 c1 A2 c2 A3 c3 A4 c4 A5 c5 A6 c6 A7 c7 A8 c8 A9 c9 A10 c10) w wr v1 v2 b1 b2 R1 R2) ∧ Aside0 (OwnRow (k148.K w0) 148 6 wr w.heap.size u7 ((d.rules.take k).filter fun r => speaksB r R1 R2 t1))) (fun _ u13 _ => d.rules.length - (intOf u13).toNat)
 case atStart => exact ⟨0, Nat.zero_le _, rfl, HA, ⟨OwnRow.none_ _ _ _ _ _⟩⟩
 case round =>
  obtain ⟨k, hk, rfl, HR, HRow⟩ := hrel
  obtain ⟨Ao, co, rfl, hlo⟩ := HRow.out.slice_
  by_cases hlt : k < d.rules.length
  ·obtain ⟨ad, cs, e0, hcl, hK, hcell⟩ := Kd.C_get HP0.out.h9 z148 (k : Int) (by omega) (by simp only []; omega)
   have e0 : A9 = some ad := e0
   subst e0
   have hget : d.rules.getD (k : Int).toNat z148 = d.rules[k] := by simp [hlt]
   have hK : k148.K w0 d.rules[k] cs := by rw [← hget]; exact hK
   have htk : d.rules.take (k + 1) = d.rules.take k ++ [d.rules[k]] := List.take_succ_eq_append_getElem hlt
   have hro := HD.out.rules d.rules[k] (List.getElem_mem hlt)
   obtain ⟨x, hxx⟩ : ∃ x, x = d.rules[k] := ⟨_, rfl⟩
   rw [← hxx] at hK htk hro
   obtain ⟨A3', c3', rfl, l3, g3⟩ := k148_open hK
   have hcw : ∀ (j : Nat) (v : Value), ([.bool x.f0, .string x.f1, .string x.f2, .slice A3' x.f3.length c3', .int .i8 x.f4, .float .f64 x.f5] : List Value)[j]? = some v → wr.cell? ((ad.add (k * 6)).add j) = some v := by
    intro j v hj
    have h0 := hcell j v hj
    have h0 : w0.cell? (ad.add (k * 6 + j)) = some v := h0
    rw [add_add]
    exact pw_cell_below HR.out.below (pw_cell_below HW0.out h0)
   have HCW := jA hcw
   have HTK := jA htk
   have HRO := jA hro
   have HL3 := jA l3
   have HG3 := jA g3
   have HK := jA hK
   have c0' : (k : Int) < d.rules.length := by omega
   clear hcell hK hget htk hro hxx hcw hcl l3 g3
   go_upto_region 5 with (first | ((with_reducible refine gate_dst (N := 16) rfl ?_); refine wpList_load_at rfl 148 (.tmp 15) rfl (ad.add (k * 6)) ?hx [.bool x.f0, .string x.f1, .string x.f2, .slice A3' x.f3.length c3', .int .i8 x.f4, .float .f64 x.f5] HCW.out _ Tryz.underlying148 rfl i78 ?_; (case hx => rfl); refine wpList_alloc_store rfl rfl 148 9 (.tmp 16) rfl rfl rfl #[(.bool false), (.string ⟨#[]⟩), (.string ⟨#[]⟩), (.slice none 0 0), (.int .i8 0), (.float .f64 0)] (ruleV x A3' c3') _ (z78v _) rfl i78 rfl (by simp [ruleV, Value.oneCell']) ?hy ?hp ?_; (case hy => rfl); (case hp => rfl)))
   simp only [Act.put, List.setIfInBounds_toArray, List.set_cons_succ, List.set_cons_zero]
   have hS2 := heap_alloc_new wr (.cells (ruleV x A3' c3') 148)
   have hb2 := below_alloc (Below.refl _ wr) (.cells (ruleV x A3' c3') 148)
   have hA2 := HR.out.move hb2
   have hR2 := HRow.out.below hb2
   obtain ⟨W2, hW2⟩ : ∃ W2, W2 = wr.alloc (.cells (ruleV x A3' c3') 148) := ⟨_, rfl⟩
   obtain ⟨g9, hg9⟩ : ∃ g9, g9 = wr.heap.size := ⟨_, rfl⟩
   rw [← hg9] at hS2 ⊢
   rw [← hW2] at hS2 hA2 hR2 ⊢
   have hS2 : Stays W2 g9 (ruleV x A3' c3') 148 := hS2
   have HA2 := jA hA2
   have HR2 := jA hR2
   have HS2 := jA hS2
   clear hS2 hA2 hR2 hW2 hg9 hb2
   obtain ⟨q, hq⟩ : ∃ q, speaksB x R1 R2 t1 = q := ⟨_, rfl⟩
   have HQ := jA hq
   clear hq
   go_upto_if 20 with (first | ((with_reducible refine gate_dst (N := 17) rfl ?_); refine wpList_load_blk rfl 148 (.tmp 9) rfl g9 ?hx (ruleV x A3' c3') 148 HS2.out _ Tryz.underlying148 rfl i78 ?_; (case hx => rfl)) | ((with_reducible refine gate_dst (N := 18) rfl ?_); refine wpList_load_blk rfl 222 (.tmp 4) rfl (w.heap.size + 1) ?hx v1 222 HA2.out.s1 _ Tryz.underlying222 rfl (by rw [Zc.out]; exact i95) ?_; (case hx => rfl)) | ((with_reducible refine gate_dst (N := 19) rfl ?_); refine wpList_load_blk rfl 222 (.tmp 5) rfl (w.heap.size + 1 + 1) ?hx v2 222 HA2.out.s2 _ Tryz.underlying222 rfl (by rw [Zd.out]; exact i95) ?_; (case hx => rfl)) | (go_at_call 122; (with_reducible refine (speaks_go x A3' c3' n1 t1 b1 R1 n2 t2 b2 R2 _ q HQ.out (Kd.C_below (Kd.C_below HG3.out HW0.out) HA2.out.below) HL3.out HA2.out.set1 HA2.out.set2 HRO.out.1 HRO.out.2 v1 v2 HV1.out HV2.out).mono ?_); rintro e w3 ⟨rfl, hb3⟩; have HA3 := jA (HA2.out.move hb3); have HR3 := jA (HR2.out.below hb3); have HS3 := jA (HS2.out.below hb3); clear hb3))
   have hlim : (((d.rules.take k).filter fun r => speaksB r R1 R2 t1).length + 1) * 80 ≤ 140737488355328 := by
    have h1 := List.length_filter_le (fun r => speaksB r R1 R2 t1) (d.rules.take k)
    rw [List.length_take] at h1
    have h2 := HD.out.lrules
    omega
   have HLIM := jA hlim
   clear hlim
   have hfil : (d.rules.take (k + 1)).filter (fun r => speaksB r R1 R2 t1) = (d.rules.take k).filter (fun r => speaksB r R1 R2 t1) ++ if q = true then [x] else [] := by
    rw [HTK.out, List.filter_append, List.filter_cons, HQ.out]
    cases q <;> simp
   have HFIL := jA hfil
   clear hfil
   obtain ⟨L, hL⟩ : ∃ L, L = (d.rules.take k).filter (fun r => speaksB r R1 R2 t1) := ⟨_, rfl⟩
   rw [← hL] at HR3 HLIM HFIL hlo ⊢
   have HLL := jA hL
   clear hL
   have HNB := jA (fun (b : Nat) (hb : b < w.heap.size) => show some b ≠ (Value.slice Ao L.length co).ownBlock from fun e => by
    obtain ⟨inner, ho, _⟩ := HR3.out
    have := own_base ho b e.symm
    omega)
   cases q with
   | true =>
    go_wp2_with (first | ((with_reducible refine gate_dst (N := 22) rfl ?_); refine wpList_load_blk rfl 148 (.tmp 9) rfl g9 ?hx #[.bool x.f0, .string x.f1, .string x.f2, .slice A3' x.f3.length c3', .int .i8 x.f4, .float .f64 x.f5] 148 HS3.out _ Tryz.underlying148 rfl i78 ?_; (case hx => rfl)) | ((with_reducible refine gate_builtin (b := .append) (xs := #[.tmp 21, .tmp 23]) rfl ?_); at_builtin; refine OwnRow.append (w0 := w) w.heap.size rfl (.tmp 21) (.tmp 23) 79 148 (.agg #[(.bool false), (.string ⟨#[]⟩), (.string ⟨#[]⟩), (.slice none 0 0), (.int .i8 0), (.float .f64 0)]) 6 80 rfl Tryz.underlying79 info148 rfl (by decide) (by decide) _ L x [.bool x.f0, .string x.f1, .string x.f2, .slice A3' x.f3.length c3', .int .i8 x.f4, .float .f64 x.f5] rfl rfl HK.out rfl (k148.K_one HK.out) HR3.out HA3.out.below HA3.out.below.size HLIM.out ?_; intro v8 w8 hR8 hB8 hg8 Ze; have HR8 := jA hR8; have HA8 := jA (HA3.out.grown hg8 hB8 (HR3.out.ne_block HA3.out.s0 (by decide)) (HR3.out.ne_block HA3.out.s1 (by decide)) (HR3.out.ne_block HA3.out.s2 (by decide)) (HNB.out _ Za) (HNB.out _ Zb)); clear hR8 hB8 hg8 Ze))
    go_roundw
    case rel => exact ⟨k + 1, by omega, by go_num, HA8, ⟨by rw [HFIL.out, if_pos rfl]; exact HR8.out⟩⟩
    case measure => simp [intOf]; omega
   | false =>
    go_wp2
    go_roundw
    case rel => exact ⟨k + 1, by omega, by go_num, HA3, ⟨by rw [HFIL.out, if_neg (by simp), List.append_nil]; exact HR3.out⟩⟩
    case measure => simp [intOf]; omega
  ·have hkk : k = d.rules.length := by omega
   subst hkk
   have hfin := HRow.out
   rw [List.take_length] at hfin
   rw [List.take_length]
   have HFI := jA hfin
   clear hfin hlo
   go_wp2
   go_ret
   rw [List.take_length] at *
   exact ⟨_, rfl, HFI.out, HR.out.below⟩
end Go.Proofs.YtdgkppldopiaoaaGreat.MPol
