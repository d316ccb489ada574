/- Of this session's texts, what the row uses: RRun, RIndex, RHcheck, CPure, CBits, GBlk, CClasses, MSubj, MAbout, MAllowsPure, MAllow, MIdx, MAllows, MRelPure, MAbout2, MRel, CMasks, CClone, CSame. -/
import Derived.Test.YtdgkppldopiaoaaZ3
import Derived.Test.YtdgkppldopiaoaaZ2
import Derived.Deep.OwnRows
import Derived.Laws.MakeOwn
import Derived.Deep.MidRow
import Derived.WalkSpells
set_option linter.unusedSimpArgs false
set_option linter.unusedVariables false
set_option maxHeartbeats 8000000
set_option maxRecDepth 100000
/- A step of a check, whatever comes next; finish (gatehouselaw23), walked. -/
namespace Go.Proofs.Ytdgkppldopiaoaa.RRun
open Go.RowKit YtdgkppldopiaoaaW.PrintWords YtdgkppldopiaoaaW.PrintLast YtdgkppldopiaoaaW.PrintMore BMap BRow GDiffer MLines MPol MPut RMem RCells REpoch RMach RSteps RSeek RLook RNum RCache RBegin RCat RCget RCput RVer RKnown RLk RMask RTrace RMStep Go.Maps
open PG
set_option maxHeartbeats 1000000
set_option maxRecDepth 100000
theorem Ry.step3 {F : Nat → Prop} {S : Sh} {w w1 : World} {x x1 : X} {bset : Nat} {C : Cst} (h : Ry F S w x bset C) (hr : Rd F S w1 x1) (hk : Keep (Out3 F S) w w1) (hc : x1.m.cache = x.m.cache) : Ry F S w1 x1 bset C :=
 ⟨hr, fun bc e => by
  have h0 := h.cd bc (hc.symm.trans e)
  exact ⟨CacheAt.move h0.at_ (fun k hk' hn => hk.at_ k hk' ⟨(h0.own k hn).1, (h0.own k hn).2.1, (h0.own k hn).2.2.2.2⟩), h0.own⟩⟩
def verS (flaw : Int) (x : X) (C : Cst) : Option (X × Cst) :=
 if lkE x.ws x.m.page = 0 then
  if x.m.check = false then some ({ x.acc x.m.page with m := verM x.m (lkV x.ws x.m.page) }, C)
  else match x.m.cache with
   | none => some ({ x.acc x.m.page with m := { verM x.m (lkV x.ws x.m.page) with next := some 72 } }, C)
   | some _ => (getC C (tagI flaw (verM x.m (lkV x.ws x.m.page))) x.m.y0 x.m.y1 x.m.y2).map fun r => ({ x.acc x.m.page with m := gotM (verM x.m (lkV x.ws x.m.page)) r.1 r.2.1 }, r.2.2)
 else some ({ x.acc x.m.page with m := brk x.m }, C)
theorem ver_calls (F : Nat → Prop) (S : Sh) (w : World) (x : X) (now : Int) (bset : Nat) (C : Cst) (hy : Ry F S w x bset C) (hl : x.tr.length < 1000000000000) (x' : X) (C' : Cst) (hs : verS S.flaw x C = some (x', C')) :
  Calls Try.prog 60 #[.pointer (some ⟨S.b, 0, none⟩), .int .i64 now] w fun e w' => e = .returned (.tuple #[]) ∧ Ry F S w' x' bset C' ∧ Keep (KF F S x.m.cache bset C) w w' := by
 unfold verS at hs
 split at hs
 ·rename_i h0
  split at hs
  ·rename_i hc
   cases hs
   exact (version_plain F S w x now _ hy.rd hl h0 rfl hc).mono fun e w' h => ⟨h.1, hy.step h.2.1 h.2.2 rfl, h.2.2.less KF_out⟩
  ·rename_i hc
   have hc' : x.m.check = true := by cases h : x.m.check <;> simp_all
   split at hs
   ·rename_i hn
    cases hs
    exact (version_bare F S w x now _ hy.rd hl h0 rfl hc' hn).mono fun e w' h => ⟨h.1, hy.step h.2.1 h.2.2 rfl, h.2.2.less KF_out⟩
   ·rename_i bc hn
    obtain ⟨⟨al, hit, C1⟩, h1, h2⟩ := Option.map_eq_some_iff.1 hs
    cases h2
    refine (version_cache F S w x now _ bc bset C _ al hit hy.rd hl h0 rfl hc' hn (hy.cd bc hn) h1).mono fun e w' h => ⟨h.1, ⟨h.2.1, fun bc' e' => ?_⟩, h.2.2.2.less (fun k hk => ⟨⟨hk.1, hk.2.1⟩, hk.2.2.2 bc hn⟩)⟩
    obtain rfl : bc' = bc := Option.some.inj (e'.symm.trans hn)
    exact Cd.of (hy.cd bc' hn) (getC_blks h1) h.2.2.1
 ·rename_i h0
  cases hs
  exact (version_bad F S w x now hy.rd hl h0).mono fun e w' h => ⟨h.1, hy.step h.2.1 h.2.2 rfl, h.2.2.less KF_out⟩
theorem verS_blks {flaw : Int} {x x' : X} {C C' : Cst} (hs : verS flaw x C = some (x', C')) : blks C' = blks C := by
 unfold verS at hs
 split at hs
 ·split at hs
  ·cases hs; rfl
  ·split at hs
   ·cases hs; rfl
   ·obtain ⟨⟨al, hit, C1⟩, h1, h2⟩ := Option.map_eq_some_iff.1 hs
    cases h2
    exact getC_blks h1
 ·cases hs; rfl
theorem lookS_blks {flaw : Int} {x x' : X} {C C' : Cst} (hs : lookS flaw x C = some (x', C')) : blks C' = blks C := by
 unfold lookS at hs
 split at hs
 ·split at hs
  ·cases hs; rfl
  ·split at hs
   ·obtain ⟨C1, h1, h2⟩ := Option.map_eq_some_iff.1 hs
    cases h2
    exact knownC_blks h1
   ·cases hs; rfl
 ·cases hs; rfl
theorem maskS_blks {flaw : Int} {x x' : X} {C C' : Cst} (hs : maskS flaw x C = some (x', C')) : blks C' = blks C := by
 unfold maskS at hs
 split at hs
 ·split at hs
  ·cases hs; rfl
  ·obtain ⟨C1, h1, h2⟩ := Option.map_eq_some_iff.1 hs
   cases h2
   exact knownC_blks h1
 ·cases hs; rfl
def kindOk (m : Mst) : Bool := (m.kind == 0 || (m.kind == 1 || m.kind == 2)) && decide (2 ≤ m.size)
theorem kindOk_iff {m : Mst} (h : kindOk m = true) : (m.kind = 0 ∨ m.kind = 1 ∨ m.kind = 2) ∧ 2 ≤ m.size := by
 simpa [kindOk] using h
def preS (S : Sh) (now : Int) (x : X) (C : Cst) : Option (X × Cst) :=
 match x.m.next with
 | some 49 => if x.stp = 0 ∨ x.stp = 1 then some (markX S x, C) else none
 | some 50 => some (curX S now x, C)
 | some 60 => verS S.flaw x C
 | some 72 => some (tableX x, C)
 | some 88 => if kindOk x.m then lookS S.flaw x C else none
 | some 90 => if kindOk x.m then some (numberX x, C) else none
 | some 92 => some (widthX x, C)
 | some 94 => maskS S.flaw x C
 | _ => none
theorem preS_blks {S : Sh} {now : Int} {x x' : X} {C C' : Cst} (hs : preS S now x C = some (x', C')) : blks C' = blks C := by
 unfold preS at hs
 split at hs
 ·split at hs <;> cases hs; rfl
 ·cases hs; rfl
 ·exact verS_blks hs
 ·cases hs; rfl
 ·split at hs
  ·exact lookS_blks hs
  ·cases hs
 ·split at hs <;> cases hs; rfl
 ·cases hs; rfl
 ·exact maskS_blks hs
 ·cases hs
def stepS (S : Sh) (now : Int) (x : X) (C : Cst) : Option (X × Cst) :=
 if x.m.next = some 69 then some (leaveX S x, C)
 else match preS S now x C with
  | none => none
  | some (x', C') => if x'.m.next.isSome = true then some (x', C') else none
def One (x x' : X) : Prop := x'.tr.length = x.tr.length + 1 ∧ x'.m.cache = x.m.cache
theorem one_at (x : X) (a : Int) (good : X → Int → X) (h : ∀ v, One x (good (x.acc a) v)) : One x (X.at_ x a good) := by
 unfold X.at_
 split
 ·exact h _
 ·exact ⟨by simp [X.acc], rfl⟩
theorem one_mark (S : Sh) (x : X) : One x (markX S x) := by
 unfold markX
 split
 ·exact ⟨by simp [X.acc], rfl⟩
 ·exact ⟨by simp [X.tel], rfl⟩
theorem one_cur (S : Sh) (now : Int) (x : X) : One x (curX S now x) := by
 unfold curX
 simp only
 split
 ·exact ⟨by simp [X.acc, setPage], rfl⟩
 ·exact ⟨by simp [X.acc], rfl⟩
theorem one_table (x : X) : One x (tableX x) := one_at x _ _ fun v => by
 split
 ·exact ⟨by simp [X.acc], rfl⟩
 ·exact ⟨by simp [X.acc, seekX], rfl⟩
theorem one_width (x : X) : One x (widthX x) := one_at x _ _ fun v => ⟨by simp [X.acc], rfl⟩
theorem setF_cache (m : Mst) (v : Int) : (setF m v).cache = m.cache := by
 unfold setF
 split
 ·rfl
 ·split <;> rfl
theorem one_number (x : X) : One x (numberX x) := one_at x _ _ fun v => by
 simp only
 split
 ·exact ⟨by simp [X.acc, seekX], setF_cache _ _⟩
 ·exact ⟨by simp [X.acc], setF_cache _ _⟩
theorem one_ver {flaw : Int} {x x' : X} {C C' : Cst} (hs : verS flaw x C = some (x', C')) : One x x' := by
 unfold verS at hs
 split at hs
 ·split at hs
  ·cases hs; exact ⟨by simp [X.acc], rfl⟩
  ·split at hs
   ·cases hs; exact ⟨by simp [X.acc], rfl⟩
   ·obtain ⟨⟨al, hit, C1⟩, h1, h2⟩ := Option.map_eq_some_iff.1 hs
    cases h2; exact ⟨by simp [X.acc], rfl⟩
 ·cases hs; exact ⟨by simp [X.acc], rfl⟩
theorem one_look {flaw : Int} {x x' : X} {C C' : Cst} (hs : lookS flaw x C = some (x', C')) : One x x' := by
 unfold lookS at hs
 split at hs
 ·split at hs
  ·cases hs; exact ⟨by simp [X.acc], rfl⟩
  ·split at hs
   ·obtain ⟨C1, h1, h2⟩ := Option.map_eq_some_iff.1 hs
    cases h2; exact ⟨by simp [X.acc], rfl⟩
   ·cases hs; exact ⟨by simp [X.acc], rfl⟩
 ·cases hs; exact ⟨by simp [X.acc], rfl⟩
theorem one_mask {flaw : Int} {x x' : X} {C C' : Cst} (hs : maskS flaw x C = some (x', C')) : One x x' := by
 unfold maskS at hs
 split at hs
 ·split at hs
  ·cases hs; exact ⟨by simp [X.acc], rfl⟩
  ·obtain ⟨C1, h1, h2⟩ := Option.map_eq_some_iff.1 hs
   cases h2; exact ⟨by simp [X.acc], rfl⟩
 ·cases hs; exact ⟨by simp [X.acc], rfl⟩
theorem one_pre {S : Sh} {now : Int} {x x' : X} {C C' : Cst} (hs : preS S now x C = some (x', C')) : One x x' := by
 unfold preS at hs
 split at hs
 ·split at hs <;> cases hs; exact one_mark S x
 ·cases hs; exact one_cur S now x
 ·exact one_ver hs
 ·cases hs; exact one_table x
 ·split at hs
  ·exact one_look hs
  ·cases hs
 ·split at hs <;> cases hs; exact one_number x
 ·cases hs; exact one_width x
 ·exact one_mask hs
 ·cases hs
theorem stepS_blks {S : Sh} {now : Int} {x x' : X} {C C' : Cst} (hs : stepS S now x C = some (x', C')) : blks C' = blks C ∧ One x x' := by
 unfold stepS at hs
 split at hs
 ·cases hs; exact ⟨rfl, by simp [leaveX, X.tel], rfl⟩
 ·split at hs
  ·cases hs
  ·rename_i x1 C1 h1
   split at hs
   ·rename_i h2
    cases hs
    exact ⟨preS_blks h1, one_pre h1⟩
   ·cases hs
theorem step_calls (F : Nat → Prop) (S : Sh) (w : World) (x : X) (now : Int) (bset : Nat) (C : Cst) (hy : Ry F S w x bset C) (hl : x.tr.length < 1000000000000) (x' : X) (C' : Cst) (hs : stepS S now x C = some (x', C')) :
  Calls Try.prog 21 #[.pointer (some ⟨S.b, 0, none⟩), .int .i64 now] w fun e w' => e = .returned (.bool x'.m.next.isNone) ∧ Ry F S w' x' bset C' ∧ Keep (KF F S x.m.cache bset C) w w' := by
 unfold stepS at hs
 split at hs
 ·rename_i hn
  cases hs
  have hq := (leave_m F S w x now hy.rd hl).mono (R' := fun e w' => e = .returned (.tuple #[]) ∧ MachAt w' S.b S.bsite S.bx (leaveX S x).m ∧ (Ry F S w' (leaveX S x) bset C ∧ Keep (KF F S x.m.cache bset C) w w')) fun e w' h => ⟨h.1, h.2.1.mach, hy.step h.2.1 h.2.2 rfl, h.2.2.less KF_out⟩
  exact (step69_none w S.b S.bsite S.bx x.m (leaveX S x).m now _ hy.rd.mach hn rfl hq).mono fun e w' h => ⟨h.1, h.2.2⟩
 ·split at hs
  ·cases hs
  ·rename_i x1 C1 h1
   split at hs
   ·rename_i h2
    cases hs
    obtain ⟨g, hg⟩ := Option.isSome_iff_exists.1 h2
    have hco := (one_pre h1).2
    rw [hg]
    have fin : ∀ f (hQ : Calls Try.prog f #[.pointer (some ⟨S.b, 0, none⟩), .int .i64 now] w fun e w' => e = .returned (.tuple #[]) ∧ Ry F S w' x' bset C' ∧ Keep (KF F S x.m.cache bset C) w w'), Calls Try.prog f #[.pointer (some ⟨S.b, 0, none⟩), .int .i64 now] w fun e w' => e = .returned (.tuple #[]) ∧ MachAt w' S.b S.bsite S.bx x'.m ∧ (Ry F S w' x' bset C' ∧ Keep (KF F S x.m.cache bset C) w w') := fun f hQ => hQ.mono fun e w' h => ⟨h.1, h.2.1.rd.mach, h.2⟩
    unfold preS at h1
    split at h1
    ·rename_i hn
     split at h1
     ·rename_i hst
      cases h1
      exact (step49_some w S.b S.bsite S.bx x.m _ now g _ hy.rd.mach hn hg (fin 49 ((mark_calls F S w x now hy.rd hl hst).mono fun e w' h => ⟨h.1, Ry.step3 hy h.2.1 h.2.2 hco, h.2.2.less (fun k hk => ⟨hk.1, hk.2.1, hk.2.2.1⟩)⟩))).mono fun e w' h => ⟨h.1, h.2.2⟩
     ·cases h1
    ·rename_i hn
     cases h1
     exact (step50_some w S.b S.bsite S.bx x.m _ now g _ hy.rd.mach hn hg (fin 50 ((current_calls F S w x now hy.rd hl).mono fun e w' h => ⟨h.1, hy.step h.2.1 h.2.2 hco, h.2.2.less KF_out⟩))).mono fun e w' h => ⟨h.1, h.2.2⟩
    ·rename_i hn
     exact (step60_some w S.b S.bsite S.bx x.m _ now g _ hy.rd.mach hn hg (fin 60 (ver_calls F S w x now bset C hy hl x' C' h1))).mono fun e w' h => ⟨h.1, h.2.2⟩
    ·rename_i hn
     cases h1
     exact (step72_some w S.b S.bsite S.bx x.m _ now g _ hy.rd.mach hn hg (fin 72 ((table_calls F S w x now hy.rd hl).mono fun e w' h => ⟨h.1, hy.step h.2.1 h.2.2 hco, h.2.2.less KF_out⟩))).mono fun e w' h => ⟨h.1, h.2.2⟩
    ·rename_i hn
     split at h1
     ·rename_i hk
      obtain ⟨k1, k2⟩ := kindOk_iff hk
      exact (step88_some w S.b S.bsite S.bx x.m _ now g _ hy.rd.mach hn hg (fin 88 (look_calls F S w x now bset C hy hl k1 k2 x' C' h1))).mono fun e w' h => ⟨h.1, h.2.2⟩
     ·cases h1
    ·rename_i hn
     split at h1
     ·rename_i hk
      obtain ⟨k1, k2⟩ := kindOk_iff hk
      cases h1
      exact (step90_some w S.b S.bsite S.bx x.m _ now g _ hy.rd.mach hn hg (fin 90 ((number_calls F S w x now hy.rd hl k1 k2).mono fun e w' h => ⟨h.1, hy.step h.2.1 h.2.2 hco, h.2.2.less KF_out⟩))).mono fun e w' h => ⟨h.1, h.2.2⟩
     ·cases h1
    ·rename_i hn
     cases h1
     exact (step92_some w S.b S.bsite S.bx x.m _ now g _ hy.rd.mach hn hg (fin 92 ((width_calls F S w x now hy.rd hl).mono fun e w' h => ⟨h.1, hy.step h.2.1 h.2.2 hco, h.2.2.less KF_out⟩))).mono fun e w' h => ⟨h.1, h.2.2⟩
    ·rename_i hn
     exact (step94_some w S.b S.bsite S.bx x.m _ now g _ hy.rd.mach hn hg (fin 94 (mask_calls F S w x now bset C hy hl x' C' h1))).mono fun e w' h => ⟨h.1, h.2.2⟩
    ·cases h1
   ·cases hs
theorem step_end (w : World) (b bsite bx : Nat) (m : Mst) (now : Int) (hm : MachAt w b bsite bx m) (hn : m.next = none) :
  Calls Try.prog 21 #[.pointer (some ⟨b, 0, none⟩), .int .i64 now] w fun e w' => e = .returned (.bool true) ∧ w' = w := by
 have c8 := cellOf hm 8 (nextV b m.next) rfl
 rw [hn] at c8
 have c8' : w.cell? ⟨b, 8, none⟩ = some .nilFunc := c8
 have q1 : ∀ w : World, (binOp .neq 89 .nilFunc .nilFunc).run Try.prog w = .ok (.bool false) w := fun w => by rfl
 have q3 := neql
 clear hm hn c8
 go_enter Try.func21, Try.ntmps21
 go_wp2
 go_ret
 exact ⟨rfl, rfl⟩
def runS (S : Sh) : Nat → Nat → X → Cst → Option (Nat × X × Cst)
 | 0, _, _, _ => none
 | f + 1, n, x, C => match stepS S n x C with
  | none => none
  | some (x1, C1) => if x1.m.next.isNone = true then some (n, x1, C1) else runS S f (n + 1) x1 C1
theorem runS_len {S : Sh} : ∀ (f n : Nat) (x : X) (C : Cst) (k : Nat) (x' : X) (C' : Cst), runS S f n x C = some (k, x', C') → x'.tr.length ≤ x.tr.length + f ∧ blks C' = blks C
 | 0, n, x, C, k, x', C', h => by simp [runS] at h
 | f + 1, n, x, C, k, x', C', h => by
  unfold runS at h
  split at h
  ·cases h
  ·rename_i x1 C1 h1
   have ho := stepS_blks h1
   split at h
   ·cases h; exact ⟨by have := ho.2.1; omega, ho.1⟩
   ·have := runS_len f (n + 1) x1 C1 k x' C' h
    exact ⟨by have := ho.2.1; omega, this.2.trans ho.1⟩
theorem runS_cache {S : Sh} : ∀ (f n : Nat) (x : X) (C : Cst) (k : Nat) (x' : X) (C' : Cst), runS S f n x C = some (k, x', C') → x'.m.cache = x.m.cache
 | 0, n, x, C, k, x', C', h => by simp [runS] at h
 | f + 1, n, x, C, k, x', C', h => by
  unfold runS at h
  split at h
  ·cases h
  ·rename_i x1 C1 h1
   have ho := stepS_blks h1
   split at h
   ·cases h; exact ho.2.2
   ·exact (runS_cache f (n + 1) x1 C1 k x' C' h).trans ho.2.2
theorem cellBelow {w w1 : World} {a : Addr} {v : Value} (hb : Below w.heap.size w w1) (h : w.cell? a = some v) : w1.cell? a = some v := by
 rw [hb.cell (World.block_lt_of_cell? w _ h)]; exact h
theorem _root_.Go.Proofs.Ytdgkppldopiaoaa.RKnown.Ry.below {F : Nat → Prop} {S : Sh} {w w1 : World} {x : X} {bset : Nat} {C : Cst} (h : Ry F S w x bset C) (hb1 : Below w.heap.size w w1) : Ry F S w1 x bset C := by
 obtain ⟨tv', hM'⟩ := h.rd.mem
 exact ⟨{ h.rd with mem := ⟨tv', hM'.below hb1⟩, site := Rd.blk ((Keep.refl F w).below hb1) h.rd.fsite h.rd.site, slots := Rd.blk ((Keep.refl F w).below hb1) h.rd.fs h.rd.slots, mach := Rd.blk ((Keep.refl F w).below hb1) h.rd.fb h.rd.mach, sec := Rd.blk ((Keep.refl F w).below hb1) h.rd.fx h.rd.sec }, fun bc e => ⟨CacheAt.below (h.cd bc e).at_ hb1, (h.cd bc e).own⟩⟩
theorem trace_mem {F : Nat → Prop} {S : Sh} {w : World} {x : X} {L : Nat} (h : ∃ tv, Mem F w S.bm S.bw x.ws x.tr x.bad tv) (hl : x.tr.length = L ∧ L ≤ 1000000000000) :
  Calls Try.prog 20 #[.pointer (some ⟨S.bm, 0, none⟩)] w fun e w' => ∃ A1 c1, e = .returned (.slice A1 L c1) ∧ Below w.heap.size w w' := by
 obtain ⟨tv, hM⟩ := h
 have := trace_calls F w S.bm S.bw x.ws x.tr x.bad tv hM (by omega)
 rw [hl.1] at this
 exact this
theorem finish_calls (F : Nat → Prop) (S : Sh) (w : World) (x : X) (most : Nat) (bset bh : Nat) (C : Cst) (hy : Ry F S w x bset C) (hh : w.cell? ⟨bh, 0, none⟩ = some (.pointer (some ⟨S.bm, 0, none⟩))) (hF : KF F S x.m.cache bset C bh) (hl : x.tr.length + most < 1000000000000) (hm : most ≤ 1000) (n : Nat) (x' : X) (C' : Cst) (hs : runS S most 1 x C = some (n, x', C')) :
  Calls Try.prog 10 #[.pointer (some ⟨bh, 0, none⟩), .pointer (some ⟨S.b, 0, none⟩), .int .i64 most] w fun e w' => e = .returned (.int .i64 n) ∧ Ry F S w' x' bset C' ∧ Keep (KF F S x.m.cache bset C) w w' := by
 have HY := jA hy
 have HH := jA hh
 have HF := jA hF
 have HL := jA hl
 have HS := jA hs
 clear hy hh hF hl hs
 go_enter Try.func10, Try.ntmps10
 go_wp2
 go_loopw [7] (fun u wr => ∃ (j : Nat) (x1 : X) (C1 : Cst), 1 ≤ j ∧ j ≤ most + 1 ∧ u = .int .i64 j ∧ Aside0 (Ry F S wr x1 bset C1 ∧ Keep (KF F S x.m.cache bset C) w wr ∧ runS S (most + 1 - j) j x1 C1 = some (n, x', C') ∧ x1.tr.length = x.tr.length + (j - 1) ∧ blks C1 = blks C ∧ x1.m.cache = x.m.cache)) (fun u _ => most + 1 - (intOf u).toNat)
 case atStart => exact ⟨1, x, C, by omega, by omega, rfl, ⟨HY.out, Keep.refl _ _, HS.out, by omega, rfl, rfl⟩⟩
 case round =>
  obtain ⟨j, x1, C1, hj1, hj2, rfl, HR⟩ := hrel
  by_cases hlt : j ≤ most
  ·have hrun := HR.out.2.2.1
   rw [show most + 1 - j = (most - j) + 1 by omega] at hrun
   unfold runS at hrun
   split at hrun
   ·cases hrun
   ·rename_i x2 C2 h2
    ·have hlen := (stepS_blks h2).2.1
     have hl1 : x1.tr.length < 1000000000000 := by have h1 := HL.out; have h3 := HR.out.2.2.2.1; omega
     have hc0 : wr.cell? ⟨bh, 0, none⟩ = some (.pointer (some ⟨S.bm, 0, none⟩)) := Keep.cell HR.out.2.1 HH.out HF.out
     obtain ⟨tv, hM⟩ := HR.out.1.rd.mem
     have HT1 := jA (trace_calls F wr S.bm S.bw x1.ws x1.tr x1.bad tv hM (by omega))
     have hb := stepS_blks h2
     have HB := jA hb
     have hlen' : (x2.tr.length : Int) = (x1.tr.length : Int) + 1 := by omega
     have hsmall : (x1.tr.length : Int) < 1000000000000 := by omega
     obtain ⟨L1, hL1⟩ : ∃ L1 : Nat, L1 = x1.tr.length := ⟨_, rfl⟩
     obtain ⟨L2, hL2⟩ : ∃ L2 : Nat, L2 = x2.tr.length := ⟨_, rfl⟩
     rw [← hL1, ← hL2] at hlen'
     rw [← hL1] at hsmall HT1
     have HL1 := jA hL1
     have HL2 := jA hL2
     have H2 := jA h2
     have HLE := jA hlen
     have cellB : ∀ w1, Below wr.heap.size wr w1 → w1.cell? ⟨bh, 0, none⟩ = some (.pointer (some ⟨S.bm, 0, none⟩)) := fun w1 hb1 => Keep.cell (HR.out.2.1.below hb1) HH.out HF.out
     have ryB : ∀ w1, Below wr.heap.size wr w1 → Ry F S w1 x1 bset C1 := fun w1 hb1 => Ry.below HR.out.1 hb1
     have HCB := jA cellB
     have HRB := jA ryB
     have HHL := jA hl1
     have HLE2 := jA (show x2.tr.length = L2 ∧ L2 ≤ 1000000000000 from ⟨hL2.symm, by omega⟩)
     clear hM hb hL1 hL2 h2 hlen cellB ryB hl1
     have aft : ∀ w1 w2, Below wr.heap.size wr w1 → Ry F S w2 x2 bset C2 → Keep (KF F S x1.m.cache bset C1) w1 w2 → (w2.cell? ⟨bh, 0, none⟩ = some (.pointer (some ⟨S.bm, 0, none⟩)) ∧ Keep (KF F S x.m.cache bset C) w w2) := fun w1 w2 hb1 hr2 hk2 => by
      have hk := (HR.out.2.1.below hb1).trans (hk2.less (fun k hk => by have := KF_of HR.out.2.2.2.2.1 k hk; rw [← HR.out.2.2.2.2.2] at this; exact this))
      exact ⟨Keep.cell hk HH.out HF.out, hk⟩
     have HAFT := jA aft
     clear aft
     cases hnx : x2.m.next with
     | some g =>
      rw [hnx] at hrun
      have hrun' : runS S (most - j) (j + 1) x2 C2 = some (n, x', C') := hrun
      have HRUN := jA hrun'
      have HNX := jA hnx
      clear hrun hrun' hnx
      have c0' : (j : Int) ≤ (most : Int) := by omega
      go_wp2_with (first | (go_at_call 20; first | ((refine HT1.out.mono ?_); rintro e w1 ⟨A1, c1, rfl, hb1⟩; have d0 := HCB.out w1 hb1; have HB1 := jA hb1; clear hb1 hc0) | ((refine HT2.out.mono ?_); rintro e w3 ⟨A3, c3, rfl, hb3⟩; have HB3 := jA hb3; clear hb3)) | (go_at_call 21; (refine (step_calls F S w1 x1 (j : Int) bset C1 (HRB.out w1 HB1.out) HHL.out x2 C2 H2.out).mono ?_); rintro e w2 ⟨rfl, hr2, hk2⟩; rw [HNX.out]; obtain ⟨f0, fk⟩ := HAFT.out w1 w2 HB1.out hr2 hk2; have HK2 := jA fk; have HR2 := jA hr2; have HT2 := jA (trace_mem hr2.rd.mem HLE2.out); clear hr2 hk2 fk d0))
      go_roundw
      case rel =>
       refine ⟨j + 1, x2, C2, by omega, by omega, by go_num, ⟨HR2.out.below HB3.out, HK2.out.below HB3.out, ?_, ?_, HB.out.1.trans HR.out.2.2.2.2.1, HB.out.2.2.trans HR.out.2.2.2.2.2⟩⟩
       ·rw [show most + 1 - (j + 1) = most - j by omega]; exact HRUN.out
       ·have h3 := HLE.out; have h4 := HR.out.2.2.2.1; omega
      case measure => simp [intOf]; omega
     | none =>
      rw [hnx] at hrun
      have hrun' : some (j, x2, C2) = some (n, x', C') := hrun
      have e1 : j = n := by injection hrun' with h; injection h
      have e2 : x2 = x' := by injection hrun' with h; injection h with _ h; injection h
      have e3 : C2 = C' := by injection hrun' with h; injection h with _ h; injection h
      subst e1
      subst e2
      subst e3
      have HNX := jA hnx
      clear hrun hrun' hnx
      have c0' : (j : Int) ≤ (most : Int) := by omega
      go_wp2_with (first | (go_at_call 20; first | ((refine HT1.out.mono ?_); rintro e w1 ⟨A1, c1, rfl, hb1⟩; have d0 := HCB.out w1 hb1; have HB1 := jA hb1; clear hb1 hc0) | ((refine HT2.out.mono ?_); rintro e w3 ⟨A3, c3, rfl, hb3⟩; have f3 := cellBelow hb3 f0; have HT3 := jA (trace_mem (HR2.out.below hb3).rd.mem HLE2.out); have HE3 := jA (fun now => step_end w3 S.b S.bsite S.bx x2.m now (HR2.out.below hb3).rd.mach HNX.out); have HB3 := jA hb3; clear hb3 f0) | ((refine HT3.out.mono ?_); rintro e w4 ⟨A4, c4, rfl, hb4⟩; have HB4 := jA hb4; clear hb4)) | (go_at_call 21; first | ((refine (HE3.out _).mono ?_); rintro e w3' ⟨rfl, rfl⟩) | ((refine (step_calls F S w1 x1 (j : Int) bset C1 (HRB.out w1 HB1.out) HHL.out x2 C2 H2.out).mono ?_); rintro e w2 ⟨rfl, hr2, hk2⟩; rw [HNX.out]; obtain ⟨f0, fk⟩ := HAFT.out w1 w2 HB1.out hr2 hk2; have HK2 := jA fk; have HR2 := jA hr2; have HT2 := jA (trace_mem hr2.rd.mem HLE2.out); clear hr2 hk2 fk d0)))
      go_ret
      exact ⟨rfl, (HR2.out.below HB3.out).below HB4.out, (HK2.out.below HB3.out).below HB4.out⟩
  ·have := HR.out.2.2.1
   rw [show most + 1 - j = 0 by omega] at this
   cases this
end Go.Proofs.Ytdgkppldopiaoaa.RRun
/- names.Index: its blocks; NewIndex, Find, Of, Len, walked. -/
namespace Go.Proofs.Ytdgkppldopiaoaa.RIndex
open Go.RowKit YtdgkppldopiaoaaW.PrintWords YtdgkppldopiaoaaW.PrintLast YtdgkppldopiaoaaW.PrintMore BMap BRow GDiffer MLines MPol MPut RMem RCells REpoch RMach Go.Maps
open PG
set_option maxHeartbeats 1000000
set_option maxRecDepth 100000
def ixF (L : List ByteArray) : ByteArray → Option Int := fun s => (L.findIdx? (fun x => decide (x = s))).map (fun i => ((i : Nat) : Int) + 1)
theorem ixF_snoc {L : List ByteArray} {k : ByteArray} (h : ixF L k = none) : upd (ixF L) k ((L.length : Int) + 1) = ixF (L ++ [k]) := by
 have h0 : L.findIdx? (fun x => decide (x = k)) = none := by simpa [ixF] using h
 funext s
 by_cases e : s = k
 ·subst e
  rw [upd_same]
  simp only [ixF, List.findIdx?_append, h0]
  simp
 ·rw [upd_other _ _ e]
  simp only [ixF, List.findIdx?_append]
  have : ¬ (k = s) := fun h => e h.symm
  cases h1 : L.findIdx? (fun x => decide (x = s)) <;> simp [this]
structure Ix (F : Nat → Prop) (w : World) (bi bm : Nat) (L : List ByteArray) (v : Value) (n : Nat) : Prop where
 var : w.heap[bi]? = some (.cells #[.map (some bm), v] 94 (0, 0))
 map : MapF Value.string (Value.int .i64) okS w bm (ixF L) n
 row : Kd.R Kd.string 9 w 0 (fun k => k ≠ bi ∧ k ≠ bm ∧ ¬ F k) v L
 ne : bi ≠ bm
 fi : ¬ F bi
 fm : ¬ F bm
 lt : ∀ k, F k → k < w.heap.size
abbrev IxE (F : Nat → Prop) (w : World) (bi bm : Nat) (L : List ByteArray) : Prop := ∃ v n, Ix F w bi bm L v n
theorem Ix.below {F : Nat → Prop} {w w1 : World} {bi bm : Nat} {L : List ByteArray} {v : Value} {n : Nat} (h : Ix F w bi bm L v n) (hb : Below w.heap.size w w1) : Ix F w1 bi bm L v n :=
 { h with var := (hb.block _ (Array.getElem?_eq_some_iff.1 h.var).1).trans h.var, map := h.map.below hb, row := Kd.R_below h.row hb, lt := fun k hk => Nat.lt_of_lt_of_le (h.lt k hk) hb.size }
theorem Ix.widen {F F' : Nat → Prop} {w : World} {bi bm : Nat} {L : List ByteArray} {v : Value} {n : Nat} (h : Ix F w bi bm L v n) (hi : ¬ F' bi) (hm : ¬ F' bm) (hv : ∀ k, v.ownBlock = some k → ¬ F' k) (hl : ∀ k, F' k → k < w.heap.size) : Ix F' w bi bm L v n :=
 { h with row := Kd.R_reok rfl h.row (fun k hk => ⟨(h.row.1 k hk).1, (h.row.1 k hk).2.1, hv k hk⟩), fi := hi, fm := hm, lt := hl }
theorem newix_calls (F : Nat → Prop) (w : World) (hF : ∀ k, F k → k < w.heap.size) :
  Calls Try.prog 12 #[] w fun e w' => e = .returned (.pointer (some ⟨w.heap.size + 1, 0, none⟩)) ∧ Ix F w' (w.heap.size + 1) w.heap.size [] (.slice none 0 0) 0 ∧ Below w.heap.size w w' := by
 have hmm := @run_makeMap Try.prog
 go_enter Try.func12, Try.ntmps12
 go_wp2
 go_ret
 have hb := below_alloc (below_alloc (Below.refl w.heap.size w) (.map #[] 0)) (.cells #[.map (some w.heap.size), .slice none 0 0] 94)
 have hz : (w.alloc (.map #[] 0)).heap.size = w.heap.size + 1 := Array.size_push _
 have hv := heap_alloc_new (w.alloc (.map #[] 0)) (.cells #[.map (some w.heap.size), .slice none 0 0] 94)
 rw [hz] at hv
 have hM : MapF Value.string (Value.int .i64) okS (w.alloc (.map #[] 0)) w.heap.size (ixF []) 0 := MapF.made w
 exact ⟨by first | rfl | (rw [hz]), ⟨hv, hM.alloc _, Kd.R_nil _ _ _ _ _, by omega, fun h => by have := hF _ h; omega, fun h => by have := hF _ h; omega, fun k hk => Nat.lt_of_lt_of_le (hF k hk) hb.size⟩, hb⟩
theorem lenix_calls (F : Nat → Prop) (w : World) (bi bm : Nat) (L : List ByteArray) (v : Value) (n : Nat) (h : Ix F w bi bm L v n) :
  Calls Try.prog 44 #[.pointer (some ⟨bi, 0, none⟩)] w fun e w' => e = .returned (.int .i64 L.length) ∧ w' = w := by
 obtain ⟨A, c, rfl⟩ := Kd.R_slice h.row
 have c1 := cellOf h.var 1 _ rfl
 clear h
 go_enter Try.func44, Try.ntmps44
 go_wp2
 go_ret
 exact ⟨rfl, rfl⟩
theorem look_ix {F : Nat → Prop} {w : World} {bi bm : Nat} {L : List ByteArray} {v : Value} {n : Nat} (h : Ix F w bi bm L v n) (k : ByteArray) (hk : okS k) : (Instr.lookup 92 (.map (some bm)) (.string k) true).run Try.prog w = .ok (.tuple #[.int .i64 ((ixF L k).getD 0), .bool (ixF L k).isSome]) w := by
 have hq := h.map.lookup str_key Try.underlying92 (zero3 w) hk true
 have e : ((ixF L k).map (Value.int IntKind.i64)).getD (.int .i64 0) = .int .i64 ((ixF L k).getD 0) := by cases ixF L k <;> rfl
 simpa only [if_true, e] using hq
theorem find_calls (F : Nat → Prop) (w : World) (bi bm : Nat) (L : List ByteArray) (v : Value) (n : Nat) (h : Ix F w bi bm L v n) (k : ByteArray) (hk : okS k) :
  Calls Try.prog 43 #[.pointer (some ⟨bi, 0, none⟩), .string k] w fun e w' => e = .returned (.tuple #[.int .i64 ((ixF L k).getD 0), .bool (ixF L k).isSome]) ∧ w' = w := by
 have hlk := look_ix h k hk
 have c0 := cellOf h.var 0 _ rfl
 clear h
 go_enter Try.func43, Try.ntmps43
 go_wp2
 go_ret2
 exact ⟨rfl, rfl⟩
theorem of_old (F : Nat → Prop) (w : World) (bi bm : Nat) (L : List ByteArray) (v : Value) (n : Nat) (h : Ix F w bi bm L v n) (k : ByteArray) (hk : okS k) (i : Int) (hi : ixF L k = some i) :
  Calls Try.prog 18 #[.pointer (some ⟨bi, 0, none⟩), .string k] w fun e w' => e = .returned (.int .i64 i) ∧ w' = w := by
 have hlk := look_ix h k hk
 rw [hi] at hlk
 simp only [Option.getD_some, Option.isSome_some] at hlk
 have c0 := cellOf h.var 0 _ rfl
 clear h hi
 go_enter Try.func18, Try.ntmps18
 go_wp2
 go_ret
 exact ⟨rfl, rfl⟩
theorem of_new (F : Nat → Prop) (w : World) (bi bm : Nat) (L : List ByteArray) (v : Value) (n : Nat) (h : Ix F w bi bm L v n) (hL : L.length ≤ 1000) (k : ByteArray) (hk : okS k) (hi : ixF L k = none) :
  Calls Try.prog 18 #[.pointer (some ⟨bi, 0, none⟩), .string k] w fun e w' => e = .returned (.int .i64 ((L.length : Int) + 1)) ∧ IxE F w' bi bm (L ++ [k]) ∧ Keep F w w' := by
 have hlk := look_ix h k hk
 have hsn := ixF_snoc hi
 rw [hi] at hlk
 simp only [Option.getD_none, Option.isSome_none] at hlk
 obtain ⟨A, c, rfl⟩ := Kd.R_slice h.row
 have c0 := cellOf h.var 0 _ rfl
 have c1 := cellOf h.var 1 _ rfl
 have g1 := MPut.frozen_of_row h.var 1
 have HLIM := jA (show (L.length + 1) * 16 ≤ 140737488355328 by omega)
 have HM := jA h
 have HOK := jA hk
 have HSN := jA hsn
 have hbi : bi < w.heap.size := (Array.getElem?_eq_some_iff.1 h.var).1
 have hbm : bm < w.heap.size := h.map.lt
 have HLT := jA (And.intro hbi hbm)
 have hfresh : ∀ q, w.heap.size ≤ q → q ≠ bi ∧ q ≠ bm ∧ ¬ F q := fun q hq => ⟨by omega, by omega, fun hF => by have := h.lt q hF; omega⟩
 have HFR := jA hfresh
 have hge1 : ¬ ((1048576 : Int) ≤ (L.length : Int)) := by omega
 have hge2 : ¬ (1048576 ≤ L.length) := by omega
 have hmx : L.length ≤ 9223372036854775807 := by omega
 clear hL
 clear h hi hk hfresh hsn hbi hbm
 go_enter Try.func18, Try.ntmps18
 go_upto_region 6 with fail
 clear hlk
 go_upto_region 7 with (first | ((with_reducible refine gate_builtin (b := .append) (xs := #[.tmp 28, .tmp 30]) rfl ?_); at_builtin; refine Kd.R_append Kd.string (w0 := w) 0 rfl (.tmp 28) (.tmp 30) 25 9 (.string ⟨#[]⟩) 16 rfl Try.underlying25 info9 rfl (by decide) (by decide) (.slice A L.length c) L k [.string k] (fun q => q ≠ bi ∧ q ≠ bm ∧ ¬ F q) (fun _ => False) rfl rfl rfl (fun _ hk => hk.elim) HFR.out HM.out.row (Below.refl 0 w) (Nat.zero_le _) HLIM.out ?_; intro v8 w8 hR8 hB8 hg8 hat8; obtain ⟨A8, c8, rfl⟩ := Kd.R_slice hR8; have hv8 : w8.heap[bi]? = _ := (hg8.block _ HLT.out.1 (fun e => (HM.out.row.1 _ e.symm).1 rfl)).trans HM.out.var; have d1 := cellOf hv8 1 _ rfl; have q1 := MPut.frozen_of_row hv8 1; have HR8 := jA hR8; have HG8 := jA hg8; have HV8 := jA hv8; clear hR8 hB8 hg8 hat8 hv8))
 have hne : bm ≠ bi := fun e => HM.out.ne e.symm
 have hM8 := (HM.out.map.grown HG8.out (fun e => (HM.out.row.1 _ e.symm).2.1 rfl)).setCell (p := ⟨bi, 1, none⟩) (fun e => hne e.symm) (.slice A8 (L.length + 1) c8)
 have hR9 := Kd.R_far HR8.out (p := ⟨bi, 1, none⟩) (fun q hq => hq.1) (.slice A8 (L.length + 1) c8)
 have hll : (L ++ [k]).length = L.length + 1 := by simp
 rw [hll] at hR9
 have hv9 := blk_set HV8.out 1 (.slice A8 (L.length + 1) c8)
 have hk9 : Keep F w (w8.setCell ⟨bi, 1, none⟩ (.slice A8 (L.length + 1) c8)) := ((Keep.refl F w).grown HG8.out (fun q hq e => (HM.out.row.1 _ e.symm).2.2 hq)).setCell HM.out.fi _
 obtain ⟨w9, hw9⟩ : ∃ q, q = w8.setCell ⟨bi, 1, none⟩ (.slice A8 (L.length + 1) c8) := ⟨_, rfl⟩
 rw [← hw9] at hM8 hR9 hv9 hk9 ⊢
 obtain ⟨w10, hrun, hM10, hg10⟩ := (hM8.drew).update str_key Try.underlying92 HOK.out ((L.length : Int) + 1)
 rw [HSN.out] at hM10
 have hrun' : (Instr.mapUpdate 92 (.map (some bm)) (.string k) (.int .i64 ((L.length : Int) + 1))).run Try.prog w9.drew = .ok () w10 := hrun
 have hv10 : w10.heap[bi]? = _ := (hg10.block _ (Array.getElem?_eq_some_iff.1 (show w9.drew.heap[bi]? = _ from hv9)).1 (fun e => HM.out.ne (Option.some.inj e))).trans (show w9.drew.heap[bi]? = _ from hv9)
 have hR10 := Kd.R_grown (show Kd.R Kd.string 9 w9.drew 0 (fun q => q ≠ bi ∧ q ≠ bm ∧ ¬ F q) (.slice A8 (L.length + 1) c8) (L ++ [k]) from Kd.R_below hR9 (below_drew (Below.refl _ _))) hg10 (fun q hq e => hq.2.1 (Option.some.inj e))
 have hk10 : Keep F w w10 := (hk9.below (below_drew (Below.refl _ _))).grown hg10 (fun q hq e => HM.out.fm (Option.some.inj e ▸ hq))
 have e0 := cellOf hv9 0 (.map (some bm)) rfl
 have e1 := cellOf hv9 1 (.slice A8 (L.length + 1) c8) rfl
 have f1 := cellOf hv10 1 (.slice A8 (L.length + 1) c8) rfl
 have HV10 := jA hv10
 have HR10 := jA hR10
 have HK10 := jA hk10
 have HM10 := jA hM10
 clear hM8 hR9 hv9 hk9 hw9 hrun hv10 hR10 hk10 hM10 hg10 c0 c1 g1 d1 q1
 refine start_ (n := 11) (S := fun w' => w'.cell? ⟨bi, 0, none⟩ = some (.map (some bm)) ∧ w'.cell? ⟨bi, 1, none⟩ = some (.slice A8 (L.length + 1) c8)) (ds := [10]) (Jb 11 0) (by kernel_rfl) rfl (by kernel_rfl) ⟨e0, e1⟩ (fun hHeld => ?_)
 refine Jp 0 34 (Jb 11 1) rfl rfl ?_
 refine Jp 1 35 (Jb 11 3) rfl rfl ?_
 refine Jp 2 36 (Jb 11 7) rfl rfl ?_
 refine Jk 3 37 (Jb 11 15) rfl rfl hHeld (.inl ⟨by rfl, by rintro w' ⟨s0, s1⟩; go_simp; with_reducible rfl⟩) ?_
 refine Jp 4 38 (Jb 11 31) rfl rfl ?_
 refine Jp 5 39 (Jb 11 63) rfl rfl ?_
 refine Jp 6 40 (Jb 11 127) rfl rfl ?_
 refine Jp 7 41 (Jb 11 255) rfl rfl ?_
 refine Jk 8 42 (Jb 11 511) rfl rfl hHeld (.inl ⟨by rfl, by rintro w' ⟨s0, s1⟩; go_simp; with_reducible rfl⟩) ?_
 refine Jp 9 43 (Jb 11 1023) rfl rfl ?_
 refine last_ (i := 10) (N := none) (Jb 11 2047) rfl rfl (by kernel_rfl) (by decide) (fun K hK => ?_)
 refine GDiffer.step_skip (w' := w10) rfl rfl (by simp [execOp, Act.eval, hrun']) ?_
 refine hK.out _ _ ?_
 clear hK K
 refine done_ (by kernel_rfl) ?_
 clear e0 e1 hrun'
 have hl1 : ((L.length + 1 : Nat) : Int) = (L.length : Int) + 1 := by omega
 go_wp2
 go_ret
 refine ⟨by first | rfl | (rw [hl1]), ⟨_, _, ⟨HV10.out, HM10.out, HR10.out, HM.out.ne, HM.out.fi, HM.out.fm, fun q hq => Nat.lt_of_lt_of_le (HM.out.lt q hq) HK10.out.size⟩⟩, HK10.out⟩
end Go.Proofs.Ytdgkppldopiaoaa.RIndex
/- House.check (gatehouselaw23), avc.New of one set of two places, walked. -/
namespace Go.Proofs.Ytdgkppldopiaoaa.RHcheck
open Go.RowKit YtdgkppldopiaoaaW.PrintWords YtdgkppldopiaoaaW.PrintLast YtdgkppldopiaoaaW.PrintMore BMap BRow GDiffer MLines MPol MPut RMem RCells REpoch RMach RCache RBegin RCheck RCget RCput RIndex RRun Go.Maps
open PG
set_option maxHeartbeats 1000000
set_option maxRecDepth 100000
abbrev houseV (bm bs bsite bi : Nat) (vP vS : Value) : Array Value := #[.pointer (some ⟨bm, 0, none⟩), .pointer (some ⟨bs, 0, none⟩), .pointer (some ⟨bsite, 0, none⟩), .pointer (some ⟨bi, 0, none⟩), vP, vS]
abbrev HouseAt (w : World) (bh bm bs bsite bi : Nat) (vP vS : Value) : Prop := w.heap[bh]? = some (.cells (houseV bm bs bsite bi vP vS) 54 (0, 0))
theorem hcheck_calls (F : Nat → Prop) (w : World) (bh bm bs bsite bi bmp : Nat) (vP vS : Value) (cur flaw ep first n : Int) (L : List ByteArray) (v : Value) (q : Nat) (bc : Nat) (s o a : ByteArray) (si oi ai : Int) (hH : HouseAt w bh bm bs bsite bi vP vS) (hs : SiteAt w bsite bm bs cur flaw) (hS : SlotsAt w bs bm ep first n) (hn : 2 ≤ n) (hI : Ix F w bi bmp L v q) (ks : okS s) (ko : okS o) (ka : okS a) (is : ixF L s = some si) (io : ixF L o = some oi) (ia : ixF L a = some ai) :
  Calls Try.prog 8 #[.pointer (some ⟨bh, 0, none⟩), .pointer (some ⟨bc, 0, none⟩), .agg #[.string s, .string o, .string a]] w fun e w' => ∃ b bx, e = .returned (.pointer (some ⟨b, 0, none⟩)) ∧ w.heap.size ≤ bx ∧ bx < b ∧ MachAt w' b bsite bx (mC 1 flaw si oi ai bc) ∧ SecAt w' bx bs 1 0 0 ∧ Below w.heap.size w w' := by
 obtain ⟨w1, hw1⟩ : ∃ q, q = w.alloc (.cells #[.string s, .string o, .string a] 41) := ⟨_, rfl⟩
 have hb1 : Below w.heap.size w w1 := by rw [hw1]; exact below_alloc (Below.refl _ _) _
 have ht1 : w1.heap[w.heap.size]? = some (.cells #[.string s, .string o, .string a] 41 (0, 0)) := by rw [hw1]; exact heap_alloc_new w _
 have hH1 : HouseAt w1 bh bm bs bsite bi vP vS := (hb1.block _ (Array.getElem?_eq_some_iff.1 hH).1).trans hH
 have hs1 : SiteAt w1 bsite bm bs cur flaw := (hb1.block _ (Array.getElem?_eq_some_iff.1 hs).1).trans hs
 have hS1 : SlotsAt w1 bs bm ep first n := (hb1.block _ (Array.getElem?_eq_some_iff.1 hS).1).trans hS
 have hI1 := hI.below hb1
 have h3 := cellOf hH1 3 (.pointer (some ⟨bi, 0, none⟩)) rfl
 have h2 := cellOf hH1 2 (.pointer (some ⟨bsite, 0, none⟩)) rfl
 have t0 := cellOf ht1 0 (.string s) rfl
 have t1 := cellOf ht1 1 (.string o) rfl
 have t2 := cellOf ht1 2 (.string a) rfl
 have dI : ∀ {W : World}, Ix F W bi bmp L v q → Ix F W.drew bi bmp L v q := fun h => Ix.below h (below_drew (Below.refl _ _))
 have HQ0 := jA (of_old F w1.drew bi bmp L v q (dI hI1) s ks si is)
 have HQ1 := jA (of_old F w1.drew.drew bi bmp L v q (dI (dI hI1)) o ko oi io)
 have HQ2 := jA (of_old F w1.drew.drew.drew bi bmp L v q (dI (dI (dI hI1))) a ka ai ia)
 have HQ3 := jA (check_calls w1.drew.drew.drew bsite bm bs bc cur flaw ep first n 1 si oi ai hs1 hS1 (by omega) (by omega))
 have HB1 := jA (below_drew (below_drew (below_drew hb1)))
 have HSZ := jA hb1.size
 have HW1 := jA hw1
 clear hb1 ht1 hH1 hs1 hS1 hI1 hH hs hS hI is io ia hw1 dI
 go_enter Try.func8, Try.ntmps8
 go_upto_region 1 with fail
 rw [← HW1.out]
 refine start_ (n := 8) (S := fun w' => w'.cell? ⟨bh, 3, none⟩ = some (.pointer (some ⟨bi, 0, none⟩)) ∧ w'.cell? ⟨w.heap.size, 0, none⟩ = some (.string s)) (ds := []) (Jb 8 0) (by kernel_rfl) rfl (by kernel_rfl) ⟨h3, t0⟩ (fun hHeld => ?_)
 refine Jp 0 10 (Jb 8 1) rfl rfl ?_
 refine Jp 1 11 (Jb 8 3) rfl rfl ?_
 refine Jp 2 12 (Jb 8 7) rfl rfl ?_
 refine Jk 3 13 (Jb 8 15) rfl rfl hHeld (.inl ⟨by rfl, by rintro w' ⟨s0, s1⟩; go_simp; with_reducible rfl⟩) ?_
 refine Jp 4 14 (Jb 8 31) rfl rfl ?_
 refine Jk 5 15 (Jb 8 63) rfl rfl hHeld (.inl ⟨by rfl, by rintro w' ⟨s0, s1⟩; go_simp; with_reducible rfl⟩) ?_
 refine one_ (i := 6) (N := some 16) (Jb 8 127) rfl rfl (by kernel_rfl) (by decide) (fun K hK => ?_)
 refine goes_ Try.func18 (by kernel_rfl) rfl #[.pointer (some ⟨bi, 0, none⟩), .string s] (by rfl) rfl rfl (by (try simp only [List.map_toArray, List.map_cons, List.map_nil]); first | done | rfl) ?_
 refine HQ0.out.mono ?_
 rintro e w9 ⟨rfl, rfl⟩
 refine ⟨_, rfl, ?_⟩
 refine hK.out _ _ ⟨h3, t0⟩ (fun hHeld => ?_)
 clear hK K
 refine norm_ (a' := ?_) ?_ ?_; rotate_left; (show Act.put _ (some 16) _ = _; simp only [Act.put, Jq, Jr, Js]; rfl)
 refine Jp 7 7 (Jb 8 255) rfl rfl ?_
 refine done_ (by kernel_rfl) ?_
 go_upto_region 2 with fail
 refine start_ (n := 8) (S := fun w' => w'.cell? ⟨bh, 3, none⟩ = some (.pointer (some ⟨bi, 0, none⟩)) ∧ w'.cell? ⟨w.heap.size, 1, none⟩ = some (.string o)) (ds := []) (Jb 8 0) (by kernel_rfl) rfl (by kernel_rfl) ⟨h3, t1⟩ (fun hHeld => ?_)
 refine Jp 0 17 (Jb 8 1) rfl rfl ?_
 refine Jp 1 18 (Jb 8 3) rfl rfl ?_
 refine Jp 2 19 (Jb 8 7) rfl rfl ?_
 refine Jk 3 20 (Jb 8 15) rfl rfl hHeld (.inl ⟨by rfl, by rintro w' ⟨s0, s1⟩; go_simp; with_reducible rfl⟩) ?_
 refine Jp 4 21 (Jb 8 31) rfl rfl ?_
 refine Jk 5 22 (Jb 8 63) rfl rfl hHeld (.inl ⟨by rfl, by rintro w' ⟨s0, s1⟩; go_simp; with_reducible rfl⟩) ?_
 refine one_ (i := 6) (N := some 23) (Jb 8 127) rfl rfl (by kernel_rfl) (by decide) (fun K hK => ?_)
 refine goes_ Try.func18 (by kernel_rfl) rfl #[.pointer (some ⟨bi, 0, none⟩), .string o] (by rfl) rfl rfl (by (try simp only [List.map_toArray, List.map_cons, List.map_nil]); first | done | rfl) ?_
 refine HQ1.out.mono ?_
 rintro e w9 ⟨rfl, rfl⟩
 refine ⟨_, rfl, ?_⟩
 refine hK.out _ _ ⟨h3, t1⟩ (fun hHeld => ?_)
 clear hK K
 refine norm_ (a' := ?_) ?_ ?_; rotate_left; (show Act.put _ (some 23) _ = _; simp only [Act.put, Jq, Jr, Js]; rfl)
 refine Jp 7 8 (Jb 8 255) rfl rfl ?_
 refine done_ (by kernel_rfl) ?_
 go_upto_region 3 with fail
 refine start_ (n := 8) (S := fun w' => w'.cell? ⟨bh, 3, none⟩ = some (.pointer (some ⟨bi, 0, none⟩)) ∧ w'.cell? ⟨w.heap.size, 2, none⟩ = some (.string a)) (ds := []) (Jb 8 0) (by kernel_rfl) rfl (by kernel_rfl) ⟨h3, t2⟩ (fun hHeld => ?_)
 refine Jp 0 24 (Jb 8 1) rfl rfl ?_
 refine Jp 1 25 (Jb 8 3) rfl rfl ?_
 refine Jp 2 26 (Jb 8 7) rfl rfl ?_
 refine Jk 3 27 (Jb 8 15) rfl rfl hHeld (.inl ⟨by rfl, by rintro w' ⟨s0, s1⟩; go_simp; with_reducible rfl⟩) ?_
 refine Jp 4 28 (Jb 8 31) rfl rfl ?_
 refine Jk 5 29 (Jb 8 63) rfl rfl hHeld (.inl ⟨by rfl, by rintro w' ⟨s0, s1⟩; go_simp; with_reducible rfl⟩) ?_
 refine one_ (i := 6) (N := some 30) (Jb 8 127) rfl rfl (by kernel_rfl) (by decide) (fun K hK => ?_)
 refine goes_ Try.func18 (by kernel_rfl) rfl #[.pointer (some ⟨bi, 0, none⟩), .string a] (by rfl) rfl rfl (by (try simp only [List.map_toArray, List.map_cons, List.map_nil]); first | done | rfl) ?_
 refine HQ2.out.mono ?_
 rintro e w9 ⟨rfl, rfl⟩
 refine ⟨_, rfl, ?_⟩
 refine hK.out _ _ ⟨h3, t2⟩ (fun hHeld => ?_)
 clear hK K
 refine norm_ (a' := ?_) ?_ ?_; rotate_left; (show Act.put _ (some 30) _ = _; simp only [Act.put, Jq, Jr, Js]; rfl)
 refine Jp 7 9 (Jb 8 255) rfl rfl ?_
 refine done_ (by kernel_rfl) ?_
 have h2' : w1.drew.drew.drew.cell? ⟨bh, 2, none⟩ = some (.pointer (some ⟨bsite, 0, none⟩)) := h2
 clear h3 h2 t0 t1 t2
 go_wp2_with (first | (go_at_call 19; (refine HQ3.out.mono ?_); rintro e w5 ⟨b, rfl, hlt, hm, hx, hb5⟩; have HM := jA hm; have HX := jA hx; have HB5 := jA hb5; have HLT := jA hlt; clear hm hx hb5 hlt))
 go_ret
 exact ⟨b, w1.heap.size, rfl, HSZ.out, HLT.out, HM.out, HX.out, below_then HB1.out HB1.out.size HB5.out⟩
def pz : Pl := ⟨false, 0, 0, 0, 0, false, false⟩
theorem made_pls : madeCells #[.bool false, .int .i64 0, .int .i64 0, .int .i64 0, .int .i64 0, .bool false, .bool false] 14 = plsV [pz, pz] := by kernel_rfl
theorem make_pls (w : World) : (Instr.makeSlice 79 (.int .i64 2) (.int .i64 2)).run Try.prog w = .ok (.slice (some ⟨w.heap.size, 0, none⟩) 2 2) (w.alloc (.cells (plsV [pz, pz]) 174)) := by
 have h : (Try.prog.info? 174).map (fun i => (i.zero, i.size, i.bytes)) = some (some (.agg #[.bool false, .int .i64 0, .int .i64 0, .int .i64 0, .int .i64 0, .bool false, .bool false]), 7, 48) := by kernel_rfl
 obtain ⟨i, h1, hz⟩ := Option.map_eq_some_iff.1 h
 simp only [Prod.mk.injEq] at hz
 obtain ⟨h2, h3, h4⟩ := hz
 have := run_make (P := Try.prog) w 79 174 i _ Try.underlying79 h1 h2 .i64 .i64 2 2 (by omega) (by omega) (by rw [h4]; omega) (by omega)
 rw [h3] at this
 rw [← made_pls]
 simpa [Value.cells] using this
theorem make_set (w : World) : (Instr.makeSlice 74 (.int .i64 1) (.int .i64 1)).run Try.prog w = .ok (.slice (some ⟨w.heap.size, 0, none⟩) 1 1) (w.alloc (.cells #[.slice none 0 0, .int .i64 0] 81)) := by
 have h : (Try.prog.info? 81).map (fun i => (i.zero, i.size, i.bytes)) = some (some (.agg #[.slice none 0 0, .int .i64 0]), 2, 32) := by kernel_rfl
 obtain ⟨i, h1, hz⟩ := Option.map_eq_some_iff.1 h
 simp only [Prod.mk.injEq] at hz
 obtain ⟨h2, h3, h4⟩ := hz
 have := run_make (P := Try.prog) w 74 81 i _ Try.underlying74 h1 h2 .i64 .i64 1 1 (by omega) (by omega) (by rw [h4]; omega) (by omega)
 rw [h3] at this
 have e : madeCells #[.slice none 0 0, .int .i64 0] 2 = #[.slice none 0 0, .int .i64 0] := by kernel_rfl
 rw [← e]
 simpa [Value.cells] using this
def C0 (bp : Nat) : Cst := ⟨[⟨[pz, pz], 0, bp⟩], ⟨0, 0, 0, 0⟩⟩
theorem store_pls {W : World} {A : Option Addr} {n : Nat} {old : Value} {a : Addr} (hc : W.cell? a = some old) (hf : W.frozen? a = false) :
  (Instr.storeAt 79 (.pointer (some a)) (.slice A n n)).run Try.prog W = .ok () (W.setCell a (.slice A n n)) := by
 have hu := Try.underlying79
 simp [Instr.storeAt, Instr.sureAddr, go_sem, hc, hf, hu]
theorem newc_calls (w : World) : Calls Try.prog 7 #[.int .i64 1, .int .i64 2] w fun e w' => ∃ bc bset bp, e = .returned (.tuple #[.pointer (some ⟨bc, 0, none⟩), .int .i64 0]) ∧ w.heap.size ≤ bc ∧ w.heap.size ≤ bset ∧ w.heap.size ≤ bp ∧ CAt w' bc bset (C0 bp) ∧ Below w.heap.size w w' := by
 have hm1 := make_set
 have hm2 := make_pls
 obtain ⟨w2, hw2⟩ : ∃ q, q = (w.alloc (.cells #[.slice none 0 0, .int .i64 0] 81)).alloc (.cells (topV w.heap.size 1 ⟨0, 0, 0, 0⟩) 78) := ⟨_, rfl⟩
 have hz1 : (w.alloc (.cells #[.slice none 0 0, .int .i64 0] 81)).heap.size = w.heap.size + 1 := Array.size_push _
 have hz2 : w2.heap.size = w.heap.size + 2 := by rw [hw2]; exact (Array.size_push _).trans (by rw [hz1])
 have hb2 : Below w.heap.size w w2 := by rw [hw2]; exact below_alloc (below_alloc (Below.refl _ _) _) _
 have htop : w2.heap[w.heap.size + 1]? = some (.cells (topV w.heap.size 1 ⟨0, 0, 0, 0⟩) 78 (0, 0)) := by
  have := heap_alloc_new (w.alloc (.cells #[.slice none 0 0, .int .i64 0] 81)) (.cells (topV w.heap.size 1 ⟨0, 0, 0, 0⟩) 78)
  rw [hz1, ← hw2] at this
  exact this
 have hset : w2.heap[w.heap.size]? = some (.cells #[.slice none 0 0, .int .i64 0] 81 (0, 0)) := by
  rw [hw2]
  exact (Below.heap_alloc _ _ _ (by rw [hz1]; omega)).trans (heap_alloc_new w _)
 have HW2 := jA hw2
 have HZ2 := jA hz2
 have HB2 := jA hb2
 have HTOP := jA htop
 have HSET := jA hset
 have HZ1 := jA hz1
 clear hw2 hz2 hb2 htop hset hz1
 go_enter Try.func7, Try.ntmps7
 go_upto_region 4 with fail
 (try rw [HZ1.out])
 have e2 : (w.alloc (.cells #[.slice none 0 0, .int .i64 0] 81)).alloc (.cells #[.slice (some ⟨w.heap.size, 0, none⟩) 1 1, .int .i64 0, .int .i64 0, .int .i64 0, .int .i64 0] 78) = w2 := HW2.out.symm
 rw [e2]
 have c0 := cellOf HTOP.out 0 (.slice (some ⟨w.heap.size, 0, none⟩) 1 1) rfl
 clear e2
 go_wp2
 go_loopw [31] (fun u wr => (u = .int .i64 0 ∧ wr = w2) ∨ (u = .int .i64 1 ∧ Aside0 (CAt wr (w.heap.size + 1) w.heap.size (C0 (w.heap.size + 2)) ∧ Below w.heap.size w wr))) (fun u _ => 1 - (intOf u).toNat)
 case atStart => exact .inl ⟨rfl, rfl⟩
 case round =>
  rcases hrel with ⟨rfl, hwr⟩ | ⟨rfl, HR⟩
  ·rw [hwr]
   clear hwr
   go_upto_region 7 with fail
   refine start_ (n := 10) (S := fun w' => w'.cell? ⟨w.heap.size + 1, 0, none⟩ = some (.slice (some ⟨w.heap.size, 0, none⟩) 1 1)) (ds := [9]) (Jb 10 0) (by kernel_rfl) rfl (by kernel_rfl) c0 (fun hHeld => ?_)
   refine Jp 0 34 (Jb 10 1) rfl rfl ?_
   refine Jp 1 35 (Jb 10 3) rfl rfl ?_
   refine Jp 2 36 (Jb 10 7) rfl rfl ?_
   refine Jk 3 37 (Jb 10 15) rfl rfl hHeld (.inl ⟨by rfl, by rintro w' s0; go_simp; with_reducible rfl⟩) ?_
   refine Jp 4 38 (Jb 10 31) rfl rfl ?_
   refine Jp 5 39 (Jb 10 63) rfl rfl ?_
   refine one_ (i := 6) (N := some 40) (Jb 10 127) rfl rfl (by kernel_rfl) (by decide) (fun K hK => ?_)
   refine event_step rfl (w1 := w2.drew.alloc (.cells (plsV [pz, pz]) 174)) (v := .slice (some ⟨w2.heap.size, 0, none⟩) 2 2) (by simp [execOp, Act.eval, make_pls]) ?_
   refine hK.out _ _ (cellBelow (below_alloc (Below.refl _ w2.drew) _) (show w2.drew.cell? ⟨w.heap.size + 1, 0, none⟩ = some (.slice (some ⟨w.heap.size, 0, none⟩) 1 1) from c0)) (fun hHeld => ?_)
   clear hK K
   refine norm_ (a' := ?_) ?_ ?_; rotate_left; (show Act.put _ (some 40) _ = _; simp only [Act.put, Jq, Jr, Js]; rfl)
   refine Jp 7 41 (Jb 10 255) rfl rfl ?_
   refine Jp 8 42 (Jb 10 511) rfl rfl ?_
   refine last_ (i := 9) (N := none) (Jb 10 1023) rfl rfl (by kernel_rfl) (by decide) (fun K hK => ?_)
   refine GDiffer.step_skip (w' := (w2.drew.alloc (.cells (plsV [pz, pz]) 174)).setCell ⟨w.heap.size, 0, none⟩ (.slice (some ⟨w2.heap.size, 0, none⟩) 2 2)) rfl rfl (by have hst := store_pls (W := w2.drew.alloc (.cells (plsV [pz, pz]) 174)) (A := some ⟨w2.heap.size, 0, none⟩) (n := 2) (cellBelow (below_alloc (Below.refl _ w2.drew) _) (show w2.drew.cell? ⟨w.heap.size, 0, none⟩ = some (.slice none 0 0) from cellOf HSET.out 0 _ rfl)) (MPut.frozen_of_row ((Below.heap_alloc _ _ _ (by have := HZ2.out; show w.heap.size < w2.heap.size; omega)).trans HSET.out) 0); simp [execOp, Act.eval, hst]) ?_
   refine hK.out _ _ ?_
   clear hK K
   refine done_ (by kernel_rfl) ?_
   have hset3 := blk_set (show (w2.drew.alloc (.cells (plsV [pz, pz]) 174)).heap[w.heap.size]? = some (.cells #[.slice none 0 0, .int .i64 0] 81 (0, 0)) from (Below.heap_alloc _ _ _ (by have := HZ2.out; show w.heap.size < w2.heap.size; omega)).trans HSET.out) 0 (.slice (some ⟨w2.heap.size, 0, none⟩) 2 2)
   have htop3 : ((w2.drew.alloc (.cells (plsV [pz, pz]) 174)).setCell ⟨w.heap.size, 0, none⟩ (.slice (some ⟨w2.heap.size, 0, none⟩) 2 2)).heap[w.heap.size + 1]? = _ := (Below.heap_setCell _ _ _ _ (by simp)).trans ((Below.heap_alloc _ _ _ (by have := HZ2.out; show w.heap.size + 1 < w2.heap.size; omega)).trans HTOP.out)
   have hpl3 : ((w2.drew.alloc (.cells (plsV [pz, pz]) 174)).setCell ⟨w.heap.size, 0, none⟩ (.slice (some ⟨w2.heap.size, 0, none⟩) 2 2)).heap[w2.heap.size]? = some (.cells (plsV [pz, pz]) 174 (0, 0)) := (Below.heap_setCell _ _ _ _ (by have := HZ2.out; show w2.heap.size ≠ w.heap.size; omega)).trans (heap_alloc_new w2.drew _)
   have hb3 : Below w.heap.size w ((w2.drew.alloc (.cells (plsV [pz, pz]) 174)).setCell ⟨w.heap.size, 0, none⟩ (.slice (some ⟨w2.heap.size, 0, none⟩) 2 2)) := (below_alloc (below_drew HB2.out) _).setCell (Nat.le_refl _) _
   obtain ⟨w3, hw3⟩ : ∃ q, q = (w2.drew.alloc (.cells (plsV [pz, pz]) 174)).setCell ⟨w.heap.size, 0, none⟩ (.slice (some ⟨w2.heap.size, 0, none⟩) 2 2) := ⟨_, rfl⟩
   rw [← hw3] at hset3 htop3 hpl3 hb3 ⊢
   rw [HZ2.out] at hset3 hpl3
   have HC3 : Aside0 (CAt w3 (w.heap.size + 1) w.heap.size (C0 (w.heap.size + 2)) ∧ Below w.heap.size w w3) := ⟨{ top := htop3, sets := hset3, each := by intro s hs; rw [List.mem_singleton.1 hs]; exact hpl3, nd := by simp [C0], ne := by omega, off := by intro s hs; rw [List.mem_singleton.1 hs]; exact ⟨by show w.heap.size + 2 ≠ w.heap.size + 1; omega, by show w.heap.size + 2 ≠ w.heap.size; omega⟩, some_ := Nat.le_refl 1, small := (by decide : 1 ≤ 256), ways := by intro s hs; rw [List.mem_singleton.1 hs]; exact (by decide : 1 ≤ 2 ∧ 2 ≤ 8), hands := by intro s hs; rw [List.mem_singleton.1 hs]; exact (by decide : (0 : Int) ≤ 0 ∧ (0 : Int) < ((2 : Nat) : Int)) }, hb3⟩
   clear hset3 htop3 hpl3 hb3 hw3
   go_wp2
   go_roundw
   case rel => exact .inr ⟨rfl, HC3⟩
   case measure => simp [intOf]
  ·go_wp2
   go_ret2
   exact ⟨_, _, _, rfl, by omega, by omega, by omega, HR.out.1, HR.out.2⟩
end Go.Proofs.Ytdgkppldopiaoaa.RHcheck
/- Classes of lines, and the graph of a matrix: plain. -/
namespace Go.Proofs.Ytdgkppldopiaoaa.CPure
section
variable {α : Type} [DecidableEq α]
def one1 (L : List α) (x : α) : List α := if x ∈ L then L else L ++ [x]
def uniq (ls : List α) : List α := ls.foldl one1 []
theorem uniq_snoc (ls : List α) (x : α) : uniq (ls ++ [x]) = one1 (uniq ls) x := by simp [uniq]
theorem mem_one1 {L : List α} {x y : α} : y ∈ one1 L x ↔ y ∈ L ∨ y = x := by
 unfold one1
 split
 ·rename_i h
  constructor
  ·exact .inl
  ·rintro (h' | rfl)
   ·exact h'
   ·exact h
 ·rw [List.mem_append, List.mem_singleton]
omit [DecidableEq α] in
theorem snoc_ind {P : List α → Prop} (h0 : P []) (h1 : ∀ l x, P l → P (l ++ [x])) (l : List α) : P l := by
 have : ∀ n, ∀ l : List α, l.length = n → P l := by
  intro n
  induction n with
  | zero => intro l hl; rw [List.length_eq_zero_iff.1 hl]; exact h0
  | succ n ih =>
   intro l hl
   have hne : l ≠ [] := by intro e; subst e; simp at hl
   rw [← List.dropLast_concat_getLast hne]
   exact h1 _ _ (ih _ (by simp; omega))
 exact this _ l rfl
theorem mem_uniq {ls : List α} {y : α} : y ∈ uniq ls ↔ y ∈ ls := by
 refine snoc_ind (P := fun ls => y ∈ uniq ls ↔ y ∈ ls) (by simp [uniq]) (fun l x ih => ?_) ls
 rw [uniq_snoc, mem_one1, ih, List.mem_append, List.mem_singleton]
theorem uniq_length (ls : List α) : (uniq ls).length ≤ ls.length := by
 refine snoc_ind (P := fun ls => (uniq ls).length ≤ ls.length) (by simp [uniq]) (fun l x ih => ?_) ls
 rw [uniq_snoc, one1]
 split
 ·simp; omega
 ·simpa using ih
def clsN (ls : List α) (x : α) : Nat := (uniq ls).idxOf x
def num (ls : List α) (x : α) : Int := ((clsN ls x + 1 : Nat) : Int)
def numsOf (ls : List α) : List Int := ls.map (num ls)
def firstsN (ls : List α) : List Nat := (uniq ls).map (fun x => ls.idxOf x)
def firstsOf (ls : List α) : List Int := (firstsN ls).map (fun (n : Nat) => (n : Int))
theorem num_old {ls : List α} {x y : α} (h : y ∈ ls) : num (ls ++ [x]) y = num ls y := by
 unfold num clsN
 rw [uniq_snoc, one1]
 split
 ·rfl
 ·rw [List.idxOf_append, if_pos (mem_uniq.2 h)]
theorem num_new {ls : List α} {x : α} (h : x ∉ ls) : num (ls ++ [x]) x = (((uniq ls).length + 1 : Nat) : Int) := by
 unfold num clsN
 have h' : x ∉ uniq ls := fun e => h (mem_uniq.1 e)
 rw [uniq_snoc, one1, if_neg h', List.idxOf_append, if_neg h']
 simp
theorem numsOf_snoc (ls : List α) (x : α) : numsOf (ls ++ [x]) = numsOf ls ++ [num (ls ++ [x]) x] := by
 unfold numsOf
 rw [List.map_append, List.map_singleton]
 congr 1
 exact List.map_congr_left fun y hy => num_old hy
theorem firstsN_snoc (ls : List α) (x : α) : firstsN (ls ++ [x]) = firstsN ls ++ if x ∈ ls then [] else [ls.length] := by
 unfold firstsN
 rw [uniq_snoc, one1]
 have key : ∀ y ∈ uniq ls, (ls ++ [x]).idxOf y = ls.idxOf y := fun y hy => by rw [List.idxOf_append, if_pos (mem_uniq.1 hy)]
 by_cases h : x ∈ ls
 ·rw [if_pos (mem_uniq.2 h), if_pos h, List.append_nil]
  exact List.map_congr_left key
 ·rw [if_neg (fun e => h (mem_uniq.1 e)), if_neg h, List.map_append, List.map_singleton]
  congr 1
  ·exact List.map_congr_left key
  ·rw [List.idxOf_append, if_neg h]; simp
theorem firstsOf_snoc (ls : List α) (x : α) : firstsOf (ls ++ [x]) = firstsOf ls ++ if x ∈ ls then [] else [(ls.length : Int)] := by
 unfold firstsOf
 rw [firstsN_snoc, List.map_append]
 congr 1
 split <;> rfl
theorem firstsOf_old {ls : List α} {x : α} (h : x ∈ ls) : firstsOf (ls ++ [x]) = firstsOf ls := by rw [firstsOf_snoc, if_pos h, List.append_nil]
theorem firstsOf_new {ls : List α} {x : α} (h : x ∉ ls) : firstsOf (ls ++ [x]) = firstsOf ls ++ [(ls.length : Int)] := by rw [firstsOf_snoc, if_neg h]
theorem firstsOf_length (ls : List α) : (firstsOf ls).length = (uniq ls).length := by simp [firstsOf, firstsN]
theorem firstsN_lt {ls : List α} {n : Nat} (h : n ∈ firstsN ls) : n < ls.length := by
 obtain ⟨x, hx, rfl⟩ := List.mem_map.1 h
 exact List.idxOf_lt_length_of_mem (mem_uniq.1 hx)
theorem num_pos (ls : List α) (x : α) : 1 ≤ num ls x := by unfold num clsN; omega
theorem num_le {ls : List α} {x : α} (h : x ∈ ls) : num ls x ≤ (uniq ls).length := by
 have := List.idxOf_lt_length_of_mem (mem_uniq.2 h)
 unfold num clsN; omega
end
def fill (m : Nat) (M : Nat → Nat → Int) (i j : Nat) : Int := if j < m then M i j else 0
def lines (n m : Nat) (M : Nat → Nat → Int) : List (List Int) := (List.range n).map fun a => (List.range 64).map (fill m M a)
def ofM (n m : Nat) (M : Nat → Nat → Int) : List Int := numsOf (lines n m M)
def masksM (n m : Nat) (M : Nat → Nat → Int) : List (List Int) := (firstsN (lines n m M)).map fun i => (firstsN (lines m n (fun j i => M i j))).map fun j => M i j
def maskN (f : Nat → Bool) : Nat → Nat
 | 0 => 0
 | n + 1 => maskN f n ||| (if f n then 2 ^ n else 0)
theorem maskN_bit (f : Nat → Bool) : ∀ (n k : Nat), (maskN f n).testBit k = (decide (k < n) && f k)
 | 0, k => by simp [maskN]
 | n + 1, k => by
  rw [maskN, Nat.testBit_or, maskN_bit f n k]
  by_cases h : f n
  ·rw [if_pos h, Nat.testBit_two_pow]
   by_cases e : n = k
   ·subst e; simp [h]
   ·have e1 : decide (k < n + 1) = decide (k < n) := by simp; omega
    simp [e, e1]
  ·rw [if_neg h]
   by_cases e : n = k
   ·subst e; simp [h]
   ·have e1 : decide (k < n + 1) = decide (k < n) := by simp; omega
    simp [e1]
theorem maskN_lt (f : Nat → Bool) : ∀ n, maskN f n < 2 ^ n
 | 0 => by simp [maskN]
 | n + 1 => by
  rw [maskN]
  have := maskN_lt f n
  refine Nat.or_lt_two_pow (by omega) ?_
  split
  ·exact Nat.pow_lt_pow_right (by omega) (by omega)
  ·exact Nat.two_pow_pos _
end Go.Proofs.Ytdgkppldopiaoaa.CPure
/- bits.Mask: a mask out of a list of places; or. -/
namespace Go.Proofs.Ytdgkppldopiaoaa.CBits
open Go.RowKit YtdgkppldopiaoaaW.PrintWords YtdgkppldopiaoaaW.PrintLast YtdgkppldopiaoaaW.PrintMore CPure
open PG
theorem or_both (m n : Nat) (hm : m < 65536) (hn : n < 65536) : Go.bits .or .u16 (m : Int) (n : Int) = ((m ||| n : Nat) : Int) := by
 show IntKind.wrap .u16 (((BitVec.ofInt 16 (m : Int)) ||| (BitVec.ofInt 16 (n : Int))).toNat : Int) = _
 rw [BitVec.ofInt_natCast, BitVec.ofInt_natCast, BitVec.toNat_or, BitVec.toNat_ofNat, BitVec.toNat_ofNat, Nat.mod_eq_of_lt (by omega), Nat.mod_eq_of_lt (by omega)]
 have h := Nat.or_lt_two_pow (n := 16) hm hn
 generalize m ||| n = z at *
 simp only [IntKind.wrap, IntKind.bits, IntKind.signed]
 simp
 omega
theorem shl_pow (k : Nat) (hk : k ≤ 15) : shl .u16 1 (k : Int) = ((2 ^ k : Nat) : Int) := by
 have : ∀ k : Fin 16, shl .u16 1 (k.val : Int) = ((2 ^ k.val : Nat) : Int) := by decide
 exact this ⟨k, by omega⟩
theorem or_shl (m k : Nat) (hm : m < 65536) (hk : k ≤ 15) : Go.bits .or .u16 (m : Int) (shl .u16 1 (k : Int)) = ((m ||| 2 ^ k : Nat) : Int) := by
 rw [shl_pow k hk]
 exact or_both m _ hm (by calc 2 ^ k ≤ 2 ^ 15 := Nat.pow_le_pow_right (by omega) hk
  _ < 65536 := by decide)
def orStep (m : Nat) (x : Int) : Nat := if 0 ≤ x ∧ x < 16 then m ||| 2 ^ x.toNat else m
def orBits (l : List Int) : Nat := l.foldl orStep 0
theorem orBits_snoc (l : List Int) (x : Int) : orBits (l ++ [x]) = orStep (orBits l) x := by simp [orBits]
theorem orStep_lt {m : Nat} (hm : m < 65536) (x : Int) : orStep m x < 65536 := by
 unfold orStep
 split
 ·rename_i h
  refine Nat.or_lt_two_pow (n := 16) hm ?_
  exact Nat.pow_lt_pow_right (by omega) (by omega)
 ·exact hm
theorem orBits_lt (l : List Int) : orBits l < 65536 := by
 refine snoc_ind (P := fun l => orBits l < 65536) (by simp [orBits]) (fun l x ih => ?_) l
 rw [orBits_snoc]; exact orStep_lt ih x
theorem orStep_bit (m : Nat) (x : Int) (k : Nat) : (orStep m x).testBit k = (m.testBit k || decide (k < 16 ∧ (k : Int) = x)) := by
 unfold orStep
 by_cases h : 0 ≤ x ∧ x < 16
 ·rw [if_pos h, Nat.testBit_or, Nat.testBit_two_pow]
  congr 1
  rw [decide_eq_decide]
  omega
 ·rw [if_neg h]
  have : decide (k < 16 ∧ (k : Int) = x) = false := by rw [decide_eq_false_iff_not]; omega
  rw [this, Bool.or_false]
theorem orBits_bit (l : List Int) (k : Nat) : (orBits l).testBit k = decide (k < 16 ∧ (k : Int) ∈ l) := by
 refine snoc_ind (P := fun l => (orBits l).testBit k = decide (k < 16 ∧ (k : Int) ∈ l)) (by simp [orBits]) (fun l x ih => ?_) l
 rw [orBits_snoc, orStep_bit, ih, Bool.eq_iff_iff]
 simp only [Bool.or_eq_true, decide_eq_true_eq, List.mem_append, List.mem_singleton]
 constructor
 ·rintro (⟨h1, h2⟩ | ⟨h1, h2⟩)
  ·exact ⟨h1, .inl h2⟩
  ·exact ⟨h1, .inr h2⟩
 ·rintro ⟨h1, h2 | h2⟩
  ·exact .inl ⟨h1, h2⟩
  ·exact .inr ⟨h1, h2⟩
theorem mask_ev (l : List Int) (hl : l.length ≤ 9223372036854775807) : ∀ (d n : Nat), n + d = l.length → Ev (fun k => bits_Mask.l0 k (orBits (l.take n) : Nat) l l.length n) ((orBits l : Nat) : Int)
 | 0, n, h => by
  rw [List.take_of_length_le (by omega)]
  refine Ev.step (f := fun _ => some _) (fun k => ?_) (Ev.now _)
  simp only [bits_Mask.l0]
  rw [if_neg (by omega)]
 | d + 1, n, h => by
  have hlt : n < l.length := by omega
  have htk : l.take (n + 1) = l.take n ++ [l[n]] := List.take_succ_eq_append_getElem hlt
  have hnx : orBits (l.take (n + 1)) = orStep (orBits (l.take n)) l[n] := by rw [htk, orBits_snoc]
  have hb := orBits_lt (l.take n)
  refine Ev.step (f := fun k => bits_Mask.l0 k (orBits (l.take (n + 1)) : Nat) l l.length ((n + 1 : Nat) : Int)) (fun k => ?_) (mask_ev l hl d (n + 1) (by omega))
  simp only [bits_Mask.l0]
  rw [if_pos (by omega), if_pos (by omega), if_pos (by omega), VPure.rd_get l n hlt, VPure.w64n hlt (by omega), hnx]
  unfold orStep
  by_cases h0 : 0 ≤ l[n]
  ·by_cases h1 : l[n] < 16
   ·rw [if_pos (by omega), if_pos h1, if_pos h0, if_pos ⟨h0, h1⟩]
    obtain ⟨q, hq⟩ := Int.eq_ofNat_of_zero_le h0
    rw [hq] at h1 ⊢
    rw [or_shl _ q hb (by omega)]
    simp
   ·rw [if_pos (by omega), if_neg h1, if_neg (fun e => h1 e.2)]
  ·rw [if_neg (by omega), if_neg (fun e => h0 e.1)]
theorem mask_go (A : Option Addr) (c : Nat) (l : List Int) (w : World) (hC : Kd.C (Kd.int .i64) w A l.length l) (hc : l.length ≤ c) :
  Calls Try.prog 47 #[.slice A l.length c] w fun e w' => e = .returned (.int .u16 ((orBits l : Nat) : Int)) ∧ Drawn0 w w' := by
 obtain ⟨k, hk⟩ := (mask_ev l hC.2.1 l.length 0 (by omega)).rounds
 exact bits_Mask.calls k A c l _ w hC hc hk
end Go.Proofs.Ytdgkppldopiaoaa.CBits
/- Rows of lines of one's own: n lines of 64 masks in one block. -/
namespace Go.Proofs.Ytdgkppldopiaoaa.GBlk
open Go.RowKit YtdgkppldopiaoaaW.PrintWords YtdgkppldopiaoaaW.PrintLast BMap BRow GDiffer Go.Maps
def Blk (w : World) (g n : Nat) (F : Nat → Nat → Int) : Prop := w.rowIs g 112 (n * 64) (fun k => .int .u16 (F (k / 64) (k % 64)))
theorem div_of {i j : Nat} (hj : j < 64) : (i * 64 + j) / 64 = i := by omega
theorem mod_of {i j : Nat} (hj : j < 64) : (i * 64 + j) % 64 = j := by omega
namespace Blk
variable {w w1 : World} {g n : Nat} {F F' : Nat → Nat → Int}
theorem lt (h : Blk w g n F) : g < w.heap.size := World.rowIs.lt h
theorem below (h : Blk w g n F) (hb : Below w.heap.size w w1) : Blk w1 g n F := World.rowIs.of_block h (hb.block _ h.lt)
theorem drew (h : Blk w g n F) : Blk w.drew g n F := World.rowIs.drew h
theorem far (h : Blk w g n F) {a : Addr} (ha : g ≠ a.block) (v : Value) : Blk (w.setCell a v) g n F := World.rowIs.setOther h ha v
theorem cell (h : Blk w g n F) {i j : Nat} (hi : i < n) (hj : j < 64) : w.cell? ⟨g, i * 64 + j, none⟩ = some (.int .u16 (F i j)) := by
 have := World.rowIs.cell h (i := i * 64 + j) (by omega)
 rwa [div_of hj, mod_of hj] at this
theorem frozen (h : Blk w g n F) (i : Nat) : w.frozen? ⟨g, i, none⟩ = false := World.rowIs.frozen h i
theorem congr (h : Blk w g n F) (e : ∀ a b, a < n → b < 64 → F a b = F' a b) : Blk w g n F' :=
 World.rowIs.congr h fun k hk => by rw [e (k / 64) (k % 64) (by omega) (by omega)]
theorem set (h : Blk w g n F) {i j : Nat} (hj : j < 64) (x : Int) : Blk (w.setCell ⟨g, i * 64 + j, none⟩ (.int .u16 x)) g n (fun a b => if a = i ∧ b = j then x else F a b) :=
 World.rowIs.congr (World.rowIs.set h (i * 64 + j) (.int .u16 x)) fun k _ => by
  have : k = i * 64 + j ↔ (k / 64 = i ∧ k % 64 = j) := by omega
  show (if k = i * 64 + j then Value.int .u16 x else .int .u16 (F (k / 64) (k % 64))) = Value.int .u16 (if k / 64 = i ∧ k % 64 = j then x else F (k / 64) (k % 64))
  by_cases e : k = i * 64 + j
  ·rw [if_pos e, if_pos (this.1 e)]
  ·rw [if_neg e, if_neg (fun hh => e (this.2 hh))]
end Blk
theorem Blk.made (w : World) (n : Nat) (z : Array Value) (hz : z = Array.replicate 64 (.int .u16 0)) : Blk (w.alloc (.cells (madeCells z (n * 64)) 112)) w.heap.size n (fun _ _ => 0) := by
 subst hz
 have := World.rowIs_alloc w (madeCells (Array.replicate 64 (.int .u16 0)) (n * 64)) 112 (fun _ => .int .u16 0) (fun i hi => by
  rw [size_madeCells] at hi
  have : i % 64 < 64 := by omega
  simp [madeCells, hi, this])
 rw [size_madeCells] at this
 exact this
def linesOf (n : Nat) (F : Nat → Nat → Int) : List (List Int) := (List.range n).map fun a => (List.range 64).map (F a)
theorem linesOf_length (n : Nat) (F : Nat → Nat → Int) : (linesOf n F).length = n := by simp [linesOf]
theorem Blk.C {w : World} {g n : Nat} {F : Nat → Nat → Int} (h : Blk w g n F) (hn : n ≤ 9223372036854775807) : kLine.C w (some ⟨g, 0, none⟩) n (linesOf n F) := by
 refine ⟨linesOf_length n F, hn, fun _ => ⟨_, rfl, fun a p hp => ?_⟩⟩
 have ha : a < n := by have := (List.getElem?_eq_some_iff.1 hp).1; rwa [linesOf_length] at this
 have hp' : p = (List.range 64).map (F a) := by
  simp [linesOf, ha] at hp
  exact hp.symm
 subst hp'
 refine ⟨nums .u16 ((List.range 64).map (F a)), by simp [nums]; rfl, Kd.K_of_M (base := 0) (ok := fun _ => True) _ (Kd.arr_of_cells (by simp)), fun j u hu => ?_⟩
 have hj : j < 64 := by have := (List.getElem?_eq_some_iff.1 hu).1; simpa [nums] using this
 have hu' : u = .int .u16 (F a j) := by
  simp [nums, hj] at hu
  exact hu.symm
 subst hu'
 have := h.cell ha hj
 have e : ((⟨g, 0, none⟩ : Addr).add (a * 64 + j)) = ⟨g, a * 64 + j, none⟩ := by rw [Addr.add_mid, Nat.zero_add]
 show w.cell? ((⟨g, 0, none⟩ : Addr).add (a * 64 + j)) = _
 rw [e]
 exact this
theorem linesOf_ok {n : Nat} {F : Nat → Nat → Int} (hF : ∀ a b, a < n → b < 64 → (Lit.int .u16 (F a b)).wf = true) : ∀ l ∈ linesOf n F, lineOk l := by
 intro l hl
 obtain ⟨a, ha, rfl⟩ := List.mem_map.1 hl
 refine ⟨by simp, fun x hx => ?_⟩
 obtain ⟨b, hb, rfl⟩ := List.mem_map.1 hx
 exact hF a b (by simpa using ha) (by simpa using hb)
theorem info112 : ∃ i : TypeInfo, Try.prog.info? 112 = some i ∧ i.zero = some (.agg (Array.replicate 64 (.int .u16 0))) ∧ i.size = 64 ∧ i.bytes = 128 := by
 have h : (Try.prog.info? 112).map (fun i => (i.zero, i.size, i.bytes)) = some (some (.agg (Array.replicate 64 (.int .u16 0))), 64, 128) := by kernel_rfl
 obtain ⟨i, hi, hz⟩ := Option.map_eq_some_iff.1 h
 simp only [Prod.mk.injEq] at hz
 exact ⟨i, hi, hz.1, hz.2.1, hz.2.2⟩
abbrev made (n : Nat) : Obj := .cells (madeCells (Array.replicate 64 (.int .u16 0)) (n * 64)) 112
theorem make_lines (n : Nat) (hn : n ≤ 64) (w : World) : (Instr.makeSlice 108 (.int .i64 (n : Int)) (.int .i64 (n : Int))).run Try.prog w = .ok (.slice (some ⟨w.heap.size, 0, none⟩) n n) (w.alloc (made n)) := by
 obtain ⟨i, h1, h2, h3, h4⟩ := info112
 have := run_make (P := Try.prog) w 108 112 i _ Try.underlying108 h1 h2 .i64 .i64 (n : Int) n (by omega) (by omega) (by rw [h4]; omega) (by omega)
 rw [h3] at this
 simpa [Value.cells] using this
end Go.Proofs.Ytdgkppldopiaoaa.GBlk
/- graph.classes, walked. -/
namespace Go.Proofs.Ytdgkppldopiaoaa.CClasses
open Go.RowKit YtdgkppldopiaoaaW.PrintWords YtdgkppldopiaoaaW.PrintLast YtdgkppldopiaoaaW.PrintMore BMap BRow GDiffer GBlk CPure MLines MSide MPol Go.Maps
open PG
structure Cl (w wr : World) (v4 v5 : Value) (L4 L5 : List Int) (f : List Int → Option Int) (n : Nat) : Prop where
 map : MapL wr w.heap.size f n
 r4 : Kd.R (Kd.int .i64) 3 wr w.heap.size (fun b => b ≠ w.heap.size) v4 L4
 r5 : Kd.R (Kd.int .i64) 3 wr w.heap.size (fun b => b ≠ w.heap.size) v5 L5
 apart : ∀ b, v4.ownBlock = some b → v5.ownBlock ≠ some b
 below : Below w.heap.size w wr
namespace Cl
variable {w wr w1 : World} {v4 v5 v' : Value} {L4 L5 : List Int} {f : List Int → Option Int} {n : Nat}
theorem move (h : Cl w wr v4 v5 L4 L5 f n) (hb : Below wr.heap.size wr w1) : Cl w w1 v4 v5 L4 L5 f n :=
 ⟨h.map.below hb, Kd.R_below h.r4 hb, Kd.R_below h.r5 hb, h.apart, below_then h.below h.below.size hb⟩
theorem okR {e base : Nat} {W : World} {ok : Nat → Prop} {v : Value} {xs : List Int} {ok' : Nat → Prop} (h : Kd.R (Kd.int .i64) e W base ok v xs) (h' : ∀ k, v.ownBlock = some k → ok' k) : Kd.R (Kd.int .i64) e W base ok' v xs := ⟨h', h.2⟩
theorem ltR {e base : Nat} {W : World} {ok : Nat → Prop} {v : Value} {xs : List Int} (h : Kd.R (Kd.int .i64) e W base ok v xs) (k : Nat) (hk : v.ownBlock = some k) : k < W.heap.size := (Kd.R_bound h).1 k hk |>.2.2.1
theorem app5 {L : List Int} (h : Cl w wr v4 v5 L4 L5 f n) (hr : Kd.R (Kd.int .i64) 3 w1 w.heap.size (fun b => b ≠ w.heap.size) v' L) (hb : Below w.heap.size w w1) (hg : wr.grownBy w1 v5.ownBlock) (hat : v'.ownBlock = v5.ownBlock ∨ ∃ b, v'.ownBlock = some b ∧ wr.heap.size ≤ b) : Cl w w1 v4 v' L4 L f n where
 map := h.map.grown hg (fun e => h.r5.1 _ e.symm rfl)
 r4 := Kd.R_mono (Kd.R_grown (okR (ok' := fun b => b ≠ w.heap.size ∧ v5.ownBlock ≠ some b) h.r4 (fun k hk => ⟨h.r4.1 k hk, h.apart k hk⟩)) hg (fun k hk => hk.2.symm)) (fun k hk => hk.1)
 r5 := hr
 apart := fun b hb => by
  rcases hat with e | ⟨g, e, hge⟩
  ·rw [e]; exact h.apart b hb
  ·rw [e]; intro k; have := ltR h.r4 b hb; have := Option.some.inj k; omega
 below := hb
theorem app4 {L : List Int} (h : Cl w wr v4 v5 L4 L5 f n) (hr : Kd.R (Kd.int .i64) 3 w1 w.heap.size (fun b => b ≠ w.heap.size) v' L) (hb : Below w.heap.size w w1) (hg : wr.grownBy w1 v4.ownBlock) (hat : v'.ownBlock = v4.ownBlock ∨ ∃ b, v'.ownBlock = some b ∧ wr.heap.size ≤ b) : Cl w w1 v' v5 L L5 f n where
 map := h.map.grown hg (fun e => h.r4.1 _ e.symm rfl)
 r5 := Kd.R_mono (Kd.R_grown (okR (ok' := fun b => b ≠ w.heap.size ∧ v4.ownBlock ≠ some b) h.r5 (fun k hk => ⟨h.r5.1 k hk, fun e => h.apart k e hk⟩)) hg (fun k hk => hk.2.symm)) (fun k hk => hk.1)
 r4 := hr
 apart := fun b hb => by
  rcases hat with e | ⟨g, e, hge⟩
  ·rw [e] at hb; exact h.apart b hb
  ·rw [e] at hb; intro k; have := ltR h.r5 b k; have := Option.some.inj hb; omega
 below := hb
theorem put {f' : List Int → Option Int} {n' : Nat} (h : Cl w wr v4 v5 L4 L5 f n) (hM : MapL w1 w.heap.size f' n') (hg : wr.grownBy w1 (some w.heap.size)) : Cl w w1 v4 v5 L4 L5 f' n' where
 map := hM
 r4 := Kd.R_grown h.r4 hg (fun k hk e => hk (Option.some.inj e))
 r5 := Kd.R_grown h.r5 hg (fun k hk e => hk (Option.some.inj e))
 apart := h.apart
 below := h.below.grown hg h.below.size (fun k hk => by cases hk; exact Nat.le_refl _)
end Cl
theorem map_ne {κ β : Type} {kenc : κ → Value} {venc : β → Value} {ok : κ → Prop} {w : World} {b n : Nat} {f : κ → Option β} (h : MapF kenc venc ok w b f n) {g t : Nat} {cs : Array Value} (hS : Stays w g cs t) : g ≠ b := by
 rintro rfl
 obtain ⟨es, cl, l, h2, _⟩ := h.out
 have h1 : w.heap[g]? = some (.cells cs t (0, 0)) := hS
 rw [h1] at h2
 cases h2
theorem zero112' : ∃ cur : Array Value, cur.size = 64 ∧ ∀ w : World, (zeroValue 112).run Try.prog w = .ok (.agg cur) w := ⟨Array.replicate 64 (.int .u16 0), by simp, fun w => by kernel_rfl⟩
theorem i65 : (Try.prog.info? 112).map (·.size) = some 64 := by kernel_rfl
theorem look_line {w : World} {b : Nat} {f : List Int → Option Int} {n : Nat} (hM : MapL w b f n) {l : List Int} (hl : lineOk l) (v : Array Value) (hv : v = (nums .u16 l).toArray) : (Instr.lookup 136 (.map (some b)) (.agg v) false).run Try.prog w = .ok (.int .i64 ((f l).getD 0)) w := by
 subst hv
 have hq := hM.lookup line_key Try.underlying136 (zero3 w) hl false
 have e : ((f l).map (Value.int IntKind.i64)).getD (.int .i64 0) = .int .i64 ((f l).getD 0) := by cases f l <;> rfl
 simp only [Bool.false_eq_true, if_false, e] at hq
 exact hq
theorem classes_calls (A : Option Addr) (c : Nat) (ls : List (List Int)) (w : World) (hC : kLine.C w A ls.length ls) (hok : ∀ l ∈ ls, lineOk l) (hl : ls.length ≤ 64) :
  Calls Try.prog 34 #[.slice A ls.length c] w fun e w' => ∃ v4 v5, e = .returned (.tuple #[v4, v5]) ∧ Kd.R (Kd.int .i64) 3 w' w.heap.size (fun _ => True) v4 (numsOf ls) ∧ Kd.R (Kd.int .i64) 3 w' w.heap.size (fun _ => True) v5 (firstsOf ls) ∧ Below w.heap.size w w' := by
 have HC := jA hC
 have HOK := jA hok
 have HLL := jA hl
 have hmax : ls.length ≤ 9223372036854775807 := hC.2.1
 clear hC hok hl
 have hmm := @run_makeMap Try.prog
 go_enter Try.func34, Try.ntmps34
 go_wp2
 clear hmm
 obtain ⟨cur, hcur, hz⟩ := zero112'
 have HCUR := jA hcur
 clear hcur
 go_loopw [4, 5, 12] (fun u4 u5 u12 wr => ∃ (k : Nat) (f : List Int → Option Int) (n : Nat), k ≤ ls.length ∧ u12 = .int .i64 k ∧ Aside0 (Cl w wr u4 u5 (numsOf (ls.take k)) (firstsOf (ls.take k)) f n) ∧ Aside0 (∀ l, (l ∈ ls.take k → f l = some (num (ls.take k) l)) ∧ (l ∉ ls.take k → f l = none))) (fun _ _ u12 _ => ls.length - (intOf u12).toNat)
 case atStart => exact ⟨0, _, _, Nat.zero_le _, rfl, ⟨⟨MapF.made w, Kd.R_nil _ _ _ _ _, Kd.R_nil _ _ _ _ _, fun b h => by simp [Value.ownBlock] at h, (Below.refl _ _).alloc (Nat.le_refl _) _⟩⟩, ⟨fun l => by simp⟩⟩
 case round =>
  obtain ⟨k, f, n, hk, rfl, HR, HF⟩ := hrel
  by_cases hlt : k < ls.length
  ·obtain ⟨ad, cs, e0, hl, hK, hcell⟩ := Kd.C_get HC.out ([] : List Int) (k : Int) (by omega) (by omega)
   cases e0
   have hlo := HOK.out (ls[k]) (List.getElem_mem hlt)
   have hget : ls.getD (k : Int).toNat [] = ls[k] := by simp [hlt]
   rw [hget] at hK
   obtain ⟨_, rfl⟩ := Kd.arr_cells hK
   have htk : ls.take (k + 1) = ls.take k ++ [ls[k]] := List.take_succ_eq_append_getElem hlt
   obtain ⟨x, hxx⟩ : ∃ x, x = ls[k] := ⟨_, rfl⟩
   rw [← hxx] at hcell hlo htk
   have hcw : ∀ (j : Nat) (v : Value), (nums .u16 x)[j]? = some v → wr.cell? ((ad.add (k * 64)).add j) = some v := by
    intro j v hj
    have : w.cell? (ad.add (k * 64 + j)) = some v := hcell j v hj
    rw [← add_add] at this
    rw [HR.out.below.cell (World.block_lt_of_cell? w _ this)]
    exact this
   have hsz : (nums .u16 x).length = 64 := by rw [nums_length, hlo.1]
   have hfx := HF.out x
   have hlen : (ls.take k).length = k := by rw [List.length_take]; omega
   have h64 := HLL.out
   have hnl : (numsOf (ls.take k)).length = k := by rw [numsOf, List.length_map, hlen]
   have hfl : (firstsOf (ls.take k)).length ≤ k := by rw [firstsOf_length]; have := uniq_length (ls.take k); omega
   have Zb : ((numsOf (ls.take k)).length + 1) * 8 ≤ 140737488355328 := by omega
   have Zc : ((firstsOf (ls.take k)).length + 1) * 8 ≤ 140737488355328 := by omega
   have hnew : ls.take (k + 1) = ls.take k ++ [x] := htk
   have hl4 : numsOf (ls.take (k + 1)) = numsOf (ls.take k) ++ [num (ls.take (k + 1)) x] := by rw [htk]; exact numsOf_snoc _ _
   have hl5o : x ∈ ls.take k → firstsOf (ls.take (k + 1)) = firstsOf (ls.take k) := fun h => by rw [htk, firstsOf_old h]
   have hl5n : x ∉ ls.take k → firstsOf (ls.take (k + 1)) = firstsOf (ls.take k) ++ [(k : Int)] := fun h => by rw [htk, firstsOf_new h, hlen]
   have hnum : ∀ y, y ∈ ls.take k → num (ls.take (k + 1)) y = num (ls.take k) y := fun y hy => by rw [htk]; exact num_old hy
   have hnn : x ∉ ls.take k → num (ls.take (k + 1)) x = (((firstsOf (ls.take k)).length + 1 : Nat) : Int) := fun h => by rw [htk, num_new h, firstsOf_length]
   have hmem : ∀ y, y ∈ ls.take (k + 1) ↔ y ∈ ls.take k ∨ y = x := fun y => by rw [htk, List.mem_append, List.mem_singleton]
   have hpos := num_pos (ls.take k) x
   have hle : x ∈ ls.take k → num (ls.take k) x ≤ k := fun h => by have h1 := num_le h; have h2 := uniq_length (ls.take k); omega
   generalize numsOf (ls.take k) = L4 at *
   generalize firstsOf (ls.take k) = L5 at *
   have HCW := jA hcw
   have HLO := jA hlo
   have HSZ := jA hsz
   have HFX := jA hfx
   have Zd := jA Zb
   have Zf := jA Zc
   have HL4 := jA hl4
   have HL5o := jA hl5o
   have HL5n := jA hl5n
   have HNUM := jA hnum
   have HNN := jA hnn
   have HMEM := jA hmem
   have HPOS := jA hpos
   have HLE := jA hle
   clear hl hK hcell hget hcw hlo hsz hfx Zb Zc hl4 hl5o hl5n hnum hnn hmem hpos hle htk hxx hnl hfl hnew hlen h64
   have c0' : (k : Int) < ls.length := by omega
   have HSA := jA (show (nums .u16 x).toArray.size = cur.size by rw [List.size_toArray, HSZ.out, HCUR.out])
   have HIA := jA (show (Try.prog.info? 112).map (·.size) = some (nums .u16 x).toArray.size by rw [List.size_toArray, HSZ.out]; exact i65)
   have HIL := jA (show (Try.prog.info? 112).map (·.size) = some (nums .u16 x).length by rw [HSZ.out]; exact i65)
   have HOA := jA (show (nums .u16 x).toArray.all (·.oneCell') = true by rw [Array.all_eq_true_iff_forall_mem]; intro u hu; exact nums_one _ _ u (by simpa using hu))
   go_upto_region 6 with (first | ((with_reducible refine gate_dst (N := 16) rfl ?_); refine wpList_load_at rfl 112 (.tmp 15) rfl (ad.add (k * 64)) ?hx (nums .u16 x) HCW.out _ Try.underlying112 rfl HIL.out ?_; (case hx => rfl)) | ((with_reducible refine gate_store (t := 112) (p := 8) (v := .tmp 16) rfl ?_); refine wpList_store_var rfl 112 (.tmp 8) (.tmp 16) rfl wr.heap.size (nums .u16 x).toArray ?hx ?hy (cs := cur) (t := 112) (heap_alloc_new wr _) HSA.out HIA.out HOA.out ?_; (case hx => rfl); (case hy => rfl)))
   (try simp only [Act.put])
   have hb2 : Below wr.heap.size wr ((wr.alloc (.cells cur 112)).setCells wr.heap.size 0 (nums .u16 x).toArray.toList) := setCells_below (below_alloc (Below.refl _ _) _) (Nat.le_refl _) _
   have hS2 : Stays ((wr.alloc (.cells cur 112)).setCells wr.heap.size 0 (nums .u16 x).toArray.toList) wr.heap.size (nums .u16 x).toArray 112 := setCells_var (vs := (nums .u16 x).toArray) (heap_alloc_new wr _) (by rw [List.size_toArray, HSZ.out, HCUR.out])
   have hR2 := HR.out.move hb2
   obtain ⟨W2, hW2⟩ : ∃ W2, W2 = ((wr.alloc (.cells cur 112)).setCells wr.heap.size 0 (nums .u16 x).toArray.toList) := ⟨_, rfl⟩
   obtain ⟨g8, hg8⟩ : ∃ g8, g8 = wr.heap.size := ⟨_, rfl⟩
   rw [← hW2] at hS2 hR2 ⊢
   rw [← hg8] at hS2 ⊢
   obtain ⟨xa, hxa⟩ : ∃ xa, xa = (nums .u16 x).toArray := ⟨_, rfl⟩
   rw [← hxa] at hS2
   have HXA := jA hxa
   have hxs : (Try.prog.info? 112).map (·.size) = some xa.size := by rw [hxa, List.size_toArray, HSZ.out]; exact i65
   have HXS := jA hxs
   have HS2 := jA hS2
   have HR2 := jA hR2
   clear hb2 hS2 hR2 hW2 hg8 hxa hxs
   by_cases hin : x ∈ ls.take k
   ·have hlk := look_line HR2.out.map HLO.out xa HXA.out
    have hfx := HFX.out.1 hin
    rw [hfx, Option.getD_some] at hlk
    have hp := HPOS.out
    generalize hqq : num (ls.take k) x = q at *
    have hq0 : (q == (0 : Int)) = false := by rw [beq_eq_false_iff_ne]; omega
    have HIN := jA hin
    have HQQ := jA hqq
    have Zl := jA hfx
    clear hp hfx hqq hin
    go_wp2_with (first | ((with_reducible refine gate_dst (N := 18) rfl ?_); refine wpList_load_blk rfl 112 (.tmp 8) rfl g8 ?hx xa 112 HS2.out _ Try.underlying112 rfl HXS.out ?_; (case hx => rfl)) | ((with_reducible refine gate_dst (N := 31) rfl ?_); refine wpList_load_blk rfl 112 (.tmp 8) rfl g8 ?hx xa 112 HS2.out _ Try.underlying112 rfl HXS.out ?_; (case hx => rfl)) | ((with_reducible refine gate_builtin (b := .append) (xs := #[.tmp 29, .tmp 33]) rfl ?_); at_builtin; refine Kd.R_append (Kd.int .i64) (w0 := w) w.heap.size rfl (.tmp 29) (.tmp 33) 49 3 (.int .i64 0) 8 rfl Try.underlying49 info3 rfl (by decide) (by decide) u4 L4 q [.int .i64 q] (fun b => b ≠ w.heap.size) (fun _ => False) rfl rfl rfl (fun _ hk => hk.elim) (fun k hk e => by have := HR2.out.map.lt; omega) HR2.out.r4 HR2.out.below HR2.out.below.size Zd.out ?_; intro v8 w8 hR8 hB8 hg8 Za; have HR8 := jA (HR2.out.app4 hR8 hB8 hg8 Za); clear hR8 hB8 hg8 Za))
    go_roundw
    case rel => exact ⟨k + 1, f, n, by omega, by go_num, ⟨by rw [HL4.out, HNUM.out x HIN.out, HQQ.out, HL5o.out HIN.out]; exact HR8.out⟩, ⟨fun l => ⟨fun hl => by
     have hl2 : l ∈ ls.take k := by
      rcases (HMEM.out l).1 hl with h | h
      ·exact h
      ·rw [h]; exact HIN.out
     rw [HNUM.out l hl2]; exact (HF.out l).1 hl2, fun hl => (HF.out l).2 (fun h => hl ((HMEM.out l).2 (.inl h)))⟩⟩⟩
    case measure => simp [intOf]; omega
   ·have hlk := look_line HR2.out.map HLO.out xa HXA.out
    have hfx := HFX.out.2 hin
    rw [hfx, Option.getD_none] at hlk
    have HNIN := jA hin
    clear hfx hin
    go_upto_region 8 with (first | ((with_reducible refine gate_dst (N := 18) rfl ?_); refine wpList_load_blk rfl 112 (.tmp 8) rfl g8 ?hx xa 112 HS2.out _ Try.underlying112 rfl HXS.out ?_; (case hx => rfl)) | ((with_reducible refine gate_builtin (b := .append) (xs := #[.tmp 21, .tmp 23]) rfl ?_); at_builtin; refine Kd.R_append (Kd.int .i64) (w0 := w) w.heap.size rfl (.tmp 21) (.tmp 23) 49 3 (.int .i64 0) 8 rfl Try.underlying49 info3 rfl (by decide) (by decide) u5 L5 (k : Int) [.int .i64 k] (fun b => b ≠ w.heap.size) (fun _ => False) rfl rfl rfl (fun _ hk => hk.elim) (fun k hk e => by have := HR2.out.map.lt; omega) HR2.out.r5 HR2.out.below HR2.out.below.size Zf.out ?_; intro v8 w8 hR8 hB8 hg8 Za; have HR8 := jA (HR2.out.app5 hR8 hB8 hg8 Za); have HS8 := jA (show Stays w8 g8 xa 112 from (hg8.block _ (Array.getElem?_eq_some_iff.1 HS2.out).1 (Kd.R_ne HR2.out.r5 HS2.out (by decide))).trans HS2.out); clear hR8 hB8 hg8 Za))
    clear hlk
    obtain ⟨A8, c8, e8⟩ := Kd.R_slice HR8.out.r5
    obtain ⟨m, hm⟩ : ∃ m, m = (L5 ++ [(k : Int)]).length := ⟨_, rfl⟩
    rw [← hm] at e8
    subst e8
    have hm1 : m = L5.length + 1 := by rw [hm]; simp
    have HMM := jA hm1
    clear hm hm1
    obtain ⟨w9, hrun, hM9, hg9⟩ := HR8.out.map.update line_key Try.underlying136 HLO.out (m : Int)
    have Zg : (Instr.mapUpdate 136 (.map (some w.heap.size)) (.agg xa) (.int .i64 (m : Int))).run Try.prog w8 = .ok () w9 := by rw [HXA.out]; exact hrun
    have HR9 := jA (HR8.out.put hM9 hg9)
    have HS9 := jA (show Stays w9 g8 xa 112 from (hg9.block _ (Array.getElem?_eq_some_iff.1 HS8.out).1 (fun e => map_ne HR8.out.map HS8.out (Option.some.inj e))).trans HS8.out)
    clear hrun hM9 hg9
    go_upto_region 9 with (first | ((with_reducible refine gate_dst (N := 26) rfl ?_); refine wpList_load_blk rfl 112 (.tmp 8) rfl g8 ?hx xa 112 HS8.out _ Try.underlying112 rfl HXS.out ?_; (case hx => rfl)))
    clear Zg
    have hlk := look_line HR9.out.map HLO.out xa HXA.out
    rw [upd_same, Option.getD_some] at hlk
    go_wp2_with (first | ((with_reducible refine gate_dst (N := 31) rfl ?_); refine wpList_load_blk rfl 112 (.tmp 8) rfl g8 ?hx xa 112 HS9.out _ Try.underlying112 rfl HXS.out ?_; (case hx => rfl)) | ((with_reducible refine gate_builtin (b := .append) (xs := #[.tmp 29, .tmp 33]) rfl ?_); at_builtin; refine Kd.R_append (Kd.int .i64) (w0 := w) w.heap.size rfl (.tmp 29) (.tmp 33) 49 3 (.int .i64 0) 8 rfl Try.underlying49 info3 rfl (by decide) (by decide) u4 L4 (m : Int) [.int .i64 m] (fun b => b ≠ w.heap.size) (fun _ => False) rfl rfl rfl (fun _ hk => hk.elim) (fun k hk e => by have := HR9.out.map.lt; omega) HR9.out.r4 HR9.out.below HR9.out.below.size Zd.out ?_; intro v10 w10 Zh Zi Zj Ze; have Zk := jA (HR9.out.app4 Zh Zi Zj Ze); clear Zh Zi Zj Ze))
    go_roundw
    case rel => exact ⟨k + 1, _, _, by omega, by go_num, ⟨by rw [HL4.out, HNN.out HNIN.out, ← HMM.out, HL5n.out HNIN.out]; exact Zk.out⟩, ⟨fun l => ⟨fun hl => by
     by_cases e : l = x
     ·rw [e, upd_same, HNN.out HNIN.out, HMM.out]
     ·have hl2 : l ∈ ls.take k := by
       rcases (HMEM.out l).1 hl with h | h
       ·exact h
       ·exact absurd h e
      rw [upd_other _ _ e, HNUM.out l hl2]; exact (HF.out l).1 hl2, fun hl => by
     have e : l ≠ x := fun e => hl ((HMEM.out l).2 (.inr e))
     rw [upd_other _ _ e]; exact (HF.out l).2 (fun h => hl ((HMEM.out l).2 (.inl h)))⟩⟩⟩
    case measure => simp [intOf]; omega
  ·have hkk : k = ls.length := by omega
   subst hkk
   have hfin := HR.out
   rw [List.take_length] at hfin
   have HFI := jA hfin
   clear hfin
   obtain ⟨A4, c4, e4⟩ := Kd.R_slice HFI.out.r4
   obtain ⟨A5, c5, e5⟩ := Kd.R_slice HFI.out.r5
   go_wp2
   go_ret2
   exact ⟨_, _, rfl, Kd.R_mono HFI.out.r4 (fun _ _ => trivial), Kd.R_mono HFI.out.r5 (fun _ _ => trivial), HFI.out.below⟩
end Go.Proofs.Ytdgkppldopiaoaa.CClasses
/- mean.subject. -/
namespace Go.Proofs.Ytdgkppldopiaoaa.MPol
open Go.RowKit YtdgkppldopiaoaaW.PrintWords YtdgkppldopiaoaaW.PrintLast YtdgkppldopiaoaaW.PrintMore BMap BRow MLines MPut MClose MConcat MStand MSide Go.Maps
open PG YtdgkppldopiaoaaF
theorem wpList_store_one {P : Program} {w : World} {ops : Array Oper} {rest : List Oper} {op : Oper} {a : Act} {Q : Exit → Act → World → Prop} (hgd : op.guard = none) (ty : TypeId) (x y : Operand) (ho : op.op = .store ty x y) (b o : Nat) (v : Value) (hv : v.cells = #[v]) (h1 : v.oneCell' = true)
  (hx : a.eval x = .pointer (some ⟨b, o, none⟩)) (hy : a.eval y = v) (ht : w.there b o 1) (hi : (P.info? ty).map (·.size) = some 1) (h : wpList P ops Q rest (a.put op.dst undef) (w.setCell ⟨b, o, none⟩ v)) : wpList P ops Q (op :: rest) a w := by
 refine wpList_plain hgd fun K hK => ?_
 have hrun : (storeVar ty ⟨b, o, none⟩ v).run P w = .ok () (w.setCell ⟨b, o, none⟩ v) := by
  have := run_storeCells_cells (P := P) b o [v] 0 w (fun j hj => by simpa using (ht j (by simpa using hj)).1) (fun j hj => by simpa using (ht j (by simpa using hj)).2) (fun u hu => by rw [List.mem_singleton.1 hu]; exact h1)
  cases hq : P.info? ty with
  | none => simp [hq] at hi
  | some i =>
   have hs : i.size = 1 := by simpa [hq] using hi
   simp only [Nat.add_zero, World.setCells] at this
   simp [storeVar, sizeOf, typeInfo, hq, hv, hs, this]
 unfold Oper.wp execOp
 simp only [ho, hx, hy, Instr.storeAt, Instr.sureAddr, Sem.run_bind, Sem.run_pure, Result.andThen_ok, hrun]
 exact hK _ _ h
theorem z70 (w : World) : (zeroValue 70).run Try.prog w = .ok (.agg #[.string ⟨#[]⟩, .float .f64 0]) w := by kernel_rfl
theorem i54 : (Try.prog.info? 70).map (·.size) = some 2 := by kernel_rfl
theorem i52 : (Try.prog.info? 68).map (·.size) = some 1 := by kernel_rfl
theorem trust_skip {d : PolD} {s : ByteArray} {k : Nat} (hk : k < d.subs.length) (h : ∀ x ∈ d.subs.take k, x.f0 ≠ s) (he : d.subs[k].f0 = s) : d.trust s = some d.subs[k].f1 := by
 unfold PolD.trust
 have e : d.subs = d.subs.take k ++ d.subs[k] :: d.subs.drop (k + 1) := by rw [← List.drop_eq_getElem_cons hk, List.take_append_drop]
 have e2 : d.subs.find? (fun x => decide (x.f0 = s)) = some d.subs[k] := by
  rw [congrArg (List.find? (fun x => decide (x.f0 = s))) e, List.find?_append, List.find?_eq_none.2 (fun x hx => by simpa using h x hx), Option.none_or, List.find?_cons_of_pos (by simpa using he)]
 rw [e2]
 rfl
theorem trust_none {d : PolD} {s : ByteArray} (h : ∀ x ∈ d.subs, x.f0 ≠ s) : d.trust s = none := by
 unfold PolD.trust
 rw [List.find?_eq_none.2 (fun x hx => by simpa using h x hx)]
 rfl
theorem subject_calls (p : Pol) (s : ByteArray) (w : World) (hp : p.In w) (hd : p.d.Ok) (hs : okS s) :
  Calls Try.prog 54 #[.agg p.cells, .string s] w fun e w' => ∃ v, e = .returned (.tuple #[.agg v, .bool (p.d.trust s).isSome]) ∧ SideOf w' (p.d.trust s).isSome v s ((p.d.trust s).getD 0) (p.d.who s) ∧ Below w.heap.size w w' := by
 obtain ⟨d, A0, c0, A1, c1, A2, c2, A3, c3, A4, c4, A5, c5, A6, c6, A7, c7, A8, c8, A9, c9, A10, c10⟩ := p
 have hmax : d.subs.length ≤ 9223372036854775807 := hp.h1.2.1
 have HP := jA hp
 have HD := jA hd
 have HS := jA hs
 clear hd hp hs
 have hT := Two.start (Pol.mk d A0 c0 A1 c1 A2 c2 A3 c3 A4 c4 A5 c5 A6 c6 A7 c7 A8 c8 A9 c9 A10 c10) w
 have e1 := hT.s0.cell 1
 simp only [Pol.cells, Jt, Ju, Jv, noneV] at e1
 have HT := jA hT
 clear hT
 have hz := z145
 have hPost : ∀ v W, (∃ v', v = v' ∧ SideOf W (d.trust s).isSome v' s ((d.trust s).getD 0) (d.who s)) → True := fun _ _ _ => trivial
 clear hPost
 unfold Pol.cells
 unfold Pol.cells noneV at HT
 simp only [] at HT e1 ⊢
 go_enter Try.func54, Try.ntmps54
 go_wp2
 clear e1
 go_loopw [12] (fun u wr => ∃ k : Nat, k ≤ d.subs.length ∧ u = .int .i64 k ∧ Aside0 (Two (Pol.mk d A0 c0 A1 c1 A2 c2 A3 c3 A4 c4 A5 c5 A6 c6 A7 c7 A8 c8 A9 c9 A10 c10) w wr noneV) ∧ Aside0 (∀ x ∈ d.subs.take k, x.f0 ≠ s)) (fun u _ => d.subs.length - (intOf u).toNat)
 case atStart => exact ⟨0, Nat.zero_le _, rfl, HT, ⟨by simp⟩⟩
 case round =>
  obtain ⟨k, hk, rfl, HR, HN⟩ := hrel
  by_cases hlt : k < d.subs.length
  ·obtain ⟨ad, e0, hx0, hx1⟩ := at_T70 (HP.out.below HR.out.below).h1 (k : Int) (by omega) (by simp only []; omega)
   have hget : rd_T70 d.subs (k : Int) = d.subs[k] := by simp [rd_T70, hlt]
   simp only [hget, Int.toNat_natCast] at hx0 hx1
   have e0 : A1 = some ad := e0
   subst e0
   have htk : d.subs.take (k + 1) = d.subs.take k ++ [d.subs[k]] := List.take_succ_eq_append_getElem hlt
   have htr := trust_skip (s := s) hlt HN.out
   obtain ⟨x, hxx⟩ : ∃ x, x = d.subs[k] := ⟨_, rfl⟩
   rw [← hxx] at hx0 hx1 htk htr
   have HTK := jA htk
   have HTR := jA htr
   have hcw : ∀ (j : Nat) (v : Value), ([.string x.f0, .float .f64 x.f1] : List Value)[j]? = some v → wr.cell? ((ad.add (k * 2)).add j) = some v := by
    intro j v hj
    have hj2 : j < 2 := (List.getElem?_eq_some_iff.1 hj).1
    have : j = 0 ∨ j = 1 := by omega
    rcases this with rfl | rfl
    ·obtain rfl : Value.string x.f0 = v := by simpa using hj
     rw [Addr.add_zero']; exact hx0
    ·obtain rfl : Value.float .f64 x.f1 = v := by simpa using hj
     rw [add_add, add_field _ _ 1 (by omega)]; exact hx1
   have HCW := jA hcw
   have c0' : (k : Int) < d.subs.length := by omega
   clear hx0 hx1 hget htk htr hxx hcw
   go_upto_region 4 with (first | ((with_reducible refine gate_dst (N := 15) rfl ?_); refine wpList_load_at rfl 70 (.tmp 14) rfl (ad.add (k * 2)) ?hx [.string x.f0, .float .f64 x.f1] HCW.out _ Try.underlying70 rfl i54 ?_; (case hx => rfl); refine wpList_alloc_store rfl rfl 70 7 (.tmp 15) rfl rfl rfl #[.string ⟨#[]⟩, .float .f64 0] #[.string x.f0, .float .f64 x.f1] _ (z70 _) rfl i54 rfl (by simp [Value.oneCell']) ?hy ?hp ?_; (case hy => rfl); (case hp => rfl)))
   simp only [Act.put, List.setIfInBounds_toArray, List.set_cons_succ, List.set_cons_zero]
   have hS2 := heap_alloc_new wr (.cells #[.string x.f0, .float .f64 x.f1] 70)
   have hT2 := HR.out.move (below_alloc (Below.refl _ wr) (.cells #[.string x.f0, .float .f64 x.f1] 70))
   obtain ⟨W2, hW2⟩ : ∃ W2, W2 = wr.alloc (.cells #[.string x.f0, .float .f64 x.f1] 70) := ⟨_, rfl⟩
   obtain ⟨g7, hg7⟩ : ∃ g7, g7 = wr.heap.size := ⟨_, rfl⟩
   rw [← hg7] at hS2 ⊢
   rw [← hW2] at hS2 hT2 ⊢
   have hS2 : Stays W2 g7 #[.string x.f0, .float .f64 x.f1] 70 := hS2
   have x0 : W2.cell? ⟨g7, 0, none⟩ = some (.string x.f0) := hS2.cell 0
   have e5 := hT2.s0.cell 5
   have e6 := hT2.s0.cell 6
   simp only [Pol.cells, Jt, Ju, Jv] at e5 e6
   have HT2 := jA hT2
   have HS2 := jA hS2
   clear hS2 hT2 hW2 hg7
   by_cases he : x.f0 = s
   ·have hq : (x.f0.toList == s.toList) = true := by rw [he]; exact beq_self_eq_true _
    have Ze := jA (HTR.out he)
    clear he
    go_upto_region 6 with (first | (go_at_call 63; (with_reducible refine (stand_calls s A5 c5 d.mem A6 c6 d.inh _ (HP.out.below HT2.out.below).h5 (HP.out.below HT2.out.below).h6 HS.out (fun q hq => (List.mem_append.1 hq).elim (HD.out.mem q) (HD.out.inh q)) (by have := HD.out.lmem; have := HD.out.linh; omega)).mono ?_); rintro e w3 ⟨b, rfl, hS, hge, hb3⟩; have HT3 := jA (HT2.out.move hb3); have HS3 := jA (HS2.out.below hb3); have HSET := jA hS; have HLT := jA hS.lt; have HNE := jA (show b ≠ w.heap.size + 1 by have := (Array.getElem?_eq_some_iff.1 HT2.out.s1).1; omega); clear hS hge hb3) | ((with_reducible refine gate_dst (N := 8) rfl ?_); refine wpList_alloc_store rfl rfl 145 8 (.tmp 25) rfl rfl rfl noneV (sideV s 0 b) _ (z145 _) rfl i95 rfl (by simp [sideV, Value.oneCell']) ?hy ?hp ?_; (case hy => rfl); (case hp => rfl)))
    simp only [Act.put, List.setIfInBounds_toArray, List.set_cons_succ, List.set_cons_zero]
    have hS4 := heap_alloc_new w3 (.cells (sideV s 0 b) 145)
    have hb4 := below_alloc (Below.refl _ w3) (.cells (sideV s 0 b) 145)
    have hT4 := HT3.out.move hb4
    have hS7 := HS3.out.below hb4
    have Za := HSET.out.below hb4
    obtain ⟨W4, hW4⟩ : ∃ W4, W4 = w3.alloc (.cells (sideV s 0 b) 145) := ⟨_, rfl⟩
    obtain ⟨g8, hg8⟩ : ∃ g8, g8 = w3.heap.size := ⟨_, rfl⟩
    rw [← hg8] at hS4 ⊢
    rw [← hW4] at hS4 hT4 hS7 Za ⊢
    have hb8 : b ≠ g8 := by rw [hg8]; exact Nat.ne_of_lt HLT.out
    have h18 : w.heap.size + 1 < g8 := by rw [hg8]; exact (Array.getElem?_eq_some_iff.1 HT3.out.s1).1
    have hS4 : Stays W4 g8 (sideV s 0 b) 145 := hS4
    have x1 : W4.cell? ⟨g7, 1, none⟩ = some (.float .f64 x.f1) := hS7.cell 1
    have hth : W4.there g8 1 1 := fun j hj => by
     obtain rfl : j = 0 := by omega
     exact ⟨by rw [hS4.cell]; rfl, MPut.frozen_of_row hS4 _⟩
    have hS5 : Stays (W4.setCell ⟨g8, 1, none⟩ (.float .f64 x.f1)) g8 (sideV s x.f1 b) 145 := blk_put hS4 1 _ rfl
    have h15 : Stays (W4.setCell ⟨g8, 1, none⟩ (.float .f64 x.f1)) (w.heap.size + 1) noneV 145 := (Below.heap_setCell _ _ _ _ (by show w.heap.size + 1 ≠ g8; omega)).trans hT4.s1
    have Zb : IsSet (W4.setCell ⟨g8, 1, none⟩ (.float .f64 x.f1)) b (d.who s) := by
     obtain ⟨f, n, hM, hf⟩ := Za
     exact ⟨f, n, hM.setCell (by show g8 ≠ b; exact hb8.symm) _, hf⟩
    have Zc : Below w.heap.size w (W4.setCell ⟨g8, 1, none⟩ (.float .f64 x.f1)) := below_set hT4.below (by omega)
    have HTH := jA hth
    have HS5 := jA hS5
    have H15 := jA h15
    have Zd := jA Zb
    have HBEL := jA Zc
    clear hS4 hb4 hT4 hS7 Za hW4 hg8 hth hS5 h15 Zb Zc
    go_wp2_with (first | ((with_reducible refine gate_store (t := 68) (p := 28) (v := .tmp 27) rfl ?_); refine wpList_store_one rfl 68 (.tmp 28) (.tmp 27) rfl g8 1 (.float .f64 x.f1) rfl rfl ?hx ?hy HTH.out i52 ?_; (case hx => rfl); (case hy => rfl)) | ((with_reducible refine gate_dst (N := 29) rfl ?_); refine wpList_load_blk rfl 145 (.tmp 8) rfl g8 ?hx (sideV s x.f1 b) 145 HS5.out _ Try.underlying145 rfl i95 ?_; (case hx => rfl); refine wpList_store_var rfl 145 (.tmp 4) (.tmp 29) rfl (w.heap.size + 1) (sideV s x.f1 b) ?hx ?hy H15.out rfl i95 (by simp [sideV, Value.oneCell']) ?_; (case hx => rfl); (case hy => rfl)))
    (try simp only [Exit.inBlock, Exit.then])
    refine bodyPost_ret (results_ct rfl _ _ (w.heap.size + 1) 145 (sideV s x.f1 b) (0, 0) _ rfl (setCells_var H15.out rfl) Try.underlying145 rfl i95) rfl ?_
    rw [Ze.out]
    exact ⟨sideV s x.f1 b, rfl, ⟨fun _ => ⟨b, rfl, setCells_set Zd.out HNE.out _⟩, fun e => (by cases e)⟩, setCells_below HBEL.out (by omega) _⟩
   ·have hq : (x.f0.toList == s.toList) = false := by
     rw [Bool.eq_false_iff]
     intro e
     rw [beq_iff_eq, ByteArray.toList_eq, ByteArray.toList_eq] at e
     exact he (ByteArray.ext (Array.toList_inj.mp e))
    have HE := jA he
    clear he
    go_wp2
    go_roundw
    case rel => exact ⟨k + 1, by omega, by go_num, HT2, ⟨fun y hy => by rw [HTK.out, List.mem_append, List.mem_singleton] at hy; rcases hy with hy | rfl; exact HN.out y hy; exact HE.out⟩⟩
    case measure => simp [intOf]; omega
  ·have hkk : k = d.subs.length := by omega
   subst hkk
   have htn := trust_none (d := d) (s := s) (fun x hx => HN.out x (by rw [List.take_length]; exact hx))
   have HTN := jA htn
   clear htn
   go_wp2_with (first | ((with_reducible refine gate_store (t := 145) (p := 4) (v := .tmp 31) rfl ?_); refine wpList_store_var rfl 145 (.tmp 4) (.tmp 31) rfl (w.heap.size + 1) noneV ?hx ?hy HR.out.s1 rfl i95 (by simp [noneV, Value.oneCell']) ?_; (case hx => rfl); (case hy => rfl)))
   (try simp only [Exit.inBlock, Exit.then])
   refine bodyPost_ret (results_ct rfl _ _ (w.heap.size + 1) 145 noneV (0, 0) _ rfl (setCells_var HR.out.s1 rfl) Try.underlying145 rfl i95) rfl ?_
   rw [HTN.out]
   exact ⟨noneV, rfl, ⟨fun e => (by cases e), fun _ => rfl⟩, setCells_below HR.out.below (by omega) _⟩
end Go.Proofs.Ytdgkppldopiaoaa.MPol
/- mean.about. -/
namespace Go.Proofs.Ytdgkppldopiaoaa.MPol
open Go.RowKit YtdgkppldopiaoaaW.PrintWords YtdgkppldopiaoaaW.PrintLast YtdgkppldopiaoaaW.PrintMore BMap BRow MLines MPut MClose MConcat MStand MSide Go.Maps
open PG YtdgkppldopiaoaaF
structure Abt (p : Pol) (w W : World) (v1 v2 : Array Value) (b1 b2 : Nat) (R1 R2 : ByteArray → Prop) : Prop where
 below : Below w.heap.size w W
 s0 : Stays W w.heap.size p.cells 31
 s1 : Stays W (w.heap.size + 1) v1 145
 s2 : Stays W (w.heap.size + 1 + 1) v2 145
 set1 : IsSet W b1 R1
 set2 : IsSet W b2 R2
theorem Abt.move {p : Pol} {w W W1 : World} {v1 v2 : Array Value} {b1 b2 : Nat} {R1 R2 : ByteArray → Prop} (h : Abt p w W v1 v2 b1 b2 R1 R2) (hb : Below W.heap.size W W1) : Abt p w W1 v1 v2 b1 b2 R1 R2 :=
 ⟨below_then h.below h.below.size hb, h.s0.below hb, h.s1.below hb, h.s2.below hb, h.set1.below hb, h.set2.below hb⟩
theorem Abt.start (p : Pol) (w : World) (v1 v2 : Array Value) {b1 b2 : Nat} {R1 R2 : ByteArray → Prop} (h1 : IsSet w b1 R1) (h2 : IsSet w b2 R2) : Abt p w (((w.alloc (.cells p.cells 31)).alloc (.cells v1 145)).alloc (.cells v2 145)) v1 v2 b1 b2 R1 R2 := by
 have hb1 : Below w.heap.size w (w.alloc (.cells p.cells 31)) := below_alloc (Below.refl _ _) _
 have hb2 := below_alloc hb1 (.cells v1 145)
 have hb3 := below_alloc hb2 (.cells v2 145)
 have e1 := heap_alloc_new (w.alloc (.cells p.cells 31)) (.cells v1 145)
 have e2 := heap_alloc_new ((w.alloc (.cells p.cells 31)).alloc (.cells v1 145)) (.cells v2 145)
 rw [World.size_alloc] at e1
 rw [World.size_alloc, World.size_alloc] at e2
 exact ⟨hb3, (Below.heap_alloc _ _ _ (by simp only [World.size_alloc]; omega)).trans ((Below.heap_alloc _ _ _ (by simp only [World.size_alloc]; omega)).trans (heap_alloc_new w _)), (Below.heap_alloc _ _ _ (by simp only [World.size_alloc]; omega)).trans e1, e2, h1.below hb3, h2.below hb3⟩
theorem Abt.grown {p : Pol} {w W W1 : World} {v1 v2 : Array Value} {b1 b2 : Nat} {R1 R2 : ByteArray → Prop} (h : Abt p w W v1 v2 b1 b2 R1 R2) {row : Option Nat} (hg : W.grownBy W1 row) (hb : Below w.heap.size w W1) (h0 : some w.heap.size ≠ row) (h1 : some (w.heap.size + 1) ≠ row) (h2 : some (w.heap.size + 1 + 1) ≠ row) (h3 : some b1 ≠ row) (h4 : some b2 ≠ row) : Abt p w W1 v1 v2 b1 b2 R1 R2 := by
 have mv : ∀ {b : Nat} {R : ByteArray → Prop}, IsSet W b R → some b ≠ row → IsSet W1 b R := by
  rintro b R ⟨f, n, hM, hf⟩ hne
  exact ⟨f, n, hM.grown hg hne, hf⟩
 exact ⟨hb, (hg.block _ (Array.getElem?_eq_some_iff.1 h.s0).1 h0).trans h.s0, (hg.block _ (Array.getElem?_eq_some_iff.1 h.s1).1 h1).trans h.s1, (hg.block _ (Array.getElem?_eq_some_iff.1 h.s2).1 h2).trans h.s2, mv h.set1 h3, mv h.set2 h4⟩
theorem z78v (w : World) : (zeroValue 73).run Try.prog w = .ok (.agg #[(.bool false), (.string ⟨#[]⟩), (.string ⟨#[]⟩), (.slice none 0 0), (.int .i8 0), (.float .f64 0)]) w := by kernel_rfl
theorem speaks_go (r : S73) (A3 : Option Addr) (c3 : Nat) (n1 : ByteArray) (t1 b1 : Nat) (R1 : ByteArray → Prop) (n2 : ByteArray) (t2 b2 : Nat) (R2 : ByteArray → Prop) (w : World) (q : Bool) (hq : speaksB r R1 R2 t1 = q)
  (hC : Kd.C Kd.string w A3 r.f3.length r.f3) (hc : r.f3.length ≤ c3) (h1 : IsSet w b1 R1) (h2 : IsSet w b2 R2) (o1 : okS r.f1) (o2 : okS r.f2) (v1 v2 : Array Value) (hv1 : v1 = sideV n1 t1 b1) (hv2 : v2 = sideV n2 t2 b2) :
  Calls Try.prog 64 #[.agg (ruleV r A3 c3), .agg v1, .agg v2] w fun e w' => e = .returned (.bool q) ∧ Below w.heap.size w w' := by
 subst hq; subst hv1; subst hv2; exact speaks_calls r A3 c3 n1 t1 b1 R1 n2 t2 b2 R2 w hC hc h1 h2 o1 o2
end Go.Proofs.Ytdgkppldopiaoaa.MPol
/- mean.allows, in plain words. -/
namespace Go.Proofs.Ytdgkppldopiaoaa.MPol
open Go.RowKit YtdgkppldopiaoaaW.PrintWords YtdgkppldopiaoaaW.PrintLast YtdgkppldopiaoaaW.PrintMore MLines MSide
open PG YtdgkppldopiaoaaF
theorem beq_str (a b : ByteArray) : (a.toList == b.toList) = decide (a = b) := by
 rw [Bool.eq_iff_iff, decide_eq_true_iff, beq_iff_eq, ByteArray.toList_eq, ByteArray.toList_eq]
 exact ⟨fun h => ByteArray.ext (Array.toList_inj.mp h), fun h => by rw [h]⟩
def namesP (r : S73) (a : ByteArray) : Prop := r.f3 = [] ∨ a ∈ r.f3
def mayP (rules : List S73) (a : ByteArray) : Prop := (∃ r ∈ rules, namesP r a) ∧ ∀ r ∈ rules, namesP r a → r.f0 = false
open Classical in
noncomputable def allowsF (rules : List S73) (exc : List S41) (t : S41) : Bool := decide (mayP rules t.f2 ∧ t ∉ exc)
theorem names_f (r : S73) (a : ByteArray) (hl : r.f3.length ≤ 9223372036854775807) : ∃ b, Ev (fun k => mean_names.f k r.f0 r.f1 r.f2 r.f3 r.f4 r.f5 a) b ∧ (b = true ↔ namesP r a) := by
 unfold mean_names.f namesP
 by_cases h : r.f3 = []
 ·rw [h]
  exact ⟨true, Ev.congr (f := fun _ => some true) (fun k => by simp) (Ev.now _), by simp⟩
 ·have hne : ¬ ((r.f3.length : Int) = 0) := by
   intro e
   exact h (List.eq_nil_of_length_eq_zero (by omega))
  refine ⟨_, Ev.congr (f := fun k => (slices_Contains_string_string.f k r.f3 a).bind fun t => some t) (fun k => by rw [if_neg hne]) (Ev.bind (f := fun _ t => some t) (VPure.contains_f r.f3 a hl) (Ev.now _)), ?_⟩
  rw [decide_eq_true_iff, mem_nm]
  simp [h]
theorem triple_l0 (l : List S41) (t : S41) (hl : l.length ≤ 9223372036854775807) : ∀ (d n : Nat), n + d = l.length → ∃ i : Int, Ev (fun k => api_Triple_78.l0 k l l.length n t.f0 t.f1 t.f2) i ∧ (0 ≤ i ↔ t ∈ l.drop n)
 | 0, n, h => by
  rw [List.drop_eq_nil_of_le (by omega)]
  refine ⟨-1, Ev.step (f := fun _ => some (-1)) (fun k => ?_) (Ev.now _), by simp⟩
  simp only [api_Triple_78.l0]
  rw [if_neg (by omega)]
 | d + 1, n, h => by
  have hlt : n < l.length := by omega
  have hrd : rd_T41 l (n : Int) = l[n] := by simp [rd_T41, hlt]
  have hdr : l.drop n = l[n] :: l.drop (n + 1) := List.drop_eq_getElem_cons hlt
  by_cases he : t = l[n]
  ·refine ⟨n, Ev.step (f := fun _ => some (n : Int)) (fun k => ?_) (Ev.now _), by rw [hdr, he]; exact ⟨fun _ => List.mem_cons_self, fun _ => by omega⟩⟩
   simp only [api_Triple_78.l0]
   rw [if_pos (by omega), if_pos (by omega), if_pos (by omega), hrd, if_pos (by rw [← he]; simp)]
  ·obtain ⟨i, h1, h2⟩ := triple_l0 l t hl d (n + 1) (by omega)
   refine ⟨i, Ev.step (fun k => ?_) h1, by rw [h2, hdr, List.mem_cons]; simp [he]⟩
   have hne : ¬ ((t.f0.toList == l[n].f0.toList && (t.f1.toList == l[n].f1.toList && (t.f2.toList == l[n].f2.toList))) = true) := by
    rw [beq_str, beq_str, beq_str]
    simp only [Bool.and_eq_true, decide_eq_true_eq]
    rintro ⟨a, b, c⟩
    refine he ?_
    cases t; cases hx : l[n]; rw [hx] at a b c; simp only at a b c; subst a; subst b; subst c; rfl
   simp only [api_Triple_78.l0]
   rw [if_pos (by omega), if_pos (by omega), if_pos (by omega), hrd, if_neg hne, Go.Proofs.Ytdgkppldopiaoaa.VPure.w64n hlt hl]
theorem excepted_f (l : List S41) (t : S41) (hl : l.length ≤ 9223372036854775807) : ∃ b, Ev (fun k => api_Triple_66.f k l t.f0 t.f1 t.f2) b ∧ (b = true ↔ t ∈ l) := by
 obtain ⟨i, h1, h2⟩ := triple_l0 l t hl l.length 0 (by omega)
 rw [List.drop_zero] at h2
 exact ⟨_, Ev.bind (f := fun _ t => some (decide (t ≥ 0))) h1 (Ev.now _), by rw [decide_eq_true_iff]; exact h2⟩
theorem bool_is {b q : Bool} {p : Prop} [Decidable p] (h : b = true ↔ p) (hq : decide p = q) : b = q := by
 subst hq
 rw [Bool.eq_iff_iff, decide_eq_true_iff]
 exact h
open Classical in
theorem names_go (r : S73) (A3 : Option Addr) (c3 : Nat) (a : ByteArray) (w : World) (q : Bool) (hq : decide (namesP r a) = q) (h : Kd.C Kd.string w A3 r.f3.length r.f3) (hc : r.f3.length ≤ c3) :
  Calls Try.prog 65 #[.agg (ruleV r A3 c3), .string a] w fun e w' => e = .returned (.bool q) ∧ Below w.heap.size w w' := by
 obtain ⟨b, h1, h2⟩ := names_f r a h.2.1
 obtain rfl := bool_is h2 hq
 obtain ⟨k, hk⟩ := h1.rounds
 exact mean_names.calls k r.f0 r.f1 r.f2 A3 c3 r.f3 r.f4 r.f5 a _ w h hc hk
open Classical in
theorem excepted_go (A : Option Addr) (c : Nat) (l : List S41) (t : S41) (w : World) (q : Bool) (hq : decide (t ∈ l) = q) (h : Kd.C k41 w A l.length l) (hc : l.length ≤ c) :
  Calls Try.prog 66 #[.slice A l.length c, .agg #[.string t.f0, .string t.f1, .string t.f2]] w fun e w' => e = .returned (.bool q) ∧ Below w.heap.size w w' := by
 obtain ⟨b, h1, h2⟩ := excepted_f l t h.2.1
 obtain rfl := bool_is h2 hq
 obtain ⟨k, hk⟩ := h1.rounds
 exact api_Triple_66.calls k A c l t.f0 t.f1 t.f2 _ w h hc hk
end Go.Proofs.Ytdgkppldopiaoaa.MPol
/- mean.allows. -/
namespace Go.Proofs.Ytdgkppldopiaoaa.MPol
open Go.RowKit YtdgkppldopiaoaaW.PrintWords YtdgkppldopiaoaaW.PrintLast YtdgkppldopiaoaaW.PrintMore BMap BRow MLines MPut MClose MConcat MStand MSide Go.Maps
open PG YtdgkppldopiaoaaF
def tripV (t : S41) : Array Value := #[.string t.f0, .string t.f1, .string t.f2]
structure Alw (p : Pol) (w W : World) (t : S41) : Prop where
 below : Below w.heap.size w W
 s0 : Stays W w.heap.size p.cells 31
 s1 : Stays W (w.heap.size + 1) (tripV t) 41
theorem Alw.move {p : Pol} {w W W1 : World} {t : S41} (h : Alw p w W t) (hb : Below W.heap.size W W1) : Alw p w W1 t := ⟨below_then h.below h.below.size hb, h.s0.below hb, h.s1.below hb⟩
theorem Alw.start (p : Pol) (w : World) (t : S41) : Alw p w ((w.alloc (.cells p.cells 31)).alloc (.cells (tripV t) 41)) t := by
 have hb1 : Below w.heap.size w (w.alloc (.cells p.cells 31)) := below_alloc (Below.refl _ _) _
 have e1 := heap_alloc_new (w.alloc (.cells p.cells 31)) (.cells (tripV t) 41)
 rw [World.size_alloc] at e1
 exact ⟨below_alloc hb1 _, (Below.heap_alloc _ _ _ (by simp only [World.size_alloc]; omega)).trans (heap_alloc_new w _), e1⟩
open Classical in
theorem allowsF_iff (rules : List S73) (exc : List S41) (t : S41) : allowsF rules exc t = true ↔ mayP rules t.f2 ∧ t ∉ exc := by unfold allowsF; exact decide_eq_true_iff
theorem i28 : (Try.prog.info? 41).map (·.size) = some 3 := by kernel_rfl
open Classical in
theorem allows_calls (p : Pol) (A : Option Addr) (c : Nat) (l1 : List S73) (t : S41) (w : World) (hC : Kd.C k73 w A l1.length l1) (hE : Kd.C k41 w p.A10 p.d.exc.length p.d.exc) (hc : p.d.exc.length ≤ p.c10) (q : Bool) (hq : allowsF l1 p.d.exc t = q) :
  Calls Try.prog 58 #[.agg p.cells, .slice A l1.length c, .agg (tripV t)] w fun e w' => e = .returned (.bool q) ∧ Below w.heap.size w w' := by
 have hmax : l1.length ≤ 9223372036854775807 := hC.2.1
 have HC := jA hC
 have HE := jA hE
 have HCC := jA hc
 have HQ := jA hq
 have hA := Alw.start p w t
 have HA := jA hA
 clear hA hC hE hc hq
 have hpv : ∃ pv, pv = p.cells := ⟨_, rfl⟩
 unfold Pol.cells tripV
 unfold Pol.cells tripV at HA
 clear hpv
 go_enter Try.func58, Try.ntmps58
 go_wp2
 go_loopw [7, 12] (fun u7 u12 wr => ∃ (k : Nat) (y : Bool), k ≤ l1.length ∧ u12 = .int .i64 k ∧ u7 = .bool y ∧ Aside0 (Alw p w wr t) ∧ Aside0 (y = true ↔ ∃ r ∈ l1.take k, namesP r t.f2) ∧ Aside0 (∀ r ∈ l1.take k, namesP r t.f2 → r.f0 = false)) (fun _ u12 _ => l1.length - (intOf u12).toNat)
 case atStart => exact ⟨0, false, Nat.zero_le _, rfl, rfl, HA, ⟨by simp⟩, ⟨by simp⟩⟩
 case round =>
  obtain ⟨k, y, hk, rfl, rfl, HR, HY, HN⟩ := hrel
  by_cases hlt : k < l1.length
  ·obtain ⟨ad, cs, e0, hcl, hK, hcell⟩ := Kd.C_get HC.out z73 (k : Int) (by omega) (by omega)
   subst e0
   have hget : l1.getD (k : Int).toNat z73 = l1[k] := by simp [hlt]
   have hK : k73.K w l1[k] cs := by rw [← hget]; exact hK
   have htk : l1.take (k + 1) = l1.take k ++ [l1[k]] := List.take_succ_eq_append_getElem hlt
   have hin : l1[k] ∈ l1 := List.getElem_mem hlt
   obtain ⟨x, hxx⟩ : ∃ x, x = l1[k] := ⟨_, rfl⟩
   rw [← hxx] at hK htk hin
   obtain ⟨A3', c3', rfl, l3, g3⟩ := k73_open hK
   have hcw : ∀ (j : Nat) (v : Value), ([.bool x.f0, .string x.f1, .string x.f2, .slice A3' x.f3.length c3', .int .i8 x.f4, .float .f64 x.f5] : List Value)[j]? = some v → wr.cell? ((ad.add (k * 6)).add j) = some v := by
    intro j v hj
    have h0 : w.cell? (ad.add (k * 6 + j)) = some v := hcell j v hj
    rw [add_add]
    exact pw_cell_below HR.out.below h0
   have HCW := jA hcw
   have HTK := jA htk
   have HIN := jA hin
   have HL3 := jA l3
   have HG3 := jA g3
   have c0' : (k : Int) < l1.length := by omega
   clear hcell hK hget htk hin hxx hcw hcl l3 g3
   go_upto_region 5 with (first | ((with_reducible refine gate_dst (N := 15) rfl ?_); refine wpList_load_at rfl 73 (.tmp 14) rfl (ad.add (k * 6)) ?hx [.bool x.f0, .string x.f1, .string x.f2, .slice A3' x.f3.length c3', .int .i8 x.f4, .float .f64 x.f5] HCW.out _ Try.underlying73 rfl i78 ?_; (case hx => rfl); refine wpList_alloc_store rfl rfl 73 9 (.tmp 15) rfl rfl rfl #[(.bool false), (.string ⟨#[]⟩), (.string ⟨#[]⟩), (.slice none 0 0), (.int .i8 0), (.float .f64 0)] (ruleV x A3' c3') _ (z78v _) rfl i78 rfl (by simp [ruleV, Value.oneCell']) ?hy ?hp ?_; (case hy => rfl); (case hp => rfl)))
   simp only [Act.put, List.setIfInBounds_toArray, List.set_cons_succ, List.set_cons_zero]
   have hS2 := heap_alloc_new wr (.cells (ruleV x A3' c3') 73)
   have hA2 := HR.out.move (below_alloc (Below.refl _ wr) (.cells (ruleV x A3' c3') 73))
   obtain ⟨W2, hW2⟩ : ∃ W2, W2 = wr.alloc (.cells (ruleV x A3' c3') 73) := ⟨_, rfl⟩
   obtain ⟨g9, hg9⟩ : ∃ g9, g9 = wr.heap.size := ⟨_, rfl⟩
   rw [← hg9] at hS2 ⊢
   rw [← hW2] at hS2 hA2 ⊢
   have hS2 : Stays W2 g9 (ruleV x A3' c3') 73 := hS2
   have e2 : W2.cell? ⟨w.heap.size + 1, 2, none⟩ = some (.string t.f2) := hA2.s1.cell 2
   have HA2 := jA hA2
   have HS2 := jA hS2
   clear hS2 hA2 hW2 hg9
   obtain ⟨nb, hnb⟩ : ∃ nb, decide (namesP x t.f2) = nb := ⟨_, rfl⟩
   have HNB := jA hnb
   clear hnb
   obtain ⟨db, hdb⟩ : ∃ db, x.f0 = db := ⟨_, rfl⟩
   have HDB := jA hdb
   clear hdb
   have WALK : True := trivial
   cases nb with
   | false =>
    go_wp2_with (first | ((with_reducible refine gate_dst (N := 16) rfl ?_); refine wpList_load_blk rfl 73 (.tmp 9) rfl g9 ?hx (ruleV x A3' c3') 73 HS2.out _ Try.underlying73 rfl i78 ?_; (case hx => rfl)) | (go_at_call 65; (with_reducible refine (names_go x A3' c3' t.f2 _ _ HNB.out (Kd.C_below HG3.out HA2.out.below) HL3.out).mono ?_); rintro e w3 ⟨rfl, hb3⟩; have HA3 := jA (HA2.out.move hb3); clear hb3))
    go_roundw
    case rel => exact ⟨k + 1, y, by omega, by go_num, rfl, HA3, ⟨by rw [HTK.out, HY.out]; simp [of_decide_eq_false HNB.out]⟩, ⟨fun r hr hn => by rw [HTK.out, List.mem_append, List.mem_singleton] at hr; rcases hr with hr | rfl; exact HN.out r hr hn; exact absurd hn (of_decide_eq_false HNB.out)⟩⟩
    case measure => simp [intOf]; omega
   | true =>
    cases db with
    | true =>
     go_wp2_with (first | ((with_reducible refine gate_dst (N := 16) rfl ?_); refine wpList_load_blk rfl 73 (.tmp 9) rfl g9 ?hx (ruleV x A3' c3') 73 HS2.out _ Try.underlying73 rfl i78 ?_; (case hx => rfl)) | (go_at_call 65; (with_reducible refine (names_go x A3' c3' t.f2 _ _ HNB.out (Kd.C_below HG3.out HA2.out.below) HL3.out).mono ?_); rintro e w3 ⟨rfl, hb3⟩; have x0 : w3.cell? ⟨g9, 0, none⟩ = some (.bool true) := ((HS2.out.below hb3).cell 0).trans (by simp [ruleV, HDB.out]); have HA3 := jA (HA2.out.move hb3); clear hb3))
     go_ret
     refine ⟨?_, HA3.out.below⟩
     have hqf : q = false := by
      rw [← HQ.out]
      refine decide_eq_false ?_
      rintro ⟨⟨-, h2⟩, -⟩
      have := h2 x HIN.out (of_decide_eq_true HNB.out)
      rw [HDB.out] at this
      cases this
     rw [hqf]
     rfl
    | false =>
     go_wp2_with (first | ((with_reducible refine gate_dst (N := 16) rfl ?_); refine wpList_load_blk rfl 73 (.tmp 9) rfl g9 ?hx (ruleV x A3' c3') 73 HS2.out _ Try.underlying73 rfl i78 ?_; (case hx => rfl)) | (go_at_call 65; (with_reducible refine (names_go x A3' c3' t.f2 _ _ HNB.out (Kd.C_below HG3.out HA2.out.below) HL3.out).mono ?_); rintro e w3 ⟨rfl, hb3⟩; have x0 : w3.cell? ⟨g9, 0, none⟩ = some (.bool false) := ((HS2.out.below hb3).cell 0).trans (by simp [ruleV, HDB.out]); have HA3 := jA (HA2.out.move hb3); clear hb3))
     go_roundw
     case rel => exact ⟨k + 1, true, by omega, by go_num, rfl, HA3, ⟨by rw [HTK.out]; exact ⟨fun _ => ⟨x, by simp, of_decide_eq_true HNB.out⟩, fun _ => rfl⟩⟩, ⟨fun r hr hn => by rw [HTK.out, List.mem_append, List.mem_singleton] at hr; rcases hr with hr | rfl; exact HN.out r hr hn; exact HDB.out⟩⟩
     case measure => simp [intOf]; omega
  ·have hkk : k = l1.length := by omega
   subst hkk
   have hY := HY.out
   have hN := HN.out
   rw [List.take_length] at hY hN
   have HY2 := jA hY
   have HN2 := jA hN
   clear hY hN
   have e10 := HR.out.s0.cell 10
   simp only [Pol.cells, Jt, Ju, Jv] at e10
   have f0 : wr.cell? ⟨w.heap.size + 1, 0, none⟩ = some (.string t.f0) := HR.out.s1.cell 0
   have f1 : wr.cell? ⟨w.heap.size + 1, 1, none⟩ = some (.string t.f1) := HR.out.s1.cell 1
   have f2 : wr.cell? ⟨w.heap.size + 1, 2, none⟩ = some (.string t.f2) := HR.out.s1.cell 2
   obtain ⟨xb, hxb⟩ : ∃ xb, decide (t ∈ p.d.exc) = xb := ⟨_, rfl⟩
   have HXB := jA hxb
   clear hxb
   have hqv : q = (y && !xb) := by
    rw [← HQ.out, Bool.eq_iff_iff, Bool.and_eq_true, Bool.not_eq_true', HY2.out, ← HXB.out, decide_eq_false_iff_not]
    rw [allowsF_iff]
    exact ⟨fun h => ⟨h.1.1, h.2⟩, fun h => ⟨⟨h.1, HN2.out⟩, h.2⟩⟩
   have HQV := jA hqv
   clear hqv
   cases y with
   | false =>
    go_wp2
    go_ret
    refine ⟨?_, HR.out.below⟩
    rw [HQV.out]
    rfl
   | true =>
    go_wp2_with (first | (go_at_call 66; (with_reducible refine (excepted_go p.A10 p.c10 p.d.exc t _ _ HXB.out (Kd.C_below HE.out HR.out.below) HCC.out).mono ?_); rintro e w3 ⟨rfl, hb3⟩; have HA3 := jA (HR.out.move hb3); clear hb3))
    go_ret
    refine ⟨?_, HA3.out.below⟩
    rw [HQV.out]
    rfl
end Go.Proofs.Ytdgkppldopiaoaa.MPol
/- slices.IndexFunc of the subjects; mean.once. -/
namespace Go.Proofs.Ytdgkppldopiaoaa.MPol
open Go.RowKit YtdgkppldopiaoaaW.PrintWords YtdgkppldopiaoaaW.PrintLast YtdgkppldopiaoaaW.PrintMore BMap BRow MLines MPut MClose MConcat MStand MSide Go.Maps
open PG YtdgkppldopiaoaaF
theorem same_calls (n : ByteArray) (f g : Nat) (s : ByteArray) (w : World) (h : w.cell? ⟨g, 0, none⟩ = some (.string s)) (q : Bool) (hq : decide (n = s) = q) :
  Calls Try.prog 53 #[.agg #[.string n, .float .f64 f], .pointer (some ⟨g, 0, none⟩)] w fun e w' => e = .returned (.bool q) ∧ Below w.heap.size w w' := by
 have hb := beq_str n s
 rw [hq] at hb
 have h2 : (w.alloc (.cells #[.string n, .float .f64 f] 70)).cell? ⟨g, 0, none⟩ = some (.string s) := pw_cell_below (below_alloc (Below.refl _ _) _) h
 clear hq h
 go_enter Try.func53, Try.ntmps53
 go_wp2
 go_ret
 refine ⟨?_, below_alloc (Below.refl _ _) _⟩
 first | rfl | (rw [← hb]; rfl)
theorem index_calls (A : Option Addr) (c : Nat) (l : List S70) (g : Nat) (s : ByteArray) (w : World) (hC : Kd.C k70 w A l.length l) (hg : w.cell? ⟨g, 0, none⟩ = some (.string s)) (i : Nat) (hi : i < l.length) (he : l[i].f0 = s) :
  Calls Try.prog 52 #[.slice A l.length c, .func (.func 53) #[] #[.pointer (some ⟨g, 0, none⟩)]] w fun e w' => ∃ j : Nat, e = .returned (.int .i64 j) ∧ j ≤ i ∧ (∃ h : j < l.length, l[j].f0 = s) ∧ (∀ x ∈ l.take j, x.f0 ≠ s) ∧ Below w.heap.size w w' := by
 have hmax : l.length ≤ 9223372036854775807 := hC.2.1
 have HC := jA hC
 have HG := jA hg
 have HE := jA he
 have HI := jA hi
 clear hC hg he
 go_enter Try.func52, Try.ntmps52
 go_wp2
 go_loopw [8] (fun u wr => ∃ k : Nat, k ≤ i ∧ u = .int .i64 k ∧ Aside0 (Below w.heap.size w wr) ∧ Aside0 (∀ x ∈ l.take k, x.f0 ≠ s)) (fun u _ => l.length - (intOf u).toNat)
 case atStart => exact ⟨0, Nat.zero_le _, rfl, ⟨Below.refl _ _⟩, ⟨by simp⟩⟩
 case round =>
  obtain ⟨k, hk, rfl, HB, HN⟩ := hrel
  have hlt : k < l.length := Nat.lt_of_le_of_lt hk HI.out
  obtain ⟨ad, e0, hx0, hx1⟩ := at_T70 HC.out (k : Int) (by omega) (by omega)
  subst e0
  have hget : rd_T70 l (k : Int) = l[k] := by simp [rd_T70, hlt]
  simp only [hget, Int.toNat_natCast] at hx0 hx1
  have htk : l.take (k + 1) = l.take k ++ [l[k]] := List.take_succ_eq_append_getElem hlt
  have hki : l[k].f0 ≠ s → k < i := fun h => by
   have : k ≠ i := fun e => h (by subst e; exact HE.out)
   omega
  have HW := jA (show ∃ h : k < l.length, l[k].f0 = l[k].f0 from ⟨hlt, rfl⟩)
  obtain ⟨x, hxx⟩ : ∃ x, x = l[k] := ⟨_, rfl⟩
  rw [← hxx] at hx0 hx1 htk hki
  have HXX := jA hxx
  have HTK := jA htk
  have HKI := jA hki
  have y0 := pw_cell_below HB.out hx0
  have y1 := pw_cell_below HB.out hx1
  have hg2 := pw_cell_below HB.out HG.out
  have HG2 := jA hg2
  have c0' : (k : Int) < l.length := by omega
  obtain ⟨q, hq⟩ : ∃ q, decide (x.f0 = s) = q := ⟨_, rfl⟩
  have HQ := jA hq
  clear hq hx0 hx1 hget hxx htk hki hg2
  cases q with
  | true =>
   go_wp2_with (first | (go_at_call 53; (with_reducible refine (same_calls x.f0 x.f1 g s _ HG2.out _ HQ.out).mono ?_); rintro e w3 ⟨rfl, hb3⟩; have HB3 := jA (below_then HB.out HB.out.size hb3); clear hb3))
   go_ret
   exact ⟨k, rfl, hk, ⟨hlt, by rw [← HXX.out]; exact of_decide_eq_true HQ.out⟩, HN.out, HB3.out⟩
  | false =>
   go_wp2_with (first | (go_at_call 53; (with_reducible refine (same_calls x.f0 x.f1 g s _ HG2.out _ HQ.out).mono ?_); rintro e w3 ⟨rfl, hb3⟩; have HB3 := jA (below_then HB.out HB.out.size hb3); clear hb3))
   have hne := of_decide_eq_false HQ.out
   go_roundw
   case rel => exact ⟨k + 1, HKI.out hne, by go_num, HB3, ⟨fun y hy => by rw [HTK.out, List.mem_append, List.mem_singleton] at hy; rcases hy with hy | rfl; exact HN.out y hy; exact hne⟩⟩
   case measure => simp [intOf]; omega
theorem putAll_short (L : List ByteArray) : ∀ xs : List ByteArray, (MPut.putAll L xs).length ≤ L.length + xs.length := by
 intro xs
 induction xs generalizing L with
 | nil => simp [MPut.putAll]
 | cons x r ih =>
  have h1 := ih (put1 L x)
  have h2 : (put1 L x).length ≤ L.length + 1 := by unfold put1; split <;> simp
  show (MPut.putAll (put1 L x) r).length ≤ _
  simp only [List.length_cons]
  omega
theorem once_ev (l : List ByteArray) (hl : l.length ≤ 8796093022207) : ∀ (d n : Nat), n + d = l.length → Ev (fun k => mean_once.l0 k (MPut.putAll [] (l.take n)) l l.length n) (MPut.putAll [] l)
 | 0, n, h => by
  rw [List.take_of_length_le (by omega)]
  refine Ev.step (f := fun _ => some _) (fun k => ?_) (Ev.now _)
  simp only [mean_once.l0]
  rw [if_neg (by omega)]
 | d + 1, n, h => by
  have hlt : n < l.length := by omega
  have hrd : rdOf ByteArray.empty l (n : Int) = l[n] := by simp [rdOf, hlt]
  have htk : l.take (n + 1) = l.take n ++ [l[n]] := List.take_succ_eq_append_getElem hlt
  have hnx : MPut.putAll [] (l.take (n + 1)) = put1 (MPut.putAll [] (l.take n)) l[n] := by rw [htk, MPut.putAll_snoc]
  have hsh := putAll_short [] (l.take n)
  have hsh : (MPut.putAll [] (l.take n)).length < 8796093022208 := by
   rw [List.length_take] at hsh
   simp only [List.length_nil] at hsh
   omega
  have hc := VPure.contains_f (MPut.putAll [] (l.take n)) l[n] (by omega)
  refine Ev.step (f := fun k => (slices_Contains_string_string.f k (MPut.putAll [] (l.take n)) l[n]).bind fun t => if t = true then mean_once.l0 k (MPut.putAll [] (l.take n)) l l.length ((n + 1 : Nat) : Int) else if (MPut.putAll [] (l.take n)).length < 8796093022208 then mean_once.l0 k (MPut.putAll [] (l.take n) ++ [l[n]]) l l.length ((n + 1 : Nat) : Int) else none) (fun k => ?_) (Ev.bind (f := fun k t => if t = true then mean_once.l0 k (MPut.putAll [] (l.take n)) l l.length ((n + 1 : Nat) : Int) else if (MPut.putAll [] (l.take n)).length < 8796093022208 then mean_once.l0 k (MPut.putAll [] (l.take n) ++ [l[n]]) l l.length ((n + 1 : Nat) : Int) else none) hc ?_)
  ·simp only [mean_once.l0]
   rw [if_pos (by omega), if_pos (by omega), if_pos (by omega), hrd, VPure.w64n hlt (by omega)]
  ·have ih := once_ev l hl d (n + 1) (by omega)
   rw [hnx] at ih
   by_cases hm : l[n] ∈ MPut.putAll [] (l.take n)
   ·rw [decide_eq_true ((mem_nm _ _).2 hm)]
    refine Ev.congr (fun k => ?_) ih
    rw [if_pos rfl, put1, if_pos hm]
   ·rw [decide_eq_false (fun e => hm ((mem_nm _ _).1 e))]
    refine Ev.congr (fun k => ?_) ih
    rw [if_neg (by simp), if_pos hsh, put1, if_neg hm]
theorem once_go (A : Option Addr) (c : Nat) (l : List ByteArray) (w : World) (hC : Kd.C Kd.string w A l.length l) (hc : l.length ≤ c) (hl : l.length ≤ 8796093022207) :
  Calls Try.prog 55 #[.slice A l.length c] w fun e w' => ∃ v, e = .returned v ∧ Kd.R Kd.string 9 w' w.heap.size (fun _ => True) v (MPut.putAll [] l) ∧ Below w.heap.size w w' := by
 obtain ⟨k, hk⟩ := (once_ev l hl l.length 0 (by omega)).rounds
 exact mean_once.calls k A c l _ w hC hc hk
end Go.Proofs.Ytdgkppldopiaoaa.MPol
/- mean.Allows. -/
namespace Go.Proofs.Ytdgkppldopiaoaa.MPol
open Go.RowKit YtdgkppldopiaoaaW.PrintWords YtdgkppldopiaoaaW.PrintLast YtdgkppldopiaoaaW.PrintMore BMap BRow MLines MPut MClose MConcat MStand MSide Go.Maps
open PG YtdgkppldopiaoaaF
noncomputable def PolD.speak (d : PolD) (s o : ByteArray) (tr : Nat) : List S73 := d.rules.filter fun r => speaksB r (d.who s) (d.what o) tr
open Classical in
noncomputable def PolD.allowB (d : PolD) (t : S41) : Bool := (d.trust t.f0).isSome && (decide (t.f1 ∈ d.objs) && (decide (t.f2 ∈ d.acts) && allowsF (d.speak t.f0 t.f1 ((d.trust t.f0).getD 0)) d.exc t))
structure AlS (p : Pol) (w : World) (t : S41) (g5 g7 : Nat) (v5 v7 : Array Value) (W : World) : Prop where
 below : Below w.heap.size w W
 s0 : Stays W w.heap.size p.cells 31
 s1 : Stays W (w.heap.size + 1) (tripV t) 41
 s5 : Stays W g5 v5 145
 s7 : Stays W g7 v7 145
theorem AlS.move {p : Pol} {w W W1 : World} {t : S41} {g5 g7 : Nat} {v5 v7 : Array Value} (h : AlS p w t g5 g7 v5 v7 W) (hb : Below W.heap.size W W1) : AlS p w t g5 g7 v5 v7 W1 := ⟨below_then h.below h.below.size hb, h.s0.below hb, h.s1.below hb, h.s5.below hb, h.s7.below hb⟩
theorem Stays.range {w : World} {g t : Nat} {cs : Array Value} (h : Stays w g cs t) (l : List Value) (hl : cs.toList = l) : w.rangeAt g 0 l := fun j v hv => by
 subst hl
 rw [h.cell, Nat.zero_add, ← hv]; simp
theorem i39 : (Try.prog.info? 31).map (·.size) = some 11 := by kernel_rfl
end Go.Proofs.Ytdgkppldopiaoaa.MPol
/- What Relation has got so far, in plain words. -/
namespace Go.Proofs.Ytdgkppldopiaoaa.MPol
open Go.RowKit PG
def Got (d : PolD) (ns LO LA : List ByteArray) (i j l : Nat) (t : S41) : Prop :=
 d.allowB t = true ∧ t.f1 ∈ LO ∧ t.f2 ∈ LA ∧ (t.f0 ∈ ns.take i ∨ ∃ h : i < ns.length, t.f0 = ns[i] ∧ (t.f1 ∈ LO.take j ∨ ∃ h : j < LO.length, t.f1 = LO[j] ∧ t.f2 ∈ LA.take l))
section
variable {d : PolD} {ns LO LA : List ByteArray} {i j l : Nat} {t : S41}
theorem Got.start : ¬ Got d ns LO LA 0 0 0 t := by
 rintro ⟨-, -, -, h | ⟨_, -, h | ⟨_, -, h⟩⟩⟩
 ·simp at h
 ·simp at h
 ·simp at h
theorem Got.next (hi : i < ns.length) (hj : j < LO.length) (hl : l < LA.length) : Got d ns LO LA i j (l + 1) t ↔ (Got d ns LO LA i j l t ∨ (t = ⟨ns[i], LO[j], LA[l]⟩ ∧ d.allowB t = true)) := by
 have htk : LA.take (l + 1) = LA.take l ++ [LA[l]] := List.take_succ_eq_append_getElem hl
 unfold Got
 rw [htk]
 constructor
 ·rintro ⟨h1, h2, h3, h4 | ⟨_, h5, h6 | ⟨_, h7, h8⟩⟩⟩
  ·exact .inl ⟨h1, h2, h3, .inl h4⟩
  ·exact .inl ⟨h1, h2, h3, .inr ⟨hi, h5, .inl h6⟩⟩
  ·rcases List.mem_append.1 h8 with h8 | h8
   ·exact .inl ⟨h1, h2, h3, .inr ⟨hi, h5, .inr ⟨hj, h7, h8⟩⟩⟩
   ·refine .inr ⟨?_, h1⟩
    have h9 := List.mem_singleton.1 h8
    rw [← h5, ← h7, ← h9]
 ·rintro (⟨h1, h2, h3, h4 | ⟨_, h5, h6 | ⟨_, h7, h8⟩⟩⟩ | ⟨rfl, h1⟩)
  ·exact ⟨h1, h2, h3, .inl h4⟩
  ·exact ⟨h1, h2, h3, .inr ⟨hi, h5, .inl h6⟩⟩
  ·exact ⟨h1, h2, h3, .inr ⟨hi, h5, .inr ⟨hj, h7, List.mem_append_left _ h8⟩⟩⟩
  ·exact ⟨h1, List.getElem_mem hj, List.getElem_mem hl, .inr ⟨hi, rfl, .inr ⟨hj, rfl, List.mem_append_right _ (List.mem_singleton.2 rfl)⟩⟩⟩
theorem Got.nextObj (hj : j < LO.length) : Got d ns LO LA i j LA.length t ↔ Got d ns LO LA i (j + 1) 0 t := by
 have htk : LO.take (j + 1) = LO.take j ++ [LO[j]] := List.take_succ_eq_append_getElem hj
 unfold Got
 rw [htk, List.take_length]
 constructor
 ·rintro ⟨h1, h2, h3, h4 | ⟨hi, h5, h6 | ⟨_, h7, h8⟩⟩⟩
  ·exact ⟨h1, h2, h3, .inl h4⟩
  ·exact ⟨h1, h2, h3, .inr ⟨hi, h5, .inl (List.mem_append_left _ h6)⟩⟩
  ·exact ⟨h1, h2, h3, .inr ⟨hi, h5, .inl (by rw [h7]; exact List.mem_append_right _ (List.mem_singleton.2 rfl))⟩⟩
 ·rintro ⟨h1, h2, h3, h4 | ⟨hi, h5, h6 | ⟨_, h7, h8⟩⟩⟩
  ·exact ⟨h1, h2, h3, .inl h4⟩
  ·rcases List.mem_append.1 h6 with h6 | h6
   ·exact ⟨h1, h2, h3, .inr ⟨hi, h5, .inl h6⟩⟩
   ·exact ⟨h1, h2, h3, .inr ⟨hi, h5, .inr ⟨hj, List.mem_singleton.1 h6, h3⟩⟩⟩
  ·simp at h8
theorem Got.nextSub (hi : i < ns.length) : Got d ns LO LA i LO.length 0 t ↔ Got d ns LO LA (i + 1) 0 0 t := by
 have htk : ns.take (i + 1) = ns.take i ++ [ns[i]] := List.take_succ_eq_append_getElem hi
 unfold Got
 rw [htk, List.take_length]
 constructor
 ·rintro ⟨h1, h2, h3, h4 | ⟨_, h5, h6 | ⟨h, _⟩⟩⟩
  ·exact ⟨h1, h2, h3, .inl (List.mem_append_left _ h4)⟩
  ·exact ⟨h1, h2, h3, .inl (by rw [h5]; exact List.mem_append_right _ (List.mem_singleton.2 rfl))⟩
  ·omega
 ·rintro ⟨h1, h2, h3, h4 | ⟨_, h5, h6 | ⟨_, h7, h8⟩⟩⟩
  ·rcases List.mem_append.1 h4 with h4 | h4
   ·exact ⟨h1, h2, h3, .inl h4⟩
   ·exact ⟨h1, h2, h3, .inr ⟨hi, List.mem_singleton.1 h4, .inl h2⟩⟩
  ·simp at h6
  ·simp at h8
theorem Got.all : Got d ns LO LA ns.length 0 0 t ↔ (d.allowB t = true ∧ t.f1 ∈ LO ∧ t.f2 ∈ LA ∧ t.f0 ∈ ns) := by
 unfold Got
 rw [List.take_length]
 constructor
 ·rintro ⟨h1, h2, h3, h4 | ⟨h, _⟩⟩
  ·exact ⟨h1, h2, h3, h4⟩
  ·omega
 ·rintro ⟨h1, h2, h3, h4⟩
  exact ⟨h1, h2, h3, .inl h4⟩
end
end Go.Proofs.Ytdgkppldopiaoaa.MPol
/- mean.about, its row as the call's own. -/
namespace Go.Proofs.Ytdgkppldopiaoaa.MPol
open Go.RowKit YtdgkppldopiaoaaW.PrintWords YtdgkppldopiaoaaW.PrintLast YtdgkppldopiaoaaW.PrintMore BMap BRow MLines MPut MClose MConcat MStand MSide Go.Maps
open PG YtdgkppldopiaoaaF
theorem about_own (p : Pol) (w0 : World) (n1 : ByteArray) (t1 b1 : Nat) (R1 : ByteArray → Prop) (n2 : ByteArray) (t2 b2 : Nat) (R2 : ByteArray → Prop) (w : World) (hw0 : Below w0.heap.size w0 w) (hp0 : p.In w0) (hd : p.d.Ok) (h1 : IsSet w b1 R1) (h2 : IsSet w b2 R2) :
  Calls Try.prog 57 #[.agg p.cells, .agg (sideV n1 t1 b1), .agg (sideV n2 t2 b2)] w fun e w' => ∃ v, e = .returned v ∧ OwnRow (k73.K w0) 73 6 w' w.heap.size v (p.d.rules.filter fun r => speaksB r R1 R2 t1) ∧ Below w.heap.size w w' := by
 obtain ⟨d, A0, c0, A1, c1, A2, c2, A3, c3, A4, c4, A5, c5, A6, c6, A7, c7, A8, c8, A9, c9, A10, c10⟩ := p
 have hp := hp0.below hw0
 have hmax : d.rules.length ≤ 9223372036854775807 := hp.h9.2.1
 have HP0 := jA hp0
 have HW0 := jA hw0
 have Za := h1.lt
 have Zb := h2.lt
 have HP := jA hp
 have HD := jA hd
 have hA := Abt.start (Pol.mk d A0 c0 A1 c1 A2 c2 A3 c3 A4 c4 A5 c5 A6 c6 A7 c7 A8 c8 A9 c9 A10 c10) w (sideV n1 t1 b1) (sideV n2 t2 b2) h1 h2
 have e9 := hA.s0.cell 9
 simp only [Pol.cells, Jt, Ju, Jv] at e9
 have HA := jA hA
 clear hA hp hd h1 h2 hp0 hw0
 unfold Pol.cells
 unfold Pol.cells at HA
 obtain ⟨v1, hv1⟩ : ∃ v1, v1 = sideV n1 t1 b1 := ⟨_, rfl⟩
 obtain ⟨v2, hv2⟩ : ∃ v2, v2 = sideV n2 t2 b2 := ⟨_, rfl⟩
 have sz1 : v1.size = 3 := by rw [hv1]; rfl
 have sz2 : v2.size = 3 := by rw [hv2]; rfl
 rw [← hv1, ← hv2] at HA ⊢
 rw [← hv1, ← hv2] at e9
 have HV1 := jA hv1
 have HV2 := jA hv2
 have Zc := jA sz1
 have Zd := jA sz2
 clear hv1 hv2 sz1 sz2
 simp only [] at HA e9 ⊢
 go_enter Try.func57, Try.ntmps57
 go_wp2
 clear e9
 go_loopw [7, 13] (fun u7 u13 wr => ∃ k : Nat, k ≤ d.rules.length ∧ u13 = .int .i64 k ∧ Aside0 (Abt (Pol.mk d A0 c0 A1 c1 A2 c2 A3 c3 A4 c4 A5 c5 A6 c6 A7 c7 A8 c8 A9 c9 A10 c10) w wr v1 v2 b1 b2 R1 R2) ∧ Aside0 (OwnRow (k73.K w0) 73 6 wr w.heap.size u7 ((d.rules.take k).filter fun r => speaksB r R1 R2 t1))) (fun _ u13 _ => d.rules.length - (intOf u13).toNat)
 case atStart => exact ⟨0, Nat.zero_le _, rfl, HA, ⟨OwnRow.none_ _ _ _ _ _⟩⟩
 case round =>
  obtain ⟨k, hk, rfl, HR, HRow⟩ := hrel
  obtain ⟨Ao, co, rfl, hlo⟩ := HRow.out.slice_
  by_cases hlt : k < d.rules.length
  ·obtain ⟨ad, cs, e0, hcl, hK, hcell⟩ := Kd.C_get HP0.out.h9 z73 (k : Int) (by omega) (by simp only []; omega)
   have e0 : A9 = some ad := e0
   subst e0
   have hget : d.rules.getD (k : Int).toNat z73 = d.rules[k] := by simp [hlt]
   have hK : k73.K w0 d.rules[k] cs := by rw [← hget]; exact hK
   have htk : d.rules.take (k + 1) = d.rules.take k ++ [d.rules[k]] := List.take_succ_eq_append_getElem hlt
   have hro := HD.out.rules d.rules[k] (List.getElem_mem hlt)
   obtain ⟨x, hxx⟩ : ∃ x, x = d.rules[k] := ⟨_, rfl⟩
   rw [← hxx] at hK htk hro
   obtain ⟨A3', c3', rfl, l3, g3⟩ := k73_open hK
   have hcw : ∀ (j : Nat) (v : Value), ([.bool x.f0, .string x.f1, .string x.f2, .slice A3' x.f3.length c3', .int .i8 x.f4, .float .f64 x.f5] : List Value)[j]? = some v → wr.cell? ((ad.add (k * 6)).add j) = some v := by
    intro j v hj
    have h0 := hcell j v hj
    have h0 : w0.cell? (ad.add (k * 6 + j)) = some v := h0
    rw [add_add]
    exact pw_cell_below HR.out.below (pw_cell_below HW0.out h0)
   have HCW := jA hcw
   have HTK := jA htk
   have HRO := jA hro
   have HL3 := jA l3
   have HG3 := jA g3
   have HK := jA hK
   have c0' : (k : Int) < d.rules.length := by omega
   clear hcell hK hget htk hro hxx hcw hcl l3 g3
   go_upto_region 5 with (first | ((with_reducible refine gate_dst (N := 16) rfl ?_); refine wpList_load_at rfl 73 (.tmp 15) rfl (ad.add (k * 6)) ?hx [.bool x.f0, .string x.f1, .string x.f2, .slice A3' x.f3.length c3', .int .i8 x.f4, .float .f64 x.f5] HCW.out _ Try.underlying73 rfl i78 ?_; (case hx => rfl); refine wpList_alloc_store rfl rfl 73 9 (.tmp 16) rfl rfl rfl #[(.bool false), (.string ⟨#[]⟩), (.string ⟨#[]⟩), (.slice none 0 0), (.int .i8 0), (.float .f64 0)] (ruleV x A3' c3') _ (z78v _) rfl i78 rfl (by simp [ruleV, Value.oneCell']) ?hy ?hp ?_; (case hy => rfl); (case hp => rfl)))
   simp only [Act.put, List.setIfInBounds_toArray, List.set_cons_succ, List.set_cons_zero]
   have hS2 := heap_alloc_new wr (.cells (ruleV x A3' c3') 73)
   have hb2 := below_alloc (Below.refl _ wr) (.cells (ruleV x A3' c3') 73)
   have hA2 := HR.out.move hb2
   have hR2 := HRow.out.below hb2
   obtain ⟨W2, hW2⟩ : ∃ W2, W2 = wr.alloc (.cells (ruleV x A3' c3') 73) := ⟨_, rfl⟩
   obtain ⟨g9, hg9⟩ : ∃ g9, g9 = wr.heap.size := ⟨_, rfl⟩
   rw [← hg9] at hS2 ⊢
   rw [← hW2] at hS2 hA2 hR2 ⊢
   have hS2 : Stays W2 g9 (ruleV x A3' c3') 73 := hS2
   have HA2 := jA hA2
   have HR2 := jA hR2
   have HS2 := jA hS2
   clear hS2 hA2 hR2 hW2 hg9 hb2
   obtain ⟨q, hq⟩ : ∃ q, speaksB x R1 R2 t1 = q := ⟨_, rfl⟩
   have HQ := jA hq
   clear hq
   go_upto_if 20 with (first | ((with_reducible refine gate_dst (N := 17) rfl ?_); refine wpList_load_blk rfl 73 (.tmp 9) rfl g9 ?hx (ruleV x A3' c3') 73 HS2.out _ Try.underlying73 rfl i78 ?_; (case hx => rfl)) | ((with_reducible refine gate_dst (N := 18) rfl ?_); refine wpList_load_blk rfl 145 (.tmp 4) rfl (w.heap.size + 1) ?hx v1 145 HA2.out.s1 _ Try.underlying145 rfl (by rw [Zc.out]; exact i95) ?_; (case hx => rfl)) | ((with_reducible refine gate_dst (N := 19) rfl ?_); refine wpList_load_blk rfl 145 (.tmp 5) rfl (w.heap.size + 1 + 1) ?hx v2 145 HA2.out.s2 _ Try.underlying145 rfl (by rw [Zd.out]; exact i95) ?_; (case hx => rfl)) | (go_at_call 64; (with_reducible refine (speaks_go x A3' c3' n1 t1 b1 R1 n2 t2 b2 R2 _ q HQ.out (Kd.C_below (Kd.C_below HG3.out HW0.out) HA2.out.below) HL3.out HA2.out.set1 HA2.out.set2 HRO.out.1 HRO.out.2 v1 v2 HV1.out HV2.out).mono ?_); rintro e w3 ⟨rfl, hb3⟩; have HA3 := jA (HA2.out.move hb3); have HR3 := jA (HR2.out.below hb3); have HS3 := jA (HS2.out.below hb3); clear hb3))
   have hlim : (((d.rules.take k).filter fun r => speaksB r R1 R2 t1).length + 1) * 80 ≤ 140737488355328 := by
    have h1 := List.length_filter_le (fun r => speaksB r R1 R2 t1) (d.rules.take k)
    rw [List.length_take] at h1
    have h2 := HD.out.lrules
    omega
   have HLIM := jA hlim
   clear hlim
   have hfil : (d.rules.take (k + 1)).filter (fun r => speaksB r R1 R2 t1) = (d.rules.take k).filter (fun r => speaksB r R1 R2 t1) ++ if q = true then [x] else [] := by
    rw [HTK.out, List.filter_append, List.filter_cons, HQ.out]
    cases q <;> simp
   have HFIL := jA hfil
   clear hfil
   obtain ⟨L, hL⟩ : ∃ L, L = (d.rules.take k).filter (fun r => speaksB r R1 R2 t1) := ⟨_, rfl⟩
   rw [← hL] at HR3 HLIM HFIL hlo ⊢
   have HLL := jA hL
   clear hL
   have HNB := jA (fun (b : Nat) (hb : b < w.heap.size) => show some b ≠ (Value.slice Ao L.length co).ownBlock from fun e => by
    obtain ⟨inner, ho, _⟩ := HR3.out
    have := own_base ho b e.symm
    omega)
   cases q with
   | true =>
    go_wp2_with (first | ((with_reducible refine gate_dst (N := 22) rfl ?_); refine wpList_load_blk rfl 73 (.tmp 9) rfl g9 ?hx #[.bool x.f0, .string x.f1, .string x.f2, .slice A3' x.f3.length c3', .int .i8 x.f4, .float .f64 x.f5] 73 HS3.out _ Try.underlying73 rfl i78 ?_; (case hx => rfl)) | ((with_reducible refine gate_builtin (b := .append) (xs := #[.tmp 21, .tmp 23]) rfl ?_); at_builtin; refine OwnRow.append (w0 := w) w.heap.size rfl (.tmp 21) (.tmp 23) 28 73 (.agg #[(.bool false), (.string ⟨#[]⟩), (.string ⟨#[]⟩), (.slice none 0 0), (.int .i8 0), (.float .f64 0)]) 6 80 rfl Try.underlying28 info73 rfl (by decide) (by decide) _ L x [.bool x.f0, .string x.f1, .string x.f2, .slice A3' x.f3.length c3', .int .i8 x.f4, .float .f64 x.f5] rfl rfl HK.out rfl (k73.K_one HK.out) HR3.out HA3.out.below HA3.out.below.size HLIM.out ?_; intro v8 w8 hR8 hB8 hg8 Ze; have HR8 := jA hR8; have HA8 := jA (HA3.out.grown hg8 hB8 (HR3.out.ne_block HA3.out.s0 (by decide)) (HR3.out.ne_block HA3.out.s1 (by decide)) (HR3.out.ne_block HA3.out.s2 (by decide)) (HNB.out _ Za) (HNB.out _ Zb)); clear hR8 hB8 hg8 Ze))
    go_roundw
    case rel => exact ⟨k + 1, by omega, by go_num, HA8, ⟨by rw [HFIL.out, if_pos rfl]; exact HR8.out⟩⟩
    case measure => simp [intOf]; omega
   | false =>
    go_wp2
    go_roundw
    case rel => exact ⟨k + 1, by omega, by go_num, HA3, ⟨by rw [HFIL.out, if_neg (by simp), List.append_nil]; exact HR3.out⟩⟩
    case measure => simp [intOf]; omega
  ·have hkk : k = d.rules.length := by omega
   subst hkk
   have hfin := HRow.out
   rw [List.take_length] at hfin
   rw [List.take_length]
   have HFI := jA hfin
   clear hfin hlo
   go_wp2
   go_ret
   rw [List.take_length] at *
   exact ⟨_, rfl, HFI.out, HR.out.below⟩
end Go.Proofs.Ytdgkppldopiaoaa.MPol
/- mean.Relation. -/
namespace Go.Proofs.Ytdgkppldopiaoaa.MPol
open Go.RowKit YtdgkppldopiaoaaW.PrintWords YtdgkppldopiaoaaW.PrintLast YtdgkppldopiaoaaW.PrintMore BMap BRow MLines MPut MClose MConcat MStand MSide Go.Maps
open PG YtdgkppldopiaoaaF
abbrev SD := ByteArray × Nat × Nat
def RS (x : SD) (cs : List Value) : Prop := cs = [.string x.1, .float .f64 x.2.1, .map (some x.2.2)]
theorem RS_mk (n : ByteArray) (t b : Nat) : RS (n, t, b) [.string n, .float .f64 t, .map (some b)] := rfl
theorem info145 : (Try.prog.info? 145).map (fun i => (i.zero, i.size, i.bytes)) = some (some (.agg #[.string ⟨#[]⟩, .float .f64 0, .map none]), 3, 32) := by kernel_rfl
structure Sides (w wr : World) (v : Value) (ps : List SD) (R : ByteArray → Nat → ByteArray → Prop) (T : ByteArray → Nat → Prop) : Prop where
 row : OwnRow RS 145 3 wr w.heap.size v ps
 sets : ∀ x ∈ ps, IsSet wr x.2.2 (R x.1 x.2.1)
 trust : ∀ x ∈ ps, T x.1 x.2.1
 below : Below w.heap.size w wr
theorem Sides.move {w wr w1 : World} {v : Value} {ps : List SD} {R : ByteArray → Nat → ByteArray → Prop} {T : ByteArray → Nat → Prop} (h : Sides w wr v ps R T) (hb : Below wr.heap.size wr w1) : Sides w w1 v ps R T :=
 ⟨h.row.below hb, fun x hx => (h.sets x hx).below hb, h.trust, below_then h.below h.below.size hb⟩
theorem set_ne {W : World} {b : Nat} {R : ByteArray → Prop} (h : IsSet W b R) {α : Type} {Rr : α → List Value → Prop} {e size base : Nat} {v : Value} {ps : List α} (ho : OwnRow Rr e size W base v ps) : some b ≠ v.ownBlock := by
 intro hk
 obtain ⟨f, n, hM, _⟩ := h
 obtain ⟨es, cl, l, h1, _⟩ := hM.out
 obtain ⟨inner, hown, _⟩ := ho
 obtain ⟨cells, hc⟩ := own_typed hown b hk.symm
 rw [h1] at hc
 cases hc
theorem set_grown {W W1 : World} {b : Nat} {R : ByteArray → Prop} (h : IsSet W b R) {row : Option Nat} (hg : W.grownBy W1 row) (hne : some b ≠ row) : IsSet W1 b R := by
 obtain ⟨f, n, hM, hf⟩ := h
 exact ⟨f, n, hM.grown hg hne, hf⟩
theorem Sides.put {w wr w1 : World} {v v1 : Value} {ps : List SD} {R : ByteArray → Nat → ByteArray → Prop} {T : ByteArray → Nat → Prop} {x : SD} (h : Sides w wr v ps R T) (hx : IsSet wr x.2.2 (R x.1 x.2.1)) (ht : T x.1 x.2.1) (hr : OwnRow RS 145 3 w1 w.heap.size v1 (ps ++ [x])) (hg : wr.grownBy w1 v.ownBlock) (hb : Below w.heap.size w w1) : Sides w w1 v1 (ps ++ [x]) R T where
 row := hr
 sets := fun y hy => by
  rcases List.mem_append.1 hy with hy | hy
  ·exact set_grown (h.sets y hy) hg (set_ne (h.sets y hy) h.row)
  ·rw [List.mem_singleton.1 hy]; exact set_grown hx hg (set_ne hx h.row)
 trust := fun y hy => by
  rcases List.mem_append.1 hy with hy | hy
  ·exact h.trust y hy
  ·rw [List.mem_singleton.1 hy]; exact ht
 below := hb
theorem trust_some {d : PolD} {s : ByteArray} (h : ∃ y ∈ d.subs, y.f0 = s) : ∃ tr, d.trust s = some tr := by
 unfold PolD.trust
 cases hf : d.subs.find? (fun x => decide (x.f0 = s)) with
 | none =>
  obtain ⟨y, hy, he⟩ := h
  have := List.find?_eq_none.1 hf y hy
  simp [he] at this
 | some y => exact ⟨y.f1, rfl⟩
theorem subject_go (p : Pol) (s : ByteArray) (w : World) (hp : p.In w) (hd : p.d.Ok) (hs : okS s) (tr : Nat) (ht : p.d.trust s = some tr) :
  Calls Try.prog 54 #[.agg p.cells, .string s] w fun e w' => ∃ b, e = .returned (.tuple #[.agg #[.string s, .float .f64 tr, .map (some b)], .bool true]) ∧ IsSet w' b (p.d.who s) ∧ Below w.heap.size w w' := by
 refine (subject_calls p s w hp hd hs).mono ?_
 rintro e w' ⟨v, rfl, hS, hb⟩
 rw [ht] at hS ⊢
 obtain ⟨b, rfl, hset⟩ := hS.1 rfl
 exact ⟨b, rfl, hset, hb⟩
theorem object_go (p : Pol) (o : ByteArray) (w : World) (hp : p.In w) (hd : p.d.Ok) (ho : okS o) (hin : o ∈ p.d.objs) :
  Calls Try.prog 56 #[.agg p.cells, .string o] w fun e w' => ∃ b, e = .returned (.tuple #[.agg #[.string o, .float .f64 0, .map (some b)], .bool true]) ∧ IsSet w' b (p.d.what o) ∧ Below w.heap.size w w' := by
 classical
 refine (object_calls p o w hp hd ho true (by simpa using hin)).mono ?_
 rintro e w' ⟨v, rfl, hS, hb⟩
 obtain ⟨b, rfl, hset⟩ := hS.1 rfl
 exact ⟨b, rfl, hset, hb⟩
open Classical in
theorem allowB_at {d : PolD} {s o a : ByteArray} {tr : Nat} (h1 : d.trust s = some tr) (h2 : o ∈ d.objs) (h3 : a ∈ d.acts) : d.allowB ⟨s, o, a⟩ = allowsF (d.rules.filter fun r => speaksB r (d.who s) (d.what o) tr) d.exc ⟨s, o, a⟩ := by
 unfold PolD.allowB PolD.speak
 simp only [h1, decide_eq_true h2, decide_eq_true h3, Option.isSome_some, Bool.true_and, Option.getD_some]
theorem z28v (w : World) : (zeroValue 41).run Try.prog w = .ok (.agg #[.string ⟨#[]⟩, .string ⟨#[]⟩, .string ⟨#[]⟩]) w := by kernel_rfl
theorem info41 : (Try.prog.info? 41).map (fun i => (i.zero, i.size, i.bytes)) = some (some (.agg #[.string ⟨#[]⟩, .string ⟨#[]⟩, .string ⟨#[]⟩]), 3, 48) := by kernel_rfl
theorem own_stays {α : Type} {d : Kd α} {e : Nat} {W W1 : World} {base : Nat} {ok : Nat → Prop} {v : Value} {xs : List α} (h : d.R e W base ok v xs) (hg : W.grownBy W1 v.ownBlock) {g t : Nat} {cs : Array Value} (hS : Stays W g cs t) (hne : e ≠ t) : Stays W1 g cs t := by
 obtain ⟨_, inner, hown, _⟩ := h
 exact (hg.block _ (Array.getElem?_eq_some_iff.1 hS).1 (own_ne hown hS hne)).trans hS
theorem own_other_row {α β : Type} {d : Kd α} {e e2 size Zr : Nat} {Rr : β → List Value → Prop} {W W1 : World} {base : Nat} {ok : Nat → Prop} {v v2 : Value} {xs : List α} {ys : List β} (h : d.R e W base ok v xs) (hg : W.grownBy W1 v.ownBlock) (h2 : OwnRow Rr e2 size W Zr v2 ys) (hne : e2 ≠ e) : OwnRow Rr e2 size W1 Zr v2 ys := by
 obtain ⟨_, inner, hown, _⟩ := h
 refine h2.other hg ?_
 cases hb : v2.ownBlock with
 | none => exact .inl rfl
 | some k =>
  refine .inr fun e => ?_
  obtain ⟨Z2, ZC, _⟩ := h2
  obtain ⟨c1, hc1⟩ := own_typed ZC k hb
  obtain ⟨c2, hc2⟩ := own_typed hown k e.symm
  rw [hc1] at hc2
  have := Option.some.inj hc2
  simp only [Obj.cells.injEq] at this
  exact hne this.2.1
theorem Relation_calls (p : Pol) (w : World) (hp : p.In w) (hd : p.d.Ok) (hs : p.d.subs.length ≤ 64) (ho : p.d.objs.length ≤ 64) (ha : p.d.acts.length ≤ 16) :
  Calls Try.prog 46 #[.agg p.cells] w fun e w' => ∃ v, e = .returned v ∧ ∃ L : List S41, Kd.R k41 41 w' w.heap.size (fun _ => True) v L ∧ (∀ t, t ∈ L ↔ ((∃ y ∈ p.d.subs, y.f0 = t.f0) ∧ p.d.allowB t = true)) ∧ L.length ≤ 65536 ∧ Below w.heap.size w w' := by
 obtain ⟨d, A0, c0, A1, c1, A2, c2, A3, c3, A4, c4, A5, c5, A6, c6, A7, c7, A8, c8, A9, c9, A10, c10⟩ := p
 have HP := jA hp
 have HD := jA hd
 have HS := jA hs
 have HO := jA ho
 have HA := jA ha
 have hmax : d.subs.length ≤ 64 := hs
 clear hp hd hs ho ha
 have Zs : Stays (w.alloc (.cells (Pol.cells (Pol.mk d A0 c0 A1 c1 A2 c2 A3 c3 A4 c4 A5 c5 A6 c6 A7 c7 A8 c8 A9 c9 A10 c10)) 31)) w.heap.size (Pol.cells (Pol.mk d A0 c0 A1 c1 A2 c2 A3 c3 A4 c4 A5 c5 A6 c6 A7 c7 A8 c8 A9 c9 A10 c10)) 31 := heap_alloc_new w _
 have HST := jA Zs
 have e1 := Zs.cell 1
 simp only [Pol.cells, Jt, Ju, Jv] at e1
 clear Zs
 unfold Pol.cells
 unfold Pol.cells at HST
 simp only [] at HST e1 ⊢
 go_enter Try.func46, Try.ntmps46
 have hz := z70
 go_wp2
 clear e1
 go_loopw [3, 26] (fun u3 u26 wr => ∃ (k : Nat) (ps : List SD), k ≤ d.subs.length ∧ u26 = .int .i64 k ∧ Aside0 (Sides w wr u3 ps (fun s _ => d.who s) (fun s tr => d.trust s = some tr)) ∧ Aside0 (Stays wr w.heap.size (Pol.cells (Pol.mk d A0 c0 A1 c1 A2 c2 A3 c3 A4 c4 A5 c5 A6 c6 A7 c7 A8 c8 A9 c9 A10 c10)) 31) ∧ Aside0 (∀ s, s ∈ ps.map (·.1) ↔ ∃ y ∈ d.subs.take k, y.f0 = s) ∧ Aside0 (ps.length ≤ k)) (fun _ u26 _ => d.subs.length - (intOf u26).toNat)
 case atStart => exact ⟨0, [], Nat.zero_le _, rfl, ⟨⟨OwnRow.none_ _ _ _ _ _, by simp, by simp, below_alloc (Below.refl _ _) _⟩⟩, HST, ⟨by simp⟩, ⟨Nat.le_refl _⟩⟩
 case round =>
  obtain ⟨k, ps, hk, rfl, HR, HB, HM, HL⟩ := hrel
  have hpin := HP.out.below HR.out.below
  by_cases hlt : k < d.subs.length
  ·obtain ⟨ad, e0, hx0, hx1⟩ := at_T70 hpin.h1 (k : Int) (by omega) (by simp only []; omega)
   have hget : rd_T70 d.subs (k : Int) = d.subs[k] := by simp [rd_T70, hlt]
   simp only [hget, Int.toNat_natCast] at hx0 hx1
   have e0 : A1 = some ad := e0
   subst e0
   have htk : d.subs.take (k + 1) = d.subs.take k ++ [d.subs[k]] := List.take_succ_eq_append_getElem hlt
   have hin : d.subs[k] ∈ d.subs := List.getElem_mem hlt
   have hat : ∀ j (h : j < d.subs.length), j ≤ k → d.subs[j].f0 = d.subs[k].f0 → j ≠ k → ∃ y ∈ d.subs.take k, y.f0 = d.subs[k].f0 := fun j h hjk he hne => ⟨d.subs[j], by
    have hj : j < (d.subs.take k).length := by rw [List.length_take]; omega
    have e : (d.subs.take k)[j] = d.subs[j] := List.getElem_take
    rw [← e]
    exact List.getElem_mem hj, he⟩
   have hik : ∃ h : k < d.subs.length, d.subs[k].f0 = d.subs[k].f0 := ⟨hlt, rfl⟩
   obtain ⟨x, hxx⟩ : ∃ x, x = d.subs[k] := ⟨_, rfl⟩
   have HXX := jA hxx
   rw [← hxx] at hx0 hx1 htk hin hat
   have HTK := jA htk
   have HIN := jA hin
   have HAT := jA hat
   have HPI := jA hpin
   have c0' : (k : Int) < d.subs.length := by omega
   have e1 := HB.out.cell 1
   simp only [Pol.cells, Jt, Ju, Jv] at e1
   have hcw : ∀ (j : Nat) (v : Value), ([.string x.f0, .float .f64 x.f1] : List Value)[j]? = some v → wr.cell? ((ad.add (k * 2)).add j) = some v := by
    intro j v hj
    have hj2 : j < 2 := (List.getElem?_eq_some_iff.1 hj).1
    have : j = 0 ∨ j = 1 := by omega
    rcases this with rfl | rfl
    ·obtain rfl : Value.string x.f0 = v := by simpa using hj
     rw [Addr.add_zero']; exact hx0
    ·obtain rfl : Value.float .f64 x.f1 = v := by simpa using hj
     rw [add_add, add_field _ _ 1 (by omega)]; exact hx1
   have HCW := jA hcw
   clear hx0 hx1 hget htk hin hat hxx hcw hpin hik
   go_upto_region 5 with (first | ((with_reducible refine gate_dst (N := 30) rfl ?_); refine wpList_load_at rfl 70 (.tmp 29) rfl (ad.add (k * 2)) ?hx [.string x.f0, .float .f64 x.f1] HCW.out _ Try.underlying70 rfl i54 ?_; (case hx => rfl)) | ((with_reducible refine gate_store (t := 70) (p := 6) (v := .tmp 30) rfl ?_); refine wpList_store_var rfl 70 (.tmp 6) (.tmp 30) rfl wr.heap.size #[.string x.f0, .float .f64 x.f1] ?hx ?hy (cs := #[.string ⟨#[]⟩, .float .f64 0]) (t := 70) (heap_alloc_new wr _) rfl i54 (by simp [Value.oneCell']) ?_; (case hx => rfl); (case hy => rfl)))
   (try simp only [Act.put])
   have hb2 : Below wr.heap.size wr ((wr.alloc (.cells #[.string ⟨#[]⟩, .float .f64 0] 70)).setCells wr.heap.size 0 [.string x.f0, .float .f64 x.f1]) := setCells_below (below_alloc (Below.refl _ _) _) (Nat.le_refl _) _
   have hS2 : Stays ((wr.alloc (.cells #[.string ⟨#[]⟩, .float .f64 0] 70)).setCells wr.heap.size 0 [.string x.f0, .float .f64 x.f1]) wr.heap.size #[.string x.f0, .float .f64 x.f1] 70 := setCells_var (vs := #[.string x.f0, .float .f64 x.f1]) (heap_alloc_new wr _) rfl
   have hR2 := HR.out.move hb2
   have hB2 := HB.out.below hb2
   have hP2 := HPI.out.below hb2
   obtain ⟨W2, hW2⟩ : ∃ W2, W2 = ((wr.alloc (.cells #[.string ⟨#[]⟩, .float .f64 0] 70)).setCells wr.heap.size 0 [.string x.f0, .float .f64 x.f1]) := ⟨_, rfl⟩
   obtain ⟨g6, hg6⟩ : ∃ g6, g6 = wr.heap.size := ⟨_, rfl⟩
   rw [← hW2] at hS2 hR2 hB2 hP2 ⊢
   rw [← hg6] at hS2 ⊢
   have e1 := hB2.cell 1
   simp only [Pol.cells, Jt, Ju, Jv] at e1
   have hg : W2.cell? ⟨g6, 0, none⟩ = some (.string x.f0) := hS2.cell 0
   have HG := jA hg
   have HS2 := jA hS2
   have HR2 := jA hR2
   have HB2 := jA hB2
   have HP2 := jA hP2
   clear hb2 hS2 hR2 hB2 hP2 hW2 hg6 hg
   go_upto_if 36 with (first | (go_at_call 52; (with_reducible refine (index_calls (some ad) c1 d.subs g6 x.f0 _ HP2.out.h1 HG.out k hlt (congrArg S70.f0 HXX.out).symm).mono ?_); rintro e w3 ⟨j, rfl, hjk, hjs, hjn, hb3⟩; have HJS := jA hjs; have HJN := jA hjn; have HS3 := jA (HS2.out.below hb3); have HR3 := jA (HR2.out.move hb3); have HB3 := jA (HB2.out.below hb3); have HP3 := jA (HP2.out.below hb3); clear hjs hjn hb3))
   have e1 := HB3.out.cell 1
   simp only [Pol.cells, Jt, Ju, Jv] at e1
   by_cases hje : j = k
   ·have hq : ((j : Int) == (k : Int)) = true := by rw [hje]; exact beq_self_eq_true _
    obtain ⟨tr, htr⟩ := trust_some (d := d) (s := x.f0) ⟨x, HIN.out, rfl⟩
    have HTR := jA htr
    have hlim : (ps.length + 1) * 32 ≤ 140737488355328 := by have := HL.out; omega
    have HLIM := jA hlim
    have x0 : w3.cell? ⟨g6, 0, none⟩ = some (.string x.f0) := HS3.out.cell 0
    have hxok := HD.out.subs x HIN.out
    have HXOK := jA hxok
    clear htr hlim hje hxok
    go_upto_region 7 with (first | ((with_reducible refine gate_dst (N := 38) rfl ?_); refine wpList_load_blk rfl 31 (.tmp 1) rfl w.heap.size ?hx #[.slice A0 d.acts.length c0, .slice (some ad) d.subs.length c1, .slice A2 d.roles.length c2, .slice A3 d.objs.length c3, .slice A4 d.grps.length c4, .slice A5 d.mem.length c5, .slice A6 d.inh.length c6, .slice A7 d.par.length c7, .slice A8 d.wit.length c8, .slice A9 d.rules.length c9, .slice A10 d.exc.length c10] 31 HB3.out _ Try.underlying31 rfl i39 ?_; (case hx => rfl)) | (go_at_call 54; (refine (subject_go _ x.f0 _ HP3.out HD.out HXOK.out tr HTR.out).mono ?_); rintro e w4 ⟨b, rfl, hset, hb4⟩; have HR4 := jA (HR3.out.move hb4); have HB4 := jA (HB3.out.below hb4); have HSET := jA hset; clear hset hb4) | ((with_reducible refine gate_dst (N := 7) rfl ?_); refine wpList_alloc_store rfl rfl 145 7 (.tmp 42) rfl rfl rfl noneV #[.string x.f0, .float .f64 tr, .map (some b)] _ (z145 _) rfl i95 rfl (by simp [Value.oneCell']) ?hy ?hp ?_; (case hy => rfl); (case hp => rfl)))
    (try simp only [Act.put])
    have hb5 := below_alloc (Below.refl _ w4) (.cells #[.string x.f0, .float .f64 tr, .map (some b)] 145)
    have hS5 : Stays (w4.alloc (.cells #[.string x.f0, .float .f64 tr, .map (some b)] 145)) w4.heap.size #[.string x.f0, .float .f64 tr, .map (some b)] 145 := heap_alloc_new w4 _
    have hR5 := HR4.out.move hb5
    have hB5 := HB4.out.below hb5
    have hT5 := HSET.out.below hb5
    obtain ⟨W5, hW5⟩ : ∃ W5, W5 = w4.alloc (.cells #[.string x.f0, .float .f64 tr, .map (some b)] 145) := ⟨_, rfl⟩
    obtain ⟨g7, hg7⟩ : ∃ g7, g7 = w4.heap.size := ⟨_, rfl⟩
    rw [← hW5] at hR5 hB5 hT5 hS5 ⊢
    rw [← hg7] at hS5 ⊢
    have HR5 := jA hR5
    have HB5 := jA hB5
    have ZD := jA hT5
    have HS5 := jA hS5
    clear hb5 hS5 hR5 hB5 hT5 hW5 hg7
    go_wp2_with (first | ((with_reducible refine gate_dst (N := 45) rfl ?_); refine wpList_load_blk rfl 145 (.tmp 7) rfl g7 ?hx #[.string x.f0, .float .f64 tr, .map (some b)] 145 HS5.out _ Try.underlying145 rfl i95 ?_; (case hx => rfl)) | ((with_reducible refine gate_builtin (b := .append) (xs := #[.tmp 44, .tmp 46]) rfl ?_); at_builtin; refine OwnRow.append (w0 := w) (R := RS) w.heap.size rfl (.tmp 44) (.tmp 46) 140 145 (.agg #[.string ⟨#[]⟩, .float .f64 0, .map none]) 3 32 rfl Try.underlying140 info145 rfl (by decide) (by decide) u3 ps (x.f0, tr, b) [.string x.f0, .float .f64 tr, .map (some b)] rfl rfl (RS_mk _ _ _) rfl (by simp [Value.oneCell']) HR5.out.row HR5.out.below HR5.out.below.size HLIM.out ?_; intro v8 w8 hR8 hB8 hg8 Zt; have HR8 := jA (HR5.out.put (x := (x.f0, tr, b)) ZD.out HTR.out hR8 hg8 hB8); have HB8 := jA (show Stays w8 w.heap.size _ 31 from (hg8.block _ (Array.getElem?_eq_some_iff.1 HB5.out).1 (HR5.out.row.ne_block HB5.out (by decide))).trans HB5.out); clear hR8 hB8 hg8 Zt))
    go_roundw
    case rel => exact ⟨k + 1, _, by omega, by go_num, HR8, HB8, ⟨fun s => by rw [List.map_append, List.mem_append, HM.out s, HTK.out]; simp [or_and_right, exists_or, eq_comm]⟩, ⟨by rw [List.length_append]; have := HL.out; simp; omega⟩⟩
    case measure => simp [intOf]; omega
   ·have hq : ((j : Int) == (k : Int)) = false := by
     rw [beq_eq_false_iff_ne]; omega
    obtain ⟨hjl, hjx⟩ := HJS.out
    have hall := HAT.out j hjl hjk hjx hje
    have HALL := jA hall
    clear hje hall hjx hjl
    go_wp2
    go_roundw
    case rel => exact ⟨k + 1, ps, by omega, by go_num, HR3, HB3, ⟨fun s => by
     rw [HM.out s, HTK.out]
     constructor
     ·rintro ⟨y, hy, rfl⟩; exact ⟨y, List.mem_append_left _ hy, rfl⟩
     ·rintro ⟨y, hy, rfl⟩
      rcases List.mem_append.1 hy with hy | hy
      ·exact ⟨y, hy, rfl⟩
      ·rw [List.mem_singleton.1 hy]; exact HALL.out⟩, ⟨Nat.le_succ_of_le HL.out⟩⟩
    case measure => simp [intOf]; omega
  ·have hkk : k = d.subs.length := by omega
   subst hkk
   have hM := HM.out
   rw [List.take_length] at hM
   have HM1 := jA hM
   obtain ⟨w1, hw1⟩ : ∃ w1, w1 = wr := ⟨_, rfl⟩
   subst hw1
   have HP1 := jA hpin
   have e3 := HB.out.cell 3
   simp only [Pol.cells, Jt, Ju, Jv] at e3
   clear hM hpin HM
   have holen : d.objs.length ≤ 8796093022207 := Nat.le_trans HO.out (by decide)
   go_upto_region 10 with (first | (go_at_call 55; (with_reducible refine (once_go A3 c3 d.objs _ HP1.out.h3 HP1.out.l3 holen).mono ?_); rintro e w2 ⟨v51, rfl, ZE, hb2⟩; obtain ⟨A51, c51, rfl, ZF, ZG⟩ := Kd.R_reads ZE; have ZH := jA ZG; have HR2 := jA (HR.out.move hb2); have HB2 := jA (HB.out.below hb2); have HP2 := jA (HP1.out.below hb2); clear ZE ZG hb2))
   obtain ⟨LO, hLO⟩ : ∃ LO, LO = MPut.putAll [] d.objs := ⟨_, rfl⟩
   have hLOm : ∀ o, o ∈ LO ↔ o ∈ d.objs := fun o => by rw [hLO, MPut.mem_putAll]; simp
   have hLOs : LO.length ≤ 64 := by rw [hLO]; exact Nat.le_trans (putAll_short [] d.objs) (by simpa using HO.out)
   rw [← hLO] at ZH ZF ⊢
   have HLOM := jA hLOm
   clear hLO hLOm ZF
   go_loopw [4, 53] (fun u4 u53 wr => ∃ (k2 : Nat) (ps2 : List SD), k2 ≤ LO.length ∧ u53 = .int .i64 k2 ∧ Aside0 (Sides w2 wr u4 ps2 (fun o _ => d.what o) (fun o tr => tr = 0 ∧ o ∈ d.objs)) ∧ Aside0 (ps2.map (·.1) = LO.take k2)) (fun _ u53 _ => LO.length - (intOf u53).toNat)
   case atStart => exact ⟨0, [], Nat.zero_le _, rfl, ⟨⟨OwnRow.none_ _ _ _ _ _, by simp, by simp, Below.refl _ _⟩⟩, ⟨by simp⟩⟩
   case round =>
    obtain ⟨k2, ps2, hk2, rfl, HW, HN2⟩ := hrel
    by_cases Zu : k2 < LO.length
    ·obtain ⟨ad, e0, hx⟩ := Kd.at_string ZH.out (k2 : Int) (by omega) (by omega)
     subst e0
     have hget : rdOf ByteArray.empty LO (k2 : Int) = LO[k2] := by simp [rdOf, Zu]
     simp only [hget, Int.toNat_natCast] at hx
     have htk : LO.take (k2 + 1) = LO.take k2 ++ [LO[k2]] := List.take_succ_eq_append_getElem Zu
     have hmem : LO[k2] ∈ d.objs := (HLOM.out _).1 (List.getElem_mem Zu)
     obtain ⟨x, hxx⟩ : ∃ x, x = LO[k2] := ⟨_, rfl⟩
     rw [← hxx] at hx htk hmem
     replace hx := pw_cell_below HW.out.below hx
     have ZI : ps2.length ≤ 64 := by
      have := congrArg List.length HN2.out
      rw [List.length_map, List.length_take] at this
      omega
     have HLIM := jA (show (ps2.length + 1) * 32 ≤ 140737488355328 by omega)
     have HTK := jA htk
     have HMEM := jA hmem
     have HXOK := jA (HD.out.objs x hmem)
     have HB4 := jA (HB2.out.below HW.out.below)
     have HP4 := jA (HP2.out.below HW.out.below)
     have c0' : (k2 : Int) < LO.length := by omega
     clear hget htk hmem hxx ZI
     go_upto_region 13 with (first | ((with_reducible refine gate_dst (N := 58) rfl ?_); refine wpList_load_blk rfl 31 (.tmp 1) rfl w.heap.size ?hx #[.slice A0 d.acts.length c0, .slice A1 d.subs.length c1, .slice A2 d.roles.length c2, .slice A3 d.objs.length c3, .slice A4 d.grps.length c4, .slice A5 d.mem.length c5, .slice A6 d.inh.length c6, .slice A7 d.par.length c7, .slice A8 d.wit.length c8, .slice A9 d.rules.length c9, .slice A10 d.exc.length c10] 31 HB4.out _ Try.underlying31 rfl i39 ?_; (case hx => rfl)) | (go_at_call 56; (refine (object_go _ x _ HP4.out HD.out HXOK.out HMEM.out).mono ?_); rintro e w5 ⟨b, rfl, hset, hb5⟩; have HW5 := jA (HW.out.move hb5); have HSET := jA hset; clear hset hb5) | ((with_reducible refine gate_dst (N := 11) rfl ?_); refine wpList_alloc_store rfl rfl 145 11 (.tmp 61) rfl rfl rfl noneV #[.string x, .float .f64 0, .map (some b)] _ (z145 _) rfl i95 rfl (by simp [Value.oneCell']) ?hy ?hp ?_; (case hy => rfl); (case hp => rfl)))
     (try simp only [Act.put])
     have hb6 := below_alloc (Below.refl _ w5) (.cells #[.string x, .float .f64 0, .map (some b)] 145)
     have hS6 : Stays (w5.alloc (.cells #[.string x, .float .f64 0, .map (some b)] 145)) w5.heap.size #[.string x, .float .f64 0, .map (some b)] 145 := heap_alloc_new w5 _
     have hW6 := HW5.out.move hb6
     have hT6 := HSET.out.below hb6
     obtain ⟨W6, hW6e⟩ : ∃ W6, W6 = w5.alloc (.cells #[.string x, .float .f64 0, .map (some b)] 145) := ⟨_, rfl⟩
     obtain ⟨g11, ZJ⟩ : ∃ g11, g11 = w5.heap.size := ⟨_, rfl⟩
     rw [← hW6e] at hS6 hW6 hT6 ⊢
     rw [← ZJ] at hS6 ⊢
     have HS6 := jA hS6
     have HW6 := jA hW6
     have HT6 := jA hT6
     clear hb6 hS6 hW6 hT6 hW6e ZJ
     go_wp2_with (first | ((with_reducible refine gate_dst (N := 64) rfl ?_); refine wpList_load_blk rfl 145 (.tmp 11) rfl g11 ?hx #[.string x, .float .f64 0, .map (some b)] 145 HS6.out _ Try.underlying145 rfl i95 ?_; (case hx => rfl)) | ((with_reducible refine gate_builtin (b := .append) (xs := #[.tmp 63, .tmp 65]) rfl ?_); at_builtin; refine OwnRow.append (w0 := w2) (R := RS) w2.heap.size rfl (.tmp 63) (.tmp 65) 140 145 (.agg #[.string ⟨#[]⟩, .float .f64 0, .map none]) 3 32 rfl Try.underlying140 info145 rfl (by decide) (by decide) u4 ps2 (x, 0, b) [.string x, .float .f64 0, .map (some b)] rfl rfl (RS_mk _ _ _) rfl (by simp [Value.oneCell']) HW6.out.row HW6.out.below HW6.out.below.size HLIM.out ?_; intro v8 w8 hR8 hB8 hg8 Zt; have HW8 := jA (HW6.out.put (x := (x, 0, b)) HT6.out ⟨rfl, HMEM.out⟩ hR8 hg8 hB8); clear hR8 hB8 hg8 Zt))
     go_roundw
     case rel => exact ⟨k2 + 1, _, by omega, by go_num, HW8, ⟨by rw [List.map_append, HN2.out, HTK.out]; rfl⟩⟩
     case measure => simp [intOf]; omega
    ·have Z3 : k2 = LO.length := by omega
     subst Z3
     have hN2 := HN2.out
     rw [List.take_length] at hN2
     have HNW := jA hN2
     obtain ⟨w3, hw3⟩ : ∃ w3, w3 = wr := ⟨_, rfl⟩
     subst hw3
     have HP3 := jA (HP2.out.below HW.out.below)
     have HR3 := jA (HR2.out.move HW.out.below)
     have HB3 := jA (HB2.out.below HW.out.below)
     have e0 := HB3.out.cell 0
     simp only [Pol.cells, List.getElem?_toArray, List.getElem?_cons_zero] at e0
     clear hN2 HN2
     have halen : d.acts.length ≤ 8796093022207 := Nat.le_trans HA.out (by decide)
     go_upto_region 16 with (first | (go_at_call 55; (with_reducible refine (once_go A0 c0 d.acts _ HP3.out.h0 HP3.out.l0 halen).mono ?_); rintro e w4 ⟨v70, rfl, ZK, hb4⟩; obtain ⟨A70, c70, rfl, ZL, ZM⟩ := Kd.R_reads ZK; have ZN := jA ZM; have HW4 := jA (HW.out.move hb4); have HR4 := jA (HR3.out.move hb4); have HB4 := jA (HB3.out.below hb4); have HP4 := jA (HP3.out.below hb4); clear ZK ZM hb4))
     obtain ⟨LA, hLA⟩ : ∃ LA, LA = MPut.putAll [] d.acts := ⟨_, rfl⟩
     have hLAm : ∀ o, o ∈ LA ↔ o ∈ d.acts := fun o => by rw [hLA, MPut.mem_putAll]; simp
     have hLAs : LA.length ≤ 16 := by rw [hLA]; exact Nat.le_trans (putAll_short [] d.acts) (by simpa using HA.out)
     rw [← hLA] at ZN ZL ⊢
     have HLAM := jA hLAm
     clear hLA hLAm ZL e0
     obtain ⟨Ax, cx, e3x, hlx, hRx⟩ := HR4.out.row.reads
     obtain ⟨Ay, cy, e4y, hly, hRy⟩ := HW4.out.row.reads
     subst e3x
     subst e4y
     have hps : ps.length ≤ 64 := Nat.le_trans HL.out HS.out
     have Yh : ps2.length ≤ 64 := by
      have := congrArg List.length HNW.out
      rw [List.length_map] at this
      omega
     have HRX := jA hRx
     have HRY := jA hRy
     clear hlx hly hRx hRy
     go_wp2
     have hRSget : ∀ {A : Option Addr} {qs : List SD} {W : World} (h : ReadsRow RS 3 W A qs.length qs) (n : Nat) (hn : n < qs.length), ∃ ad, A = some ad ∧ ∀ j v, ([.string qs[n].1, .float .f64 qs[n].2.1, .map (some qs[n].2.2)] : List Value)[j]? = some v → W.cell? ((ad.add (n * 3)).add j) = some v := by
      intro A qs W h n hn
      obtain ⟨ad, cs, e, _, hR, hc⟩ := h.get_ (⟨#[]⟩, 0, 0) (n : Int) (by omega) (by omega)
      have hR : RS qs[n] cs := by
       have : qs.getD (n : Int).toNat (⟨#[]⟩, 0, 0) = qs[n] := by simp [hn]
       rw [← this]; exact hR
      refine ⟨ad, e, fun j v hv => ?_⟩
      rw [add_add]
      exact hc j v (by rw [hR]; exact hv)
     have HGET := jA @hRSget
     clear hRSget
     go_loopw [14, 73] (fun u14 u73 wr => ∃ (i : Nat) (L : List S41), i ≤ ps.length ∧ u73 = .int .i64 i ∧ Aside0 (Kd.R k41 41 wr w4.heap.size (fun _ => True) u14 L) ∧ Aside0 (Below w4.heap.size w4 wr) ∧ Aside0 (∀ t, t ∈ L ↔ Got d (ps.map (·.1)) LO LA i 0 0 t) ∧ Aside0 (L.length ≤ i * 1024)) (fun _ u73 _ => ps.length - (intOf u73).toNat)
     case atStart => exact ⟨0, [], Nat.zero_le _, rfl, ⟨Kd.R_nil _ _ _ _ _⟩, ⟨Below.refl _ _⟩, ⟨fun t => by simp [Got.start]⟩, ⟨by simp⟩⟩
     case round =>
      obtain ⟨i, L, hi, rfl, HL3, HB5, HG, HN3⟩ := hrel
      by_cases Zf : i < ps.length
      ·obtain ⟨adx, ex, hcx⟩ := HGET.out HRX.out i Zf
       subst ex
       have hxin := List.getElem_mem Zf
       have hxset := HR4.out.sets _ hxin
       have hxtr := HR4.out.trust _ hxin
       have hnm : (ps.map (·.1))[i]? = some ps[i].1 := by simp [Zf]
       obtain ⟨xs, hxs⟩ : ∃ xs, xs = ps[i] := ⟨_, rfl⟩
       rw [← hxs] at hcx hxset hxtr hnm
       have hcx' : ∀ j v, ([.string xs.1, .float .f64 xs.2.1, .map (some xs.2.2)] : List Value)[j]? = some v → wr.cell? ((adx.add (i * 3)).add j) = some v := fun j v hv => pw_cell_below HB5.out (hcx j v hv)
       have HCX := jA hcx'
       have HXSET := jA hxset
       have HXTR := jA hxtr
       have HNM := jA hnm
       have c03 : (i : Int) < ps.length := by omega
       clear hcx hcx' hxset hxtr hnm hxin hxs
       go_upto_region 20 with (first | ((with_reducible refine gate_dst (N := 76) rfl ?_); refine wpList_load_at rfl 145 (.tmp 75) rfl (adx.add (i * 3)) ?hx [.string xs.1, .float .f64 xs.2.1, .map (some xs.2.2)] HCX.out _ Try.underlying145 rfl i95 ?_; (case hx => rfl); refine wpList_alloc_store rfl rfl 145 16 (.tmp 76) rfl rfl rfl noneV #[.string xs.1, .float .f64 xs.2.1, .map (some xs.2.2)] _ (z145 _) rfl i95 rfl (by simp [Value.oneCell']) ?hy ?hp ?_; (case hy => rfl); (case hp => rfl)))
       (try simp only [Act.put])
       have hbS := below_alloc (Below.refl _ wr) (.cells #[.string xs.1, .float .f64 xs.2.1, .map (some xs.2.2)] 145)
       have hsS : Stays (wr.alloc (.cells #[.string xs.1, .float .f64 xs.2.1, .map (some xs.2.2)] 145)) wr.heap.size #[.string xs.1, .float .f64 xs.2.1, .map (some xs.2.2)] 145 := heap_alloc_new wr _
       have hL6 := Kd.R_below HL3.out hbS
       have hB6 := below_then HB5.out HB5.out.size hbS
       obtain ⟨W6, hW6e⟩ : ∃ W6, W6 = wr.alloc (.cells #[.string xs.1, .float .f64 xs.2.1, .map (some xs.2.2)] 145) := ⟨_, rfl⟩
       obtain ⟨g16, ZO⟩ : ∃ g16, g16 = wr.heap.size := ⟨_, rfl⟩
       rw [← hW6e] at hsS hL6 hB6 ⊢
       rw [← ZO] at hsS ⊢
       have HSX := jA hsS
       have HL6 := jA hL6
       have HB6 := jA hB6
       clear hbS hsS hL6 hB6 hW6e ZO
       go_wp2
       go_loopw [14, 79] (fun u14 u79 wr => ∃ (j : Nat) (L : List S41), j ≤ ps2.length ∧ u79 = .int .i64 j ∧ Aside0 (Kd.R k41 41 wr w4.heap.size (fun _ => True) u14 L) ∧ Aside0 (Below w4.heap.size w4 wr) ∧ Aside0 (Stays wr g16 #[.string xs.1, .float .f64 xs.2.1, .map (some xs.2.2)] 145) ∧ Aside0 (∀ t, t ∈ L ↔ Got d (ps.map (·.1)) LO LA i j 0 t) ∧ Aside0 (L.length ≤ i * 1024 + j * 16)) (fun _ u79 _ => ps2.length - (intOf u79).toNat)
       case atStart => exact ⟨0, L, Nat.zero_le _, rfl, HL6, HB6, HSX, HG, ⟨by have := HN3.out; omega⟩⟩
       case round =>
        obtain ⟨j, L2, hj, rfl, HL7, HB7, Z4, HG7, HN7⟩ := hrel
        by_cases Zv : j < ps2.length
        ·obtain ⟨ady, ey, hcy⟩ := HGET.out HRY.out j Zv
         subst ey
         have hyin := List.getElem_mem Zv
         have hyset := HW4.out.sets _ hyin
         have hytr := HW4.out.trust _ hyin
         have hon : LO[j]? = some ps2[j].1 := by rw [← HNW.out]; simp [Zv]
         obtain ⟨ys, hys⟩ : ∃ ys, ys = ps2[j] := ⟨_, rfl⟩
         rw [← hys] at hcy hyset hytr hon
         have hcy' : ∀ j v, ([.string ys.1, .float .f64 ys.2.1, .map (some ys.2.2)] : List Value)[j]? = some v → wr.cell? ((ady.add (j * 1)).add 0) = wr.cell? ((ady.add (j * 1)).add 0) := fun _ _ _ => rfl
         clear hcy'
         have HCY := jA (fun q v (hv : ([.string ys.1, .float .f64 ys.2.1, .map (some ys.2.2)] : List Value)[q]? = some v) => (pw_cell_below HB7.out (hcy q v hv) : wr.cell? ((ady.add (j * 3)).add q) = some v))
         have HYSET := jA hyset
         have HYTR := jA hytr
         have HON := jA hon
         have c04 : (j : Int) < ps2.length := by omega
         clear hcy hyset hytr hon hyin hys
         go_upto_region 23 with (first | ((with_reducible refine gate_dst (N := 82) rfl ?_); refine wpList_load_at rfl 145 (.tmp 81) rfl (ady.add (j * 3)) ?hx [.string ys.1, .float .f64 ys.2.1, .map (some ys.2.2)] HCY.out _ Try.underlying145 rfl i95 ?_; (case hx => rfl); refine wpList_alloc_store rfl rfl 145 18 (.tmp 82) rfl rfl rfl noneV #[.string ys.1, .float .f64 ys.2.1, .map (some ys.2.2)] _ (z145 _) rfl i95 rfl (by simp [Value.oneCell']) ?hy ?hp ?_; (case hy => rfl); (case hp => rfl)))
         (try simp only [Act.put])
         have hbS := below_alloc (Below.refl _ wr) (.cells #[.string ys.1, .float .f64 ys.2.1, .map (some ys.2.2)] 145)
         have hsS : Stays (wr.alloc (.cells #[.string ys.1, .float .f64 ys.2.1, .map (some ys.2.2)] 145)) wr.heap.size #[.string ys.1, .float .f64 ys.2.1, .map (some ys.2.2)] 145 := heap_alloc_new wr _
         have hL8 := Kd.R_below HL7.out hbS
         have hB8 := below_then HB7.out HB7.out.size hbS
         have hS8 := Z4.out.below hbS
         obtain ⟨W8, hW8e⟩ : ∃ W8, W8 = wr.alloc (.cells #[.string ys.1, .float .f64 ys.2.1, .map (some ys.2.2)] 145) := ⟨_, rfl⟩
         obtain ⟨g18, ZP⟩ : ∃ g18, g18 = wr.heap.size := ⟨_, rfl⟩
         rw [← hW8e] at hsS hL8 hB8 hS8 ⊢
         rw [← ZP] at hsS ⊢
         have HSY := jA hsS
         have HL8 := jA hL8
         have HB8 := jA hB8
         have ZQ := jA hS8
         have HP8 := jA (HP4.out.below hB8)
         have ZR := jA (HB4.out.below hB8)
         have HX8 := jA (HXSET.out.below hB8)
         have HY8 := jA (HYSET.out.below hB8)
         clear hbS hsS hL8 hB8 hS8 hW8e ZP
         go_upto_region 24 with (first | ((with_reducible refine gate_dst (N := 83) rfl ?_); refine wpList_load_blk rfl 31 (.tmp 1) rfl w.heap.size ?hx #[.slice A0 d.acts.length c0, .slice A1 d.subs.length c1, .slice A2 d.roles.length c2, .slice A3 d.objs.length c3, .slice A4 d.grps.length c4, .slice A5 d.mem.length c5, .slice A6 d.inh.length c6, .slice A7 d.par.length c7, .slice A8 d.wit.length c8, .slice A9 d.rules.length c9, .slice A10 d.exc.length c10] 31 ZR.out _ Try.underlying31 rfl i39 ?_; (case hx => rfl)) | ((with_reducible refine gate_dst (N := 84) rfl ?_); refine wpList_load_blk rfl 145 (.tmp 16) rfl g16 ?hx #[.string xs.1, .float .f64 xs.2.1, .map (some xs.2.2)] 145 ZQ.out _ Try.underlying145 rfl i95 ?_; (case hx => rfl)) | ((with_reducible refine gate_dst (N := 85) rfl ?_); refine wpList_load_blk rfl 145 (.tmp 18) rfl g18 ?hx #[.string ys.1, .float .f64 ys.2.1, .map (some ys.2.2)] 145 HSY.out _ Try.underlying145 rfl i95 ?_; (case hx => rfl)) | (go_at_call 57; (refine (about_own _ w4 xs.1 xs.2.1 xs.2.2 _ ys.1 ys.2.1 ys.2.2 _ _ HB8.out HP4.out HD.out HX8.out HY8.out).mono ?_); rintro e w9 ⟨v19, rfl, hRu, hb9⟩; have HRU := jA hRu; have HL9 := jA (Kd.R_below HL8.out hb9); have HB9 := jA (below_then HB8.out HB8.out.size hb9); have Z5 := jA (ZQ.out.below hb9); have Z6 := jA (HSY.out.below hb9); have Z7 := jA (ZR.out.below hb9); clear hRu hb9))
         obtain ⟨RU, hRUe⟩ : ∃ RU, RU = d.rules.filter fun r => speaksB r (d.who xs.1) (d.what ys.1) xs.2.1 := ⟨_, rfl⟩
         have hRU := HRU.out
         rw [← hRUe] at hRU
         have HRU := jA hRU
         obtain ⟨Ar, cr, er, hlr, _⟩ := hRU.reads
         subst er
         have hal : ∀ a, a ∈ d.acts → d.allowB ⟨xs.1, ys.1, a⟩ = allowsF RU d.exc ⟨xs.1, ys.1, a⟩ := fun a ha => by
          rw [hRUe]; exact allowB_at HXTR.out HYTR.out.2 ha
         have HAL := jA hal
         clear hRU hRUe hal hlr
         go_wp2
         go_loopw [14, 89] (fun u14 u89 wr => ∃ (l : Nat) (L : List S41), l ≤ LA.length ∧ u89 = .int .i64 l ∧ Aside0 (Kd.R k41 41 wr w4.heap.size (fun _ => True) u14 L) ∧ Aside0 (Below w4.heap.size w4 wr) ∧ Aside0 (OwnRow (k73.K w4) 73 6 wr W8.heap.size (.slice Ar RU.length cr) RU) ∧ Aside0 (Stays wr g16 #[.string xs.1, .float .f64 xs.2.1, .map (some xs.2.2)] 145) ∧ Aside0 (Stays wr g18 #[.string ys.1, .float .f64 ys.2.1, .map (some ys.2.2)] 145) ∧ Aside0 (Stays wr w.heap.size #[.slice A0 d.acts.length c0, .slice A1 d.subs.length c1, .slice A2 d.roles.length c2, .slice A3 d.objs.length c3, .slice A4 d.grps.length c4, .slice A5 d.mem.length c5, .slice A6 d.inh.length c6, .slice A7 d.par.length c7, .slice A8 d.wit.length c8, .slice A9 d.rules.length c9, .slice A10 d.exc.length c10] 31) ∧ Aside0 (∀ t, t ∈ L ↔ Got d (ps.map (·.1)) LO LA i j l t) ∧ Aside0 (L.length ≤ i * 1024 + j * 16 + l)) (fun _ u89 _ => LA.length - (intOf u89).toNat)
         case atStart => exact ⟨0, L2, Nat.zero_le _, rfl, HL9, HB9, HRU, Z5, Z6, Z7, HG7, ⟨HN7.out⟩⟩
         case round =>
          obtain ⟨l, L3, hl, rfl, ZS, Zk, Z8, Zw, ZT, ZU, Zx, Zg⟩ := hrel
          by_cases Zy : l < LA.length
          ·obtain ⟨ada, ea, hxa⟩ := Kd.at_string ZN.out (l : Int) (by omega) (by omega)
           subst ea
           have hget : rdOf ByteArray.empty LA (l : Int) = LA[l] := by simp [rdOf, Zy]
           simp only [hget, Int.toNat_natCast] at hxa
           have hain : LA[l] ∈ d.acts := (HLAM.out _).1 (List.getElem_mem Zy)
           have hjl : j < LO.length := by have := congrArg List.length HNW.out; rw [List.length_map] at this; omega
           have hil : i < (ps.map (·.1)).length := by rw [List.length_map]; exact Zf
           have e1i : (ps.map (·.1))[i] = xs.1 := by have := HNM.out; rw [List.getElem?_eq_getElem hil] at this; exact Option.some.inj this
           have e2j : LO[j] = ys.1 := by have := HON.out; rw [List.getElem?_eq_getElem hjl] at this; exact Option.some.inj this
           have hnext : ∀ t, Got d (ps.map (·.1)) LO LA i j (l + 1) t ↔ (Got d (ps.map (·.1)) LO LA i j l t ∨ (t = ⟨xs.1, ys.1, LA[l]⟩ ∧ d.allowB t = true)) := fun t => by
            have := Got.next (d := d) (t := t) hil hjl Zy
            rw [e1i, e2j] at this
            exact this
           obtain ⟨a, haa⟩ : ∃ a, a = LA[l] := ⟨_, rfl⟩
           rw [← haa] at hxa hain hnext
           have ya := pw_cell_below Zk.out hxa
           have hall := HAL.out a hain
           obtain ⟨q, hq⟩ : ∃ q, allowsF RU d.exc ⟨xs.1, ys.1, a⟩ = q := ⟨_, rfl⟩
           rw [hq] at hall
           have HQ := jA hq
           have HALL := jA hall
           have HNEXT := jA hnext
           have x16 : wr.cell? ⟨g16, 0, none⟩ = some (.string xs.1) := Zw.out.cell 0
           have y18 : wr.cell? ⟨g18, 0, none⟩ = some (.string ys.1) := ZT.out.cell 0
           have c05 : (l : Int) < LA.length := by omega
           clear hget hain hjl hil e1i e2j hnext haa hxa hall hq
           go_upto_region 28 with (first | ((with_reducible refine gate_dst (N := 22) rfl ?_); refine wpList_alloc_store rfl rfl 41 25 (.tmp 98) rfl rfl rfl #[.string ⟨#[]⟩, .string ⟨#[]⟩, .string ⟨#[]⟩] #[.string xs.1, .string ys.1, .string a] _ (z28v _) rfl i28 rfl (by simp [Value.oneCell']) ?hy ?hp ?_; (case hy => rfl); (case hp => rfl)))
           (try simp only [Act.put])
           have hb := below_alloc (Below.refl _ wr) (.cells #[.string xs.1, .string ys.1, .string a] 41)
           have Zl : Stays (wr.alloc (.cells #[.string xs.1, .string ys.1, .string a] 41)) wr.heap.size #[.string xs.1, .string ys.1, .string a] 41 := heap_alloc_new wr _
           have hL := Kd.R_below ZS.out hb
           have hB := below_then Zk.out Zk.out.size hb
           have hR := Z8.out.below hb
           have hX := Zw.out.below hb
           have hY := ZT.out.below hb
           have hBX := ZU.out.below hb
           obtain ⟨W11, ZV⟩ : ∃ W11, W11 = wr.alloc (.cells #[.string xs.1, .string ys.1, .string a] 41) := ⟨_, rfl⟩
           obtain ⟨g22, ZW⟩ : ∃ g22, g22 = wr.heap.size := ⟨_, rfl⟩
           rw [← ZV] at Zl hL hB hR hX hY hBX ⊢
           rw [← ZW] at Zl ⊢
           have Zc := jA Zl
           have Zm := jA hL
           have Zd := jA hB
           have Zh := jA hR
           have Zn := jA hX
           have Zo := jA hY
           have Za := jA hBX
           have Zp := jA (HP4.out.below hB)
           have HLIM := jA (show (L3.length + 1) * 48 ≤ 140737488355328 by have := Zg.out; omega)
           clear hb Zl hL hB hR hX hY hBX ZV ZW x16 y18 ya
           have hCr : Kd.C k73 W11 Ar RU.length RU := by
            obtain ⟨A', c', e', _, hr⟩ := Zh.out.reads
            obtain ⟨rfl, rfl⟩ : Ar = A' ∧ cr = c' := by simpa using e'
            exact hr.imp_ (Below.refl _ _) (fun p c hp => k73.K_below Zd.out hp)
           have HCR := jA hCr
           clear hCr
           cases q with
           | false =>
            have HGn := jA (fun t => (Zx.out t).trans ⟨fun h => (HNEXT.out t).2 (.inl h), fun h => ((HNEXT.out t).1 h).elim id (fun h2 => by rw [h2.1, HALL.out] at h2; exact absurd h2.2 (by simp))⟩ : ∀ t, t ∈ L3 ↔ Got d (ps.map (·.1)) LO LA i j (l + 1) t)
            by_cases hru : RU.length = 0
            ·have hz0 : decide ((0 : Int) < RU.length) = false := by rw [decide_eq_false_iff_not]; omega
             have hz1 : ¬ (0 : Int) < RU.length := by omega
             have hz2 : ¬ 0 < RU.length := by omega
             have HALLS := jA (And.intro Zm (And.intro Zd (And.intro Zh (And.intro Zn (And.intro Zo (And.intro Za HGn))))))
             clear hru Zm Zd Zh Zn Zo Za HGn
             go_wp2
             go_roundw
             case rel => obtain ⟨q1, q2, q3, q4, q5, q6, q7⟩ := HALLS.out; exact ⟨l + 1, L3, by omega, by go_num, q1, q2, q3, q4, q5, q6, q7, ⟨by have := Zg.out; omega⟩⟩
             case measure => simp [intOf]; omega
            ·have hz0 : (0 : Int) < RU.length := by omega
             clear hru
             have y0 : W11.cell? ⟨w.heap.size, 0, none⟩ = some (.slice A0 d.acts.length c0) := Za.out.cell 0
             have y1 : W11.cell? ⟨w.heap.size, 1, none⟩ = some (.slice A1 d.subs.length c1) := Za.out.cell 1
             have y2 : W11.cell? ⟨w.heap.size, 2, none⟩ = some (.slice A2 d.roles.length c2) := Za.out.cell 2
             have y3 : W11.cell? ⟨w.heap.size, 3, none⟩ = some (.slice A3 d.objs.length c3) := Za.out.cell 3
             have y4 : W11.cell? ⟨w.heap.size, 4, none⟩ = some (.slice A4 d.grps.length c4) := Za.out.cell 4
             have y5 : W11.cell? ⟨w.heap.size, 5, none⟩ = some (.slice A5 d.mem.length c5) := Za.out.cell 5
             have y6 : W11.cell? ⟨w.heap.size, 6, none⟩ = some (.slice A6 d.inh.length c6) := Za.out.cell 6
             have y7 : W11.cell? ⟨w.heap.size, 7, none⟩ = some (.slice A7 d.par.length c7) := Za.out.cell 7
             have y8 : W11.cell? ⟨w.heap.size, 8, none⟩ = some (.slice A8 d.wit.length c8) := Za.out.cell 8
             have y9 : W11.cell? ⟨w.heap.size, 9, none⟩ = some (.slice A9 d.rules.length c9) := Za.out.cell 9
             have y10 : W11.cell? ⟨w.heap.size, 10, none⟩ = some (.slice A10 d.exc.length c10) := Za.out.cell 10
             have z0 : W11.cell? ⟨g22, 0, none⟩ = some (.string xs.1) := Zc.out.cell 0
             have z1 : W11.cell? ⟨g22, 1, none⟩ = some (.string ys.1) := Zc.out.cell 1
             have z2 : W11.cell? ⟨g22, 2, none⟩ = some (.string a) := Zc.out.cell 2
             go_wp2_with (go_at_call 58; (refine (allows_calls (Pol.mk d A0 c0 A1 c1 A2 c2 A3 c3 A4 c4 A5 c5 A6 c6 A7 c7 A8 c8 A9 c9 A10 c10) Ar cr RU ⟨xs.1, ys.1, a⟩ _ HCR.out Zp.out.h10 Zp.out.l10 _ HQ.out).mono ?_); rintro e w12 ⟨rfl, Zb⟩; have Ze := jA (Kd.R_below Zm.out Zb); have Zq := jA (below_then Zd.out Zd.out.size Zb); have Zz := jA (Zh.out.below Zb); have ZA := jA (Zn.out.below Zb); have ZB := jA (Zo.out.below Zb); have Zi := jA (Za.out.below Zb); have ZX := jA (Zc.out.below Zb); clear Zb)
             go_roundw
             case rel => exact ⟨l + 1, L3, by omega, by go_num, Ze, Zq, Zz, ZA, ZB, Zi, HGn, ⟨by have := Zg.out; omega⟩⟩
             case measure => simp [intOf]; omega
           | true =>
            have hru : RU.length ≠ 0 := fun e => by
             have hnil : RU = [] := List.length_eq_zero_iff.1 e
             have hq2 := HQ.out
             rw [hnil, allowsF_iff] at hq2
             obtain ⟨⟨⟨r, hr, _⟩, _⟩, _⟩ := hq2
             simp at hr
            have hz0 : (0 : Int) < RU.length := by omega
            clear hru
            have y0 : W11.cell? ⟨w.heap.size, 0, none⟩ = some (.slice A0 d.acts.length c0) := Za.out.cell 0
            have y1 : W11.cell? ⟨w.heap.size, 1, none⟩ = some (.slice A1 d.subs.length c1) := Za.out.cell 1
            have y2 : W11.cell? ⟨w.heap.size, 2, none⟩ = some (.slice A2 d.roles.length c2) := Za.out.cell 2
            have y3 : W11.cell? ⟨w.heap.size, 3, none⟩ = some (.slice A3 d.objs.length c3) := Za.out.cell 3
            have y4 : W11.cell? ⟨w.heap.size, 4, none⟩ = some (.slice A4 d.grps.length c4) := Za.out.cell 4
            have y5 : W11.cell? ⟨w.heap.size, 5, none⟩ = some (.slice A5 d.mem.length c5) := Za.out.cell 5
            have y6 : W11.cell? ⟨w.heap.size, 6, none⟩ = some (.slice A6 d.inh.length c6) := Za.out.cell 6
            have y7 : W11.cell? ⟨w.heap.size, 7, none⟩ = some (.slice A7 d.par.length c7) := Za.out.cell 7
            have y8 : W11.cell? ⟨w.heap.size, 8, none⟩ = some (.slice A8 d.wit.length c8) := Za.out.cell 8
            have y9 : W11.cell? ⟨w.heap.size, 9, none⟩ = some (.slice A9 d.rules.length c9) := Za.out.cell 9
            have y10 : W11.cell? ⟨w.heap.size, 10, none⟩ = some (.slice A10 d.exc.length c10) := Za.out.cell 10
            have z0 : W11.cell? ⟨g22, 0, none⟩ = some (.string xs.1) := Zc.out.cell 0
            have z1 : W11.cell? ⟨g22, 1, none⟩ = some (.string ys.1) := Zc.out.cell 1
            have z2 : W11.cell? ⟨g22, 2, none⟩ = some (.string a) := Zc.out.cell 2
            go_upto_region 29 with (go_at_call 58; (refine (allows_calls (Pol.mk d A0 c0 A1 c1 A2 c2 A3 c3 A4 c4 A5 c5 A6 c6 A7 c7 A8 c8 A9 c9 A10 c10) Ar cr RU ⟨xs.1, ys.1, a⟩ _ HCR.out Zp.out.h10 Zp.out.l10 _ HQ.out).mono ?_); rintro e w12 ⟨rfl, Zb⟩; have Ze := jA (Kd.R_below Zm.out Zb); have Zq := jA (below_then Zd.out Zd.out.size Zb); have Zz := jA (Zh.out.below Zb); have ZA := jA (Zn.out.below Zb); have ZB := jA (Zo.out.below Zb); have Zi := jA (Za.out.below Zb); have ZX := jA (Zc.out.below Zb); clear Zb)
            clear y0 y1 y2 y3 y4 y5 y6 y7 y8 y9 y10 z0 z1 z2
            go_upto_region 30 with (first | ((with_reducible refine gate_dst (N := 109) rfl ?_); refine wpList_load_blk rfl 41 (.tmp 22) rfl g22 ?hx #[.string xs.1, .string ys.1, .string a] 41 ZX.out _ Try.underlying41 rfl i28 ?_; (case hx => rfl)) | (at_builtin; refine Kd.R_append k41 (w0 := w4) w4.heap.size rfl (.tmp 108) (.tmp 110) 29 41 (.agg #[.string ⟨#[]⟩, .string ⟨#[]⟩, .string ⟨#[]⟩]) 48 rfl Try.underlying29 info41 rfl (by decide) (by decide) u14 L3 ⟨xs.1, ys.1, a⟩ [.string xs.1, .string ys.1, .string a] (fun _ => True) (fun _ => False) rfl rfl (k41_mkM _ _ _ (⟨xs.1, ys.1, a⟩ : S41)) (fun _ hk => hk.elim) (fun _ _ => trivial) Ze.out Zq.out Zq.out.size HLIM.out ?_; intro v13 w13 ZY ZZ Zj Z0))
            have Z9 := jA (own_stays Ze.out Zj ZA.out (by decide))
            have Ya := jA (own_stays Ze.out Zj ZB.out (by decide))
            have Z1 := jA (own_stays Ze.out Zj Zi.out (by decide))
            have Yb := jA (own_other_row Ze.out Zj Zz.out (by decide))
            have Yc := jA ZY
            have Yd := jA ZZ
            have Ye := jA (fun t => by
             rw [List.mem_append, List.mem_singleton, HNEXT.out t, Zx.out t]
             constructor
             ·rintro (h | h)
              ·exact .inl h
              ·exact .inr ⟨h, by rw [h]; exact HALL.out⟩
             ·rintro (h | h)
              ·exact .inl h
              ·exact .inr h.1 : ∀ t, t ∈ L3 ++ [(⟨xs.1, ys.1, a⟩ : S41)] ↔ Got d (ps.map (·.1)) LO LA i j (l + 1) t)
            clear ZY ZZ Zj Z0
            go_wp2
            go_roundw
            case rel => exact ⟨l + 1, _, by omega, by go_num, Yc, Yd, Yb, Z9, Ya, Z1, Ye, ⟨by have := Zg.out; rw [List.length_append, List.length_singleton]; omega⟩⟩
            case measure => simp [intOf]; omega
          ·have hll : l = LA.length := by omega
           subst hll
           have Yf := jA (fun t => (Zx.out t).trans (Got.nextObj (by have := congrArg List.length HNW.out; rw [List.length_map] at this; omega)) : ∀ t, t ∈ L3 ↔ Got d (ps.map (·.1)) LO LA i (j + 1) 0 t)
           go_wp2
           go_roundw
           case rel => exact ⟨j + 1, L3, by omega, by go_num, ZS, Zk, Zw, Yf, ⟨by have := Zg.out; omega⟩⟩
           case measure => simp [intOf]; omega
        ·have hjj : j = ps2.length := by omega
         subst hjj
         have hLOl : LO.length = ps2.length := by have := congrArg List.length HNW.out; rw [List.length_map] at this; exact this.symm
         have HLOL := jA hLOl
         have Yg : (ps.map (·.1)).length = ps.length := List.length_map _
         have HG8 := jA (fun t => (HG7.out t).trans (by rw [← HLOL.out]; exact Got.nextSub (by rw [List.length_map]; exact Zf)) : ∀ t, t ∈ L2 ↔ Got d (ps.map (·.1)) LO LA (i + 1) 0 0 t)
         clear hLOl Yg
         go_wp2
         go_roundw
         case rel => exact ⟨i + 1, L2, by omega, by go_num, HL7, HB7, HG8, ⟨by have := HN7.out; omega⟩⟩
         case measure => simp [intOf]; omega
      ·have hii : i = ps.length := by omega
       subst hii
       have hfin : ∀ t, t ∈ L ↔ ((∃ y ∈ d.subs, y.f0 = t.f0) ∧ d.allowB t = true) := fun t => by
        have h1 := HG.out t
        have h0 := Got.all (d := d) (ns := ps.map (·.1)) (LO := LO) (LA := LA) (t := t)
        rw [List.length_map, HLOM.out, HLAM.out, HM1.out] at h0
        rw [h1, h0]
        constructor
        ·rintro ⟨h2, -, -, h5⟩; exact ⟨h5, h2⟩
        ·rintro ⟨h5, h2⟩
         refine ⟨h2, ?_, ?_, h5⟩
         ·unfold PolD.allowB at h2; simp only [Bool.and_eq_true, decide_eq_true_eq] at h2; exact h2.2.1
         ·unfold PolD.allowB at h2; simp only [Bool.and_eq_true, decide_eq_true_eq] at h2; exact h2.2.2.1
       have HFIN := jA hfin
       clear hfin
       go_wp2
       go_ret
       exact ⟨_, rfl, L, Kd.R_lower HL3.out (by have := HW4.out.below.size; have := HR4.out.below.size; omega), HFIN.out, by have := HN3.out; omega, below_then HR4.out.below HR4.out.below.size HB5.out⟩
end Go.Proofs.Ytdgkppldopiaoaa.MPol
/- graph.masks, walked. -/
namespace Go.Proofs.Ytdgkppldopiaoaa.CMasks
open Go.RowKit YtdgkppldopiaoaaW.PrintWords YtdgkppldopiaoaaW.PrintLast YtdgkppldopiaoaaW.PrintMore BMap BRow GDiffer GBlk CPure CBits CClasses MLines MSide MPol Go.Maps
open PG
def numsAt (l : List ByteArray) (s : ByteArray) : List Int := (l.zipIdx.filter (fun p => decide (p.1 = s))).map (fun p => ((p.2 : Nat) : Int))
theorem numsAt_snoc (l : List ByteArray) (a s : ByteArray) : numsAt (l ++ [a]) s = numsAt l s ++ if a = s then [(l.length : Int)] else [] := by
 unfold numsAt
 rw [List.zipIdx_append, List.filter_append, List.map_append]
 congr 1
 by_cases h : a = s <;> simp [h]
theorem mem_numsAt (l : List ByteArray) (s : ByteArray) (k : Nat) : (k : Int) ∈ numsAt l s ↔ l[k]? = some s := by
 unfold numsAt
 simp only [List.mem_map, List.mem_filter, decide_eq_true_eq]
 constructor
 ·rintro ⟨⟨x, i⟩, ⟨h1, h2⟩, h3⟩
  have h4 := List.mk_mem_zipIdx_iff_getElem?.1 h1
  obtain rfl : i = k := by have h3 : (i : Int) = k := h3; omega
  obtain rfl : x = s := h2
  exact h4
 ·intro h
  exact ⟨(s, k), ⟨List.mk_mem_zipIdx_iff_getElem?.2 h, rfl⟩, rfl⟩
theorem numsAt_length (l : List ByteArray) (s : ByteArray) : (numsAt l s).length ≤ l.length := by
 unfold numsAt
 rw [List.length_map]
 have := List.length_filter_le (fun p : ByteArray × Nat => decide (p.1 = s)) l.zipIdx
 simpa using this
structure Nums (w wr : World) (b : Nat) (f : ByteArray → Option Value) (n : Nat) (l : List ByteArray) : Prop where
 map : MapF Value.string id okS wr b f n
 ge : w.heap.size ≤ b
 no : ∀ s, f s = none → numsAt l s = []
 vals : ∀ s v, f s = some v → Kd.R (Kd.int .i64) 3 wr w.heap.size (fun k => k ≠ b) v (numsAt l s)
 apart : ∀ s s' v v' k, s ≠ s' → f s = some v → f s' = some v' → v.ownBlock = some k → v'.ownBlock ≠ some k
 below : Below w.heap.size w wr
theorem z49 (w : World) : (zeroValue 49).run Try.prog w = .ok (.slice none 0 0) w := by kernel_rfl
theorem Nums.move {w wr w1 : World} {b : Nat} {f : ByteArray → Option Value} {n : Nat} {l : List ByteArray} (h : Nums w wr b f n l) (hb : Below wr.heap.size wr w1) : Nums w w1 b f n l :=
 ⟨h.map.below hb, h.ge, h.no, fun s v hv => Kd.R_below (h.vals s v hv) hb, h.apart, below_then h.below h.below.size hb⟩
theorem Nums.grown {w wr w1 : World} {b : Nat} {f : ByteArray → Option Value} {n : Nat} {l : List ByteArray} {row : Nat} (h : Nums w wr b f n l) (hg : wr.grownBy w1 (some row)) (hge : w.heap.size ≤ row) (hne : b ≠ row) (hr : ∀ s v, f s = some v → v.ownBlock ≠ some row) : Nums w w1 b f n l where
 map := h.map.grown hg (fun e => hne (Option.some.inj e))
 ge := h.ge
 no := h.no
 vals := fun s v hv => Kd.R_mono (Kd.R_grown (Cl.okR (ok' := fun k => k ≠ b ∧ k ≠ row) (h.vals s v hv) (fun k hk => ⟨(h.vals s v hv).1 k hk, fun e => hr s v hv (by rw [hk, e])⟩)) hg (fun k hk e => hk.2 (Option.some.inj e))) (fun k hk => hk.1)
 apart := h.apart
 below := h.below.grown hg h.below.size (fun k hk => by cases hk; exact hge)
theorem Nums.put {w W w1 w4 : World} {b : Nat} {f : ByteArray → Option Value} {n n' : Nat} {l : List ByteArray} {a : ByteArray} {v0 v1 : Value} (h : Nums w W b f n l) (hv0 : v0 = (f a).getD (.slice none 0 0))
  (hR1 : Kd.R (Kd.int .i64) 3 w1 w.heap.size (fun k => k ≠ b) v1 (numsAt l a ++ [(l.length : Int)])) (hB1 : Below w.heap.size w w1) (hg1 : W.grownBy w1 v0.ownBlock) (Zi : v1.ownBlock = v0.ownBlock ∨ ∃ b, v1.ownBlock = some b ∧ W.heap.size ≤ b)
  (hM4 : MapF Value.string id okS w4 b (upd f a v1) n') (hg4 : w1.grownBy w4 (some b)) : Nums w w4 b (upd f a v1) n' (l ++ [a]) where
 map := hM4
 ge := h.ge
 no := fun s hs => by
  by_cases e : s = a
  ·subst e; rw [upd_same] at hs; cases hs
  ·rw [upd_other _ _ e] at hs
   rw [numsAt_snoc, if_neg (fun k => e k.symm), List.append_nil, h.no s hs]
 vals := fun s v hs => by
  by_cases e : s = a
  ·subst e
   rw [upd_same] at hs
   obtain rfl := Option.some.inj hs
   rw [numsAt_snoc, if_pos rfl]
   exact Kd.R_grown hR1 hg4 (fun k hk => fun e => hk (Option.some.inj e))
  ·rw [upd_other _ _ e] at hs
   rw [numsAt_snoc, if_neg (fun k => e k.symm), List.append_nil]
   have h1 := h.vals s v hs
   have h2 : Kd.R (Kd.int .i64) 3 W w.heap.size (fun k => k ≠ b ∧ some k ≠ v0.ownBlock) v (numsAt l s) := Cl.okR h1 fun k hk => ⟨h1.1 k hk, by
    subst hv0
    cases hf : f a with
    | none => simp [Value.ownBlock]
    | some v' =>
     intro hh
     exact h.apart s a v v' k e hs hf hk hh.symm⟩
   have h3 := Kd.R_grown h2 hg1 (fun k hk => hk.2)
   exact Kd.R_mono (Kd.R_grown h3 hg4 (fun k hk => fun e => hk.1 (Option.some.inj e))) (fun k hk => hk.1)
 apart := fun s s' v v' k hne hs hs' hk hk' => by
  have hfar : ∀ t u, t ≠ a → f t = some u → u.ownBlock = some k → v1.ownBlock = some k → False := by
   intro t u ht hu huk h1k
   rcases Zi with e | ⟨g, e, hge⟩
   ·subst hv0
    cases hf : f a with
    | none => rw [hf] at e; rw [e] at h1k; simp [Value.ownBlock] at h1k
    | some u' => rw [hf] at e; rw [e] at h1k; exact h.apart t a u u' k ht hu hf huk h1k
   ·rw [e] at h1k
    have := Cl.ltR (h.vals t u hu) k huk
    have := Option.some.inj h1k
    omega
  by_cases e : s = a
  ·by_cases e' : s' = a
   ·exact hne (e.trans e'.symm)
   ·rw [e, upd_same] at hs
    rw [upd_other _ _ e'] at hs'
    obtain rfl := Option.some.inj hs
    exact hfar s' v' e' hs' hk' hk
  ·rw [upd_other _ _ e] at hs
   by_cases e' : s' = a
   ·rw [e', upd_same] at hs'
    obtain rfl := Option.some.inj hs'
    exact hfar s v e hs hk hk'
   ·rw [upd_other _ _ e'] at hs'
    exact h.apart s s' v v' k hne hs hs' hk hk'
 below := hB1.grown hg4 (Nat.le_trans h.below.size (hg1.size)) (fun k hk => by cases hk; exact h.ge)
theorem Nums.lk {w wr : World} {b : Nat} {f : ByteArray → Option Value} {n : Nat} {l : List ByteArray} (h : Nums w wr b f n l) {s : ByteArray} (hs : okS s) : (Instr.lookup 133 (.map (some b)) (.string s) false).run Try.prog wr = .ok ((f s).getD (.slice none 0 0)) wr := by
 have hq := h.map.lookup str_key Try.underlying133 (z49 wr) hs false
 simp only [Bool.false_eq_true, if_false, Option.map_id_fun, id] at hq
 exact hq
theorem Nums.read {w wr : World} {b : Nat} {f : ByteArray → Option Value} {n : Nat} {l : List ByteArray} (h : Nums w wr b f n l) (s : ByteArray) : ∃ A c, (f s).getD (.slice none 0 0) = .slice A (numsAt l s).length c ∧ Kd.C (Kd.int .i64) wr A (numsAt l s).length (numsAt l s) ∧ (numsAt l s).length ≤ c := by
 cases hf : f s with
 | none =>
  rw [h.no s hf]
  exact ⟨none, 0, rfl, ⟨rfl, by simp, fun h => absurd h (by simp)⟩, Nat.le_refl _⟩
 | some v =>
  obtain ⟨A, c, rfl, hl, hr⟩ := Kd.R_reads (h.vals s v hf)
  exact ⟨A, c, rfl, hr, hl⟩
theorem own_not_map {κ β : Type} {kenc : κ → Value} {venc : β → Value} {ok' : κ → Prop} {w : World} {b n : Nat} {fm : κ → Option β} (hM : MapF kenc venc ok' w b fm n) {α : Type} {dk : Kd α} {e base : Nat} {ok : Nat → Prop} {v : Value} {xs : List α} (h : dk.R e w base ok v xs) : v.ownBlock ≠ some b := by
 intro hb
 obtain ⟨inner, ho⟩ := Kd.R_own h
 obtain ⟨cells, hc⟩ := own_typed ho b hb
 obtain ⟨es, cl, l, h2, _⟩ := hM.out
 rw [h2] at hc
 cases hc
theorem Nums.beside {κ β : Type} {kenc : κ → Value} {venc : β → Value} {ok' : κ → Prop} {w wr w1 : World} {b n na ga : Nat} {f : ByteArray → Option Value} {fm : κ → Option β} {l : List ByteArray} (h : Nums w wr b f n l) (hM : MapF kenc venc ok' wr ga fm na) (hge : w.heap.size ≤ ga) (hne : b ≠ ga) (hg : wr.grownBy w1 (some ga)) : Nums w w1 b f n l :=
 h.grown hg hge hne (fun s v hv => own_not_map hM (h.vals s v hv))
abbrev PK := ByteArray × ByteArray
def okP (p : PK) : Prop := okS p.1 ∧ okS p.2
def pairV (p : PK) : Value := .agg #[.string p.1, .string p.2]
theorem pair_law : WideMaps.KeyLaw Try.prog 110 := deep_law_gate laidOut (of_decide_eq_true (by kernel_rfl)) (of_decide_eq_true (by kernel_rfl)) (by kernel_rfl) (by kernel_rfl)
theorem type110 : Try.prog.keyType 110 = true := by kernel_rfl
theorem cells110 : Try.prog.cellsOf 110 = 2 := by kernel_rfl
theorem cells9 : Try.prog.cellsOf 9 = 1 := by kernel_rfl
theorem str_lits (d : Nat) (s : ByteArray) (h : okS s) : Try.prog.keyLits (d + 1) 9 [.string s] = some [.string s.data.toList] := by
 have hm : s.size ≤ maxLen := Nat.le_trans h (by decide)
 unfold Program.keyLits
 rw [Try.underlying9]
 simp [hm]
theorem pair_is (p : PK) (h : okP p) : ∃ x, keyOf Try.prog 110 (pairV p) = some x := by
 obtain ⟨h1, h2⟩ := h
 have hk : Try.prog.keyLits (Try.prog.types.size + 1) 110 [.string p.1, .string p.2] = some [.string p.1.data.toList, .string p.2.data.toList] := by
  obtain ⟨dep, hdep⟩ := depth
  rw [hdep]
  unfold Program.keyLits
  rw [Try.underlying110]
  simp [cells110, cells9, str_lits _ _ h1, str_lits _ _ h2]
 unfold keyOf
 rw [Try.underlying110]
 have hf : (pairV p).formed Try.prog 110 = true := by
  simp [Value.formed, pairV, Try.underlying110, cells110]
 simp only [type110, hf, Bool.and_self, if_true]
 show ∃ x, (Try.prog.keyLits (Try.prog.types.size + 1) 110 #[Value.string p.1, .string p.2].toList).map _ = some x
 rw [List.toList_toArray, hk]
 exact ⟨_, rfl⟩
theorem pair_key : KeyOk Try.prog 110 pairV okP := ⟨Keyed.of_law pair_law, pair_is, fun a b h => by
 simp only [pairV, Value.agg.injEq] at h
 have := congrArg Array.toList h
 simp at this
 exact Prod.ext this.1 this.2⟩
abbrev MapP := MapF pairV (Value.int .u16) okP
theorem zero104 (w : World) : (zeroValue 104).run Try.prog w = .ok (.int .u16 0) w := by kernel_rfl
theorem pair_look {w : World} {b : Nat} {f : PK → Option Int} {n : Nat} (hM : MapP w b f n) {p : PK} (hp : okP p) : (Instr.lookup 106 (.map (some b)) (.agg #[.string p.1, .string p.2]) false).run Try.prog w = .ok (.int .u16 ((f p).getD 0)) w := by
 have hq := hM.lookup pair_key Try.underlying106 (zero104 w) hp false
 have e : ((f p).map (Value.int IntKind.u16)).getD (.int .u16 0) = .int .u16 ((f p).getD 0) := by cases f p <;> rfl
 simp only [Bool.false_eq_true, if_false, e] at hq
 exact hq
structure Alls (l : List ByteArray) (L : List S41) (f : PK → Option Int) : Prop where
 ok : ∀ p, ∃ m : Nat, (f p).getD 0 = m ∧ m < 65536 ∧ ∀ k, m.testBit k = true ↔ k < 16 ∧ ∃ a, l[k]? = some a ∧ (⟨p.1, p.2, a⟩ : S41) ∈ L
theorem Alls.none_ (l : List ByteArray) : Alls l [] (fun _ => none) := ⟨fun _ => ⟨0, rfl, by omega, fun k => by simp⟩⟩
theorem Alls.put {l : List ByteArray} {L : List S41} {f : PK → Option Int} (h : Alls l L f) (t : S41) (m : Nat) (hm : (f (t.f0, t.f1)).getD 0 = m) : Alls l (L ++ [t]) (upd f (t.f0, t.f1) ((m ||| orBits (numsAt l t.f2) : Nat) : Int)) := by
 refine ⟨fun p => ?_⟩
 obtain ⟨m', h1, h2, h3⟩ := h.ok p
 by_cases e : p = (t.f0, t.f1)
 ·subst e
  obtain rfl : m' = m := by have := h1.symm.trans hm; omega
  refine ⟨m' ||| orBits (numsAt l t.f2), by rw [upd_same]; rfl, Nat.or_lt_two_pow (n := 16) h2 (orBits_lt _), fun k => ?_⟩
  rw [Nat.testBit_or, Bool.or_eq_true, h3, orBits_bit, decide_eq_true_eq, mem_numsAt]
  constructor
  ·rintro (⟨h4, a, h5, h6⟩ | ⟨h4, h5⟩)
   ·exact ⟨h4, a, h5, List.mem_append_left _ h6⟩
   ·exact ⟨h4, _, h5, List.mem_append_right _ (List.mem_singleton.2 rfl)⟩
  ·rintro ⟨h4, a, h5, h6⟩
   rcases List.mem_append.1 h6 with h6 | h6
   ·exact .inl ⟨h4, a, h5, h6⟩
   ·refine .inr ⟨h4, ?_⟩
    have := List.mem_singleton.1 h6
    rw [h5, ← this]
 ·refine ⟨m', by rw [upd_other _ _ e]; exact h1, h2, fun k => ?_⟩
  rw [h3]
  constructor
  ·rintro ⟨h4, a, h5, h6⟩
   exact ⟨h4, a, h5, List.mem_append_left _ h6⟩
  ·rintro ⟨h4, a, h5, h6⟩
   refine ⟨h4, a, h5, ?_⟩
   rcases List.mem_append.1 h6 with h6 | h6
   ·exact h6
   ·exact absurd (by rw [← List.mem_singleton.1 h6]) e
theorem masks_calls (p : Pol) (w : World) (hp : p.In w) (hd : p.d.Ok) (hs : p.d.subs.length ≤ 64) (ho : p.d.objs.length ≤ 64) (ha : p.d.acts.length ≤ 16) :
  Calls Try.prog 33 #[.agg p.cells] w fun e w' => ∃ b f n L, e = .returned (.map (some b)) ∧ MapP w' b f n ∧ Alls p.d.acts L f ∧ (∀ t, t ∈ L ↔ ((∃ y ∈ p.d.subs, y.f0 = t.f0) ∧ p.d.allowB t = true)) ∧ w.heap.size ≤ b ∧ Below w.heap.size w w' := by
 obtain ⟨d, A0, c0, A1, c1, A2, c2, A3, c3, A4, c4, A5, c5, A6, c6, A7, c7, A8, c8, A9, c9, A10, c10⟩ := p
 have HP := jA hp
 have HD := jA hd
 have HS := jA hs
 have HO := jA ho
 have HA := jA ha
 have hmax : d.acts.length ≤ 16 := ha
 clear hp hd hs ho ha
 have Zd : Stays (w.alloc (.cells (Pol.cells (Pol.mk d A0 c0 A1 c1 A2 c2 A3 c3 A4 c4 A5 c5 A6 c6 A7 c7 A8 c8 A9 c9 A10 c10)) 31)) w.heap.size (Pol.cells (Pol.mk d A0 c0 A1 c1 A2 c2 A3 c3 A4 c4 A5 c5 A6 c6 A7 c7 A8 c8 A9 c9 A10 c10)) 31 := heap_alloc_new w _
 have HST := jA Zd
 have e0 := Zd.cell 0
 simp only [Pol.cells, List.getElem?_toArray, List.getElem?_cons_zero] at e0
 clear Zd
 unfold Pol.cells
 unfold Pol.cells at HST
 simp only [] at HST e0 ⊢
 have hmm := @run_makeMap Try.prog
 go_enter Try.func33, Try.ntmps33
 go_upto_region 2 with fail
 have hW0s : Stays ((w.alloc (.cells #[.slice A0 d.acts.length c0, .slice A1 d.subs.length c1, .slice A2 d.roles.length c2, .slice A3 d.objs.length c3, .slice A4 d.grps.length c4, .slice A5 d.mem.length c5, .slice A6 d.inh.length c6, .slice A7 d.par.length c7, .slice A8 d.wit.length c8, .slice A9 d.rules.length c9, .slice A10 d.exc.length c10] 31)).alloc (.map #[] 0)) w.heap.size #[.slice A0 d.acts.length c0, .slice A1 d.subs.length c1, .slice A2 d.roles.length c2, .slice A3 d.objs.length c3, .slice A4 d.grps.length c4, .slice A5 d.mem.length c5, .slice A6 d.inh.length c6, .slice A7 d.par.length c7, .slice A8 d.wit.length c8, .slice A9 d.rules.length c9, .slice A10 d.exc.length c10] 31 := HST.out.below (below_alloc (Below.refl _ _) _)
 have hW0b : Below w.heap.size w ((w.alloc (.cells #[.slice A0 d.acts.length c0, .slice A1 d.subs.length c1, .slice A2 d.roles.length c2, .slice A3 d.objs.length c3, .slice A4 d.grps.length c4, .slice A5 d.mem.length c5, .slice A6 d.inh.length c6, .slice A7 d.par.length c7, .slice A8 d.wit.length c8, .slice A9 d.rules.length c9, .slice A10 d.exc.length c10] 31)).alloc (.map #[] 0)) := below_alloc (below_alloc (Below.refl _ _) _) _
 have hW0n : Nums w ((w.alloc (.cells #[.slice A0 d.acts.length c0, .slice A1 d.subs.length c1, .slice A2 d.roles.length c2, .slice A3 d.objs.length c3, .slice A4 d.grps.length c4, .slice A5 d.mem.length c5, .slice A6 d.inh.length c6, .slice A7 d.par.length c7, .slice A8 d.wit.length c8, .slice A9 d.rules.length c9, .slice A10 d.exc.length c10] 31)).alloc (.map #[] 0)) (w.heap.size + 1) (fun _ => none) 0 [] := by
  have hM := MapF.made (kenc := Value.string) (venc := (id : Value → Value)) (ok := okS) (w.alloc (.cells #[.slice A0 d.acts.length c0, .slice A1 d.subs.length c1, .slice A2 d.roles.length c2, .slice A3 d.objs.length c3, .slice A4 d.grps.length c4, .slice A5 d.mem.length c5, .slice A6 d.inh.length c6, .slice A7 d.par.length c7, .slice A8 d.wit.length c8, .slice A9 d.rules.length c9, .slice A10 d.exc.length c10] 31))
  have hz : (w.alloc (.cells #[.slice A0 d.acts.length c0, .slice A1 d.subs.length c1, .slice A2 d.roles.length c2, .slice A3 d.objs.length c3, .slice A4 d.grps.length c4, .slice A5 d.mem.length c5, .slice A6 d.inh.length c6, .slice A7 d.par.length c7, .slice A8 d.wit.length c8, .slice A9 d.rules.length c9, .slice A10 d.exc.length c10] 31)).heap.size = w.heap.size + 1 := Array.size_push ..
  rw [hz] at hM
  exact ⟨hM, by omega, fun s _ => rfl, fun s v h => by simp at h, fun s s' v v' k _ h => by simp at h, hW0b⟩
 obtain ⟨W0, hW0⟩ : ∃ W0, W0 = ((w.alloc (.cells #[.slice A0 d.acts.length c0, .slice A1 d.subs.length c1, .slice A2 d.roles.length c2, .slice A3 d.objs.length c3, .slice A4 d.grps.length c4, .slice A5 d.mem.length c5, .slice A6 d.inh.length c6, .slice A7 d.par.length c7, .slice A8 d.wit.length c8, .slice A9 d.rules.length c9, .slice A10 d.exc.length c10] 31)).alloc (.map #[] 0)) := ⟨_, rfl⟩
 obtain ⟨gm, hgm⟩ : ∃ gm, gm = w.heap.size + 1 := ⟨_, rfl⟩
 rw [← hW0] at hW0s hW0b hW0n ⊢
 rw [← hgm] at hW0n ⊢
 have e0 := hW0s.cell 0
 simp only [List.getElem?_toArray, List.getElem?_cons_zero] at e0
 have HN0 := jA hW0n
 have HS0 := jA hW0s
 clear hW0s hW0b hW0n hW0 hgm HST
 go_wp2
 clear e0
 go_loopw [13] (fun u13 wr => ∃ (k : Nat) (f : ByteArray → Option Value) (n : Nat), k ≤ d.acts.length ∧ u13 = .int .i64 k ∧ Aside0 (Nums w wr gm f n (d.acts.take k)) ∧ Aside0 (Stays wr w.heap.size #[.slice A0 d.acts.length c0, .slice A1 d.subs.length c1, .slice A2 d.roles.length c2, .slice A3 d.objs.length c3, .slice A4 d.grps.length c4, .slice A5 d.mem.length c5, .slice A6 d.inh.length c6, .slice A7 d.par.length c7, .slice A8 d.wit.length c8, .slice A9 d.rules.length c9, .slice A10 d.exc.length c10] 31)) (fun u13 _ => d.acts.length - (intOf u13).toNat)
 case atStart => exact ⟨0, _, _, Nat.zero_le _, rfl, HN0, HS0⟩
 case round =>
  obtain ⟨k, f, n, hk, rfl, HN, HB⟩ := hrel
  have hpin := HP.out.below HN.out.below
  by_cases hlt : k < d.acts.length
  ·obtain ⟨ad, ea, hx⟩ := Kd.at_string hpin.h0 (k : Int) (by omega) (by simp only []; omega)
   have ea : A0 = some ad := ea
   subst ea
   have hget : rdOf ByteArray.empty d.acts (k : Int) = d.acts[k] := by simp [rdOf, hlt]
   simp only [hget, Int.toNat_natCast] at hx
   have htk : d.acts.take (k + 1) = d.acts.take k ++ [d.acts[k]] := List.take_succ_eq_append_getElem hlt
   have hq := HD.out.acts d.acts[k] (List.getElem_mem hlt)
   have hlen : (d.acts.take k).length = k := by rw [List.length_take]; omega
   obtain ⟨a, haa⟩ : ∃ a, a = d.acts[k] := ⟨_, rfl⟩
   rw [← haa] at hx htk hq
   have HQ := jA hq
   have HTK := jA htk
   have HLEN := jA hlen
   obtain ⟨v0, hv0⟩ : ∃ v0, v0 = (f a).getD (.slice none 0 0) := ⟨_, rfl⟩
   have hlk : (Instr.lookup 133 (.map (some gm)) (.string a) false).run Try.prog wr = .ok v0 wr := by
    have := HN.out.map.lookup str_key Try.underlying133 (z49 wr) HQ.out false
    subst hv0
    simpa using this
   have hR0 : Kd.R (Kd.int .i64) 3 wr w.heap.size (fun k => k ≠ gm) v0 (numsAt (d.acts.take k) a) := by
    subst hv0
    cases hf : f a with
    | none => rw [HN.out.no _ hf]; exact Kd.R_nil _ _ _ _ _
    | some v => exact HN.out.vals _ _ hf
   have HV0 := jA hv0
   have HR0 := jA hR0
   have hlim : ((numsAt (d.acts.take k) a).length + 1) * 8 ≤ 140737488355328 := by
    have h1 := numsAt_length (d.acts.take k) a
    rw [hlen] at h1
    omega
   have HLIM := jA hlim
   have c0' : (k : Int) < d.acts.length := by omega
   clear hpin hget htk hq hlen haa hv0 hR0 hlim
   obtain ⟨La, hLa⟩ : ∃ La, La = numsAt (d.acts.take k) a := ⟨_, rfl⟩
   rw [← hLa] at HR0 HLIM
   have HLA := jA hLa
   clear hLa
   go_wp2_with (first | ((with_reducible refine gate_builtin (b := .append) (xs := #[.tmp 22, .tmp 24]) rfl ?_); at_builtin; refine Kd.R_append (Kd.int .i64) (w0 := w) w.heap.size rfl (.tmp 22) (.tmp 24) 49 3 (.int .i64 0) 8 rfl Try.underlying49 info3 rfl (by decide) (by decide) v0 La (k : Int) [.int .i64 k] (fun b => b ≠ gm) (fun _ => False) rfl rfl rfl (fun _ hk => hk.elim) (fun k hk e => by have := HN.out.map.lt; omega) HR0.out HN.out.below HN.out.below.size HLIM.out ?_; intro v8 w8 hR8 hB8 hg8 Zf; obtain ⟨w9, Zb, hM9, hg9⟩ := (HN.out.map.grown hg8 (fun e => HR0.out.1 _ e.symm rfl)).update str_key Try.underlying133 HQ.out v8; have Zb : (Instr.mapUpdate 133 (.map (some gm)) (.string a) v8).run Try.prog w8 = .ok () w9 := Zb; have HN9 := jA (HN.out.put HV0.out (by rw [← HLA.out, HLEN.out]; exact hR8) hB8 hg8 Zf hM9 hg9); have HB9 := jA (show Stays w9 w.heap.size _ 31 from (hg9.block _ (Nat.lt_of_lt_of_le (Array.getElem?_eq_some_iff.1 HB.out).1 hg8.size) (fun e => map_ne HN.out.map HB.out (Option.some.inj e))).trans ((hg8.block _ (Array.getElem?_eq_some_iff.1 HB.out).1 (Kd.R_ne HR0.out HB.out (by decide))).trans HB.out)); clear hR8 hB8 hg8 Zf hM9 hg9))
   go_roundw
   case rel => exact ⟨k + 1, _, _, by omega, by go_num, ⟨by rw [HTK.out]; exact HN9.out⟩, HB9⟩
   case measure => simp [intOf]; omega
  ·have hkk : k = d.acts.length := by omega
   subst hkk
   have hN := HN.out
   rw [List.take_length] at hN
   have HN1 := jA hN
   obtain ⟨w1, hw1⟩ : ∃ w1, w1 = wr := ⟨_, rfl⟩
   subst hw1
   clear hN HN hpin
   have hmm := @run_makeMap Try.prog
   go_upto_region 8 with fail
   clear hmm
   have hM1 : MapP (w1.alloc (.map #[] 0)) w1.heap.size (fun _ => none) 0 := MapF.made w1
   have hb1 := below_alloc (Below.refl _ w1) (.map #[] 0)
   have hN1 := HN1.out.move hb1
   have hB1 := HB.out.below hb1
   have hne : gm ≠ w1.heap.size := by have := HN1.out.map.lt; omega
   have hga : w.heap.size ≤ w1.heap.size := HN1.out.below.size
   have Za : w1.heap.size < (w1.alloc (.map #[] 0)).heap.size := hM1.lt
   obtain ⟨W1, hW1⟩ : ∃ W1, W1 = w1.alloc (.map #[] 0) := ⟨_, rfl⟩
   obtain ⟨ga, hgae⟩ : ∃ ga, ga = w1.heap.size := ⟨_, rfl⟩
   rw [← hW1] at hM1 hN1 hB1 Za ⊢
   rw [← hgae] at hM1 hne hga Za ⊢
   have HM2 := jA hM1
   have HN2 := jA hN1
   have HB2 := jA hB1
   have HNE := jA hne
   have HGA := jA hga
   have Zj := jA Za
   clear hM1 hb1 hN1 hB1 hne hga Za hW1 hgae HN1 HB
   go_upto_region 9 with (first | ((with_reducible refine gate_dst (N := 28) rfl ?_); refine wpList_load_blk rfl 31 (.tmp 1) rfl w.heap.size ?hx #[.slice A0 d.acts.length c0, .slice A1 d.subs.length c1, .slice A2 d.roles.length c2, .slice A3 d.objs.length c3, .slice A4 d.grps.length c4, .slice A5 d.mem.length c5, .slice A6 d.inh.length c6, .slice A7 d.par.length c7, .slice A8 d.wit.length c8, .slice A9 d.rules.length c9, .slice A10 d.exc.length c10] 31 HB2.out _ Try.underlying31 rfl i39 ?_; (case hx => rfl)) | (go_at_call 46; (refine (Relation_calls (Pol.mk d A0 c0 A1 c1 A2 c2 A3 c3 A4 c4 A5 c5 A6 c6 A7 c7 A8 c8 A9 c9 A10 c10) _ (HP.out.below HN2.out.below) HD.out HS.out HO.out HA.out).mono ?_); rintro e w2 ⟨v29, rfl, L, hL, hspec, hlen, hb2⟩; obtain ⟨AL, cL, rfl⟩ := Kd.R_slice hL; have HL2 := jA (Kd.R_lower (Kd.R_mono (Kd.R_bound hL) (ok' := fun b => b ≠ ga) (fun k hk e => by have h1 := hk.2.1; have h2 := Zj.out; omega)) HN2.out.below.size); have HSP := jA hspec; have HLL := jA hlen; have HM3 := jA (HM2.out.below hb2); have HN3 := jA (HN2.out.move hb2); clear hL hspec hlen hb2))
   have hlmax : L.length ≤ 65536 := HLL.out
   go_loopw [31] (fun u31 wr => ∃ (k : Nat) (fa : PK → Option Int) (na : Nat), k ≤ L.length ∧ u31 = .int .i64 k ∧ Aside0 (Nums w wr gm f n d.acts) ∧ Aside0 (MapP wr ga fa na) ∧ Aside0 (Alls d.acts (L.take k) fa) ∧ Aside0 (Kd.R k41 41 wr w.heap.size (fun b => b ≠ ga) (.slice AL L.length cL) L)) (fun u31 _ => L.length - (intOf u31).toNat)
   case atStart => exact ⟨0, _, _, Nat.zero_le _, rfl, HN3, HM3, ⟨Alls.none_ _⟩, HL2⟩
   case round =>
    obtain ⟨k, fa, na, hk, rfl, HN4, HM4, HF4, HL4⟩ := hrel
    by_cases hlt : k < L.length
    ·have hCL := (Kd.R_reads' HL4.out).2.2
     obtain ⟨ad, ea, hx0, hx1, hx2⟩ := at_T41 hCL (k : Int) (by omega) (by omega)
     subst ea
     have hget : rd_T41 L (k : Int) = L[k] := by simp [rd_T41, hlt]
     simp only [hget, Int.toNat_natCast] at hx0 hx1 hx2
     have htk : L.take (k + 1) = L.take k ++ [L[k]] := List.take_succ_eq_append_getElem hlt
     have hmem : L[k] ∈ L := List.getElem_mem hlt
     obtain ⟨t, htt⟩ : ∃ t, t = L[k] := ⟨_, rfl⟩
     rw [← htt] at hx0 hx1 hx2 htk hmem
     have hsp := (HSP.out t).1 hmem
     have Zg : okS t.f0 := by
      obtain ⟨y, hy, he⟩ := hsp.1
      rw [← he]; exact HD.out.subs y hy
     have hin : t.f1 ∈ d.objs ∧ t.f2 ∈ d.acts := by
      have h2 := hsp.2
      unfold PolD.allowB at h2
      simp only [Bool.and_eq_true, decide_eq_true_eq] at h2
      exact ⟨h2.2.1, h2.2.2.1⟩
     have HOKP := jA (show okP (t.f0, t.f1) from ⟨Zg, HD.out.objs _ hin.1⟩)
     have HOKA := jA (HD.out.acts _ hin.2)
     have HTK := jA htk
     have hcw : ∀ (j : Nat) (v : Value), ([.string t.f0, .string t.f1, .string t.f2] : List Value)[j]? = some v → wr.cell? ((ad.add (k * 3)).add j) = some v := by
      intro j v hj
      have hj3 : j < 3 := (List.getElem?_eq_some_iff.1 hj).1
      have : j = 0 ∨ j = 1 ∨ j = 2 := by omega
      rcases this with rfl | rfl | rfl
      ·obtain rfl : Value.string t.f0 = v := by simpa using hj
       rw [Addr.add_zero']; exact hx0
      ·obtain rfl : Value.string t.f1 = v := by simpa using hj
       rw [add_add, add_field _ _ 1 (by omega)]; exact hx1
      ·obtain rfl : Value.string t.f2 = v := by simpa using hj
       rw [add_add, add_field _ _ 2 (by omega)]; exact hx2
     have HCW := jA hcw
     obtain ⟨m, hfa, Zh, hbits⟩ := HF4.out.ok (t.f0, t.f1)
     have HFA := jA hfa
     have Zk := jA Zh
     obtain ⟨Ax, cx, hax, hcx, hlx⟩ := HN4.out.read t.f2
     have HAX := jA hax
     have Ze := jA hcx
     have HLX := jA hlx
     have c0' : (k : Int) < L.length := by omega
     clear hCL hx0 hx1 hx2 hget htk hmem hsp Zg hin hcw hfa Zh hbits hax hcx hlx htt
     obtain ⟨ns, hns⟩ : ∃ ns, ns = numsAt d.acts t.f2 := ⟨_, rfl⟩
     rw [← hns] at HAX Ze HLX
     have HNS := jA hns
     clear hns
     go_upto_region 11 with (first | ((with_reducible refine gate_dst (N := 34) rfl ?_); refine wpList_load_at rfl 41 (.tmp 33) rfl (ad.add (k * 3)) ?hx [.string t.f0, .string t.f1, .string t.f2] HCW.out _ Try.underlying41 rfl i28 ?_; (case hx => rfl); refine wpList_alloc_store rfl rfl 41 8 (.tmp 34) rfl rfl rfl #[.string ⟨#[]⟩, .string ⟨#[]⟩, .string ⟨#[]⟩] #[.string t.f0, .string t.f1, .string t.f2] _ (z28v _) rfl i28 rfl (by simp [Value.oneCell']) ?hy ?hp ?_; (case hy => rfl); (case hp => rfl)))
     (try simp only [Act.put])
     have hb2 : Below wr.heap.size wr ((wr.alloc (.cells #[.string t.f0, .string t.f1, .string t.f2] 41)).drew) := below_drew (below_alloc (Below.refl _ _) _)
     have hS2 : Stays ((wr.alloc (.cells #[.string t.f0, .string t.f1, .string t.f2] 41)).drew) wr.heap.size #[.string t.f0, .string t.f1, .string t.f2] 41 := heap_alloc_new wr _
     obtain ⟨W3, hW3⟩ : ∃ W3, W3 = ((wr.alloc (.cells #[.string t.f0, .string t.f1, .string t.f2] 41)).drew) := ⟨_, rfl⟩
     obtain ⟨g8, hg8⟩ : ∃ g8, g8 = wr.heap.size := ⟨_, rfl⟩
     have HN3 := jA (HN4.out.move hb2)
     have HM3 := jA (HM4.out.below hb2)
     have HS3 := jA hS2
     have HL3 := jA (Kd.R_below HL4.out hb2)
     have HCX := jA (Kd.C_below Ze.out hb2)
     rw [← hW3] at HN3 HM3 HS3 HL3 HCX
     rw [← hg8] at HS3 ⊢
     have hfa : (fa (t.f0, t.f1)).getD 0 = ((m : Nat) : Int) := HFA.out
     refine start_ (n := 16) (S := fun w' => w'.cell? ⟨g8, 0, none⟩ = some (.string t.f0) ∧ w'.cell? ⟨g8, 1, none⟩ = some (.string t.f1) ∧ w'.cell? ⟨g8, 2, none⟩ = some (.string t.f2) ∧ (Instr.lookup 106 (.map (some ga)) (.agg #[.string t.f0, .string t.f1]) false).run Try.prog w' = .ok (.int .u16 ((m : Nat) : Int)) w' ∧ (Instr.lookup 133 (.map (some gm)) (.string t.f2) false).run Try.prog w' = .ok (.slice Ax ns.length cx) w') (ds := [15]) (Jb 16 0) (by kernel_rfl) rfl (by kernel_rfl) (by rw [hg8, ← hW3, ← hg8]; exact ⟨HS3.out.cell 0, HS3.out.cell 1, HS3.out.cell 2, by have h0 := pair_look HM3.out (p := (t.f0, t.f1)) HOKP.out; rw [hfa] at h0; exact h0, by have h0 := HN3.out.lk HOKA.out; rw [HAX.out] at h0; exact h0⟩) (fun hHeld => ?_)
     rw [hg8, ← hW3, ← hg8] at hHeld
     rw [hg8, ← hW3, ← hg8]
     clear hb2 hS2 hW3 hg8 hfa HN4 HM4 HL4 Ze
     refine Jp 0 35 (Jb 16 1) rfl rfl ?_
     refine Jp 1 36 (Jb 16 3) rfl rfl ?_
     refine Jk 2 37 (Jb 16 7) rfl rfl hHeld (.inl ⟨by rfl, by rintro w' ⟨s0, s1, s2, s3, s4⟩; go_simp; with_reducible rfl⟩) ?_
     refine Jp 3 38 (Jb 16 15) rfl rfl ?_
     refine Jk 4 39 (Jb 16 31) rfl rfl hHeld (.inl ⟨by rfl, by rintro w' ⟨s0, s1, s2, s3, s4⟩; go_simp; with_reducible rfl⟩) ?_
     refine Jp 5 40 (Jb 16 63) rfl rfl ?_
     refine take_ (i := 6) (N := some 41) (v := ?_) (a' := ?_) (Jb 16 127) rfl rfl (by kernel_rfl) (fun _ _ _ h => h) (Or.inl ⟨by rfl, ?_⟩) hHeld ?_ ?_
     rotate_left
     ·rintro w' ⟨s0, s1, s2, s3, s4⟩
      simp [execOp, Act.eval, s3]
      rfl
     rotate_left
     ·simp only [Act.put, Jq, Jr, Js]
      rfl
     refine Jp 7 42 (Jb 16 255) rfl rfl ?_
     refine Jp 8 43 (Jb 16 511) rfl rfl ?_
     refine Jk 9 44 (Jb 16 1023) rfl rfl hHeld (.inl ⟨by rfl, by rintro w' ⟨s0, s1, s2, s3, s4⟩; go_simp; with_reducible rfl⟩) ?_
     refine take_ (i := 10) (N := some 45) (v := ?_) (a' := ?_) (Jb 16 2047) rfl rfl (by kernel_rfl) (fun _ _ _ h => h) (Or.inl ⟨by rfl, ?_⟩) hHeld ?_ ?_
     rotate_left
     ·rintro w' ⟨s0, s1, s2, s3, s4⟩
      simp [execOp, Act.eval, s4]
      rfl
     rotate_left
     ·simp only [Act.put, Jq, Jr, Js]
      rfl
     refine one_ (i := 11) (N := some 46) (Jb 16 4095) rfl rfl (by kernel_rfl) (by decide) (fun K hK => ?_)
     refine goes_ Try.func47 (by kernel_rfl) rfl #[.slice Ax ns.length cx] (by rfl) rfl rfl (by (try simp only [List.map_toArray, List.map_cons, List.map_nil]); first | done | rfl) ?_
     refine (mask_go Ax cx ns _ HCX.out HLX.out).mono ?_
     rintro e w8 ⟨rfl, ⟨nd, rfl⟩⟩
     refine ⟨_, rfl, ?_⟩
     have HN4 := jA (HN3.out.move (pw_below_drewN (Below.refl _ _) nd))
     have HM4 := jA (HM3.out.drewN nd)
     have HS4 := jA (HS3.out.below (pw_below_drewN (Below.refl _ _) nd))
     have HL4 := jA (Kd.R_below HL3.out (pw_below_drewN (Below.refl _ _) nd))
     obtain ⟨W4, hW4⟩ : ∃ W4, W4 = W3.drewN nd := ⟨_, rfl⟩
     rw [← hW4] at HN4 HM4 HS4 HL4 ⊢
     clear hW4
     have hfa : (fa (t.f0, t.f1)).getD 0 = ((m : Nat) : Int) := HFA.out
     refine hK.out _ _ ⟨HS4.out.cell 0, HS4.out.cell 1, HS4.out.cell 2, by have h0 := pair_look HM4.out (p := (t.f0, t.f1)) HOKP.out; rw [hfa] at h0; exact h0, by have h0 := HN4.out.lk HOKA.out; rw [HAX.out] at h0; exact h0⟩ (fun hHeld => ?_)
     clear hK K hfa
     refine norm_ (a' := ?_) ?_ ?_; rotate_left; (show Act.put _ (some 46) _ = _; simp only [Act.put, Jq, Jr, Js]; rfl)
     refine Jp 12 47 (Jb 16 8191) rfl rfl ?_
     obtain ⟨w5, stamp, hrun, hM5, hg5, hst⟩ := HM4.out.entry pair_key Try.underlying106 (zv := 0) (zero104 W4) (k := (t.f0, t.f1)) HOKP.out
     have hfa : (fa (t.f0, t.f1)).getD 0 = ((m : Nat) : Int) := HFA.out
     rw [hfa] at hrun hM5
     refine one_ (i := 13) (N := some 48) (Jb 16 16383) rfl rfl (by kernel_rfl) (by decide) (fun K hK => ?_)
     refine GDiffer.step_run (w' := w5) (v := .tuple #[.int .u16 ((m : Nat) : Int), .int .i64 stamp]) rfl rfl ?_ ?_
     ·have hrun' : (Instr.mapEntry 106 (.map (some ga)) (.agg #[.string t.f0, .string t.f1])).run Try.prog W4 = .ok (.tuple #[.int .u16 ((m : Nat) : Int), .int .i64 stamp]) w5 := hrun
      simp [execOp, Act.eval, hrun']
     have hS5 : Stays w5 g8 #[.string t.f0, .string t.f1, .string t.f2] 41 := (hg5.block _ (Array.getElem?_eq_some_iff.1 HS4.out).1 (fun e => map_ne HM4.out HS4.out (Option.some.inj e))).trans HS4.out
     have hN5 := HN4.out.beside HM4.out HGA.out HNE.out hg5
     refine hK.out _ _ ⟨hS5.cell 0, hS5.cell 1, hS5.cell 2, by have h0 := pair_look hM5 (p := (t.f0, t.f1)) HOKP.out; rw [upd_same, Option.getD_some] at h0; exact h0, by have h0 := hN5.lk HOKA.out; rw [HAX.out] at h0; exact h0⟩ (fun hHeld => ?_)
     clear hK K hS5 hN5
     refine norm_ (a' := ?_) ?_ ?_; rotate_left; (show Act.put _ (some 48) _ = _; simp only [Act.put, Jq, Jr, Js]; rfl)
     refine Jp 14 49 (Jb 16 32767) rfl rfl ?_
     refine last_ (i := 15) (N := none) (Jb 16 65535) rfl rfl (by kernel_rfl) (by decide) (fun K hK => ?_)
     obtain ⟨w6, Zc, hM6, hg6⟩ := hst (Go.bits .or .u16 ((m : Nat) : Int) ((orBits ns : Nat) : Int))
     refine GDiffer.step_skip (w' := w6) rfl rfl ?_ ?_
     ·simp [execOp, Act.eval, Zc]
     refine hK.out _ _ ?_
     clear hK K
     refine done_ (by kernel_rfl) ?_
     have hor := or_both m (orBits ns) Zk.out (orBits_lt ns)
     rw [hor] at hM6
     have HN6 := jA (HN4.out.beside HM4.out HGA.out HNE.out hg6)
     have HM6 := jA hM6
     have HL6 := jA (Kd.R_grown HL4.out hg6 (fun k hk e => hk (Option.some.inj e)))
     have hF6 := HF4.out.put t m HFA.out
     rw [← HNS.out, ← HTK.out] at hF6
     have HF6 := jA hF6
     clear hM6 hg6 Zc hst hM5 hg5 hrun hHeld hor hF6 hfa
     go_wp2
     go_roundw
     case rel => exact ⟨k + 1, _, _, by omega, by go_num, HN6, HM6, HF6, HL6⟩
     case measure => simp [intOf]; omega
    ·have hkk : k = L.length := by omega
     subst hkk
     have hF := HF4.out
     rw [List.take_length] at hF
     have HF5 := jA hF
     clear hF
     go_wp2
     go_ret
     exact ⟨_, _, _, L, rfl, HM4.out, HF5.out, HSP.out, HGA.out, HN4.out.below⟩
end Go.Proofs.Ytdgkppldopiaoaa.CMasks
/- slices.Clone of names. -/
namespace Go.Proofs.Ytdgkppldopiaoaa.CClone
open Go.RowKit YtdgkppldopiaoaaW.PrintWords YtdgkppldopiaoaaW.PrintLast YtdgkppldopiaoaaW.PrintMore MLines MSide MPol Go.Maps
open PG
theorem clone_calls (A : Option Addr) (c : Nat) (l : List ByteArray) (w : World) (hC : Kd.C Kd.string w A l.length l) (hl : l.length ≤ 8796093022207) :
  Calls Try.prog 32 #[.slice A l.length c] w fun e w' => ∃ v, e = .returned v ∧ Kd.R Kd.string 9 w' w.heap.size (fun _ => True) v l ∧ Below w.heap.size w w' := by
 have HC := jA hC
 have HL := jA hl
 have hmax : l.length ≤ 9223372036854775807 := hC.2.1
 clear hC hl
 cases A with
 | none =>
  have h0 : l = [] := by
   have := HC.out.2.2
   cases l with
   | nil => rfl
   | cons x r => obtain ⟨ad, h, _⟩ := this (by simp); cases h
  subst h0
  have he := fun w : World => Lib.run_eql_slice_nil (P := Try.prog) w 25 9 none 0 c 0 0 Try.underlying25
  go_enter Try.func32, Try.ntmps32
  go_wp2
  go_ret
  exact ⟨_, rfl, Kd.R_nil _ _ _ _ _, Below.refl _ _⟩
 | some ad =>
  have he := fun w : World => Lib.run_eql_slice_nil (P := Try.prog) w 25 9 (some ad) l.length c 0 0 Try.underlying25
  go_enter Try.func32, Try.ntmps32
  go_upto_region 3 with fail
  clear he
  have hlim : ((([] : List ByteArray)).length + l.length) * 16 ≤ 140737488355328 := by have := HL.out; simp; omega
  have HLIM := jA hlim
  clear hlim
  have hR5 : Kd.R Kd.string 9 (w.alloc (.cells #[] 9)) w.heap.size (fun _ => True) (.slice (some ⟨w.heap.size, 0, none⟩) 0 0) [] := by
   have h0 := own_lit_of (enc := Value.string) w w.heap.size 9 [] (Nat.le_refl _) (by simp)
   exact Kd.R_of_own (h1 := fun _ => rfl) h0 (fun _ _ => trivial)
  have HR5 := jA hR5
  have HB5 := jA (below_alloc (Below.refl _ w) (.cells #[] 9))
  clear hR5
  go_wp2_with (first | ((with_reducible refine gate_builtin (b := .append) (xs := #[.tmp 5, .tmp 6]) rfl ?_); at_builtin; refine Kd.R_append_row Value.string ⟨#[]⟩ (w0 := w) w.heap.size rfl (.tmp 5) (.tmp 6) 25 9 (.string ⟨#[]⟩) 16 rfl Try.underlying25 info9 rfl (by decide) (.slice (some ⟨w.heap.size, 0, none⟩) 0 0) [] l (some ad) l.length c (fun _ => True) rfl rfl (fun _ _ => trivial) HR5.out (Kd.C_below HC.out HB5.out) HB5.out HB5.out.size HLIM.out ?_; intro v7 w7 hR7 hB7 hg7 Za; have HR7 := jA hR7; have HB7 := jA hB7; clear hR7 hB7 hg7 Za))
  obtain ⟨A7, c7, rfl⟩ := Kd.R_slice HR7.out
  go_ret
  exact ⟨_, rfl, HR7.out, HB7.out⟩
end Go.Proofs.Ytdgkppldopiaoaa.CClone
/- What lies still but in some blocks; a matrix filled step by step; a policy's masks. -/
namespace Go.Proofs.Ytdgkppldopiaoaa.CSame
open Go.RowKit YtdgkppldopiaoaaW.PrintWords YtdgkppldopiaoaaW.PrintLast YtdgkppldopiaoaaW.PrintMore BMap BRow GDiffer GBlk CPure CBits CClasses CMasks MLines MSide MPol Go.Maps
open PG
structure Same (S : Nat → Prop) (W wr : World) : Prop where
 os : wr.os = W.os
 tape : wr.tape = W.tape
 output : wr.output = W.output
 size : W.heap.size ≤ wr.heap.size
 block : ∀ b, b < W.heap.size → ¬ S b → wr.heap[b]? = W.heap[b]?
namespace Same
variable {S : Nat → Prop} {w W wr w1 : World}
theorem refl (S : Nat → Prop) (W : World) : Same S W W := ⟨rfl, rfl, rfl, Nat.le_refl _, fun _ _ _ => rfl⟩
theorem of_below (h : Below W.heap.size W wr) : Same S W wr := ⟨h.os, h.tape, h.output, h.size, fun b hb _ => h.block b hb⟩
theorem move (h : Same S W wr) (hb : Below wr.heap.size wr w1) : Same S W w1 :=
 ⟨hb.os.trans h.os, hb.tape.trans h.tape, hb.output.trans h.output, Nat.le_trans h.size hb.size, fun b hl hs => (hb.block b (Nat.lt_of_lt_of_le hl h.size)).trans (h.block b hl hs)⟩
theorem grown (h : Same S W wr) {row : Option Nat} (hg : wr.grownBy w1 row) (hr : ∀ k, row = some k → S k ∨ W.heap.size ≤ k) : Same S W w1 :=
 ⟨hg.os.trans h.os, hg.tape.trans h.tape, hg.output.trans h.output, Nat.le_trans h.size hg.size, fun b hl hs => (hg.block b (Nat.lt_of_lt_of_le hl h.size) (fun e => by
  rcases hr b e.symm with h1 | h1
  ·exact hs h1
  ·omega)).trans (h.block b hl hs)⟩
theorem set (h : Same S W wr) {a : Addr} (ha : S a.block ∨ W.heap.size ≤ a.block) (v : Value) : Same S W (wr.setCell a v) :=
 ⟨h.os, h.tape, h.output, by simpa [World.setCell] using h.size, fun b hl hs => (heap_setCell_other wr a b v (fun e => by
  rcases ha with h1 | h1
  ·exact hs (e ▸ h1)
  ·omega)).trans (h.block b hl hs)⟩
theorem drew (h : Same S W wr) : Same S W wr.drew := ⟨h.os, h.tape, h.output, h.size, h.block⟩
theorem stays (h : Same S W wr) {g t : Nat} {cs : Array Value} (hs : Stays W g cs t) (hn : ¬ S g) : Stays wr g cs t := (h.block g (Array.getElem?_eq_some_iff.1 hs).1 hn).trans hs
theorem toR (h : Same S W wr) {α : Type} {d : Kd α} {e base : Nat} {ok : Nat → Prop} {v : Value} {xs : List α} (hR : d.R e W base ok v xs) (hok : ∀ k, ok k → ¬ S k) : d.R e wr base ok v xs := Kd.R_step hR (fun k ho hk => h.block k hk (hok k ho))
theorem map (h : Same S W wr) {κ β : Type} {kenc : κ → Value} {venc : β → Value} {ok : κ → Prop} {b n : Nat} {f : κ → Option β} (hM : MapF kenc venc ok W b f n) (hn : ¬ S b) : MapF kenc venc ok wr b f n := hM.move (h.block b hM.lt hn)
theorem blk (h : Same S W wr) {g n : Nat} {F : Nat → Nat → Int} (hB : Blk W g n F) (hn : ¬ S g) : Blk wr g n F := World.rowIs.of_block hB (h.block g hB.lt hn)
theorem below (h : Same S W wr) (hb : Below w.heap.size w W) (hS : ∀ k, S k → w.heap.size ≤ k) : Below w.heap.size w wr :=
 ⟨h.os.trans hb.os, h.tape.trans hb.tape, h.output.trans hb.output, Nat.le_trans hb.size h.size, fun b hl => (h.block b (Nat.lt_of_lt_of_le hl hb.size) (fun e => by have := hS b e; omega)).trans (hb.block b hl)⟩
end Same
theorem stays_set {w : World} {g t : Nat} {cs : Array Value} (h : Stays w g cs t) (j : Nat) (v : Value) : Stays (w.setCell ⟨g, j, none⟩ v) g (cs.setIfInBounds j v) t := heap_setCell_same w g j cs t v h
theorem stays_far {w : World} {g t : Nat} {cs : Array Value} (h : Stays w g cs t) {a : Addr} (ha : g ≠ a.block) (v : Value) : Stays (w.setCell a v) g cs t := (heap_setCell_other w a g v ha).trans h
theorem R_setCells {α : Type} {dk : Kd α} {e base g t : Nat} {ok : Nat → Prop} {w : World} {v : Value} {xs : List α} {cs : Array Value} (h : dk.R e w base ok v xs) (hb : Stays w g cs t) (ht : ∀ q, q ∈ e :: dk.E → q ≠ t) (l : List Value) : dk.R e (w.setCells g 0 l) base ok v xs :=
 Kd.R_mono (Kd.R_step (Kd.R_types h hb ht) (fun _ ho _ => setCells_far l 0 _ ho.2)) (fun _ hk => hk.1)
theorem R_set {α : Type} {dk : Kd α} {e base g t : Nat} {ok : Nat → Prop} {w : World} {v : Value} {xs : List α} {cs : Array Value} (h : dk.R e w base ok v xs) (hb : Stays w g cs t) (ht : ∀ q, q ∈ e :: dk.E → q ≠ t) (j : Nat) (u : Value) : dk.R e (w.setCell ⟨g, j, none⟩ u) base ok v xs := Kd.R_set h hb ht j u
def prt (M : Nat → Nat → Int) (i j a b : Nat) : Int := if a < i ∨ (a = i ∧ b < j) then M a b else 0
theorem prt_zero (M : Nat → Nat → Int) (a b : Nat) : prt M 0 0 a b = 0 := by unfold prt; rw [if_neg (by omega)]
theorem prt_next (M : Nat → Nat → Int) (i j a b : Nat) : (if a = i ∧ b = j then M i j else prt M i j a b) = prt M i (j + 1) a b := by
 unfold prt
 by_cases h : a = i ∧ b = j
 ·obtain ⟨rfl, rfl⟩ := h
  rw [if_pos ⟨rfl, rfl⟩, if_pos (by omega)]
 ·rw [if_neg h]
  by_cases h2 : a < i ∨ a = i ∧ b < j
  ·rw [if_pos h2, if_pos (by omega)]
  ·rw [if_neg h2, if_neg (by omega)]
theorem prt_row (M : Nat → Nat → Int) (m i a b : Nat) : prt (fill m M) i m a b = prt (fill m M) (i + 1) 0 a b := by
 unfold prt
 by_cases h : a < i
 ·rw [if_pos (Or.inl h), if_pos (Or.inl (by omega))]
 ·by_cases e : a = i
  ·rw [if_pos (c := a < i + 1 ∨ _) (Or.inl (by omega))]
   by_cases h2 : b < m
   ·rw [if_pos (Or.inr ⟨e, h2⟩)]
   ·rw [if_neg (by omega)]
    unfold fill
    rw [if_neg h2]
  ·rw [if_neg (by omega), if_neg (by omega)]
theorem prt_all (M : Nat → Nat → Int) (n a b : Nat) (ha : a < n) : prt M n 0 a b = M a b := by unfold prt; rw [if_pos (by omega)]
theorem prt_cols (M : Nat → Nat → Int) (n m b a : Nat) (hb : b < m) : prt (fill m M) n 0 a b = fill n (fun j i => M i j) b a := by
 unfold prt fill
 by_cases h : a < n
 ·rw [if_pos (by omega), if_pos hb, if_pos h]
 ·rw [if_neg (by omega), if_neg h]
noncomputable def maskD (d : PolD) (s o : ByteArray) : Nat := maskN (fun k => match d.acts[k]? with | some a => d.allowB ⟨s, o, a⟩ | none => false) d.acts.length
theorem maskD_lt (d : PolD) (s o : ByteArray) (h : d.acts.length ≤ 16) : maskD d s o < 65536 := by
 have h1 := maskN_lt (fun k => match d.acts[k]? with | some a => d.allowB ⟨s, o, a⟩ | none => false) d.acts.length
 have h2 : 2 ^ d.acts.length ≤ 2 ^ 16 := Nat.pow_le_pow_right (by omega) h
 unfold maskD
 omega
theorem alls_mask {d : PolD} {L : List S41} {f : PK → Option Int} (h : Alls d.acts L f) (hL : ∀ t, t ∈ L ↔ ((∃ y ∈ d.subs, y.f0 = t.f0) ∧ d.allowB t = true)) (ha : d.acts.length ≤ 16) {s : ByteArray} (hs : ∃ y ∈ d.subs, y.f0 = s) (o : ByteArray) : (f (s, o)).getD 0 = ((maskD d s o : Nat) : Int) := by
 obtain ⟨m, h1, _, h3⟩ := h.ok (s, o)
 rw [h1]
 congr 1
 refine Nat.eq_of_testBit_eq fun k => ?_
 rw [Bool.eq_iff_iff, h3]
 unfold maskD
 rw [maskN_bit]
 constructor
 ·rintro ⟨_, a, h5, h6⟩
  have hk : k < d.acts.length := (List.getElem?_eq_some_iff.1 h5).1
  rw [h5]
  simp [hk, ((hL _).1 h6).2]
 ·intro h4
  rw [Bool.and_eq_true, decide_eq_true_eq] at h4
  obtain ⟨h5, h6⟩ := h4
  rw [List.getElem?_eq_getElem h5] at h6
  exact ⟨by omega, _, List.getElem?_eq_getElem h5, (hL _).2 ⟨hs, h6⟩⟩
noncomputable def matD (d : PolD) (i j : Nat) : Int := ((maskD d ((d.subs.map (·.f0)).getD i ⟨#[]⟩) (d.objs.getD j ⟨#[]⟩) : Nat) : Int)
theorem u16_wf {n : Nat} (h : n < 65536) : (Lit.int .u16 ((n : Nat) : Int)).wf = true := by
 simp [Lit.wf, IntKind.min, IntKind.max, IntKind.signed, IntKind.bits]
 omega
theorem matD_u16 (d : PolD) (ha : d.acts.length ≤ 16) (i j : Nat) : (Lit.int .u16 (matD d i j)).wf = true := u16_wf (maskD_lt d _ _ ha)
theorem fill_u16 {m : Nat} {M : Nat → Nat → Int} (h : ∀ i j, (Lit.int .u16 (M i j)).wf = true) (i j : Nat) : (Lit.int .u16 (fill m M i j)).wf = true := by
 unfold fill
 split
 ·exact h i j
 ·decide
end Go.Proofs.Ytdgkppldopiaoaa.CSame
