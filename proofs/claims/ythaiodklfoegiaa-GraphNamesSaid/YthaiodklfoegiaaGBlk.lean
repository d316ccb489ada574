/- Rows of lines of one's own: n lines of 64 masks in one block. -/
import Derived.Test.YthaiodklfoegiaaGDiffer
import Derived.Deep.OwnRows
import Derived.Laws.MakeOwn
import Derived.Deep.MidRow
namespace Go.Proofs.Ythaiodklfoegiaa.GBlk
open Go.RowKit Go.Proofs.YthaiodklfoegiaaW.PrintWords Go.Proofs.YthaiodklfoegiaaW.PrintLast Go.Proofs.Ythaiodklfoegiaa.BMap Go.Proofs.Ythaiodklfoegiaa.BRow Go.Proofs.Ythaiodklfoegiaa.GDiffer Go.Maps
open Go.Proofs.Ythaiodklfoegiaa

/-- Block g is n lines; F a b: mask b of line a. -/
def Blk (w : World) (g n : Nat) (F : Nat → Nat → Int) : Prop := w.rowIs g 65 (n * 64) (fun k => .int .u16 (F (k / 64) (k % 64)))
theorem div_of {i j : Nat} (hj : j < 64) : (i * 64 + j) / 64 = i := by omega
theorem mod_of {i j : Nat} (hj : j < 64) : (i * 64 + j) % 64 = j := by omega
namespace Blk
variable {w w1 : World} {g n : Nat} {F F' : Nat → Nat → Int}
theorem lt (h : Blk w g n F) : g < w.heap.size := World.rowIs.lt h
theorem below (h : Blk w g n F) (hb : Below w.heap.size w w1) : Blk w1 g n F := World.rowIs.of_block h (hb.block _ h.lt)
theorem drew (h : Blk w g n F) : Blk w.drew g n F := World.rowIs.drew h
theorem far (h : Blk w g n F) {a : Addr} (ha : g ≠ a.block) (v : Value) : Blk (w.setCell a v) g n F := World.rowIs.setOther h ha v
theorem cell (h : Blk w g n F) {i j : Nat} (hi : i < n) (hj : j < 64) : w.cell? ⟨g, i * 64 + j, none⟩ = some (.int .u16 (F i j)) := by
  have := World.rowIs.cell h (i := i * 64 + j) (by omega)
  rwa [div_of hj, mod_of hj] at this
theorem frozen (h : Blk w g n F) (i : Nat) : w.frozen? ⟨g, i, none⟩ = false := World.rowIs.frozen h i
theorem congr (h : Blk w g n F) (e : ∀ a b, a < n → b < 64 → F a b = F' a b) : Blk w g n F' :=
  World.rowIs.congr h fun k hk => by rw [e (k / 64) (k % 64) (by omega) (by omega)]
theorem set (h : Blk w g n F) {i j : Nat} (hj : j < 64) (x : Int) : Blk (w.setCell ⟨g, i * 64 + j, none⟩ (.int .u16 x)) g n (fun a b => if a = i ∧ b = j then x else F a b) :=
  World.rowIs.congr (World.rowIs.set h (i * 64 + j) (.int .u16 x)) fun k _ => by
    have : k = i * 64 + j ↔ (k / 64 = i ∧ k % 64 = j) := by omega
    show (if k = i * 64 + j then Value.int .u16 x else .int .u16 (F (k / 64) (k % 64))) = Value.int .u16 (if k / 64 = i ∧ k % 64 = j then x else F (k / 64) (k % 64))
    by_cases e : k = i * 64 + j
    · rw [if_pos e, if_pos (this.1 e)]
    · rw [if_neg e, if_neg (fun hh => e (this.2 hh))]
end Blk
theorem Blk.made (w : World) (n : Nat) (z : Array Value) (hz : z = Array.replicate 64 (.int .u16 0)) : Blk (w.alloc (.cells (madeCells z (n * 64)) 65)) w.heap.size n (fun _ _ => 0) := by
  subst hz
  have := World.rowIs_alloc w (madeCells (Array.replicate 64 (.int .u16 0)) (n * 64)) 65 (fun _ => .int .u16 0) (fun i hi => by
    rw [size_madeCells] at hi
    have : i % 64 < 64 := by omega
    simp [madeCells, hi, this])
  rw [size_madeCells] at this
  exact this
/-- The lines as data. -/
def linesOf (n : Nat) (F : Nat → Nat → Int) : List (List Int) := (List.range n).map fun a => (List.range 64).map (F a)
theorem linesOf_length (n : Nat) (F : Nat → Nat → Int) : (linesOf n F).length = n := by simp [linesOf]
theorem Blk.C {w : World} {g n : Nat} {F : Nat → Nat → Int} (h : Blk w g n F) (hn : n ≤ 9223372036854775807) : kLine.C w (some ⟨g, 0, none⟩) n (linesOf n F) := by
  refine ⟨linesOf_length n F, hn, fun _ => ⟨_, rfl, fun a p hp => ?_⟩⟩
  have ha : a < n := by have := (List.getElem?_eq_some_iff.1 hp).1; rwa [linesOf_length] at this
  have hp' : p = (List.range 64).map (F a) := by
    simp [linesOf, ha] at hp
    exact hp.symm
  subst hp'
  refine ⟨nums .u16 ((List.range 64).map (F a)), by simp [nums]; rfl, Kd.K_of_M (base := 0) (ok := fun _ => True) _ (Kd.arr_of_cells (by simp)), fun j u hu => ?_⟩
  have hj : j < 64 := by have := (List.getElem?_eq_some_iff.1 hu).1; simpa [nums] using this
  have hu' : u = .int .u16 (F a j) := by
    simp [nums, hj] at hu
    exact hu.symm
  subst hu'
  have := h.cell ha hj
  have e : ((⟨g, 0, none⟩ : Addr).add (a * 64 + j)) = ⟨g, a * 64 + j, none⟩ := by rw [Addr.add_mid, Nat.zero_add]
  show w.cell? ((⟨g, 0, none⟩ : Addr).add (a * 64 + j)) = _
  rw [e]
  exact this
theorem linesOf_ok {n : Nat} {F : Nat → Nat → Int} (hF : ∀ a b, a < n → b < 64 → (Lit.int .u16 (F a b)).wf = true) : ∀ l ∈ linesOf n F, lineOk l := by
  intro l hl
  obtain ⟨a, ha, rfl⟩ := List.mem_map.1 hl
  refine ⟨by simp, fun x hx => ?_⟩
  obtain ⟨b, hb, rfl⟩ := List.mem_map.1 hx
  exact hF a b (by simpa using ha) (by simpa using hb)
/-- Make a row of lines. -/
theorem info65 : ∃ i : TypeInfo, Try.prog.info? 65 = some i ∧ i.zero = some (.agg (Array.replicate 64 (.int .u16 0))) ∧ i.size = 64 ∧ i.bytes = 128 := by
  have h : (Try.prog.info? 65).map (fun i => (i.zero, i.size, i.bytes)) = some (some (.agg (Array.replicate 64 (.int .u16 0))), 64, 128) := by kernel_rfl
  obtain ⟨i, hi, hz⟩ := Option.map_eq_some_iff.1 h
  simp only [Prod.mk.injEq] at hz
  exact ⟨i, hi, hz.1, hz.2.1, hz.2.2⟩
abbrev made (n : Nat) : Obj := .cells (madeCells (Array.replicate 64 (.int .u16 0)) (n * 64)) 65
theorem make_lines (n : Nat) (hn : n ≤ 64) (w : World) : (Instr.makeSlice 63 (.int .i64 (n : Int)) (.int .i64 (n : Int))).run Try.prog w = .ok (.slice (some ⟨w.heap.size, 0, none⟩) n n) (w.alloc (made n)) := by
  obtain ⟨i, h1, h2, h3, h4⟩ := info65
  have := run_make (P := Try.prog) w 63 65 i _ Try.underlying63 h1 h2 .i64 .i64 (n : Int) n (by omega) (by omega) (by rw [h4]; omega) (by omega)
  rw [h3] at this
  simpa [Value.cells] using this
end Go.Proofs.Ythaiodklfoegiaa.GBlk
