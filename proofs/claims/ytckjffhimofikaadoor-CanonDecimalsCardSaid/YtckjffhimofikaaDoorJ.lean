/- setDigits, walked. -/
import Derived.Test.YtckjffhimofikaaDoorC
import Derived.Lib.Itoa
import Derived.Lib.ItoaWalk
namespace Go.Proofs.YtckjffhimofikaaDoor.J
open Go.RowKit Go.Proofs.YtckjffhimofikaaDoorW.PrintWords Go.Proofs.YtckjffhimofikaaDoor.A Go.Proofs.YtckjffhimofikaaDoor.B Go.Proofs.YtckjffhimofikaaDoor.C Go.Proofs.YtckjffhimofikaaDoor.FF Go.Proofs.YtckjffhimofikaaDoor.KBase Go.Proofs.YtckjffhimofikaaDoorW.PrintLast Go.Proofs.YtckjffhimofikaaDoorW.PrintMore
open Go.Sort (Holds putRow)
set_option linter.unusedSimpArgs false
set_option linter.unusedVariables false

/-- How many of the first k digits are left when noughts at the end are struck. -/
def nzR (d nd : Nat) : Nat → Nat
  | 0 => 0
  | k + 1 => if d / 10 ^ (nd - (k + 1)) % 10 = 0 then nzR d nd k else k + 1
/-- The buffer holds d's digits. -/
def Digs (d nd g : Nat) (w : World) : Prop := ∀ i, i < nd → w.cell? ⟨g, i, none⟩ = some (.int .u8 ((48 + d / 10 ^ (nd - 1 - i) % 10 : Nat) : Int))
theorem Digs.below {d nd g : Nat} {w w' : World} (h : Digs d nd g w) (hb : Below w.heap.size w w') : Digs d nd g w' := fun i hi => pw_cell_below hb (h i hi)
theorem set_digits (d nd g : Nat) (w : World) (hd : d < 2 ^ 64) (hd2 : d < 10 ^ nd) (hn2 : nd ≤ 20) (hg : g < w.heap.size) (hc : ∀ i, i < nd → w.cell? ⟨g, i, none⟩ = some (.int .u8 0) ∧ w.frozen? ⟨g, i, none⟩ = false) :
    Calls Tryd.prog 40 #[.slice (some ⟨g, 0, none⟩) nd 32, .int .u64 (d : Nat)] w fun e w' => (∃ v, e = .returned v) ∧ Digs d nd g w' ∧ Below g w w' ∧ w.heap.size = w'.heap.size := by
  have h := Tryd.internal_strconv_formatBase10 g 0 32 d (Array.replicate nd 0) w (fun j hj => by
    simp only [Array.size_replicate] at hj
    have := hc j hj
    simp only [Nat.zero_add]
    refine ⟨?_, this.2⟩
    rw [this.1, getElem!_pos _ j (by simpa using hj)]
    simp) (by simpa using hd2) (by omega) (by simp; omega)
  simp only [Array.size_replicate] at h
  refine h.mono ?_
  rintro e w' ⟨rfl, n, v', dk, rfl, hF⟩
  have hHold : Holds (fun (b : UInt8) => Value.int .u8 (b.toNat : Int)) w g 0 (Array.replicate nd 0) := fun j hj => by
    simp only [Array.size_replicate] at hj
    have := hc j hj
    simp only [Nat.zero_add]
    refine ⟨?_, this.2⟩
    rw [this.1, getElem!_pos _ j (by simpa using hj)]
    simp
  have hsz := hF.size
  refine ⟨⟨_, rfl⟩, fun i hi => ?_, ⟨rfl, rfl, rfl, ?_, fun k hk => ?_⟩, ?_⟩
  · have h1 := Go.Sort.cell?_putRow (fun (b : UInt8) => Value.int .u8 (b.toNat : Int)) w g 0 (Array.replicate nd 0) dk hHold (by rw [hsz]; simp) i (by omega)
    simp only [Nat.zero_add] at h1
    show (putRow (fun (b : UInt8) => Value.int .u8 (b.toNat : Int)) w g 0 dk).cell? _ = _
    rw [h1, hF.done i (by omega) hi]
    unfold Go.Lib.dg
    congr 2
    have : d / 10 ^ (nd - 1 - i) % 10 < 10 := Nat.mod_lt _ (by omega)
    show ((UInt8.ofNat (48 + d / 10 ^ (nd - 1 - i) % 10)).toNat : Int) = _
    rw [UInt8.toNat_ofNat_of_lt' (by show _ < 256; omega)]
  · show w.heap.size ≤ (putRow _ w g 0 dk).heap.size
    rw [Go.Sort.size_putRow]
    exact Nat.le_refl _
  · show (putRow _ w g 0 dk).heap[k]? = _
    unfold putRow Go.Sort.mapBlock
    simp only [Array.getElem?_modify]
    rw [if_neg (by omega)]
  · show w.heap.size = (putRow _ w g 0 dk).heap.size
    rw [Go.Sort.size_putRow]

theorem nz_stop {d nd k : Nat} (hk : 1 ≤ k) (h : d / 10 ^ (nd - k) % 10 ≠ 0) : nzR d nd k = k := by
  obtain ⟨m, rfl⟩ : ∃ m, k = m + 1 := ⟨k - 1, by omega⟩
  unfold nzR
  rw [if_neg h]
theorem nz_go {d nd k : Nat} (hk : 1 ≤ k) (h : d / 10 ^ (nd - k) % 10 = 0) : nzR d nd k = nzR d nd (k - 1) := by
  obtain ⟨m, rfl⟩ : ∃ m, k = m + 1 := ⟨k - 1, by omega⟩
  rw [Nat.add_sub_cancel]
  conv => lhs; unfold nzR
  rw [if_pos h]
theorem nz_le (d nd : Nat) : ∀ k, nzR d nd k ≤ k
  | 0 => Nat.le_refl _
  | k + 1 => by
    unfold nzR
    split
    · exact Nat.le_succ_of_le (nz_le d nd k)
    · exact Nat.le_refl _
set_option maxRecDepth 100000 in
set_option maxHeartbeats 1000000 in
theorem setDigits_calls (d nd g : Nat) (p : Int) (w : World) (hd : d < 2 ^ 64) (hd2 : d < 10 ^ nd) (hn2 : nd ≤ 20) (hp : -4000 ≤ p) (hp2 : p ≤ 4000) (hg : g < w.heap.size) (hc : ∀ i, i < 32 → w.cell? ⟨g, i, none⟩ = some (.int .u8 0) ∧ w.frozen? ⟨g, i, none⟩ = false) :
    Calls Tryd.prog 21 #[.slice (some ⟨g, 0, none⟩) 32 32, .int .u64 (d : Nat), .int .i64 p, .int .i64 (nd : Nat)] w fun e w' => e = .returned (.tuple #[.int .i64 (nd + p), .int .i64 (nzR d nd nd : Nat)]) ∧ Digs d nd g w' ∧ Below g w w' ∧ w.heap.size ≤ w'.heap.size := by
  have SD := Aside0.mk (set_digits d nd g w hd hd2 hn2 hg (fun i hi => hc i (by omega)))
  obtain ⟨z, hz⟩ : ∃ z, z = nzR d nd nd := ⟨_, rfl⟩
  rw [← hz]
  have HZ := Aside0.mk hz
  clear hc hg hd hd2 hz
  go_enter Tryd.func21, Tryd.ntmps21
  go_upto_region 3 with (go_at_call 40; (with_reducible refine SD.out.mono ?_); rintro e w1 ⟨⟨v, rfl⟩, hD, hb, hs⟩; have HD := Aside0.mk hD; have HB := Aside0.mk hb; have HSZ := Aside0.mk hs; clear hD hb hs)
  clear SD
  go_wp2
  go_loop [3] (fun u3 => ∃ k : Nat, k ≤ nd ∧ u3 = .int .i64 k ∧ Aside0 (nzR d nd k = z)) (fun u3 => (intOf u3).toNat)
  case atStart => exact ⟨nd, Nat.le_refl _, rfl, ⟨HZ.out.symm⟩⟩
  case round =>
    obtain ⟨k, hk, rfl, HK⟩ := hrel
    by_cases h0 : 0 < k
    · have hcell := HD.out (k - 1) (by omega)
      have e1 : ((k : Int) - 1).toNat = k - 1 := by omega
      have e2 : (k : Int) - 1 = ((k - 1 : Nat) : Int) := by omega
      obtain ⟨dg, hdg⟩ : ∃ dg, dg = d / 10 ^ (nd - 1 - (k - 1)) % 10 := ⟨_, rfl⟩
      have hdl : dg < 10 := by rw [hdg]; exact Nat.mod_lt _ (by omega)
      rw [← hdg] at hcell
      have hdg2 : d / 10 ^ (nd - k) % 10 = dg := by rw [hdg]; congr 3; omega
      have HDG := Aside0.mk hdg2
      clear hdg hdg2
      by_cases h48 : dg = 0
      · subst h48
        have hcell : w1.cell? ⟨g, k - 1, none⟩ = some (.int .u8 48) := hcell
        have HN := Aside0.mk (nz_go h0 HDG.out)
        go_wp2
        go_round
        case rel => exact ⟨k - 1, by omega, by go_num, ⟨by rw [← HN.out]; exact HK.out⟩⟩
        case measure => simp [intOf]; omega
      · have t1 : (((48 + dg : Nat) : Int) == 48) = false := by simp; omega
        have HN := Aside0.mk (nz_stop h0 (by rw [HDG.out]; exact h48))
        have HZK := Aside0.mk (show z = k by rw [← HK.out]; exact HN.out)
        clear h48
        go_wp2
        go_ret2
        exact ⟨by rw [HZK.out]; rfl, HD.out, HB.out, by rw [HSZ.out]; exact Nat.le_refl _⟩
    · have hk0 : k = 0 := by omega
      subst hk0
      have HZK := Aside0.mk (show z = 0 from HK.out.symm)
      go_wp2
      go_ret2
      exact ⟨by rw [HZK.out]; rfl, HD.out, HB.out, by rw [HSZ.out]; exact Nat.le_refl _⟩
end Go.Proofs.YtckjffhimofikaaDoor.J
