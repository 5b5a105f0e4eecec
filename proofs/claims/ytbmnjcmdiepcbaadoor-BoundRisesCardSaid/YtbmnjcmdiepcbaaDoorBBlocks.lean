/- Contracts of the two functions that tell a request's blocks. -/
import Derived.Test.YtbmnjcmdiepcbaaDoorBSmall
import Derived.LoopTactic
import Derived.Deep.QuietTactic
import Derived.BigQuiet
namespace Go.Proofs.YtbmnjcmdiepcbaaDoor.Bd
open Go.RowKit

theorem bcell {W w1 : World} (hb : Below W.heap.size W w1) : (∀ b o, b < W.heap.size → w1.cell? ⟨b, o, none⟩ = W.cell? ⟨b, o, none⟩) ∧ (∀ b o, b < W.heap.size → w1.frozen? ⟨b, o, none⟩ = W.frozen? ⟨b, o, none⟩) :=
  ⟨fun b o h => hb.cell (p := ⟨b, o, none⟩) h, fun b o h => hb.frozen (p := ⟨b, o, none⟩) h⟩

/-- The table of kinds. -/
def takes : List Int := [12, 4, 4, 2, 4, 4, 4, 1, 0, 18, 34, 50, 0, 18, 12, 0, 0, 0]
/-- The table lies in memory. -/
def Tak (w : World) : Prop := 0 < w.heap.size ∧ ∀ i, i < 18 → w.cell? ⟨0, i, none⟩ = some (.int .u8 (takes.getD i 0))
theorem Tak.below {w w' : World} (h : Tak w) (hb : Below w.heap.size w w') : Tak w' :=
  ⟨Nat.lt_of_lt_of_le h.1 hb.size, fun i hi => ((bcell hb).1 _ i h.1).trans (h.2 i hi)⟩

theorem Tak.alloc {w : World} (h : Tak w) (o : Obj) : Tak (w.alloc o) := h.below ((Below.refl _ _).alloc (Nat.le_refl _) _)

/-- What a bit of a kind adds. -/
def bitOf : Nat → Int
  | 0 => 2 | 1 => 4 | 2 => 8 | 3 => 16 | _ => 32
def muchOf (p : Int) : Nat → Int
  | 0 => 17 | 1 => 34 | 2 => 16 | 3 => 4 * (p + 8) | _ => 1120
/-- The sum of the first rounds. -/
def psum (t p : Int) : Nat → Int
  | 0 => 0
  | j + 1 => psum t p j + (if 0 < bits .and .u8 t (bitOf j) then muchOf p j else 0)

theorem psum_bd (t p : Int) (h1 : 0 ≤ p) (h2 : p ≤ 20000000) (j : Nat) (hj : j ≤ 5) : 0 ≤ psum t p j ∧ psum t p j ≤ 80001300 := by
  have h : j = 0 ∨ j = 1 ∨ j = 2 ∨ j = 3 ∨ j = 4 ∨ j = 5 := by omega
  rcases h with rfl | rfl | rfl | rfl | rfl | rfl <;> simp only [psum, muchOf] <;> repeat' split
  all_goals omega

theorem psum_blk (k : Nat) (hk : k < 18) (len d : Int) : psum (takes.getD k 0) (pg (if (k : Int) = 13 then d else len)) 5 = blk k len d := by
  have h : k = 0 ∨ k = 1 ∨ k = 2 ∨ k = 3 ∨ k = 4 ∨ k = 5 ∨ k = 6 ∨ k = 7 ∨ k = 8 ∨ k = 9 ∨ k = 10 ∨ k = 11 ∨ k = 12 ∨ k = 13 ∨ k = 14 ∨ k = 15 ∨ k = 16 ∨ k = 17 := by omega
  rcases h with rfl | rfl | rfl | rfl | rfl | rfl | rfl | rfl | rfl | rfl | rfl | rfl | rfl | rfl | rfl | rfl | rfl | rfl
  all_goals
    simp (decide := true) only [psum, muchOf, blk, if_true, if_false]
    try omega

theorem psum_yes (t p : Int) (j : Nat) (h : 0 < bits .and .u8 t (bitOf j)) : psum t p j + muchOf p j = psum t p (j + 1) := by simp only [psum]; rw [if_pos h]
theorem psum_no (t p : Int) (j : Nat) (h : bits .and .u8 t (bitOf j) ≤ 0) : psum t p j = psum t p (j + 1) := by simp only [psum]; rw [if_neg (by omega)]; omega

/-- A round of the loop makes a block, and draws. -/
theorem round_world {w wr : World} {k : Nat} {tk : Int} (o : Obj) (nq : Nat) (hq : wr.cell? ⟨w.heap.size, 0, none⟩ = some (.int .u8 k)) (hg : wr.cell? ⟨0, k, none⟩ = some (.int .u8 tk)) (hz : w.heap.size < wr.heap.size)
    (hz0 : 0 < wr.heap.size) (hbw : Below w.heap.size w wr) :
    ((wr.alloc o).drewN nq).cell? ⟨w.heap.size, 0, none⟩ = some (.int .u8 k) ∧ ((wr.alloc o).drewN nq).cell? ⟨0, k, none⟩ = some (.int .u8 tk) ∧ w.heap.size < ((wr.alloc o).drewN nq).heap.size ∧ Below w.heap.size w ((wr.alloc o).drewN nq) := by
  refine ⟨?_, ?_, ?_, ?_⟩
  · exact (World.cell?_alloc_lt wr o _ hz).trans hq
  · exact (World.cell?_alloc_lt wr o _ hz0).trans hg
  · show w.heap.size < (wr.alloc o).heap.size
    simp; omega
  · have h := hbw.alloc (Nat.le_of_lt hz) o
    exact ⟨h.os, h.tape, h.output, h.size, h.block⟩

theorem blocks_far (k : Int) (nm to : ByteArray) (hd off len qt : Int) (a : Option Addr) (dl dc : Nat) (w : World) (h0 : 18 ≤ k) (h00 : k ≤ 255) :
    Calls Tryd.prog 8 #[.agg #[.int .u8 k, .string nm, .string to, .int .u64 hd, .int .u32 off, .int .u32 len, .int .u32 qt, .slice a dl dc]] w
      fun e w' => e = .returned (.int .u32 0) ∧ Below w.heap.size w w' := by
  go_enter Tryd.func8, Tryd.ntmps8
  go_wp2
  go_ret
  exact ⟨rfl, (Below.refl _ _).alloc (Nat.le_refl _) _⟩

set_option maxHeartbeats 800000 in
theorem blocks_near (k : Nat) (nm to : ByteArray) (hd off len qt : Int) (a : Option Addr) (dl dc : Nat) (w : World) (h1 : 0 ≤ len) (h2 : len ≤ 4294967295) (h0 : k < 18) (hdl : dl ≤ 1073741824) (ht : Tak w) :
    Calls Tryd.prog 8 #[.agg #[.int .u8 k, .string nm, .string to, .int .u64 hd, .int .u32 off, .int .u32 len, .int .u32 qt, .slice a dl dc]] w
      fun e w' => e = .returned (.int .u32 (blk k len dl)) ∧ Below w.heap.size w w' := by
  have HB := Lib.hid (psum_blk k h0 len dl)
  have hL1 : 0 ≤ (if (k : Int) = 13 then (dl : Int) else len) := by split <;> omega
  have hL2 : (if (k : Int) = 13 then (dl : Int) else len) ≤ 4294967295 := by split <;> omega
  have hp1 := pg_pos (if (k : Int) = 13 then (dl : Int) else len)
  have hp2 := pg_le (if (k : Int) = 13 then (dl : Int) else len) 4294967295 hL2 (by omega)
  generalize hL : (if (k : Int) = 13 then (dl : Int) else len) = L at *
  have HL := Lib.hid hL
  clear hL
  have hcell := ht.2 k h0
  have hsz := ht.1
  clear ht
  generalize htk : takes.getD k 0 = tk at *
  clear htk
  have h18 : decide ((18 : Int) ≤ (k : Int)) = false := by simp; omega
  go_enter Tryd.func8, Tryd.ntmps8
  go_wp2_with fail
  refine (length_any _ _ _ _ _ _ _ _ _ _ _ h1 h2).mono ?_
  rintro e w1 ⟨rfl, hb1⟩
  rw [HL.out]
  have hc1 : w1.cell? ⟨0, k, none⟩ = some (.int .u8 tk) := by
    rw [(bcell hb1).1 _ _ (by simp; try omega), World.cell?_alloc_lt _ _ _ (by simpa using hsz)]; exact hcell
  have hc2 : w1.cell? ⟨w.heap.size, 0, none⟩ = some (.int .u8 k) := by
    rw [(bcell hb1).1 _ _ (by simp)]; simp [go_sem]
  have hz1 : w.heap.size < w1.heap.size := by have := hb1.size; simp at this; omega
  have hbb : Below w.heap.size w w1 := ((Below.refl _ _).alloc (Nat.le_refl _) _).trans (hb1.mono (by simp))
  clear hb1
  go_wp2_with fail
  refine (pages_any _ _ (by omega) (by omega)).mono ?_
  rintro e w' ⟨rfl, rfl⟩
  go_wp2_with fail
  refine (pages_any _ _ (by omega) (by omega)).mono ?_
  rintro e w' ⟨rfl, rfl⟩
  rw [pg_most]
  go_wp2_with fail
  go_loopw [3, 24] (fun n i wr => ∃ j : Nat, j ≤ 5 ∧ i = .int .i64 j ∧ n = .int .i64 (psum tk (pg L) j) ∧ wr.cell? ⟨w.heap.size, 0, none⟩ = some (.int .u8 k) ∧ wr.cell? ⟨0, k, none⟩ = some (.int .u8 tk) ∧ w.heap.size < wr.heap.size ∧ Below w.heap.size w wr) (fun _ i _ => 5 - (intOf i).toNat)
  case atStart => exact ⟨0, by omega, rfl, rfl, hc2, hc1, hz1, hbb⟩
  case round =>
    obtain ⟨j, hj, rfl, rfl, hq, hg, hz, hbw⟩ := hrel
    have hps := psum_bd tk (pg L) (by omega) (by omega) j hj
    obtain ⟨hps1, hps2⟩ := hps
    clear hc1 hc2 hz1 hbb
    have hz0 : 0 < wr.heap.size := by omega
    have hk0 : (0 : Int) ≤ (k : Int) := by omega
    have hk1 : (k : Int) < 18 := by omega
    have hj' : j = 0 ∨ j = 1 ∨ j = 2 ∨ j = 3 ∨ j = 4 ∨ j = 5 := by omega
    rcases hj' with rfl | rfl | rfl | rfl | rfl | rfl
    · have i0 : ∀ w, (Instr.index 49 (.agg #[.int .u8 2, .int .i64 17, .int .u8 4, .int .i64 34, .int .u8 8, .int .i64 16, .int .u8 16, .int .i64 (4 * (pg L + 8)), .int .u8 32, .int .i64 1120]) (.int .i64 0)).run Tryd.prog w = .ok (.agg #[.int .u8 2, .int .i64 17]) w := fun _ => by kernel_rfl
      go_wp2
      go_quiet (fail)
      go_wp2
      · go_roundw
        case rel => exact ⟨1, by omega, rfl, congrArg _ (psum_yes tk (pg L) 0 (by assumption)), round_world _ _ hq hg hz hz0 hbw⟩
        case measure => simp [intOf]
      · go_roundw
        case rel => exact ⟨1, by omega, rfl, congrArg _ (psum_no tk (pg L) 0 (by assumption)), round_world _ _ hq hg hz hz0 hbw⟩
        case measure => simp [intOf]
    · have i0 : ∀ w, (Instr.index 49 (.agg #[.int .u8 2, .int .i64 17, .int .u8 4, .int .i64 34, .int .u8 8, .int .i64 16, .int .u8 16, .int .i64 (4 * (pg L + 8)), .int .u8 32, .int .i64 1120]) (.int .i64 1)).run Tryd.prog w = .ok (.agg #[.int .u8 4, .int .i64 34]) w := fun _ => by kernel_rfl
      go_wp2
      go_quiet (fail)
      go_wp2
      · go_roundw
        case rel => exact ⟨2, by omega, rfl, congrArg _ (psum_yes tk (pg L) 1 (by assumption)), round_world _ _ hq hg hz hz0 hbw⟩
        case measure => simp [intOf]
      · go_roundw
        case rel => exact ⟨2, by omega, rfl, congrArg _ (psum_no tk (pg L) 1 (by assumption)), round_world _ _ hq hg hz hz0 hbw⟩
        case measure => simp [intOf]
    · have i0 : ∀ w, (Instr.index 49 (.agg #[.int .u8 2, .int .i64 17, .int .u8 4, .int .i64 34, .int .u8 8, .int .i64 16, .int .u8 16, .int .i64 (4 * (pg L + 8)), .int .u8 32, .int .i64 1120]) (.int .i64 2)).run Tryd.prog w = .ok (.agg #[.int .u8 8, .int .i64 16]) w := fun _ => by kernel_rfl
      go_wp2
      go_quiet (fail)
      go_wp2
      · go_roundw
        case rel => exact ⟨3, by omega, rfl, congrArg _ (psum_yes tk (pg L) 2 (by assumption)), round_world _ _ hq hg hz hz0 hbw⟩
        case measure => simp [intOf]
      · go_roundw
        case rel => exact ⟨3, by omega, rfl, congrArg _ (psum_no tk (pg L) 2 (by assumption)), round_world _ _ hq hg hz hz0 hbw⟩
        case measure => simp [intOf]
    · have i0 : ∀ w, (Instr.index 49 (.agg #[.int .u8 2, .int .i64 17, .int .u8 4, .int .i64 34, .int .u8 8, .int .i64 16, .int .u8 16, .int .i64 (4 * (pg L + 8)), .int .u8 32, .int .i64 1120]) (.int .i64 3)).run Tryd.prog w = .ok (.agg #[.int .u8 16, .int .i64 (4 * (pg L + 8))]) w := fun _ => by kernel_rfl
      go_wp2
      go_quiet (fail)
      go_wp2
      · go_roundw
        case rel => exact ⟨4, by omega, rfl, congrArg _ (psum_yes tk (pg L) 3 (by assumption)), round_world _ _ hq hg hz hz0 hbw⟩
        case measure => simp [intOf]
      · go_roundw
        case rel => exact ⟨4, by omega, rfl, congrArg _ (psum_no tk (pg L) 3 (by assumption)), round_world _ _ hq hg hz hz0 hbw⟩
        case measure => simp [intOf]
    · have i0 : ∀ w, (Instr.index 49 (.agg #[.int .u8 2, .int .i64 17, .int .u8 4, .int .i64 34, .int .u8 8, .int .i64 16, .int .u8 16, .int .i64 (4 * (pg L + 8)), .int .u8 32, .int .i64 1120]) (.int .i64 4)).run Tryd.prog w = .ok (.agg #[.int .u8 32, .int .i64 1120]) w := fun _ => by kernel_rfl
      go_wp2
      go_quiet (fail)
      go_wp2
      · go_roundw
        case rel => exact ⟨5, by omega, rfl, congrArg _ (psum_yes tk (pg L) 4 (by assumption)), round_world _ _ hq hg hz hz0 hbw⟩
        case measure => simp [intOf]
      · go_roundw
        case rel => exact ⟨5, by omega, rfl, congrArg _ (psum_no tk (pg L) 4 (by assumption)), round_world _ _ hq hg hz hz0 hbw⟩
        case measure => simp [intOf]
    · go_wp2
      go_ret
      exact ⟨ret_int HB.out, hbw⟩

theorem blocks_any (k : Int) (nm to : ByteArray) (hd off len qt : Int) (a : Option Addr) (dl dc : Nat) (w : World) (h1 : 0 ≤ len) (h2 : len ≤ 4294967295) (h0 : 0 ≤ k) (h00 : k ≤ 255) (hdl : dl ≤ 1073741824) (ht : Tak w) :
    Calls Tryd.prog 8 #[.agg #[.int .u8 k, .string nm, .string to, .int .u64 hd, .int .u32 off, .int .u32 len, .int .u32 qt, .slice a dl dc]] w
      fun e w' => e = .returned (.int .u32 (blk k len dl)) ∧ Below w.heap.size w w' := by
  by_cases h : k < 18
  · obtain ⟨j, rfl⟩ := Int.eq_ofNat_of_zero_le h0
    exact blocks_near j nm to hd off len qt a dl dc w h1 h2 (by omega) hdl ht
  · refine (blocks_far k nm to hd off len qt a dl dc w (by omega) h00).mono ?_
    rintro e w' ⟨rfl, hb⟩
    refine ⟨ret_int ?_, hb⟩
    unfold blk
    repeat' split
    all_goals omega

set_option maxHeartbeats 800000 in
theorem refBlocks_any (k : Int) (nm to : ByteArray) (hd off len qt : Int) (a : Option Addr) (dl dc : Nat) (w : World) (h1 : 0 ≤ len) (h2 : len ≤ 4294967295) (h0 : 0 ≤ k) (h00 : k ≤ 255) (hdl : dl ≤ 1073741824) :
    Calls Tryd.prog 9 #[.agg #[.int .u8 k, .string nm, .string to, .int .u64 hd, .int .u32 off, .int .u32 len, .int .u32 qt, .slice a dl dc]] w
      fun e w' => e = .returned (.int .u32 (blk k len dl)) ∧ Below w.heap.size w w' := by
  have hp1 := pg_pos len
  have hp2 := pg_le len 4294967295 h2 (by omega)
  have hp3 := pg_pos dl
  have hp4 := pg_le dl 1073741824 (by omega) (by omega)
  have HP := Lib.hid pg_most
  have h65 : 272 ≤ pg 65536 := by have := HP.out; omega
  have h66 : pg 65536 ≤ 272 := by have := HP.out; omega
  have hk : k = 0 ∨ k = 1 ∨ k = 2 ∨ k = 3 ∨ k = 4 ∨ k = 5 ∨ k = 6 ∨ k = 9 ∨ k = 10 ∨ k = 11 ∨ k = 13 ∨ k = 14 ∨ ((k == 0) = false ∧ (k == 1) = false ∧ (k == 2) = false ∧ (k == 3) = false ∧ (k == 4) = false ∧ (k == 5) = false ∧ (k == 6) = false ∧ (k == 9) = false ∧ (k == 10) = false ∧ (k == 11) = false ∧ (k == 13) = false ∧ (k == 14) = false) := by
    simp only [beq_eq_false_iff_ne]; omega
  rcases hk with rfl | rfl | rfl | rfl | rfl | rfl | rfl | rfl | rfl | rfl | rfl | rfl | ⟨b0, b1, b2, b3, b4, b5, b6, b9, b10, b11, b13, b14⟩
  all_goals
    go_enter Tryd.func9, Tryd.ntmps9
    go_wp2_with (go_at_call 11; refine (refPages_any _ _ (by omega) (by omega)).mono ?_; rintro e w' ⟨rfl, rfl⟩)
    go_ret
    refine ⟨ret_int ?_, (Below.refl _ _).alloc (Nat.le_refl _) _⟩
    unfold blk
    repeat' split
    all_goals first | omega | (simp at *; done) | (simp at *; omega)

end Go.Proofs.YtbmnjcmdiepcbaaDoor.Bd
