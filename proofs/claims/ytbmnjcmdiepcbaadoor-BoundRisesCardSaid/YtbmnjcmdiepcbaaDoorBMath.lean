/- Plain arithmetic of layer 24: pages of a length, blocks of a request, a device's plan, writes. No program in sight. -/
import Derived.WalkKit
namespace Go.Proofs.YtbmnjcmdiepcbaaDoor.Bd

/-- Pages of a length. -/
def pg (n : Int) : Int := if n ≤ 237 then 1 else 1 + (n + 3) / 241
theorem pg_low (n : Int) (h : n ≤ 237) : pg n = 1 := by unfold pg; rw [if_pos h]
theorem pg_high (n : Int) (h : ¬ n ≤ 237) : pg n = 1 + (n + 3) / 241 := by unfold pg; rw [if_neg h]
theorem pg_step (n : Int) (h : ¬ n ≤ 237) : pg n = 1 + pg (n - 241) := by
  rw [pg_high n h]
  by_cases h2 : n - 241 ≤ 237
  · rw [pg_low _ h2]; omega
  · rw [pg_high _ h2]; omega
theorem pg_pos (n : Int) : 1 ≤ pg n := by
  by_cases h : n ≤ 237
  · rw [pg_low n h]; omega
  · rw [pg_high n h]; omega
theorem pg_le (n B : Int) (h : n ≤ B) (hB : 0 ≤ B) : pg n ≤ 1 + (B + 3) / 241 := by
  by_cases h2 : n ≤ 237
  · rw [pg_low n h2]; omega
  · rw [pg_high n h2]; omega
theorem pg_mono (a b : Int) (h : a ≤ b) : pg a ≤ pg b := by
  by_cases h1 : a ≤ 237 <;> by_cases h2 : b ≤ 237
  · rw [pg_low a h1, pg_low b h2]; omega
  · rw [pg_low a h1]; exact pg_pos b
  · omega
  · rw [pg_high a h1, pg_high b h2]; omega
theorem pg_most : pg 65536 = 272 := by decide

/-- Blocks of a request: its kind, its length, its bytes. -/
def blk (k len d : Int) : Int :=
  if k = 3 then 17 else if k = 1 ∨ k = 2 ∨ k = 4 ∨ k = 5 ∨ k = 6 then 34 else if k = 0 ∨ k = 14 then 50
  else if k = 9 then 17 + 4 * (pg len + 8) else if k = 13 then 17 + 4 * (pg d + 8) else if k = 10 then 1137
  else if k = 11 then 17 + 4 * (pg len + 272 + 16) else 0

theorem blk_bd (k len d : Int) (h1 : len ≤ 4294967295) (h2 : d ≤ 1073741824) : 0 ≤ blk k len d ∧ blk k len d ≤ 80000000 := by
  have a1 := pg_pos len
  have a2 := pg_le len 4294967295 h1 (by omega)
  have a3 := pg_pos d
  have a4 := pg_le d 1073741824 h2 (by omega)
  unfold blk
  repeat' split
  all_goals omega

theorem blk_mono (k a b d : Int) (h : a ≤ b) : blk k a d ≤ blk k b d := by
  have := pg_mono a b h
  unfold blk
  repeat' split
  all_goals omega

theorem blk_small (k len d : Int) (h1 : len ≤ 65536) (h2 : d ≤ 65536) : blk k len d ≤ 2257 := by
  have a1 := pg_mono len 65536 h1
  have a2 := pg_mono d 65536 h2
  rw [pg_most] at a1 a2
  unfold blk
  repeat' split
  all_goals omega

/-- Tallies and picks of a device. -/
def tal (n : Int) : Int := (n + 63) / 64
def pic (n : Int) : Int := (tal n + 1023) / 1024

/-- Writes of a request. -/
def wrt (k len d n rel : Int) : Int :=
  if blk k len d = 0 then 0 else blk k len d + min (tal n) (34 * (blk k len d + rel + 1)) + pic n + 3

theorem wrt_mono (k len d n r s : Int) (h : r ≤ s) : wrt k len d n r ≤ wrt k len d n s := by
  unfold wrt
  split
  · omega
  · omega
theorem blk_le_wrt (k len d n r : Int) (h1 : len ≤ 4294967295) (h2 : d ≤ 1073741824) (h3 : 64 ≤ n) (h4 : 0 ≤ r) : blk k len d ≤ wrt k len d n r := by
  have := blk_bd k len d h1 h2
  unfold wrt
  split
  · omega
  · unfold pic tal; omega
end Go.Proofs.YtbmnjcmdiepcbaaDoor.Bd
