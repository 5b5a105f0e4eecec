/- Contracts of the two functions that tell a request's writes. -/
import Derived.Test.YtbmnjcmdiepcbaaDoorBBlocks
namespace Go.Proofs.YtbmnjcmdiepcbaaDoor.Bd
open Go.RowKit

theorem ret_two {k l : IntKind} {a b c : Int} (h : a = b) : Ending.returned (.tuple #[.int k a, .int l c]) = .returned (.tuple #[.int k b, .int l c]) := by rw [h]

theorem writes_no (k : Int) (nm to : ByteArray) (hd off len qt : Int) (a : Option Addr) (dl dc : Nat) (n rel : Int) (w : World) (hn0 : 0 ≤ n) (hn1 : n ≤ 4294967295) (hn : n < 64 ∨ 1048576 < n) :
    Calls Tryd.prog 6 #[.agg #[.int .u8 k, .string nm, .string to, .int .u64 hd, .int .u32 off, .int .u32 len, .int .u32 qt, .slice a dl dc], .int .u32 n, .int .u32 rel] w
      fun e w' => e = .returned (.tuple #[.int .u64 0, .int .i64 2]) ∧ Below w.heap.size w w' := by
  go_enter Tryd.func6, Tryd.ntmps6
  go_wp2_with fail
  refine (layout_no _ _ hn0 hn1 hn).mono ?_
  rintro e w1 ⟨rfl, hb1⟩
  have hbb : Below w.heap.size w w1 := ((Below.refl _ _).alloc (Nat.le_refl _) _).trans (hb1.mono (by simp))
  have hz1 : w.heap.size < w1.heap.size := by have := hb1.size; simp at this; omega
  clear hb1
  go_wp2_with fail
  go_ret2
  exact ⟨rfl, hbb.alloc (by omega) _⟩

theorem refWrites_no (k : Int) (nm to : ByteArray) (hd off len qt : Int) (a : Option Addr) (dl dc : Nat) (n rel : Int) (w : World) (hn0 : 0 ≤ n) (hn1 : n ≤ 4294967295) (hn : n < 64 ∨ 1048576 < n) :
    Calls Tryd.prog 7 #[.agg #[.int .u8 k, .string nm, .string to, .int .u64 hd, .int .u32 off, .int .u32 len, .int .u32 qt, .slice a dl dc], .int .u32 n, .int .u32 rel] w
      fun e w' => e = .returned (.tuple #[.int .u64 0, .int .i64 2]) ∧ Below w.heap.size w w' := by
  go_enter Tryd.func7, Tryd.ntmps7
  go_wp2_with fail
  refine (refLayout_no _ _ hn0 hn1 hn).mono ?_
  rintro e w1 ⟨rfl, hb1⟩
  have hbb : Below w.heap.size w w1 := ((Below.refl _ _).alloc (Nat.le_refl _) _).trans (hb1.mono (by simp))
  have hz1 : w.heap.size < w1.heap.size := by have := hb1.size; simp at this; omega
  clear hb1
  go_wp2_with fail
  go_ret2
  exact ⟨rfl, hbb.alloc (by omega) _⟩

theorem wrt_zero (k len d n rel : Int) (h : blk k len d = 0) : wrt k len d n rel = 0 := by unfold wrt; rw [if_pos h]
theorem wrt_some (k len d n rel : Int) (h : ¬ blk k len d = 0) : wrt k len d n rel = blk k len d + min (tal n) (34 * (blk k len d + rel + 1)) + pic n + 3 := by unfold wrt; rw [if_neg h]
theorem tal_bd (n : Int) (h0 : 64 ≤ n) (h1 : n ≤ 1048576) : 1 ≤ tal n ∧ tal n ≤ 16384 := by unfold tal; omega
theorem pic_bd (n : Int) (h0 : 64 ≤ n) (h1 : n ≤ 1048576) : 1 ≤ pic n ∧ pic n ≤ 16 := by unfold pic tal; omega

set_option maxHeartbeats 800000 in
theorem writes_yes (k : Int) (nm to : ByteArray) (hd off len qt : Int) (a : Option Addr) (dl dc : Nat) (n rel : Int) (w : World) (h1 : 0 ≤ len) (h2 : len ≤ 4294967295) (h0 : 0 ≤ k) (h00 : k ≤ 255) (hdl : dl ≤ 1073741824) (ht : Tak w)
    (hn0 : 64 ≤ n) (hn1 : n ≤ 1048576) (hr0 : 0 ≤ rel) (hr1 : rel ≤ 4294967295) :
    Calls Tryd.prog 6 #[.agg #[.int .u8 k, .string nm, .string to, .int .u64 hd, .int .u32 off, .int .u32 len, .int .u32 qt, .slice a dl dc], .int .u32 n, .int .u32 rel] w
      fun e w' => e = .returned (.tuple #[.int .u64 (wrt k len dl n rel), .int .i64 0]) ∧ Below w.heap.size w w' := by
  obtain ⟨t1, t2⟩ := tal_bd n hn0 hn1
  obtain ⟨p1, p2⟩ := pic_bd n hn0 hn1
  obtain ⟨b1, b2⟩ := blk_bd k len dl h2 (by omega)
  have HT := Lib.hid ht
  clear ht
  go_enter Tryd.func6, Tryd.ntmps6
  go_wp2_with fail
  refine (layout_yes _ _ hn0 hn1).mono ?_
  rintro e w1 ⟨f, rfl, hb1⟩
  have hbb : Below w.heap.size w w1 := ((Below.refl _ _).alloc (Nat.le_refl _) _).trans (hb1.mono (by simp))
  have hz1 : w.heap.size < w1.heap.size := by have := hb1.size; simp at this; omega
  obtain ⟨hc, hf⟩ := bcell hb1
  clear hb1
  go_wp2_with fail
  refine (blocks_any _ _ _ _ _ _ _ _ _ _ _ h1 h2 h0 h00 hdl (by exact (HT.out.below hbb).alloc _)).mono ?_
  rintro e w2 ⟨rfl, hb2⟩
  have hbb2 : Below w.heap.size w w2 := (hbb.alloc (by omega) _).trans (hb2.mono (by simp; omega))
  obtain ⟨hc2, hf2⟩ := bcell hb2
  clear hb2
  by_cases hz : blk k len dl = 0
  · have hw := Lib.hid (wrt_zero k len dl n rel hz)
    rw [hz]
    clear hz
    go_wp2_with fail
    go_ret2
    exact ⟨ret_two hw.out.symm, hbb2⟩
  · have hw := Lib.hid (wrt_some k len dl n rel hz)
    have hzb : (blk k len dl == 0) = false := by simpa using hz
    clear hz
    generalize blk k len dl = B at *
    generalize tal n = T at *
    generalize pic n = C at *
    go_wp2_with fail
    all_goals
      go_ret2
      exact ⟨ret_two (by rw [hw.out]; omega), hbb2⟩
set_option maxHeartbeats 800000 in
theorem refWrites_yes (k : Int) (nm to : ByteArray) (hd off len qt : Int) (a : Option Addr) (dl dc : Nat) (n rel : Int) (w : World) (h1 : 0 ≤ len) (h2 : len ≤ 4294967295) (h0 : 0 ≤ k) (h00 : k ≤ 255) (hdl : dl ≤ 1073741824)
    (hn0 : 64 ≤ n) (hn1 : n ≤ 1048576) (hr0 : 0 ≤ rel) (hr1 : rel ≤ 4294967295) :
    Calls Tryd.prog 7 #[.agg #[.int .u8 k, .string nm, .string to, .int .u64 hd, .int .u32 off, .int .u32 len, .int .u32 qt, .slice a dl dc], .int .u32 n, .int .u32 rel] w
      fun e w' => e = .returned (.tuple #[.int .u64 (wrt k len dl n rel), .int .i64 0]) ∧ Below w.heap.size w w' := by
  obtain ⟨t1, t2⟩ := tal_bd n hn0 hn1
  obtain ⟨p1, p2⟩ := pic_bd n hn0 hn1
  obtain ⟨b1, b2⟩ := blk_bd k len dl h2 (by omega)
  go_enter Tryd.func7, Tryd.ntmps7
  go_wp2_with fail
  refine (refLayout_yes _ _ hn0 hn1).mono ?_
  rintro e w1 ⟨f, rfl, hb1⟩
  have hbb : Below w.heap.size w w1 := ((Below.refl _ _).alloc (Nat.le_refl _) _).trans (hb1.mono (by simp))
  have hz1 : w.heap.size < w1.heap.size := by have := hb1.size; simp at this; omega
  obtain ⟨hc, hf⟩ := bcell hb1
  clear hb1
  go_wp2_with fail
  refine (refBlocks_any _ _ _ _ _ _ _ _ _ _ _ h1 h2 h0 h00 hdl).mono ?_
  rintro e w2 ⟨rfl, hb2⟩
  have hbb2 : Below w.heap.size w w2 := (hbb.alloc (by omega) _).trans (hb2.mono (by simp; omega))
  obtain ⟨hc2, hf2⟩ := bcell hb2
  clear hb2
  by_cases hz : blk k len dl = 0
  · have hw := Lib.hid (wrt_zero k len dl n rel hz)
    rw [hz]
    clear hz
    go_wp2_with fail
    go_ret2
    exact ⟨ret_two hw.out.symm, hbb2⟩
  · have hw := Lib.hid (wrt_some k len dl n rel hz)
    have hzb : (blk k len dl == 0) = false := by simpa using hz
    clear hz
    generalize blk k len dl = B at *
    generalize tal n = T at *
    generalize pic n = C at *
    go_wp2_with fail
    all_goals
      go_ret2
      exact ⟨ret_two (by rw [hw.out]; omega), hbb2⟩

end Go.Proofs.YtbmnjcmdiepcbaaDoor.Bd
