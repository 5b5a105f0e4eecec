/- Layer 24's known answers: they hold. -/
import Derived.Test.YtbmnjcmdiepcbaaDoorBWrites
namespace Go.Proofs.YtbmnjcmdiepcbaaDoor.Bd
open Go.RowKit

theorem pages_eq (n m : Int) (h : pg n = m) (w : World) (h1 : -4294967296 ≤ n) (h2 : n ≤ 4294967296) :
    Calls Tryd.prog 10 #[.int .i64 n] w fun e w' => e = .returned (.int .i64 m) ∧ w = w' := by subst h; exact pages_any n w h1 h2
theorem blocks_eq (k len m : Int) (h : blk k len (0 : Nat) = m) (s t : ByteArray) (w : World) (h1 : 0 ≤ len) (h2 : len ≤ 4294967295) (h0 : 0 ≤ k) (h00 : k ≤ 255) (ht : Tak w) :
    Calls Tryd.prog 8 #[.agg #[.int .u8 k, .string s, .string t, .int .u64 0, .int .u32 0, .int .u32 len, .int .u32 0, .slice none 0 0]] w
      fun e w' => e = .returned (.int .u32 m) ∧ Below w.heap.size w w' := by
  subst h; exact blocks_any k s t 0 0 len 0 none 0 0 w h1 h2 h0 h00 (by omega) ht
theorem writes_eq (k n rel m : Int) (h : wrt k 0 (0 : Nat) n rel = m) (s t : ByteArray) (w : World) (h0 : 0 ≤ k) (h00 : k ≤ 255) (ht : Tak w) (hn0 : 64 ≤ n) (hn1 : n ≤ 1048576) (hr0 : 0 ≤ rel) (hr1 : rel ≤ 4294967295) :
    Calls Tryd.prog 6 #[.agg #[.int .u8 k, .string s, .string t, .int .u64 0, .int .u32 0, .int .u32 0, .int .u32 0, .slice none 0 0], .int .u32 n, .int .u32 rel] w
      fun e w' => e = .returned (.tuple #[.int .u64 m, .int .i64 0]) ∧ Below w.heap.size w w' := by
  subst h; exact writes_yes k s t 0 0 0 0 none 0 0 n rel w (by omega) (by omega) h0 h00 (by omega) ht hn0 hn1 hr0 hr1

set_option maxHeartbeats 800000 in
theorem head_any (w : World) (ht : Tak w) :
    Calls Tryd.prog 5 #[] w fun e w' => e = .returned (.bool true) ∧ Below w.heap.size w w' := by
  have HT := Lib.hid ht
  clear ht
  go_enter Tryd.func5, Tryd.ntmps5
  go_wp2_with fail
  refine (writes_eq 3 64 5 22 (by decide) _ _ _ (by omega) (by omega) HT.out (by omega) (by omega) (by omega) (by omega)).mono ?_
  rintro e w1 ⟨rfl, hb1⟩
  go_wp2_with fail
  refine (writes_no _ _ _ _ _ _ _ _ _ _ _ _ _ (by omega) (by omega) (by omega)).mono ?_
  rintro e w2 ⟨rfl, hb2⟩
  have hb := hb1.trans (hb2.mono hb1.size)
  clear hb1 hb2
  go_wp2_with fail
  refine (pages_eq 1 1 (by decide) _ (by omega) (by omega)).mono ?_
  rintro e w' ⟨rfl, rfl⟩
  go_wp2_with fail
  refine (pages_eq 237 1 (by decide) _ (by omega) (by omega)).mono ?_
  rintro e w' ⟨rfl, rfl⟩
  go_wp2_with fail
  refine (pages_eq 238 2 (by decide) _ (by omega) (by omega)).mono ?_
  rintro e w' ⟨rfl, rfl⟩
  go_wp2_with fail
  refine (pages_eq 478 2 (by decide) _ (by omega) (by omega)).mono ?_
  rintro e w' ⟨rfl, rfl⟩
  go_wp2_with fail
  refine (pages_eq 479 3 (by decide) _ (by omega) (by omega)).mono ?_
  rintro e w' ⟨rfl, rfl⟩
  go_wp2_with fail
  refine (pages_eq 65536 272 (by decide) _ (by omega) (by omega)).mono ?_
  rintro e w' ⟨rfl, rfl⟩
  go_wp2_with fail
  refine (blocks_eq 3 0 17 (by decide) _ _ _ (by omega) (by omega) (by omega) (by omega) (HT.out.below hb)).mono ?_
  rintro e w3 ⟨rfl, hb3⟩
  have hbc := hb.trans (hb3.mono hb.size)
  clear hb hb3
  go_wp2_with fail
  refine (blocks_eq 9 100 53 (by decide) _ _ _ (by omega) (by omega) (by omega) (by omega) (HT.out.below hbc)).mono ?_
  rintro e w4 ⟨rfl, hb3⟩
  have hb := hbc.trans (hb3.mono hbc.size)
  clear hbc hb3
  go_wp2_with fail
  refine (blocks_eq 10 0 1137 (by decide) _ _ _ (by omega) (by omega) (by omega) (by omega) (HT.out.below hb)).mono ?_
  rintro e w5 ⟨rfl, hb3⟩
  have hbc := hb.trans (hb3.mono hb.size)
  clear hb hb3
  go_wp2_with fail
  refine (blocks_eq 12 0 0 (by decide) _ _ _ (by omega) (by omega) (by omega) (by omega) (HT.out.below hbc)).mono ?_
  rintro e w6 ⟨rfl, hb3⟩
  have hb := hbc.trans (hb3.mono hbc.size)
  clear hbc hb3
  go_wp2_with fail
  go_ret
  exact ⟨rfl, hb⟩
end Go.Proofs.YtbmnjcmdiepcbaaDoor.Bd
