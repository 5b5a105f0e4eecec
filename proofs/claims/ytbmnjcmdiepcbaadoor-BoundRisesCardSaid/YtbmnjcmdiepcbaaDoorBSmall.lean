/- Contracts of the small functions of layer 24 and of the device's plan: each returns what the plain arithmetic says, and nothing that was there is changed. -/
import Derived.Test.YtbmnjcmdiepcbaaDoorChecked
import Derived.Test.YtbmnjcmdiepcbaaDoorBMath
import Derived.WalkKit
import Derived.Below
import Derived.OwnWalk
import Derived.WalkSpells
import Derived.Lib.Hide
namespace Go.Proofs.YtbmnjcmdiepcbaaDoor.Bd
open Go.RowKit

theorem ret_int {k : IntKind} {a b : Int} (h : a = b) : Ending.returned (.int k a) = .returned (.int k b) := by rw [h]

theorem pages_any (n : Int) (w : World) (h1 : -4294967296 ≤ n) (h2 : n ≤ 4294967296) :
    Calls Tryd.prog 10 #[.int .i64 n] w fun e w' => e = .returned (.int .i64 (pg n)) ∧ w = w' := by
  by_cases h : n ≤ 237
  · go_enter Tryd.func10, Tryd.ntmps10
    go_wp2
    go_ret
    exact ⟨ret_int (pg_low n h).symm, rfl⟩
  · go_enter Tryd.func10, Tryd.ntmps10
    go_wp2
    go_ret
    exact ⟨ret_int (by rw [pg_high n (by omega)]; omega), rfl⟩

theorem refPages_any (n : Int) (w : World) (h1 : -4294967296 ≤ n) (h2 : n ≤ 4294967296) :
    Calls Tryd.prog 11 #[.int .i64 n] w fun e w' => e = .returned (.int .i64 (pg n)) ∧ w = w' := by
  go_enter Tryd.func11, Tryd.ntmps11
  go_wp2
  go_loop [0, 3] (fun v k => ∃ m j : Int, v = .int .i64 m ∧ k = .int .i64 j ∧ -4294967296 ≤ m ∧ m ≤ 4294967296 ∧ 1 ≤ j ∧ j + pg m ≤ 1 + pg n ∧ 1 + pg n ≤ j + pg m) (fun v _ => (intOf v + 4294967296).toNat)
  case atStart => exact ⟨n, 1, rfl, rfl, h1, h2, by omega, by omega, by omega⟩
  case round =>
    obtain ⟨m, j, rfl, rfl, hm1, hm2, hj, hs1, hs2⟩ := hrel
    have hb := pg_le n 4294967296 h2 (by omega)
    have hp := pg_pos m
    by_cases h : m ≤ 237
    · have hl := pg_low m h
      have H : Hid (j = pg n) := by show j = pg n; omega
      clear hl
      go_wp2
      go_ret
      exact ⟨ret_int H.out, rfl⟩
    · have hst := pg_step m h
      have H : Hid (pg m = 1 + pg (m - 241)) := hst
      clear hst
      go_wp2
      go_round
      case rel => exact ⟨m - 241, j + 1, rfl, rfl, by omega, by omega, by omega, by have := H.out; omega, by have := H.out; omega⟩
      case measure => simp [intOf]; omega

theorem up_any (n p : Int) (w : World) (h1 : 0 ≤ n) (h2 : n ≤ 1048576) (h3 : 1 ≤ p) (h4 : p ≤ 1024) :
    Calls Tryd.prog 16 #[.int .u32 n, .int .u32 p] w fun e w' => e = .returned (.int .u32 ((n + p - 1) / p)) ∧ w = w' := by
  go_enter Tryd.func16, Tryd.ntmps16
  go_wp2
  go_ret
  exact ⟨rfl, rfl⟩

theorem refUp_any (n p : Int) (w : World) (h1 : 0 ≤ n) (h2 : n ≤ 1048576) (h3 : p = 64 ∨ p = 1024) :
    Calls Tryd.prog 17 #[.int .u32 n, .int .u32 p] w fun e w' => e = .returned (.int .u32 ((n + p - 1) / p)) ∧ w = w' := by
  rcases h3 with rfl | rfl
  all_goals
    go_enter Tryd.func17, Tryd.ntmps17
    go_wp2
    all_goals
      go_ret
      refine ⟨ret_int ?_, rfl⟩
      simp at *
      omega

/-- A device's plan: no plan. -/
theorem layout_no (n : Int) (w : World) (h0 : 0 ≤ n) (h1 : n ≤ 4294967295) (h : n < 64 ∨ 1048576 < n) :
    Calls Tryd.prog 13 #[.int .u32 n] w fun e w' => e = .returned (.tuple #[.agg #[.int .u32 0, .int .u32 0, .int .u32 0], .int .i64 2]) ∧ Below w.heap.size w w' := by
  rcases h with h | h
  · go_enter Tryd.func13, Tryd.ntmps13
    go_wp2
    exact bodyPost_ret (v := .tuple #[.agg #[.int .u32 0, .int .u32 0, .int .u32 0], .int .i64 2]) (by simp [results, Tryd.results13, go_sem]) rfl ⟨rfl, (Below.refl _ _).alloc (Nat.le_refl _) _⟩
  · have h' : ¬ n < 64 := by omega
    go_enter Tryd.func13, Tryd.ntmps13
    go_wp2
    exact bodyPost_ret (v := .tuple #[.agg #[.int .u32 0, .int .u32 0, .int .u32 0], .int .i64 2]) (by simp [results, Tryd.results13, go_sem]) rfl ⟨rfl, (Below.refl _ _).alloc (Nat.le_refl _) _⟩

theorem refLayout_no (n : Int) (w : World) (h0 : 0 ≤ n) (h1 : n ≤ 4294967295) (h : n < 64 ∨ 1048576 < n) :
    Calls Tryd.prog 14 #[.int .u32 n] w fun e w' => e = .returned (.tuple #[.agg #[.int .u32 0, .int .u32 0, .int .u32 0], .int .i64 2]) ∧ Below w.heap.size w w' := by
  rcases h with h | h
  · go_enter Tryd.func14, Tryd.ntmps14
    go_wp2
    exact bodyPost_ret (v := .tuple #[.agg #[.int .u32 0, .int .u32 0, .int .u32 0], .int .i64 2]) (by simp [results, Tryd.results14, go_sem]) rfl ⟨rfl, (Below.refl _ _).alloc (Nat.le_refl _) _⟩
  · have h' : ¬ n < 64 := by omega
    go_enter Tryd.func14, Tryd.ntmps14
    go_wp2
    exact bodyPost_ret (v := .tuple #[.agg #[.int .u32 0, .int .u32 0, .int .u32 0], .int .i64 2]) (by simp [results, Tryd.results14, go_sem]) rfl ⟨rfl, (Below.refl _ _).alloc (Nat.le_refl _) _⟩

theorem layout_yes (n : Int) (w : World) (h0 : 64 ≤ n) (h1 : n ≤ 1048576) :
    Calls Tryd.prog 13 #[.int .u32 n] w fun e w' => ∃ f : Int, e = .returned (.tuple #[.agg #[.int .u32 (tal n), .int .u32 (pic n), .int .u32 f], .int .i64 0]) ∧ Below w.heap.size w w' := by
  have hp : 0 ≤ (n + 64 - 1) / 64 ∧ (n + 64 - 1) / 64 ≤ 16384 := by omega
  obtain ⟨hp1, hp2⟩ := hp
  have ht : tal n = (n + 64 - 1) / 64 := by unfold tal; omega
  have hc : pic n = ((n + 64 - 1) / 64 + 1024 - 1) / 1024 := by unfold pic; rw [ht]; omega
  have HT := Lib.hid ht
  have HC := Lib.hid hc
  clear ht hc
  go_enter Tryd.func13, Tryd.ntmps13
  go_wp2_with (go_at_call 16; refine (up_any _ _ _ (by omega) (by omega) (by omega) (by omega)).mono ?_; rintro e w' ⟨rfl, rfl⟩)
  refine bodyPost_ret (v := .tuple #[.agg #[.int .u32 ((n + 64 - 1) / 64), .int .u32 (((n + 64 - 1) / 64 + 1024 - 1) / 1024), _], .int .i64 0]) (by simp [results, Tryd.results13, go_sem]; rfl) rfl ⟨_, by rw [HT.out, HC.out], ?_⟩
  exact ((Below.refl _ _).alloc (Nat.le_refl _) _).alloc (by simp) _

theorem refLayout_yes (n : Int) (w : World) (h0 : 64 ≤ n) (h1 : n ≤ 1048576) :
    Calls Tryd.prog 14 #[.int .u32 n] w fun e w' => ∃ f : Int, e = .returned (.tuple #[.agg #[.int .u32 (tal n), .int .u32 (pic n), .int .u32 f], .int .i64 0]) ∧ Below w.heap.size w w' := by
  have hp : 0 ≤ (n + 64 - 1) / 64 ∧ (n + 64 - 1) / 64 ≤ 16384 := by omega
  obtain ⟨hp1, hp2⟩ := hp
  have ht : tal n = (n + 64 - 1) / 64 := by unfold tal; omega
  have hc : pic n = ((n + 64 - 1) / 64 + 1024 - 1) / 1024 := by unfold pic; rw [ht]; omega
  have HT := Lib.hid ht
  have HC := Lib.hid hc
  clear ht hc
  go_enter Tryd.func14, Tryd.ntmps14
  go_wp2_with (go_at_call 17; refine (refUp_any _ _ _ (by omega) (by omega) (by omega)).mono ?_; rintro e w' ⟨rfl, rfl⟩)
  refine bodyPost_ret (v := .tuple #[.agg #[.int .u32 ((n + 64 - 1) / 64), .int .u32 (((n + 64 - 1) / 64 + 1024 - 1) / 1024), _], .int .i64 0]) (by simp [results, Tryd.results14, go_sem]; rfl) rfl ⟨_, by rw [HT.out, HC.out], ?_⟩
  exact ((Below.refl _ _).alloc (Nat.le_refl _) _)

/-- What a request's pages hang on. -/
theorem length_any (k : Int) (nm to : ByteArray) (hd off len qt : Int) (a : Option Addr) (dl dc : Nat) (w : World) (h1 : 0 ≤ len) (h2 : len ≤ 4294967295) :
    Calls Tryd.prog 15 #[.agg #[.int .u8 k, .string nm, .string to, .int .u64 hd, .int .u32 off, .int .u32 len, .int .u32 qt, .slice a dl dc]] w
      fun e w' => e = .returned (.int .i64 (if k = 13 then (dl : Int) else len)) ∧ Below w.heap.size w w' := by
  by_cases h : k = 13
  · subst h
    go_enter Tryd.func15, Tryd.ntmps15
    go_wp2
    go_ret
    exact ⟨rfl, (Below.refl _ _).alloc (Nat.le_refl _) _⟩
  · have hb : (k == 13) = false := by simpa using h
    go_enter Tryd.func15, Tryd.ntmps15
    go_wp2
    go_ret
    exact ⟨rfl, (Below.refl _ _).alloc (Nat.le_refl _) _⟩

end Go.Proofs.YtbmnjcmdiepcbaaDoor.Bd
