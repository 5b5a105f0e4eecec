/- BoundTells: the law's walk: whatever the request, it returns true, and nothing that was there is changed. -/
import Derived.Test.YtbmnjcmdiepcbaaDoorBHead
import Derived.Deep.RegionHeld3
import Derived.Deep.DrawnRows
import Derived.IntWalk
namespace Go.Proofs.YtbmnjcmdiepcbaaDoor.Bd
open Go.RowKit
attribute [local go_sem ↓] Go.wp_at_zero Go.wp_at_succ

/-- A request's box, kept by callees. -/
theorem keepS {w w1 w2 : World} {B : Nat} {v0 v1 v2 v3 v4 v5 v6 v7 : Value}
    (h : w1.cell? ⟨B, 0, none⟩ = some v0 ∧ w1.cell? ⟨B, 1, none⟩ = some v1 ∧ w1.cell? ⟨B, 2, none⟩ = some v2 ∧ w1.cell? ⟨B, 3, none⟩ = some v3 ∧ w1.cell? ⟨B, 4, none⟩ = some v4 ∧ w1.cell? ⟨B, 5, none⟩ = some v5 ∧ w1.cell? ⟨B, 6, none⟩ = some v6 ∧ w1.cell? ⟨B, 7, none⟩ = some v7 ∧ B < w1.heap.size ∧ Tak w1 ∧ Below w.heap.size w w1)
    (hb : Below w1.heap.size w1 w2) :
    w2.cell? ⟨B, 0, none⟩ = some v0 ∧ w2.cell? ⟨B, 1, none⟩ = some v1 ∧ w2.cell? ⟨B, 2, none⟩ = some v2 ∧ w2.cell? ⟨B, 3, none⟩ = some v3 ∧ w2.cell? ⟨B, 4, none⟩ = some v4 ∧ w2.cell? ⟨B, 5, none⟩ = some v5 ∧ w2.cell? ⟨B, 6, none⟩ = some v6 ∧ w2.cell? ⟨B, 7, none⟩ = some v7 ∧ B < w2.heap.size ∧ Tak w2 ∧ Below w.heap.size w w2 := by
  obtain ⟨h0, h1, h2, h3, h4, h5, h6, h7, hB, ht, hw⟩ := h
  have hc := fun o => (bcell hb).1 B o hB
  exact ⟨(hc 0).trans h0, (hc 1).trans h1, (hc 2).trans h2, (hc 3).trans h3, (hc 4).trans h4, (hc 5).trans h5, (hc 6).trans h6, (hc 7).trans h7, Nat.lt_of_lt_of_le hB hb.size, ht.below hb, hw.trans (hb.mono hw.size)⟩
theorem ofS_tak {w w1 : World} {B : Nat} {v0 v1 v2 v3 v4 v5 v6 v7 : Value}
    (h : w1.cell? ⟨B, 0, none⟩ = some v0 ∧ w1.cell? ⟨B, 1, none⟩ = some v1 ∧ w1.cell? ⟨B, 2, none⟩ = some v2 ∧ w1.cell? ⟨B, 3, none⟩ = some v3 ∧ w1.cell? ⟨B, 4, none⟩ = some v4 ∧ w1.cell? ⟨B, 5, none⟩ = some v5 ∧ w1.cell? ⟨B, 6, none⟩ = some v6 ∧ w1.cell? ⟨B, 7, none⟩ = some v7 ∧ B < w1.heap.size ∧ Tak w1 ∧ Below w.heap.size w w1) : Tak w1 := h.2.2.2.2.2.2.2.2.2.1
theorem ofS_below {w w1 : World} {B : Nat} {v0 v1 v2 v3 v4 v5 v6 v7 : Value}
    (h : w1.cell? ⟨B, 0, none⟩ = some v0 ∧ w1.cell? ⟨B, 1, none⟩ = some v1 ∧ w1.cell? ⟨B, 2, none⟩ = some v2 ∧ w1.cell? ⟨B, 3, none⟩ = some v3 ∧ w1.cell? ⟨B, 4, none⟩ = some v4 ∧ w1.cell? ⟨B, 5, none⟩ = some v5 ∧ w1.cell? ⟨B, 6, none⟩ = some v6 ∧ w1.cell? ⟨B, 7, none⟩ = some v7 ∧ B < w1.heap.size ∧ Tak w1 ∧ Below w.heap.size w w1) : Below w.heap.size w w1 := h.2.2.2.2.2.2.2.2.2.2

theorem tells_far (k : Int) (nm to : ByteArray) (hd off len qt : Int) (a : Option Addr) (dl dc : Nat) (n rel : Int) (w : World) (h1 : 0 ≤ len) (h2 : len ≤ 4294967295) (hg : 1048576 < len ∨ 1048576 < dl) (ht : Tak w) :
    Calls Tryd.prog 3 #[.agg #[.int .u8 k, .string nm, .string to, .int .u64 hd, .int .u32 off, .int .u32 len, .int .u32 qt, .slice a dl dc], .int .u32 n, .int .u32 rel] w
      fun e w' => e = .returned (.bool true) ∧ Below w.heap.size w w' := by
  have HT := Lib.hid ht
  clear ht
  by_cases hlen : 1048576 < len
  · clear hg
    go_enter Tryd.func3, Tryd.ntmps3
    go_wp2_with fail
    refine (head_any _ (HT.out.alloc _)).mono ?_
    rintro e w1 ⟨rfl, hb⟩
    have hbb : Below w.heap.size w w1 := ((Below.refl _ _).alloc (Nat.le_refl _) _).trans (hb.mono (by simp))
    go_wp2_with fail
    go_ret
    exact ⟨rfl, hbb⟩
  · have hdl : (1048576 : Int) < (dl : Int) := by omega
    clear hg
    go_enter Tryd.func3, Tryd.ntmps3
    go_wp2_with fail
    refine (head_any _ (HT.out.alloc _)).mono ?_
    rintro e w1 ⟨rfl, hb⟩
    have hbb : Below w.heap.size w w1 := ((Below.refl _ _).alloc (Nat.le_refl _) _).trans (hb.mono (by simp))
    go_wp2_with fail
    go_ret
    exact ⟨rfl, hbb⟩

set_option maxHeartbeats 4000000 in
theorem tells_no (k : Int) (nm to : ByteArray) (hd off len qt : Int) (a : Option Addr) (dl dc : Nat) (n rel : Int) (w : World) (h1 : 0 ≤ len) (h2 : len ≤ 1048576) (h0 : 0 ≤ k) (h00 : k ≤ 255) (hdl : (dl : Int) ≤ 1048576) (ht : Tak w) (hn0 : 0 ≤ n) (hn1 : n ≤ 4294967295) (hn : n < 64 ∨ 1048576 < n) :
    Calls Tryd.prog 3 #[.agg #[.int .u8 k, .string nm, .string to, .int .u64 hd, .int .u32 off, .int .u32 len, .int .u32 qt, .slice a dl dc], .int .u32 n, .int .u32 rel] w
      fun e w' => e = .returned (.bool true) ∧ Below w.heap.size w w' := by
  have HT := Lib.hid ht
  have HN := Lib.hid hn
  clear ht hn
  go_enter Tryd.func3, Tryd.ntmps3
  go_wp2_with fail
  refine (writes_no _ _ _ _ _ _ _ _ _ _ _ _ _ hn0 hn1 HN.out).mono ?_
  rintro e w1 ⟨rfl, hb1⟩
  have hz1 : w.heap.size < w1.heap.size := by have := hb1.size; simp at this; omega
  have hbb : Below w.heap.size w w1 := ((Below.refl _ _).alloc (Nat.le_refl _) _).trans (hb1.mono (by simp))
  obtain ⟨hc, hf⟩ := bcell hb1
  clear hb1
  go_wp2_with fail
  refine (refWrites_no _ _ _ _ _ _ _ _ _ _ _ _ _ hn0 hn1 HN.out).mono ?_
  rintro e w2 ⟨rfl, hb2⟩
  have hS := keepS (w := w) (B := w.heap.size) (v0 := .int .u8 k) (v1 := .string nm) (v2 := .string to) (v3 := .int .u64 hd) (v4 := .int .u32 off) (v5 := .int .u32 len) (v6 := .int .u32 qt) (v7 := .slice a dl dc)
    ⟨by rw [hc _ _ (by simp)]; simp [go_sem], by rw [hc _ _ (by simp)]; simp [go_sem], by rw [hc _ _ (by simp)]; simp [go_sem], by rw [hc _ _ (by simp)]; simp [go_sem], by rw [hc _ _ (by simp)]; simp [go_sem], by rw [hc _ _ (by simp)]; simp [go_sem], by rw [hc _ _ (by simp)]; simp [go_sem], by rw [hc _ _ (by simp)]; simp [go_sem], hz1, HT.out.below hbb, hbb⟩ hb2
  clear hc hf hb2 hbb hz1
  have HS := Lib.hid hS
  clear hS
  go_wp2_with fail
  have hwr : IntKind.i64.wrap len = len := IntWalk.i64_in _ (by omega)
  have hwn : IntKind.i64.wrap (0 - len) = 0 - len := IntWalk.i64_in _ (by omega)
  have hwm : IntKind.i64.wrap (-len) = -len := IntWalk.i64_in _ (by omega)
  have hpn : pg (-len) = 1 := pg_low _ (by omega)
  go_region_held3 (fun w' => w'.cell? ⟨w.heap.size, 0, none⟩ = some (.int .u8 k) ∧ w'.cell? ⟨w.heap.size, 1, none⟩ = some (.string nm) ∧ w'.cell? ⟨w.heap.size, 2, none⟩ = some (.string to) ∧ w'.cell? ⟨w.heap.size, 3, none⟩ = some (.int .u64 hd) ∧ w'.cell? ⟨w.heap.size, 4, none⟩ = some (.int .u32 off) ∧ w'.cell? ⟨w.heap.size, 5, none⟩ = some (.int .u32 len) ∧ w'.cell? ⟨w.heap.size, 6, none⟩ = some (.int .u32 qt) ∧ w'.cell? ⟨w.heap.size, 7, none⟩ = some (.slice a dl dc) ∧ w.heap.size < w'.heap.size ∧ Tak w' ∧ Below w.heap.size w w')
    (first | assumption | exact keepS HS.out ⟨rfl, rfl, rfl, Nat.le_refl _, fun _ _ => rfl⟩ | exact keepS (by assumption) hbX)
    (first | (go_at_call 8; refine (blocks_any _ _ _ _ _ _ _ _ _ _ _ (by omega) (by omega) h0 h00 (by omega) (ofS_tak (by assumption))).mono ?_; rintro e w' ⟨rfl, hbX⟩) | (go_at_call 9; refine (refBlocks_any _ _ _ _ _ _ _ _ _ _ _ (by omega) (by omega) h0 h00 (by omega)).mono ?_; rintro e w' ⟨rfl, hbX⟩) | (go_at_call 10; refine (pages_any _ _ (by omega) (by omega)).mono ?_; rintro e w' ⟨rfl, rfl⟩) | (go_at_call 11; refine (refPages_any _ _ (by omega) (by omega)).mono ?_; rintro e w' ⟨rfl, rfl⟩) | (go_at_call 5; refine (head_any _ (ofS_tak (by assumption))).mono ?_; rintro e w' ⟨rfl, hbX⟩))
  all_goals
    have hfin := ofS_below (by assumption)
    go_wp2_with fail
    go_ret
    exact ⟨rfl, hfin⟩
set_option maxHeartbeats 4000000 in
theorem tells_yes (k : Int) (nm to : ByteArray) (hd off len qt : Int) (a : Option Addr) (dl dc : Nat) (n rel : Int) (w : World) (h1 : 0 ≤ len) (h2 : len ≤ 1048576) (h0 : 0 ≤ k) (h00 : k ≤ 255) (hdl : (dl : Int) ≤ 1048576) (ht : Tak w) (hn0 : 64 ≤ n) (hn1 : n ≤ 1048576) (hr0 : 0 ≤ rel) (hr1 : rel ≤ 4294967295) :
    Calls Tryd.prog 3 #[.agg #[.int .u8 k, .string nm, .string to, .int .u64 hd, .int .u32 off, .int .u32 len, .int .u32 qt, .slice a dl dc], .int .u32 n, .int .u32 rel] w
      fun e w' => e = .returned (.bool true) ∧ Below w.heap.size w w' := by
  have HT := Lib.hid ht
  clear ht
  go_enter Tryd.func3, Tryd.ntmps3
  go_wp2_with fail
  refine (writes_yes _ _ _ _ _ _ _ _ _ _ _ _ _ h1 (by omega) h0 h00 (by omega) (HT.out.alloc _) hn0 hn1 hr0 hr1).mono ?_
  rintro e w1 ⟨rfl, hb1⟩
  have hz1 : w.heap.size < w1.heap.size := by have := hb1.size; simp at this; omega
  have hbb : Below w.heap.size w w1 := ((Below.refl _ _).alloc (Nat.le_refl _) _).trans (hb1.mono (by simp))
  obtain ⟨hc, hf⟩ := bcell hb1
  clear hb1
  go_wp2_with fail
  refine (refWrites_yes _ _ _ _ _ _ _ _ _ _ _ _ _ h1 (by omega) h0 h00 (by omega) hn0 hn1 hr0 hr1).mono ?_
  rintro e w2 ⟨rfl, hb2⟩
  have hS := keepS (w := w) (B := w.heap.size) (v0 := .int .u8 k) (v1 := .string nm) (v2 := .string to) (v3 := .int .u64 hd) (v4 := .int .u32 off) (v5 := .int .u32 len) (v6 := .int .u32 qt) (v7 := .slice a dl dc)
    ⟨by rw [hc _ _ (by simp)]; simp [go_sem], by rw [hc _ _ (by simp)]; simp [go_sem], by rw [hc _ _ (by simp)]; simp [go_sem], by rw [hc _ _ (by simp)]; simp [go_sem], by rw [hc _ _ (by simp)]; simp [go_sem], by rw [hc _ _ (by simp)]; simp [go_sem], by rw [hc _ _ (by simp)]; simp [go_sem], by rw [hc _ _ (by simp)]; simp [go_sem], hz1, HT.out.below hbb, hbb⟩ hb2
  clear hc hf hb2 hbb hz1
  have HS := Lib.hid hS
  clear hS
  go_wp2_with fail
  have hwr : IntKind.i64.wrap len = len := IntWalk.i64_in _ (by omega)
  have hwn : IntKind.i64.wrap (0 - len) = 0 - len := IntWalk.i64_in _ (by omega)
  have hwm : IntKind.i64.wrap (-len) = -len := IntWalk.i64_in _ (by omega)
  have hpn : pg (-len) = 1 := pg_low _ (by omega)
  go_region_held3 (fun w' => w'.cell? ⟨w.heap.size, 0, none⟩ = some (.int .u8 k) ∧ w'.cell? ⟨w.heap.size, 1, none⟩ = some (.string nm) ∧ w'.cell? ⟨w.heap.size, 2, none⟩ = some (.string to) ∧ w'.cell? ⟨w.heap.size, 3, none⟩ = some (.int .u64 hd) ∧ w'.cell? ⟨w.heap.size, 4, none⟩ = some (.int .u32 off) ∧ w'.cell? ⟨w.heap.size, 5, none⟩ = some (.int .u32 len) ∧ w'.cell? ⟨w.heap.size, 6, none⟩ = some (.int .u32 qt) ∧ w'.cell? ⟨w.heap.size, 7, none⟩ = some (.slice a dl dc) ∧ w.heap.size < w'.heap.size ∧ Tak w' ∧ Below w.heap.size w w')
    (first | assumption | exact keepS HS.out ⟨rfl, rfl, rfl, Nat.le_refl _, fun _ _ => rfl⟩ | exact keepS (by assumption) hbX)
    (first | (go_at_call 8; refine (blocks_any _ _ _ _ _ _ _ _ _ _ _ (by omega) (by omega) h0 h00 (by omega) (ofS_tak (by assumption))).mono ?_; rintro e w' ⟨rfl, hbX⟩) | (go_at_call 9; refine (refBlocks_any _ _ _ _ _ _ _ _ _ _ _ (by omega) (by omega) h0 h00 (by omega)).mono ?_; rintro e w' ⟨rfl, hbX⟩) | (go_at_call 10; refine (pages_any _ _ (by omega) (by omega)).mono ?_; rintro e w' ⟨rfl, rfl⟩) | (go_at_call 11; refine (refPages_any _ _ (by omega) (by omega)).mono ?_; rintro e w' ⟨rfl, rfl⟩) | (go_at_call 5; refine (head_any _ (ofS_tak (by assumption))).mono ?_; rintro e w' ⟨rfl, hbX⟩))
  all_goals
    have hfin := ofS_below (by assumption)
    go_wp2_with fail
    go_ret
    exact ⟨rfl, hfin⟩

theorem tells_any (k : Int) (nm to : ByteArray) (hd off len qt : Int) (a : Option Addr) (dl dc : Nat) (n rel : Int) (w : World) (h1 : 0 ≤ len) (h2 : len ≤ 4294967295) (h0 : 0 ≤ k) (h00 : k ≤ 255) (ht : Tak w) (hn0 : 0 ≤ n) (hn1 : n ≤ 4294967295) (hr0 : 0 ≤ rel) (hr1 : rel ≤ 4294967295) :
    Calls Tryd.prog 3 #[.agg #[.int .u8 k, .string nm, .string to, .int .u64 hd, .int .u32 off, .int .u32 len, .int .u32 qt, .slice a dl dc], .int .u32 n, .int .u32 rel] w
      fun e w' => e = .returned (.bool true) ∧ Below w.heap.size w w' := by
  by_cases hg : 1048576 < len ∨ 1048576 < dl
  · exact tells_far k nm to hd off len qt a dl dc n rel w h1 h2 hg ht
  · by_cases hn : n < 64 ∨ 1048576 < n
    · exact tells_no k nm to hd off len qt a dl dc n rel w h1 (by omega) h0 h00 (by omega) ht hn0 hn1 hn
    · exact tells_yes k nm to hd off len qt a dl dc n rel w h1 (by omega) h0 h00 (by omega) ht (by omega) (by omega) hr0 hr1

end Go.Proofs.YtbmnjcmdiepcbaaDoor.Bd
