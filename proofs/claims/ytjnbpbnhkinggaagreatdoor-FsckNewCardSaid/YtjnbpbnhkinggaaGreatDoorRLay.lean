/- Contracts of root.up, root.Layout, root.may, root.none. -/
import Derived.Test.YtjnbpbnhkinggaaGreatDoorSDRead
namespace Go.Proofs.YtjnbpbnhkinggaaGreatDoor.St
open Go.RowKit

theorem up_any (n per : Int) (h0 : 0 ≤ n) (h1 : n ≤ 1048576) (p0 : 1 ≤ per) (p1 : per ≤ 1024) (w : World) : Calls Tryz.prog 19 #[.int .u32 n, .int .u32 per] w fun e w' => e = .returned (.int .u32 ((n + per - 1) / per)) ∧ w = w' := by
  go_enter Tryz.func19, Tryz.ntmps19
  go_wp2_with fail
  go_ret
  exact ⟨rfl, rfl⟩
/-- How many tallies, and picks, and which is the first block that is given out. -/
def tal (n : Int) : Int := (n + 63) / 64
def pic (n : Int) : Int := (tal n + 1023) / 1024
def fst (n : Int) : Int := 2 + 2 * pic n + 2 * tal n
theorem tal_bd (n : Int) (h0 : 64 ≤ n) (h1 : n ≤ 1048576) : 1 ≤ tal n ∧ tal n ≤ 16384 := by unfold tal; omega
theorem pic_bd (n : Int) (h0 : 64 ≤ n) (h1 : n ≤ 1048576) : 1 ≤ pic n ∧ pic n ≤ 16 := by have := tal_bd n h0 h1; unfold pic; omega
theorem fst_bd (n : Int) (h0 : 64 ≤ n) (h1 : n ≤ 1048576) : 6 ≤ fst n ∧ fst n < n := by have := tal_bd n h0 h1; have := pic_bd n h0 h1; unfold fst pic tal at *; omega
def planC (n : Int) : Array Value := #[.int .u32 (tal n), .int .u32 (pic n), .int .u32 (fst n)]
theorem layout_any (n : Int) (h0 : 64 ≤ n) (h1 : n ≤ 1048576) (w : World) : Calls Tryz.prog 11 #[.int .u32 n] w fun e w' => e = .returned (.tuple #[.agg (planC n), .int .i64 0]) ∧ Below w.heap.size w w' := by
  obtain ⟨t0, t1⟩ := tal_bd n h0 h1
  obtain ⟨q0, q1⟩ := pic_bd n h0 h1
  go_enter Tryz.func11, Tryz.ntmps11
  go_wp2_with fail
  refine (up_any n 64 (by omega) h1 (by decide) (by decide) _).mono ?_
  rintro e w1 ⟨rfl, rfl⟩
  rw [show (n + 64 - 1) / 64 = tal n by unfold tal; congr 1; omega]
  go_wp2_with fail
  refine (up_any (tal n) 1024 (by omega) (by omega) (by decide) (by decide) _).mono ?_
  rintro e w1 ⟨rfl, rfl⟩
  rw [show (tal n + 1024 - 1) / 1024 = pic n by unfold pic; congr 1; omega]
  go_wp2_with fail
  refine bodyPost_ret (v := .tuple #[.agg (planC n), .int .i64 0]) (by simp [results, Tryz.results11, go_sem, planC, fst]) rfl ⟨rfl, ((Below.refl _ _).alloc (Nat.le_refl _) _).alloc (by simp) _⟩

theorem may_bd (r : Rt) (h : r.may = true) : 64 ≤ r.size ∧ r.size ≤ 1048576 ∧ r.picks < 65536 ∧ r.free ≤ r.size ∧ r.hint < r.size := by
  simp [Rt.may, Rt.szOk, Rt.inOk] at h
  omega
theorem Bk.rt {w : World} {g : Nat} {r : Rt} (h : Bk w g 30 r.cells) : w.cell? ⟨g, 0, none⟩ = some (.int .u64 r.gen) ∧ w.cell? ⟨g, 1, none⟩ = some (.int .u32 r.size) ∧ w.cell? ⟨g, 2, none⟩ = some (.int .u32 r.picks) ∧ w.cell? ⟨g, 3, none⟩ = some (.int .u32 r.names) ∧ w.cell? ⟨g, 4, none⟩ = some (.int .u32 r.free) ∧ w.cell? ⟨g, 5, none⟩ = some (.int .u32 r.next) ∧ w.cell? ⟨g, 6, none⟩ = some (.int .u32 r.hint) ∧ w.cell? ⟨g, 7, none⟩ = some (.int .u8 r.vols) :=
  ⟨h.cell 0, h.cell 1, h.cell 2, h.cell 3, h.cell 4, h.cell 5, h.cell 6, h.cell 7⟩
theorem Bk.plan {w : World} {g : Nat} {n : Int} (h : Bk w g 48 (planC n)) : w.cell? ⟨g, 0, none⟩ = some (.int .u32 (tal n)) ∧ w.cell? ⟨g, 1, none⟩ = some (.int .u32 (pic n)) ∧ w.cell? ⟨g, 2, none⟩ = some (.int .u32 (fst n)) :=
  ⟨h.cell 0, h.cell 1, h.cell 2⟩
/-- A root fits a device of n blocks. -/
structure Rt.Fits (r : Rt) (n : Int) : Prop where
  ok : r.Ok
  may : r.may = true
  size : r.size = n
  picks : r.picks / 2 ^ (pic n).toNat = 0
  hint : fst n ≤ r.hint
  free : r.free ≤ n - fst n
set_option maxRecDepth 100000 in
set_option maxHeartbeats 1000000 in
theorem rmay_yes (r : Rt) (n : Int) (h : r.Fits n) (w : World) : Calls Tryz.prog 37 #[.agg r.cells, .int .u32 n] w fun e w' => e = .returned (.bool true) ∧ Below w.heap.size w w' := by
  obtain ⟨b0, b1, b2, b3, b4⟩ := may_bd r h.may
  obtain rfl := h.size
  obtain ⟨q0, q1⟩ := pic_bd r.size b0 b1
  obtain ⟨f0, f1⟩ := fst_bd r.size b0 b1
  have hm := Lib.hid (fun X => h.may ▸ may_any r X)
  have e1 := h.picks
  have e2 : decide (fst r.size ≤ r.hint) = true := decide_eq_true h.hint
  have e3 : decide (r.free ≤ r.size - fst r.size) = true := decide_eq_true h.free
  have hf0 := h.ok.free.1
  have hp0 := h.ok.picks.1
  have hp1 := h.ok.picks.2
  have hh0 := h.ok.hint.2
  have hb : Below w.heap.size w (w.alloc (.cells r.cells 30)) := (Below.refl _ _).alloc (Nat.le_refl _) _
  have hk := Bk.new w 30 r.cells
  have hsz : (Tryz.prog.info? 30).map (·.size) = some 8 := by kernel_rfl
  have h' := Lib.hid h
  clear h
  go_enter Tryz.func37, Tryz.ntmps37
  go_wp2_with fail
  generalize w.alloc (.cells r.cells 30) = X at *
  refine (layout_any r.size b0 b1 _).mono ?_
  rintro e w1 ⟨rfl, hb1⟩
  have hk1 := hk.below hb1 hk.lt
  have hB := hb.trans (hb1.mono hb.size)
  clear hk hb hb1 
  have hB2 := hB.alloc hB.size (.cells (planC r.size) 48)
  have hk2 := hk1.alloc (.cells (planC r.size) 48)
  have hp2 := Bk.new w1 48 (planC r.size)
  clear hk1 hB
  simp only [planC] at hB2 hk2 hp2
  have HC := Lib.hid (And.intro hk2.rt (And.intro (Bk.plan hp2) (And.intro hB2 (And.intro hk2 hp2))))
  clear hk2 hp2 hB2
  obtain ⟨⟨c0, c1, c2, c3, c4, c5, c6, c7⟩, ⟨d0, d1, d2⟩, hB, hk, hp⟩ := HC.out
  clear HC
  simp only [planC]
  go_wp2_with fail
  refine (hm.out _).mono ?_
  rintro e w2 ⟨rfl, hb2⟩
  have hB3 := hB.trans (hb2.mono hB.size)
  have hk3 := hk.below hb2 hk.lt
  have hp3 := hp.below hb2 hp.lt
  clear hB hk hp hb2 c0 c1 c2 c3 c4 c5 c6 c7 d0 d1 d2
  obtain ⟨c0, c1, c2, c3, c4, c5, c6, c7⟩ := hk3.rt
  obtain ⟨d0, d1, d2⟩ := Bk.plan hp3
  go_wp2_with fail
  go_ret
  exact ⟨rfl, hB3⟩
theorem rnone_b (d m : Nat) (n wr : Int) (pv : Value) (h0 : 64 ≤ n) (w : World) (h : DvB w d m n wr pv) : Calls Tryz.prog 10 #[.pointer (some ⟨d, 0, none⟩)] w fun e w' => e = .returned (.bool false) ∧ w = w' := by
  have H := Lib.hid h
  have hn : (n == 0) = false := beq_eq_false_iff_ne.2 (by omega)
  clear h
  go_enter Tryz.func10, Tryz.ntmps10
  go_wp2_with fail
  refine (size_b d m n wr pv _ H.out).mono ?_
  rintro e w1 ⟨rfl, rfl⟩
  go_wp2_with fail
  go_ret
  exact ⟨rfl, rfl⟩
theorem rnone_nil (w : World) : Calls Tryz.prog 10 #[.pointer none] w fun e w' => e = .returned (.bool true) ∧ w = w' := by
  go_enter Tryz.func10, Tryz.ntmps10
  go_wp2_with fail
  refine (size_nil _).mono ?_
  rintro e w1 ⟨rfl, rfl⟩
  go_wp2_with fail
  go_ret
  exact ⟨rfl, rfl⟩
/-- A root that was found, if there is one. -/
def fdC (r : Rt) (b : Bool) : Array Value := #[.int .u64 r.gen, .int .u32 r.size, .int .u32 r.picks, .int .u32 r.names, .int .u32 r.free, .int .u32 r.next, .int .u32 r.hint, .int .u8 r.vols, .bool b]
/-- Numbers, held against each other. -/
def cmpI (x y : Int) : Int := if x < y then -1 else if x > y then 1 else 0
theorem cmpI_lt {x y : Int} (h : x < y) : cmpI x y = -1 := if_pos h
theorem cmpI_gt {x y : Int} (h : y < x) : cmpI x y = 1 := by unfold cmpI; rw [if_neg (by omega), if_pos h]
theorem cmpI_eq (x : Int) : cmpI x x = 0 := by unfold cmpI; rw [if_neg (by omega), if_neg (by omega)]
/-- Which of two is the older one. -/
def fdCmp (r : Rt) (a : Bool) (s : Rt) (b : Bool) : Int := if a != b then (if a then 1 else -1) else cmpI r.gen s.gen
theorem cmp_any (x y : Int) (w : World) : Calls Tryz.prog 69 #[.int .u64 x, .int .u64 y] w fun e w' => e = .returned (.int .i64 (cmpI x y)) ∧ w = w' := by
  have hn : ∀ (z : Int) (w : World), Calls Tryz.prog 81 #[.int .u64 z] w fun e w' => e = .returned (.bool false) ∧ w = w' := by
    intro z w
    go_enter Tryz.func81, Tryz.ntmps81
    go_wp2_with fail
    go_ret
    exact ⟨rfl, rfl⟩
  have hm := Lib.hid hn
  clear hn
  go_enter Tryz.func69, Tryz.ntmps69
  go_wp2_with fail
  refine (hm.out x _).mono ?_
  rintro e w1 ⟨rfl, rfl⟩
  go_wp2_with fail
  refine (hm.out y _).mono ?_
  rintro e w1 ⟨rfl, rfl⟩
  rcases Int.lt_trichotomy x y with h | h | h
  · go_wp2_with fail
    go_ret
    exact ⟨by rw [cmpI_lt h]; rfl, rfl⟩
  · subst h
    go_wp2_with fail
    go_ret
    exact ⟨by rw [cmpI_eq]; rfl, rfl⟩
  · have h2 : ¬ x < y := by omega
    go_wp2_with fail
    go_ret
    exact ⟨by rw [cmpI_gt h]; rfl, rfl⟩
theorem compare_any (r s : Rt) (a b : Bool) (w : World) : Calls Tryz.prog 50 #[.agg (fdC r a), .agg (fdC s b)] w fun e w' => e = .returned (.int .i64 (fdCmp r a s b)) ∧ Below w.heap.size w w' := by
  simp only [fdC]
  by_cases hab : a = b
  · subst hab
    have e1 : fdCmp r a s a = cmpI r.gen s.gen := by simp [fdCmp]
    have E1 := Lib.hid e1
    clear e1
    go_enter Tryz.func50, Tryz.ntmps50
    go_wp2_with fail
    refine (cmp_any r.gen s.gen _).mono ?_
    rintro e w1 ⟨rfl, rfl⟩
    go_wp2_with fail
    go_ret
    exact ⟨by rw [E1.out]; rfl, ((Below.refl _ _).alloc (Nat.le_refl _) _).alloc (by simp) _⟩
  · cases a <;> cases b <;> first | exact absurd rfl hab | clear hab
    all_goals
      go_enter Tryz.func50, Tryz.ntmps50
      go_wp2_with fail
      go_ret
      exact ⟨rfl, ((Below.refl _ _).alloc (Nat.le_refl _) _).alloc (by simp) _⟩
end Go.Proofs.YtjnbpbnhkinggaaGreatDoor.St
