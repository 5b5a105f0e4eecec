/- BoundRises: the law's walk: whatever the requests, it returns true, and nothing that was there is changed. -/
import Derived.Test.YtbmnjcmdiepcbaaDoorBHead
import Derived.Deep.RegionHeld3
import Derived.Deep.DrawnRows
import Derived.IntWalk
import Derived.Deep.DeepCutAuto
namespace Go.Proofs.YtbmnjcmdiepcbaaDoor.Bd
open Go.RowKit
attribute [local go_sem ↓] Go.wp_at_zero Go.wp_at_succ

/-- A request's values. -/
structure RV where
  k : Int
  nm : ByteArray
  tu : ByteArray
  hd : Int
  off : Int
  len : Int
  qt : Int
  a : Option Addr
  dl : Nat
  dc : Nat
def RV.fit (r : RV) : Prop := 0 ≤ r.k ∧ r.k ≤ 255 ∧ 0 ≤ r.len ∧ r.len ≤ 4294967295
/-- A request lies at an address. -/
def ReqAt (w : World) (b o : Nat) (r : RV) : Prop :=
  w.cell? ⟨b, o, none⟩ = some (.int .u8 r.k) ∧ w.cell? ⟨b, o + 1, none⟩ = some (.string r.nm) ∧ w.cell? ⟨b, o + 2, none⟩ = some (.string r.tu) ∧ w.cell? ⟨b, o + 3, none⟩ = some (.int .u64 r.hd) ∧
  w.cell? ⟨b, o + 4, none⟩ = some (.int .u32 r.off) ∧ w.cell? ⟨b, o + 5, none⟩ = some (.int .u32 r.len) ∧ w.cell? ⟨b, o + 6, none⟩ = some (.int .u32 r.qt) ∧ w.cell? ⟨b, o + 7, none⟩ = some (.slice r.a r.dl r.dc)
theorem ReqAt.below {w w' : World} {b o : Nat} {r : RV} (h : ReqAt w b o r) {B : Nat} (hb : Below B w w') (hlt : b < B) : ReqAt w' b o r := by
  obtain ⟨h0, h1, h2, h3, h4, h5, h6, h7⟩ := h
  have hc := fun o => hb.cell (p := ⟨b, o, none⟩) hlt
  exact ⟨(hc _).trans h0, (hc _).trans h1, (hc _).trans h2, (hc _).trans h3, (hc _).trans h4, (hc _).trans h5, (hc _).trans h6, (hc _).trans h7⟩
/-- The blocks of the first requests, together. -/
def sumB (f : Nat → RV) : Nat → Int
  | 0 => 0
  | j + 1 => sumB f j + blk (f j).k (f j).len (f j).dl
theorem sumB_bd (f : Nat → RV) (j : Nat) (h : ∀ i, i < j → (f i).len ≤ 4294967295 ∧ (f i).dl ≤ 1073741824) : 0 ≤ sumB f j ∧ sumB f j ≤ 80000000 * j := by
  induction j with
  | zero => simp [sumB]
  | succ j ih =>
    have := ih (fun i hi => h i (by omega))
    have hb := blk_bd (f j).k (f j).len (f j).dl (h j (by omega)).1 (by have := (h j (by omega)).2; omega)
    simp only [sumB]
    omega

/-- What stays over a round. -/
def Inv (w : World) (b Qb : Nat) (w1 : World) : Prop := Tak w1 ∧ Below w.heap.size w w1 ∧ w.heap.size < w1.heap.size ∧ b < w1.heap.size ∧ Qb < w1.heap.size
theorem Inv.below {w w1 w2 : World} {b Qb : Nat} (h : Inv w b Qb w1) (hb : Below w1.heap.size w1 w2) : Inv w b Qb w2 := by
  obtain ⟨h1, h2, h3, h4, h5⟩ := h
  have := hb.size
  exact ⟨h1.below hb, h2.trans (hb.mono h2.size), by omega, by omega, by omega⟩

theorem keepR {k : Int} {nm tu : ByteArray} {hd off ln qt : Int} {a : Option Addr} {dl dc : Nat} {more n0 n1 : Int} {b o j Qb : Nat} {w w1 w2 : World} (h : w1.cell? ⟨b, o + j * 8, none⟩ = some (.int .u8 k) ∧ w1.cell? ⟨b, o + j * 8 + 1, none⟩ = some (.string nm) ∧ w1.cell? ⟨b, o + j * 8 + 2, none⟩ = some (.string tu) ∧ w1.cell? ⟨b, o + j * 8 + 3, none⟩ = some (.int .u64 hd) ∧ w1.cell? ⟨b, o + j * 8 + 4, none⟩ = some (.int .u32 off) ∧ w1.cell? ⟨b, o + j * 8 + 5, none⟩ = some (.int .u32 ln) ∧ w1.cell? ⟨b, o + j * 8 + 6, none⟩ = some (.int .u32 qt) ∧ w1.cell? ⟨b, o + j * 8 + 7, none⟩ = some (.slice a dl dc) ∧ w1.cell? ⟨w.heap.size, 0, none⟩ = some (.int .u32 n0) ∧ w1.cell? ⟨w.heap.size, 1, none⟩ = some (.int .u32 n1) ∧ w1.cell? ⟨Qb, 0, none⟩ = some (.int .u8 k) ∧ w1.cell? ⟨Qb, 1, none⟩ = some (.string nm) ∧ w1.cell? ⟨Qb, 2, none⟩ = some (.string tu) ∧ w1.cell? ⟨Qb, 3, none⟩ = some (.int .u64 hd) ∧ w1.cell? ⟨Qb, 4, none⟩ = some (.int .u32 off) ∧ w1.cell? ⟨Qb, 5, none⟩ = some (.int .u32 (ln + more)) ∧ w1.cell? ⟨Qb, 6, none⟩ = some (.int .u32 qt) ∧ w1.cell? ⟨Qb, 7, none⟩ = some (.slice a dl dc) ∧ Inv w b Qb w1) (hb : Below w1.heap.size w1 w2) :
    w2.cell? ⟨b, o + j * 8, none⟩ = some (.int .u8 k) ∧ w2.cell? ⟨b, o + j * 8 + 1, none⟩ = some (.string nm) ∧ w2.cell? ⟨b, o + j * 8 + 2, none⟩ = some (.string tu) ∧ w2.cell? ⟨b, o + j * 8 + 3, none⟩ = some (.int .u64 hd) ∧ w2.cell? ⟨b, o + j * 8 + 4, none⟩ = some (.int .u32 off) ∧ w2.cell? ⟨b, o + j * 8 + 5, none⟩ = some (.int .u32 ln) ∧ w2.cell? ⟨b, o + j * 8 + 6, none⟩ = some (.int .u32 qt) ∧ w2.cell? ⟨b, o + j * 8 + 7, none⟩ = some (.slice a dl dc) ∧ w2.cell? ⟨w.heap.size, 0, none⟩ = some (.int .u32 n0) ∧ w2.cell? ⟨w.heap.size, 1, none⟩ = some (.int .u32 n1) ∧ w2.cell? ⟨Qb, 0, none⟩ = some (.int .u8 k) ∧ w2.cell? ⟨Qb, 1, none⟩ = some (.string nm) ∧ w2.cell? ⟨Qb, 2, none⟩ = some (.string tu) ∧ w2.cell? ⟨Qb, 3, none⟩ = some (.int .u64 hd) ∧ w2.cell? ⟨Qb, 4, none⟩ = some (.int .u32 off) ∧ w2.cell? ⟨Qb, 5, none⟩ = some (.int .u32 (ln + more)) ∧ w2.cell? ⟨Qb, 6, none⟩ = some (.int .u32 qt) ∧ w2.cell? ⟨Qb, 7, none⟩ = some (.slice a dl dc) ∧ Inv w b Qb w2 := by
  obtain ⟨h0, h1, h2, h3, h4, h5, h6, h7, h8, h9, h10, h11, h12, h13, h14, h15, h16, h17, hI⟩ := h
  have hc := fun o => (bcell hb).1 b o hI.2.2.2.1
  have hn := fun o => (bcell hb).1 w.heap.size o hI.2.2.1
  have hq := fun o => (bcell hb).1 Qb o hI.2.2.2.2
  exact ⟨(hc _).trans h0, (hc _).trans h1, (hc _).trans h2, (hc _).trans h3, (hc _).trans h4, (hc _).trans h5, (hc _).trans h6, (hc _).trans h7, (hn _).trans h8, (hn _).trans h9, (hq _).trans h10, (hq _).trans h11, (hq _).trans h12, (hq _).trans h13, (hq _).trans h14, (hq _).trans h15, (hq _).trans h16, (hq _).trans h17, hI.below hb⟩
theorem ofR_inv {k : Int} {nm tu : ByteArray} {hd off ln qt : Int} {a : Option Addr} {dl dc : Nat} {more n0 n1 : Int} {b o j Qb : Nat} {w w1 : World} (h : w1.cell? ⟨b, o + j * 8, none⟩ = some (.int .u8 k) ∧ w1.cell? ⟨b, o + j * 8 + 1, none⟩ = some (.string nm) ∧ w1.cell? ⟨b, o + j * 8 + 2, none⟩ = some (.string tu) ∧ w1.cell? ⟨b, o + j * 8 + 3, none⟩ = some (.int .u64 hd) ∧ w1.cell? ⟨b, o + j * 8 + 4, none⟩ = some (.int .u32 off) ∧ w1.cell? ⟨b, o + j * 8 + 5, none⟩ = some (.int .u32 ln) ∧ w1.cell? ⟨b, o + j * 8 + 6, none⟩ = some (.int .u32 qt) ∧ w1.cell? ⟨b, o + j * 8 + 7, none⟩ = some (.slice a dl dc) ∧ w1.cell? ⟨w.heap.size, 0, none⟩ = some (.int .u32 n0) ∧ w1.cell? ⟨w.heap.size, 1, none⟩ = some (.int .u32 n1) ∧ w1.cell? ⟨Qb, 0, none⟩ = some (.int .u8 k) ∧ w1.cell? ⟨Qb, 1, none⟩ = some (.string nm) ∧ w1.cell? ⟨Qb, 2, none⟩ = some (.string tu) ∧ w1.cell? ⟨Qb, 3, none⟩ = some (.int .u64 hd) ∧ w1.cell? ⟨Qb, 4, none⟩ = some (.int .u32 off) ∧ w1.cell? ⟨Qb, 5, none⟩ = some (.int .u32 (ln + more)) ∧ w1.cell? ⟨Qb, 6, none⟩ = some (.int .u32 qt) ∧ w1.cell? ⟨Qb, 7, none⟩ = some (.slice a dl dc) ∧ Inv w b Qb w1) : Inv w b Qb w1 := h.2.2.2.2.2.2.2.2.2.2.2.2.2.2.2.2.2.2

set_option maxHeartbeats 4000000 in
/-- The blocks of a row of requests, together. -/
theorem all_any (b o len cap : Nat) (f : Nat → RV) (w : World) (hlen : len ≤ 50) (hf : ∀ i, i < len → ReqAt w b (o + i * 8) (f i) ∧ (f i).fit ∧ (f i).dl ≤ 1073741824) (hbw : b < w.heap.size) (ht : Tak w) :
    Calls Tryd.prog 12 #[.slice (some ⟨b, o, none⟩) len cap] w fun e w' => e = .returned (.int .u64 (sumB f len)) ∧ Below w.heap.size w w' := by
  have HT := Lib.hid ht
  have HF := Lib.hid hf
  clear ht hf
  go_enter Tryd.func12, Tryd.ntmps12
  go_wp2_with fail
  go_loopw [3, 7] (fun s i wr => ∃ j : Nat, j ≤ len ∧ i = .int .i64 j ∧ s = .int .u64 (sumB f j) ∧ Below w.heap.size w wr) (fun _ i _ => len - (intOf i).toNat)
  case atStart => exact ⟨0, by omega, rfl, rfl, Below.refl _ _⟩
  case round =>
    obtain ⟨j, hj, rfl, rfl, hbwr⟩ := hrel
    obtain ⟨hs0, hs1⟩ := sumB_bd f j (fun i hi => ⟨(HF.out i (by omega)).2.1.2.2.2, (HF.out i (by omega)).2.2⟩)
    have HT2 := Lib.hid (HT.out.below hbwr)
    by_cases hlt : j < len
    · obtain ⟨hR, hfit, hdl⟩ := HF.out j hlt
      have hR2 := hR.below hbwr hbw
      have hst : sumB f (j + 1) = sumB f j + blk (f j).k (f j).len (f j).dl := rfl
      clear hR
      generalize f j = r at *
      obtain ⟨k, nm, tu, hd, off, ln, qt, a, dl, dc⟩ := r
      obtain ⟨hk0, hk1, hl0, hl1⟩ := hfit
      obtain ⟨c0, c1, c2, c3, c4, c5, c6, c7⟩ := hR2
      dsimp only at hk0 hk1 hl0 hl1 c0 c1 c2 c3 c4 c5 c6 c7 hst hdl
      have HST := Lib.hid hst
      clear hst
      have hj0 : (0 : Int) ≤ (j : Int) := by omega
      have hj1 : (j : Int) < (len : Int) := by omega
      have b1 := blk_bd k ln dl (by omega) (by omega)
      go_wp2_with fail
      refine (blocks_any _ _ _ _ _ _ _ _ _ _ _ hl0 hl1 hk0 hk1 hdl HT2.out).mono ?_
      rintro e w1 ⟨rfl, hb1⟩
      have hbb : Below w.heap.size w w1 := hbwr.trans (hb1.mono hbwr.size)
      clear hb1 c0 c1 c2 c3 c4 c5 c6 c7
      go_wp2_with fail
      go_roundw
      case rel => exact ⟨j + 1, by omega, by go_num, congrArg (Value.int .u64) HST.out.symm, hbb⟩
      case measure => simp [intOf]; omega
    · obtain rfl : j = len := by omega
      go_wp2_with fail
      go_ret
      exact ⟨rfl, hbwr⟩

set_option maxRecDepth 100000 in
set_option maxHeartbeats 8000000 in
theorem rises_yes (b o len cap : Nat) (f : Nat → RV) (more n0 n1 : Int) (w : World) (hlen : len ≤ 50) (hf : ∀ i, i < len → ReqAt w b (o + i * 8) (f i) ∧ (f i).fit) (hbw : b < w.heap.size) (ht : Tak w)
    (hm0 : 0 ≤ more) (hm1 : more ≤ 65535) (hn0 : 64 ≤ n0) (hn1 : n0 ≤ 1048576) (hr0 : 0 ≤ n1) (hr1 : n1 ≤ 4294967295) :
    Calls Tryd.prog 4 #[.slice (some ⟨b, o, none⟩) len cap, .int .u16 more, .agg #[.int .u32 n0, .int .u32 n1]] w
      fun e w' => e = .returned (.bool true) ∧ Below w.heap.size w w' := by
  have HT := Lib.hid ht
  have HF := Lib.hid hf
  clear ht hf
  have h50 : decide ((50 : Int) < (len : Int)) = false := by simp; omega
  go_enter Tryd.func4, Tryd.ntmps4
  go_wp2_with fail
  go_loopw [7, 8] (fun s i wr => ∃ j : Nat, j ≤ len ∧ i = .int .i64 j ∧ s = .int .u64 (sumB f j) ∧ (∀ i, i < j → (f i).dl ≤ 1073741824) ∧ wr.cell? ⟨w.heap.size, 0, none⟩ = some (.int .u32 n0) ∧ wr.cell? ⟨w.heap.size, 1, none⟩ = some (.int .u32 n1) ∧ w.heap.size < wr.heap.size ∧ Below w.heap.size w wr) (fun _ i _ => len - (intOf i).toNat)
  case atStart => exact ⟨0, by omega, rfl, rfl, fun i hi => absurd hi (by omega), by simp [go_sem], by simp [go_sem], by simp, (Below.refl _ _).alloc (Nat.le_refl _) _⟩
  case round =>
    obtain ⟨j, hj, rfl, rfl, HD, hq0, hq1, hz, hbwr⟩ := hrel
    have HDh := Lib.hid HD
    obtain ⟨hs0, hs1⟩ := sumB_bd f j (fun i hi => ⟨(HF.out i (by omega)).2.2.2.2, HD i hi⟩)
    clear HD
    have HT2 := Lib.hid (HT.out.below hbwr)
    by_cases hlt : j < len
    · obtain ⟨hR, hfit⟩ := HF.out j hlt
      have hR2 := hR.below hbwr hbw
      have hst : sumB f (j + 1) = sumB f j + blk (f j).k (f j).len (f j).dl := rfl
      have hdj : (f j).dl ≤ 1073741824 → ∀ i, i < j + 1 → (f i).dl ≤ 1073741824 := fun h i hi => by
        rcases Nat.lt_or_ge i j with h' | h'
        · exact HDh.out i h'
        · obtain rfl : i = j := by omega
          exact h
      clear hR
      generalize f j = r at *
      obtain ⟨k, nm, tu, hd, off, ln, qt, a, dl, dc⟩ := r
      obtain ⟨hk0, hk1, hl0, hl1⟩ := hfit
      obtain ⟨c0, c1, c2, c3, c4, c5, c6, c7⟩ := hR2
      dsimp only at hk0 hk1 hl0 hl1 c0 c1 c2 c3 c4 c5 c6 c7 hst hdj
      have HST := Lib.hid hst
      have HDJ := Lib.hid hdj
      clear hst hdj
      have hj0 : (0 : Int) ≤ (j : Int) := by omega
      have hj1 : (j : Int) < (len : Int) := by omega
      by_cases hg : 1073741824 < ln ∨ (1073741824 : Int) < (dl : Int)
      · by_cases hg1 : 1073741824 < ln
        · clear hg
          go_wp2_with fail
          refine (head_any _ HT2.out).mono ?_
          rintro e w1 ⟨rfl, hb⟩
          have hbb : Below w.heap.size w w1 := hbwr.trans (hb.mono (by omega))
          go_wp2_with fail
          go_ret
          exact ⟨rfl, hbb⟩
        · have hg2 : (1073741824 : Int) < (dl : Int) := by omega
          clear hg
          go_wp2_with fail
          refine (head_any _ HT2.out).mono ?_
          rintro e w1 ⟨rfl, hb⟩
          have hbb : Below w.heap.size w w1 := hbwr.trans (hb.mono (by omega))
          go_wp2_with fail
          go_ret
          exact ⟨rfl, hbb⟩
      have hg1 : ln ≤ 1073741824 := by omega
      have hg2 : (dl : Int) ≤ 1073741824 := by omega
      clear hg
      have hbr : b < wr.heap.size := by omega
      go_wp2_with fail
      have hS : (wr.alloc (.cells #[.int .u8 k, .string nm, .string tu, .int .u64 hd, .int .u32 off, .int .u32 (ln + more), .int .u32 qt, .slice a dl dc] 26)).cell? ⟨b, o + j * 8, none⟩ = some (.int .u8 k) ∧ (wr.alloc (.cells #[.int .u8 k, .string nm, .string tu, .int .u64 hd, .int .u32 off, .int .u32 (ln + more), .int .u32 qt, .slice a dl dc] 26)).cell? ⟨b, o + j * 8 + 1, none⟩ = some (.string nm) ∧ (wr.alloc (.cells #[.int .u8 k, .string nm, .string tu, .int .u64 hd, .int .u32 off, .int .u32 (ln + more), .int .u32 qt, .slice a dl dc] 26)).cell? ⟨b, o + j * 8 + 2, none⟩ = some (.string tu) ∧ (wr.alloc (.cells #[.int .u8 k, .string nm, .string tu, .int .u64 hd, .int .u32 off, .int .u32 (ln + more), .int .u32 qt, .slice a dl dc] 26)).cell? ⟨b, o + j * 8 + 3, none⟩ = some (.int .u64 hd) ∧ (wr.alloc (.cells #[.int .u8 k, .string nm, .string tu, .int .u64 hd, .int .u32 off, .int .u32 (ln + more), .int .u32 qt, .slice a dl dc] 26)).cell? ⟨b, o + j * 8 + 4, none⟩ = some (.int .u32 off) ∧ (wr.alloc (.cells #[.int .u8 k, .string nm, .string tu, .int .u64 hd, .int .u32 off, .int .u32 (ln + more), .int .u32 qt, .slice a dl dc] 26)).cell? ⟨b, o + j * 8 + 5, none⟩ = some (.int .u32 ln) ∧ (wr.alloc (.cells #[.int .u8 k, .string nm, .string tu, .int .u64 hd, .int .u32 off, .int .u32 (ln + more), .int .u32 qt, .slice a dl dc] 26)).cell? ⟨b, o + j * 8 + 6, none⟩ = some (.int .u32 qt) ∧ (wr.alloc (.cells #[.int .u8 k, .string nm, .string tu, .int .u64 hd, .int .u32 off, .int .u32 (ln + more), .int .u32 qt, .slice a dl dc] 26)).cell? ⟨b, o + j * 8 + 7, none⟩ = some (.slice a dl dc) ∧ (wr.alloc (.cells #[.int .u8 k, .string nm, .string tu, .int .u64 hd, .int .u32 off, .int .u32 (ln + more), .int .u32 qt, .slice a dl dc] 26)).cell? ⟨w.heap.size, 0, none⟩ = some (.int .u32 n0) ∧ (wr.alloc (.cells #[.int .u8 k, .string nm, .string tu, .int .u64 hd, .int .u32 off, .int .u32 (ln + more), .int .u32 qt, .slice a dl dc] 26)).cell? ⟨w.heap.size, 1, none⟩ = some (.int .u32 n1) ∧ (wr.alloc (.cells #[.int .u8 k, .string nm, .string tu, .int .u64 hd, .int .u32 off, .int .u32 (ln + more), .int .u32 qt, .slice a dl dc] 26)).cell? ⟨wr.heap.size, 0, none⟩ = some (.int .u8 k) ∧ (wr.alloc (.cells #[.int .u8 k, .string nm, .string tu, .int .u64 hd, .int .u32 off, .int .u32 (ln + more), .int .u32 qt, .slice a dl dc] 26)).cell? ⟨wr.heap.size, 1, none⟩ = some (.string nm) ∧ (wr.alloc (.cells #[.int .u8 k, .string nm, .string tu, .int .u64 hd, .int .u32 off, .int .u32 (ln + more), .int .u32 qt, .slice a dl dc] 26)).cell? ⟨wr.heap.size, 2, none⟩ = some (.string tu) ∧ (wr.alloc (.cells #[.int .u8 k, .string nm, .string tu, .int .u64 hd, .int .u32 off, .int .u32 (ln + more), .int .u32 qt, .slice a dl dc] 26)).cell? ⟨wr.heap.size, 3, none⟩ = some (.int .u64 hd) ∧ (wr.alloc (.cells #[.int .u8 k, .string nm, .string tu, .int .u64 hd, .int .u32 off, .int .u32 (ln + more), .int .u32 qt, .slice a dl dc] 26)).cell? ⟨wr.heap.size, 4, none⟩ = some (.int .u32 off) ∧ (wr.alloc (.cells #[.int .u8 k, .string nm, .string tu, .int .u64 hd, .int .u32 off, .int .u32 (ln + more), .int .u32 qt, .slice a dl dc] 26)).cell? ⟨wr.heap.size, 5, none⟩ = some (.int .u32 (ln + more)) ∧ (wr.alloc (.cells #[.int .u8 k, .string nm, .string tu, .int .u64 hd, .int .u32 off, .int .u32 (ln + more), .int .u32 qt, .slice a dl dc] 26)).cell? ⟨wr.heap.size, 6, none⟩ = some (.int .u32 qt) ∧ (wr.alloc (.cells #[.int .u8 k, .string nm, .string tu, .int .u64 hd, .int .u32 off, .int .u32 (ln + more), .int .u32 qt, .slice a dl dc] 26)).cell? ⟨wr.heap.size, 7, none⟩ = some (.slice a dl dc) ∧ Inv w b wr.heap.size (wr.alloc (.cells #[.int .u8 k, .string nm, .string tu, .int .u64 hd, .int .u32 off, .int .u32 (ln + more), .int .u32 qt, .slice a dl dc] 26)) := by
        have hl := fun (o : Nat) => World.cell?_alloc_lt wr (.cells #[.int .u8 k, .string nm, .string tu, .int .u64 hd, .int .u32 off, .int .u32 (ln + more), .int .u32 qt, .slice a dl dc] 26) ⟨b, o, none⟩ hbr
        have hl2 := fun (o : Nat) => World.cell?_alloc_lt wr (.cells #[.int .u8 k, .string nm, .string tu, .int .u64 hd, .int .u32 off, .int .u32 (ln + more), .int .u32 qt, .slice a dl dc] 26) ⟨w.heap.size, o, none⟩ hz
        exact ⟨(hl _).trans c0, (hl _).trans c1, (hl _).trans c2, (hl _).trans c3, (hl _).trans c4, (hl _).trans c5, (hl _).trans c6, (hl _).trans c7, (hl2 _).trans hq0, (hl2 _).trans hq1, by simp [go_sem], by simp [go_sem], by simp [go_sem], by simp [go_sem], by simp [go_sem], by simp [go_sem], by simp [go_sem], by simp [go_sem], HT2.out.alloc _, hbwr.alloc (by omega) _, by simp; omega, by simp; omega, by simp⟩
      have HS := Lib.hid hS
      clear hS c0 c1 c2 c3 c4 c5 c6 c7 hq0 hq1 hbwr
      have e2 : IntKind.u32.wrap (n1.tdiv 2) = n1 / 2 := by rw [Int.tdiv_eq_ediv_of_nonneg hr0]; exact IntWalk.u32_in _ (by omega)
      go_region_held3 (fun w' => w'.cell? ⟨b, o + j * 8, none⟩ = some (.int .u8 k) ∧ w'.cell? ⟨b, o + j * 8 + 1, none⟩ = some (.string nm) ∧ w'.cell? ⟨b, o + j * 8 + 2, none⟩ = some (.string tu) ∧ w'.cell? ⟨b, o + j * 8 + 3, none⟩ = some (.int .u64 hd) ∧ w'.cell? ⟨b, o + j * 8 + 4, none⟩ = some (.int .u32 off) ∧ w'.cell? ⟨b, o + j * 8 + 5, none⟩ = some (.int .u32 ln) ∧ w'.cell? ⟨b, o + j * 8 + 6, none⟩ = some (.int .u32 qt) ∧ w'.cell? ⟨b, o + j * 8 + 7, none⟩ = some (.slice a dl dc) ∧ w'.cell? ⟨w.heap.size, 0, none⟩ = some (.int .u32 n0) ∧ w'.cell? ⟨w.heap.size, 1, none⟩ = some (.int .u32 n1) ∧ w'.cell? ⟨wr.heap.size, 0, none⟩ = some (.int .u8 k) ∧ w'.cell? ⟨wr.heap.size, 1, none⟩ = some (.string nm) ∧ w'.cell? ⟨wr.heap.size, 2, none⟩ = some (.string tu) ∧ w'.cell? ⟨wr.heap.size, 3, none⟩ = some (.int .u64 hd) ∧ w'.cell? ⟨wr.heap.size, 4, none⟩ = some (.int .u32 off) ∧ w'.cell? ⟨wr.heap.size, 5, none⟩ = some (.int .u32 (ln + more)) ∧ w'.cell? ⟨wr.heap.size, 6, none⟩ = some (.int .u32 qt) ∧ w'.cell? ⟨wr.heap.size, 7, none⟩ = some (.slice a dl dc) ∧ Inv w b wr.heap.size w')
        (first | assumption | exact keepR HS.out ⟨rfl, rfl, rfl, Nat.le_refl _, fun _ _ => rfl⟩ | exact keepR (by assumption) hbX)
        (first | (go_at_call 6; refine (writes_yes _ _ _ _ _ _ _ _ _ _ _ _ _ (by omega) (by omega) hk0 hk1 (by omega) (ofR_inv (by assumption)).1 hn0 hn1 (by omega) (by omega)).mono ?_; rintro e w' ⟨rfl, hbX⟩) | (go_at_call 8; refine (blocks_any _ _ _ _ _ _ _ _ _ _ _ (by omega) (by omega) hk0 hk1 (by omega) (ofR_inv (by assumption)).1).mono ?_; rintro e w' ⟨rfl, hbX⟩))
      have HSa := Lib.hid (show w'.cell? ⟨b, o + j * 8, none⟩ = some (.int .u8 k) ∧ w'.cell? ⟨b, o + j * 8 + 1, none⟩ = some (.string nm) ∧ w'.cell? ⟨b, o + j * 8 + 2, none⟩ = some (.string tu) ∧ w'.cell? ⟨b, o + j * 8 + 3, none⟩ = some (.int .u64 hd) ∧ w'.cell? ⟨b, o + j * 8 + 4, none⟩ = some (.int .u32 off) ∧ w'.cell? ⟨b, o + j * 8 + 5, none⟩ = some (.int .u32 ln) ∧ w'.cell? ⟨b, o + j * 8 + 6, none⟩ = some (.int .u32 qt) ∧ w'.cell? ⟨b, o + j * 8 + 7, none⟩ = some (.slice a dl dc) ∧ w'.cell? ⟨w.heap.size, 0, none⟩ = some (.int .u32 n0) ∧ w'.cell? ⟨w.heap.size, 1, none⟩ = some (.int .u32 n1) ∧ w'.cell? ⟨wr.heap.size, 0, none⟩ = some (.int .u8 k) ∧ w'.cell? ⟨wr.heap.size, 1, none⟩ = some (.string nm) ∧ w'.cell? ⟨wr.heap.size, 2, none⟩ = some (.string tu) ∧ w'.cell? ⟨wr.heap.size, 3, none⟩ = some (.int .u64 hd) ∧ w'.cell? ⟨wr.heap.size, 4, none⟩ = some (.int .u32 off) ∧ w'.cell? ⟨wr.heap.size, 5, none⟩ = some (.int .u32 (ln + more)) ∧ w'.cell? ⟨wr.heap.size, 6, none⟩ = some (.int .u32 qt) ∧ w'.cell? ⟨wr.heap.size, 7, none⟩ = some (.slice a dl dc) ∧ Inv w b wr.heap.size w' by assumption)
      go_wp2_with fail
      have e3 : IntKind.u32.wrap (n1 / 2 + more) = n1 / 2 + more := IntWalk.u32_in _ (by omega)
      have e4 : IntKind.u32.wrap more = more := IntWalk.u32_in _ (by omega)
      clear HS
      go_region_held3 (fun w' => w'.cell? ⟨b, o + j * 8, none⟩ = some (.int .u8 k) ∧ w'.cell? ⟨b, o + j * 8 + 1, none⟩ = some (.string nm) ∧ w'.cell? ⟨b, o + j * 8 + 2, none⟩ = some (.string tu) ∧ w'.cell? ⟨b, o + j * 8 + 3, none⟩ = some (.int .u64 hd) ∧ w'.cell? ⟨b, o + j * 8 + 4, none⟩ = some (.int .u32 off) ∧ w'.cell? ⟨b, o + j * 8 + 5, none⟩ = some (.int .u32 ln) ∧ w'.cell? ⟨b, o + j * 8 + 6, none⟩ = some (.int .u32 qt) ∧ w'.cell? ⟨b, o + j * 8 + 7, none⟩ = some (.slice a dl dc) ∧ w'.cell? ⟨w.heap.size, 0, none⟩ = some (.int .u32 n0) ∧ w'.cell? ⟨w.heap.size, 1, none⟩ = some (.int .u32 n1) ∧ w'.cell? ⟨wr.heap.size, 0, none⟩ = some (.int .u8 k) ∧ w'.cell? ⟨wr.heap.size, 1, none⟩ = some (.string nm) ∧ w'.cell? ⟨wr.heap.size, 2, none⟩ = some (.string tu) ∧ w'.cell? ⟨wr.heap.size, 3, none⟩ = some (.int .u64 hd) ∧ w'.cell? ⟨wr.heap.size, 4, none⟩ = some (.int .u32 off) ∧ w'.cell? ⟨wr.heap.size, 5, none⟩ = some (.int .u32 (ln + more)) ∧ w'.cell? ⟨wr.heap.size, 6, none⟩ = some (.int .u32 qt) ∧ w'.cell? ⟨wr.heap.size, 7, none⟩ = some (.slice a dl dc) ∧ Inv w b wr.heap.size w')
        (first | assumption | exact keepR HSa.out ⟨rfl, rfl, rfl, Nat.le_refl _, fun _ _ => rfl⟩ | exact keepR (by assumption) hbX)
        (first | (go_at_call 6; refine (writes_yes _ _ _ _ _ _ _ _ _ _ _ _ _ (by omega) (by omega) hk0 hk1 (by omega) (ofR_inv (by assumption)).1 hn0 hn1 (by omega) (by omega)).mono ?_; rintro e w' ⟨rfl, hbX⟩) | (go_at_call 8; refine (blocks_any _ _ _ _ _ _ _ _ _ _ _ (by omega) (by omega) hk0 hk1 (by omega) (ofR_inv (by assumption)).1).mono ?_; rintro e w' ⟨rfl, hbX⟩))
      have HSb := Lib.hid (show w'.cell? ⟨b, o + j * 8, none⟩ = some (.int .u8 k) ∧ w'.cell? ⟨b, o + j * 8 + 1, none⟩ = some (.string nm) ∧ w'.cell? ⟨b, o + j * 8 + 2, none⟩ = some (.string tu) ∧ w'.cell? ⟨b, o + j * 8 + 3, none⟩ = some (.int .u64 hd) ∧ w'.cell? ⟨b, o + j * 8 + 4, none⟩ = some (.int .u32 off) ∧ w'.cell? ⟨b, o + j * 8 + 5, none⟩ = some (.int .u32 ln) ∧ w'.cell? ⟨b, o + j * 8 + 6, none⟩ = some (.int .u32 qt) ∧ w'.cell? ⟨b, o + j * 8 + 7, none⟩ = some (.slice a dl dc) ∧ w'.cell? ⟨w.heap.size, 0, none⟩ = some (.int .u32 n0) ∧ w'.cell? ⟨w.heap.size, 1, none⟩ = some (.int .u32 n1) ∧ w'.cell? ⟨wr.heap.size, 0, none⟩ = some (.int .u8 k) ∧ w'.cell? ⟨wr.heap.size, 1, none⟩ = some (.string nm) ∧ w'.cell? ⟨wr.heap.size, 2, none⟩ = some (.string tu) ∧ w'.cell? ⟨wr.heap.size, 3, none⟩ = some (.int .u64 hd) ∧ w'.cell? ⟨wr.heap.size, 4, none⟩ = some (.int .u32 off) ∧ w'.cell? ⟨wr.heap.size, 5, none⟩ = some (.int .u32 (ln + more)) ∧ w'.cell? ⟨wr.heap.size, 6, none⟩ = some (.int .u32 qt) ∧ w'.cell? ⟨wr.heap.size, 7, none⟩ = some (.slice a dl dc) ∧ Inv w b wr.heap.size w' by assumption)
      clear HSa
      go_wp2_with fail
      have b1 := blk_bd k ln dl (by omega) (by omega)
      have b2 := blk_bd k (ln + more) dl (by omega) (by omega)
      have b3 := blk_mono k ln (ln + more) dl (by omega)
      have hB1 : decide (blk k (ln + more) dl < blk k ln dl) = false := by simp; omega
      have hB2 : IntKind.u64.wrap (blk k ln dl) = blk k ln dl := IntWalk.u64_in _ (by omega)
      have hw1 : decide (wrt k ln dl n0 (n1 / 2 + more) < wrt k ln dl n0 (n1 / 2)) = false := by have := wrt_mono k ln dl n0 (n1 / 2) (n1 / 2 + more) (by omega); simp; omega
      have hw2 : decide (wrt k ln dl n0 (n1 / 2) < blk k ln dl) = false := by have := blk_le_wrt k ln dl n0 (n1 / 2) (by omega) (by omega) (by omega) (by omega); simp; omega
      go_region_held3 (fun w' => w'.cell? ⟨b, o + j * 8, none⟩ = some (.int .u8 k) ∧ w'.cell? ⟨b, o + j * 8 + 1, none⟩ = some (.string nm) ∧ w'.cell? ⟨b, o + j * 8 + 2, none⟩ = some (.string tu) ∧ w'.cell? ⟨b, o + j * 8 + 3, none⟩ = some (.int .u64 hd) ∧ w'.cell? ⟨b, o + j * 8 + 4, none⟩ = some (.int .u32 off) ∧ w'.cell? ⟨b, o + j * 8 + 5, none⟩ = some (.int .u32 ln) ∧ w'.cell? ⟨b, o + j * 8 + 6, none⟩ = some (.int .u32 qt) ∧ w'.cell? ⟨b, o + j * 8 + 7, none⟩ = some (.slice a dl dc) ∧ w'.cell? ⟨w.heap.size, 0, none⟩ = some (.int .u32 n0) ∧ w'.cell? ⟨w.heap.size, 1, none⟩ = some (.int .u32 n1) ∧ w'.cell? ⟨wr.heap.size, 0, none⟩ = some (.int .u8 k) ∧ w'.cell? ⟨wr.heap.size, 1, none⟩ = some (.string nm) ∧ w'.cell? ⟨wr.heap.size, 2, none⟩ = some (.string tu) ∧ w'.cell? ⟨wr.heap.size, 3, none⟩ = some (.int .u64 hd) ∧ w'.cell? ⟨wr.heap.size, 4, none⟩ = some (.int .u32 off) ∧ w'.cell? ⟨wr.heap.size, 5, none⟩ = some (.int .u32 (ln + more)) ∧ w'.cell? ⟨wr.heap.size, 6, none⟩ = some (.int .u32 qt) ∧ w'.cell? ⟨wr.heap.size, 7, none⟩ = some (.slice a dl dc) ∧ Inv w b wr.heap.size w')
        (first | assumption | exact keepR HSb.out ⟨rfl, rfl, rfl, Nat.le_refl _, fun _ _ => rfl⟩ | exact keepR (by assumption) hbX)
        (first | (go_at_call 6; refine (writes_yes _ _ _ _ _ _ _ _ _ _ _ _ _ (by omega) (by omega) hk0 hk1 (by omega) (ofR_inv (by assumption)).1 hn0 hn1 (by omega) (by omega)).mono ?_; rintro e w' ⟨rfl, hbX⟩) | (go_at_call 8; refine (blocks_any _ _ _ _ _ _ _ _ _ _ _ (by omega) (by omega) hk0 hk1 (by omega) (ofR_inv (by assumption)).1).mono ?_; rintro e w' ⟨rfl, hbX⟩))
      all_goals
        have HSc := Lib.hid (show w'.cell? ⟨b, o + j * 8, none⟩ = some (.int .u8 k) ∧ w'.cell? ⟨b, o + j * 8 + 1, none⟩ = some (.string nm) ∧ w'.cell? ⟨b, o + j * 8 + 2, none⟩ = some (.string tu) ∧ w'.cell? ⟨b, o + j * 8 + 3, none⟩ = some (.int .u64 hd) ∧ w'.cell? ⟨b, o + j * 8 + 4, none⟩ = some (.int .u32 off) ∧ w'.cell? ⟨b, o + j * 8 + 5, none⟩ = some (.int .u32 ln) ∧ w'.cell? ⟨b, o + j * 8 + 6, none⟩ = some (.int .u32 qt) ∧ w'.cell? ⟨b, o + j * 8 + 7, none⟩ = some (.slice a dl dc) ∧ w'.cell? ⟨w.heap.size, 0, none⟩ = some (.int .u32 n0) ∧ w'.cell? ⟨w.heap.size, 1, none⟩ = some (.int .u32 n1) ∧ w'.cell? ⟨wr.heap.size, 0, none⟩ = some (.int .u8 k) ∧ w'.cell? ⟨wr.heap.size, 1, none⟩ = some (.string nm) ∧ w'.cell? ⟨wr.heap.size, 2, none⟩ = some (.string tu) ∧ w'.cell? ⟨wr.heap.size, 3, none⟩ = some (.int .u64 hd) ∧ w'.cell? ⟨wr.heap.size, 4, none⟩ = some (.int .u32 off) ∧ w'.cell? ⟨wr.heap.size, 5, none⟩ = some (.int .u32 (ln + more)) ∧ w'.cell? ⟨wr.heap.size, 6, none⟩ = some (.int .u32 qt) ∧ w'.cell? ⟨wr.heap.size, 7, none⟩ = some (.slice a dl dc) ∧ Inv w b wr.heap.size w' by assumption)
        clear HSb
        by_cases ha : ln ≤ 65536
        · by_cases hb : (dl : Int) ≤ 65536
          · have hB3 : decide (2257 < blk k ln dl) = false := by have := blk_small k ln dl ha hb; simp; omega
            obtain ⟨d0, d1, d2, d3, d4, d5, d6, d7, d8, d9, -⟩ := HSc.out
            go_wp2_with fail
            refine (blocks_any _ _ _ _ _ _ _ _ _ _ _ (by omega) (by omega) hk0 hk1 (by omega) (ofR_inv HSc.out).1).mono ?_
            rintro e wz ⟨rfl, hbZ⟩
            have HSd := Lib.hid (keepR HSc.out hbZ)
            clear HSc hbZ d0 d1 d2 d3 d4 d5 d6 d7 d8 d9
            obtain ⟨d0, d1, d2, d3, d4, d5, d6, d7, d8, d9, -⟩ := HSd.out
            go_wp2_with fail
            refine (blocks_any _ _ _ _ _ _ _ _ _ _ _ (by omega) (by omega) hk0 hk1 (by omega) (ofR_inv HSd.out).1).mono ?_
            rintro e wz ⟨rfl, hbZ⟩
            have HSe := Lib.hid (keepR HSd.out hbZ)
            clear HSd hbZ d0 d1 d2 d3 d4 d5 d6 d7 d8 d9
            go_wp2_with fail
            go_roundw
            case rel =>
              obtain ⟨d0, d1, d2, d3, d4, d5, d6, d7, d8, d9, hr⟩ := HSe.out
              exact ⟨j + 1, by omega, by go_num, congrArg (Value.int .u64) HST.out.symm, HDJ.out (by omega), d8, d9, (ofR_inv HSe.out).2.2.1, (ofR_inv HSe.out).2.1⟩
            case measure => simp [intOf]; omega
          · have hb' : (65536 : Int) < (dl : Int) := by omega
            clear hb
            obtain ⟨d0, d1, d2, d3, d4, d5, d6, d7, d8, d9, -⟩ := HSc.out
            go_wp2_with fail
            refine (blocks_any _ _ _ _ _ _ _ _ _ _ _ (by omega) (by omega) hk0 hk1 (by omega) (ofR_inv HSc.out).1).mono ?_
            rintro e wz ⟨rfl, hbZ⟩
            have HSe := Lib.hid (keepR HSc.out hbZ)
            clear HSc hbZ d0 d1 d2 d3 d4 d5 d6 d7 d8 d9
            go_wp2_with fail
            go_roundw
            case rel =>
              obtain ⟨d0, d1, d2, d3, d4, d5, d6, d7, d8, d9, hr⟩ := HSe.out
              exact ⟨j + 1, by omega, by go_num, congrArg (Value.int .u64) HST.out.symm, HDJ.out (by omega), d8, d9, (ofR_inv HSe.out).2.2.1, (ofR_inv HSe.out).2.1⟩
            case measure => simp [intOf]; omega
        · have ha' : (65536 : Int) < ln := by omega
          clear ha
          obtain ⟨d0, d1, d2, d3, d4, d5, d6, d7, d8, d9, -⟩ := HSc.out
          go_wp2_with fail
          refine (blocks_any _ _ _ _ _ _ _ _ _ _ _ (by omega) (by omega) hk0 hk1 (by omega) (ofR_inv HSc.out).1).mono ?_
          rintro e wz ⟨rfl, hbZ⟩
          have HSe := Lib.hid (keepR HSc.out hbZ)
          clear HSc hbZ d0 d1 d2 d3 d4 d5 d6 d7 d8 d9
          go_wp2_with fail
          go_roundw
          case rel =>
            obtain ⟨d0, d1, d2, d3, d4, d5, d6, d7, d8, d9, hr⟩ := HSe.out
            exact ⟨j + 1, by omega, by go_num, congrArg (Value.int .u64) HST.out.symm, HDJ.out (by omega), d8, d9, (ofR_inv HSe.out).2.2.1, (ofR_inv HSe.out).2.1⟩
          case measure => simp [intOf]; omega
    · obtain rfl : j = len := by omega
      have hpm : decide (pg more ≤ pg (more + 1)) = true := by have := pg_mono more (more + 1) (by omega); simpa using this
      have HF2 := Lib.hid (show ∀ i, i < j → ReqAt wr b (o + i * 8) (f i) ∧ (f i).fit ∧ (f i).dl ≤ 1073741824 from fun i hi => ⟨(HF.out i hi).1.below hbwr hbw, (HF.out i hi).2, HDh.out i hi⟩)
      clear hlt hq0 hq1
      go_wp2_with fail
      refine (all_any _ _ _ _ _ _ (by omega) HF2.out (by omega) HT2.out).mono ?_
      rintro e w1 ⟨rfl, hb1⟩
      go_wp2_with fail
      refine (pages_any _ _ (by omega) (by omega)).mono ?_
      rintro e w' ⟨rfl, rfl⟩
      go_wp2_with fail
      refine (pages_any _ _ (by omega) (by omega)).mono ?_
      rintro e w' ⟨rfl, rfl⟩
      go_wp2_with fail
      refine (head_any _ (HT2.out.below hb1)).mono ?_
      rintro e w2 ⟨rfl, hb2⟩
      have hbb : Below w.heap.size w w2 := (hbwr.trans (hb1.mono (by omega))).trans (hb2.mono (by have := hb1.size; omega))
      go_wp2_with fail
      go_ret
      exact ⟨rfl, hbb⟩

set_option maxRecDepth 100000 in
set_option maxHeartbeats 8000000 in
theorem rises_no (b o len cap : Nat) (f : Nat → RV) (more n0 n1 : Int) (w : World) (hlen : len ≤ 50) (hf : ∀ i, i < len → ReqAt w b (o + i * 8) (f i) ∧ (f i).fit) (hbw : b < w.heap.size) (ht : Tak w)
    (hm0 : 0 ≤ more) (hm1 : more ≤ 65535) (hn0 : 0 ≤ n0) (hn1 : n0 ≤ 4294967295) (hn : n0 < 64 ∨ 1048576 < n0) (hr0 : 0 ≤ n1) (hr1 : n1 ≤ 4294967295) :
    Calls Tryd.prog 4 #[.slice (some ⟨b, o, none⟩) len cap, .int .u16 more, .agg #[.int .u32 n0, .int .u32 n1]] w
      fun e w' => e = .returned (.bool true) ∧ Below w.heap.size w w' := by
  have HN := Lib.hid hn
  clear hn
  have HT := Lib.hid ht
  have HF := Lib.hid hf
  clear ht hf
  have h50 : decide ((50 : Int) < (len : Int)) = false := by simp; omega
  go_enter Tryd.func4, Tryd.ntmps4
  go_wp2_with fail
  go_loopw [7, 8] (fun s i wr => ∃ j : Nat, j ≤ len ∧ i = .int .i64 j ∧ s = .int .u64 (sumB f j) ∧ (∀ i, i < j → (f i).dl ≤ 1073741824) ∧ wr.cell? ⟨w.heap.size, 0, none⟩ = some (.int .u32 n0) ∧ wr.cell? ⟨w.heap.size, 1, none⟩ = some (.int .u32 n1) ∧ w.heap.size < wr.heap.size ∧ Below w.heap.size w wr) (fun _ i _ => len - (intOf i).toNat)
  case atStart => exact ⟨0, by omega, rfl, rfl, fun i hi => absurd hi (by omega), by simp [go_sem], by simp [go_sem], by simp, (Below.refl _ _).alloc (Nat.le_refl _) _⟩
  case round =>
    obtain ⟨j, hj, rfl, rfl, HD, hq0, hq1, hz, hbwr⟩ := hrel
    have HDh := Lib.hid HD
    obtain ⟨hs0, hs1⟩ := sumB_bd f j (fun i hi => ⟨(HF.out i (by omega)).2.2.2.2, HD i hi⟩)
    clear HD
    have HT2 := Lib.hid (HT.out.below hbwr)
    by_cases hlt : j < len
    · obtain ⟨hR, hfit⟩ := HF.out j hlt
      have hR2 := hR.below hbwr hbw
      have hst : sumB f (j + 1) = sumB f j + blk (f j).k (f j).len (f j).dl := rfl
      have hdj : (f j).dl ≤ 1073741824 → ∀ i, i < j + 1 → (f i).dl ≤ 1073741824 := fun h i hi => by
        rcases Nat.lt_or_ge i j with h' | h'
        · exact HDh.out i h'
        · obtain rfl : i = j := by omega
          exact h
      clear hR
      generalize f j = r at *
      obtain ⟨k, nm, tu, hd, off, ln, qt, a, dl, dc⟩ := r
      obtain ⟨hk0, hk1, hl0, hl1⟩ := hfit
      obtain ⟨c0, c1, c2, c3, c4, c5, c6, c7⟩ := hR2
      dsimp only at hk0 hk1 hl0 hl1 c0 c1 c2 c3 c4 c5 c6 c7 hst hdj
      have HST := Lib.hid hst
      have HDJ := Lib.hid hdj
      clear hst hdj
      have hj0 : (0 : Int) ≤ (j : Int) := by omega
      have hj1 : (j : Int) < (len : Int) := by omega
      by_cases hg : 1073741824 < ln ∨ (1073741824 : Int) < (dl : Int)
      · by_cases hg1 : 1073741824 < ln
        · clear hg
          go_wp2_with fail
          refine (head_any _ HT2.out).mono ?_
          rintro e w1 ⟨rfl, hb⟩
          have hbb : Below w.heap.size w w1 := hbwr.trans (hb.mono (by omega))
          go_wp2_with fail
          go_ret
          exact ⟨rfl, hbb⟩
        · have hg2 : (1073741824 : Int) < (dl : Int) := by omega
          clear hg
          go_wp2_with fail
          refine (head_any _ HT2.out).mono ?_
          rintro e w1 ⟨rfl, hb⟩
          have hbb : Below w.heap.size w w1 := hbwr.trans (hb.mono (by omega))
          go_wp2_with fail
          go_ret
          exact ⟨rfl, hbb⟩
      have hg1 : ln ≤ 1073741824 := by omega
      have hg2 : (dl : Int) ≤ 1073741824 := by omega
      clear hg
      have hbr : b < wr.heap.size := by omega
      go_wp2_with fail
      have hS : (wr.alloc (.cells #[.int .u8 k, .string nm, .string tu, .int .u64 hd, .int .u32 off, .int .u32 (ln + more), .int .u32 qt, .slice a dl dc] 26)).cell? ⟨b, o + j * 8, none⟩ = some (.int .u8 k) ∧ (wr.alloc (.cells #[.int .u8 k, .string nm, .string tu, .int .u64 hd, .int .u32 off, .int .u32 (ln + more), .int .u32 qt, .slice a dl dc] 26)).cell? ⟨b, o + j * 8 + 1, none⟩ = some (.string nm) ∧ (wr.alloc (.cells #[.int .u8 k, .string nm, .string tu, .int .u64 hd, .int .u32 off, .int .u32 (ln + more), .int .u32 qt, .slice a dl dc] 26)).cell? ⟨b, o + j * 8 + 2, none⟩ = some (.string tu) ∧ (wr.alloc (.cells #[.int .u8 k, .string nm, .string tu, .int .u64 hd, .int .u32 off, .int .u32 (ln + more), .int .u32 qt, .slice a dl dc] 26)).cell? ⟨b, o + j * 8 + 3, none⟩ = some (.int .u64 hd) ∧ (wr.alloc (.cells #[.int .u8 k, .string nm, .string tu, .int .u64 hd, .int .u32 off, .int .u32 (ln + more), .int .u32 qt, .slice a dl dc] 26)).cell? ⟨b, o + j * 8 + 4, none⟩ = some (.int .u32 off) ∧ (wr.alloc (.cells #[.int .u8 k, .string nm, .string tu, .int .u64 hd, .int .u32 off, .int .u32 (ln + more), .int .u32 qt, .slice a dl dc] 26)).cell? ⟨b, o + j * 8 + 5, none⟩ = some (.int .u32 ln) ∧ (wr.alloc (.cells #[.int .u8 k, .string nm, .string tu, .int .u64 hd, .int .u32 off, .int .u32 (ln + more), .int .u32 qt, .slice a dl dc] 26)).cell? ⟨b, o + j * 8 + 6, none⟩ = some (.int .u32 qt) ∧ (wr.alloc (.cells #[.int .u8 k, .string nm, .string tu, .int .u64 hd, .int .u32 off, .int .u32 (ln + more), .int .u32 qt, .slice a dl dc] 26)).cell? ⟨b, o + j * 8 + 7, none⟩ = some (.slice a dl dc) ∧ (wr.alloc (.cells #[.int .u8 k, .string nm, .string tu, .int .u64 hd, .int .u32 off, .int .u32 (ln + more), .int .u32 qt, .slice a dl dc] 26)).cell? ⟨w.heap.size, 0, none⟩ = some (.int .u32 n0) ∧ (wr.alloc (.cells #[.int .u8 k, .string nm, .string tu, .int .u64 hd, .int .u32 off, .int .u32 (ln + more), .int .u32 qt, .slice a dl dc] 26)).cell? ⟨w.heap.size, 1, none⟩ = some (.int .u32 n1) ∧ (wr.alloc (.cells #[.int .u8 k, .string nm, .string tu, .int .u64 hd, .int .u32 off, .int .u32 (ln + more), .int .u32 qt, .slice a dl dc] 26)).cell? ⟨wr.heap.size, 0, none⟩ = some (.int .u8 k) ∧ (wr.alloc (.cells #[.int .u8 k, .string nm, .string tu, .int .u64 hd, .int .u32 off, .int .u32 (ln + more), .int .u32 qt, .slice a dl dc] 26)).cell? ⟨wr.heap.size, 1, none⟩ = some (.string nm) ∧ (wr.alloc (.cells #[.int .u8 k, .string nm, .string tu, .int .u64 hd, .int .u32 off, .int .u32 (ln + more), .int .u32 qt, .slice a dl dc] 26)).cell? ⟨wr.heap.size, 2, none⟩ = some (.string tu) ∧ (wr.alloc (.cells #[.int .u8 k, .string nm, .string tu, .int .u64 hd, .int .u32 off, .int .u32 (ln + more), .int .u32 qt, .slice a dl dc] 26)).cell? ⟨wr.heap.size, 3, none⟩ = some (.int .u64 hd) ∧ (wr.alloc (.cells #[.int .u8 k, .string nm, .string tu, .int .u64 hd, .int .u32 off, .int .u32 (ln + more), .int .u32 qt, .slice a dl dc] 26)).cell? ⟨wr.heap.size, 4, none⟩ = some (.int .u32 off) ∧ (wr.alloc (.cells #[.int .u8 k, .string nm, .string tu, .int .u64 hd, .int .u32 off, .int .u32 (ln + more), .int .u32 qt, .slice a dl dc] 26)).cell? ⟨wr.heap.size, 5, none⟩ = some (.int .u32 (ln + more)) ∧ (wr.alloc (.cells #[.int .u8 k, .string nm, .string tu, .int .u64 hd, .int .u32 off, .int .u32 (ln + more), .int .u32 qt, .slice a dl dc] 26)).cell? ⟨wr.heap.size, 6, none⟩ = some (.int .u32 qt) ∧ (wr.alloc (.cells #[.int .u8 k, .string nm, .string tu, .int .u64 hd, .int .u32 off, .int .u32 (ln + more), .int .u32 qt, .slice a dl dc] 26)).cell? ⟨wr.heap.size, 7, none⟩ = some (.slice a dl dc) ∧ Inv w b wr.heap.size (wr.alloc (.cells #[.int .u8 k, .string nm, .string tu, .int .u64 hd, .int .u32 off, .int .u32 (ln + more), .int .u32 qt, .slice a dl dc] 26)) := by
        have hl := fun (o : Nat) => World.cell?_alloc_lt wr (.cells #[.int .u8 k, .string nm, .string tu, .int .u64 hd, .int .u32 off, .int .u32 (ln + more), .int .u32 qt, .slice a dl dc] 26) ⟨b, o, none⟩ hbr
        have hl2 := fun (o : Nat) => World.cell?_alloc_lt wr (.cells #[.int .u8 k, .string nm, .string tu, .int .u64 hd, .int .u32 off, .int .u32 (ln + more), .int .u32 qt, .slice a dl dc] 26) ⟨w.heap.size, o, none⟩ hz
        exact ⟨(hl _).trans c0, (hl _).trans c1, (hl _).trans c2, (hl _).trans c3, (hl _).trans c4, (hl _).trans c5, (hl _).trans c6, (hl _).trans c7, (hl2 _).trans hq0, (hl2 _).trans hq1, by simp [go_sem], by simp [go_sem], by simp [go_sem], by simp [go_sem], by simp [go_sem], by simp [go_sem], by simp [go_sem], by simp [go_sem], HT2.out.alloc _, hbwr.alloc (by omega) _, by simp; omega, by simp; omega, by simp⟩
      have HS := Lib.hid hS
      clear hS c0 c1 c2 c3 c4 c5 c6 c7 hq0 hq1 hbwr
      have e2 : IntKind.u32.wrap (n1.tdiv 2) = n1 / 2 := by rw [Int.tdiv_eq_ediv_of_nonneg hr0]; exact IntWalk.u32_in _ (by omega)
      go_region_held3 (fun w' => w'.cell? ⟨b, o + j * 8, none⟩ = some (.int .u8 k) ∧ w'.cell? ⟨b, o + j * 8 + 1, none⟩ = some (.string nm) ∧ w'.cell? ⟨b, o + j * 8 + 2, none⟩ = some (.string tu) ∧ w'.cell? ⟨b, o + j * 8 + 3, none⟩ = some (.int .u64 hd) ∧ w'.cell? ⟨b, o + j * 8 + 4, none⟩ = some (.int .u32 off) ∧ w'.cell? ⟨b, o + j * 8 + 5, none⟩ = some (.int .u32 ln) ∧ w'.cell? ⟨b, o + j * 8 + 6, none⟩ = some (.int .u32 qt) ∧ w'.cell? ⟨b, o + j * 8 + 7, none⟩ = some (.slice a dl dc) ∧ w'.cell? ⟨w.heap.size, 0, none⟩ = some (.int .u32 n0) ∧ w'.cell? ⟨w.heap.size, 1, none⟩ = some (.int .u32 n1) ∧ w'.cell? ⟨wr.heap.size, 0, none⟩ = some (.int .u8 k) ∧ w'.cell? ⟨wr.heap.size, 1, none⟩ = some (.string nm) ∧ w'.cell? ⟨wr.heap.size, 2, none⟩ = some (.string tu) ∧ w'.cell? ⟨wr.heap.size, 3, none⟩ = some (.int .u64 hd) ∧ w'.cell? ⟨wr.heap.size, 4, none⟩ = some (.int .u32 off) ∧ w'.cell? ⟨wr.heap.size, 5, none⟩ = some (.int .u32 (ln + more)) ∧ w'.cell? ⟨wr.heap.size, 6, none⟩ = some (.int .u32 qt) ∧ w'.cell? ⟨wr.heap.size, 7, none⟩ = some (.slice a dl dc) ∧ Inv w b wr.heap.size w')
        (first | assumption | exact keepR HS.out ⟨rfl, rfl, rfl, Nat.le_refl _, fun _ _ => rfl⟩ | exact keepR (by assumption) hbX)
        (first | (go_at_call 6; refine (writes_no _ _ _ _ _ _ _ _ _ _ _ _ _ hn0 hn1 HN.out).mono ?_; rintro e w' ⟨rfl, hbX⟩) | (go_at_call 8; refine (blocks_any _ _ _ _ _ _ _ _ _ _ _ (by omega) (by omega) hk0 hk1 (by omega) (ofR_inv (by assumption)).1).mono ?_; rintro e w' ⟨rfl, hbX⟩))
      have HSa := Lib.hid (show w'.cell? ⟨b, o + j * 8, none⟩ = some (.int .u8 k) ∧ w'.cell? ⟨b, o + j * 8 + 1, none⟩ = some (.string nm) ∧ w'.cell? ⟨b, o + j * 8 + 2, none⟩ = some (.string tu) ∧ w'.cell? ⟨b, o + j * 8 + 3, none⟩ = some (.int .u64 hd) ∧ w'.cell? ⟨b, o + j * 8 + 4, none⟩ = some (.int .u32 off) ∧ w'.cell? ⟨b, o + j * 8 + 5, none⟩ = some (.int .u32 ln) ∧ w'.cell? ⟨b, o + j * 8 + 6, none⟩ = some (.int .u32 qt) ∧ w'.cell? ⟨b, o + j * 8 + 7, none⟩ = some (.slice a dl dc) ∧ w'.cell? ⟨w.heap.size, 0, none⟩ = some (.int .u32 n0) ∧ w'.cell? ⟨w.heap.size, 1, none⟩ = some (.int .u32 n1) ∧ w'.cell? ⟨wr.heap.size, 0, none⟩ = some (.int .u8 k) ∧ w'.cell? ⟨wr.heap.size, 1, none⟩ = some (.string nm) ∧ w'.cell? ⟨wr.heap.size, 2, none⟩ = some (.string tu) ∧ w'.cell? ⟨wr.heap.size, 3, none⟩ = some (.int .u64 hd) ∧ w'.cell? ⟨wr.heap.size, 4, none⟩ = some (.int .u32 off) ∧ w'.cell? ⟨wr.heap.size, 5, none⟩ = some (.int .u32 (ln + more)) ∧ w'.cell? ⟨wr.heap.size, 6, none⟩ = some (.int .u32 qt) ∧ w'.cell? ⟨wr.heap.size, 7, none⟩ = some (.slice a dl dc) ∧ Inv w b wr.heap.size w' by assumption)
      go_wp2_with fail
      have e3 : IntKind.u32.wrap (n1 / 2 + more) = n1 / 2 + more := IntWalk.u32_in _ (by omega)
      have e4 : IntKind.u32.wrap more = more := IntWalk.u32_in _ (by omega)
      clear HS
      go_region_held3 (fun w' => w'.cell? ⟨b, o + j * 8, none⟩ = some (.int .u8 k) ∧ w'.cell? ⟨b, o + j * 8 + 1, none⟩ = some (.string nm) ∧ w'.cell? ⟨b, o + j * 8 + 2, none⟩ = some (.string tu) ∧ w'.cell? ⟨b, o + j * 8 + 3, none⟩ = some (.int .u64 hd) ∧ w'.cell? ⟨b, o + j * 8 + 4, none⟩ = some (.int .u32 off) ∧ w'.cell? ⟨b, o + j * 8 + 5, none⟩ = some (.int .u32 ln) ∧ w'.cell? ⟨b, o + j * 8 + 6, none⟩ = some (.int .u32 qt) ∧ w'.cell? ⟨b, o + j * 8 + 7, none⟩ = some (.slice a dl dc) ∧ w'.cell? ⟨w.heap.size, 0, none⟩ = some (.int .u32 n0) ∧ w'.cell? ⟨w.heap.size, 1, none⟩ = some (.int .u32 n1) ∧ w'.cell? ⟨wr.heap.size, 0, none⟩ = some (.int .u8 k) ∧ w'.cell? ⟨wr.heap.size, 1, none⟩ = some (.string nm) ∧ w'.cell? ⟨wr.heap.size, 2, none⟩ = some (.string tu) ∧ w'.cell? ⟨wr.heap.size, 3, none⟩ = some (.int .u64 hd) ∧ w'.cell? ⟨wr.heap.size, 4, none⟩ = some (.int .u32 off) ∧ w'.cell? ⟨wr.heap.size, 5, none⟩ = some (.int .u32 (ln + more)) ∧ w'.cell? ⟨wr.heap.size, 6, none⟩ = some (.int .u32 qt) ∧ w'.cell? ⟨wr.heap.size, 7, none⟩ = some (.slice a dl dc) ∧ Inv w b wr.heap.size w')
        (first | assumption | exact keepR HSa.out ⟨rfl, rfl, rfl, Nat.le_refl _, fun _ _ => rfl⟩ | exact keepR (by assumption) hbX)
        (first | (go_at_call 6; refine (writes_no _ _ _ _ _ _ _ _ _ _ _ _ _ hn0 hn1 HN.out).mono ?_; rintro e w' ⟨rfl, hbX⟩) | (go_at_call 8; refine (blocks_any _ _ _ _ _ _ _ _ _ _ _ (by omega) (by omega) hk0 hk1 (by omega) (ofR_inv (by assumption)).1).mono ?_; rintro e w' ⟨rfl, hbX⟩))
      have HSb := Lib.hid (show w'.cell? ⟨b, o + j * 8, none⟩ = some (.int .u8 k) ∧ w'.cell? ⟨b, o + j * 8 + 1, none⟩ = some (.string nm) ∧ w'.cell? ⟨b, o + j * 8 + 2, none⟩ = some (.string tu) ∧ w'.cell? ⟨b, o + j * 8 + 3, none⟩ = some (.int .u64 hd) ∧ w'.cell? ⟨b, o + j * 8 + 4, none⟩ = some (.int .u32 off) ∧ w'.cell? ⟨b, o + j * 8 + 5, none⟩ = some (.int .u32 ln) ∧ w'.cell? ⟨b, o + j * 8 + 6, none⟩ = some (.int .u32 qt) ∧ w'.cell? ⟨b, o + j * 8 + 7, none⟩ = some (.slice a dl dc) ∧ w'.cell? ⟨w.heap.size, 0, none⟩ = some (.int .u32 n0) ∧ w'.cell? ⟨w.heap.size, 1, none⟩ = some (.int .u32 n1) ∧ w'.cell? ⟨wr.heap.size, 0, none⟩ = some (.int .u8 k) ∧ w'.cell? ⟨wr.heap.size, 1, none⟩ = some (.string nm) ∧ w'.cell? ⟨wr.heap.size, 2, none⟩ = some (.string tu) ∧ w'.cell? ⟨wr.heap.size, 3, none⟩ = some (.int .u64 hd) ∧ w'.cell? ⟨wr.heap.size, 4, none⟩ = some (.int .u32 off) ∧ w'.cell? ⟨wr.heap.size, 5, none⟩ = some (.int .u32 (ln + more)) ∧ w'.cell? ⟨wr.heap.size, 6, none⟩ = some (.int .u32 qt) ∧ w'.cell? ⟨wr.heap.size, 7, none⟩ = some (.slice a dl dc) ∧ Inv w b wr.heap.size w' by assumption)
      clear HSa
      go_wp2_with fail
      have b1 := blk_bd k ln dl (by omega) (by omega)
      have b2 := blk_bd k (ln + more) dl (by omega) (by omega)
      have b3 := blk_mono k ln (ln + more) dl (by omega)
      have hB1 : decide (blk k (ln + more) dl < blk k ln dl) = false := by simp; omega
      have hB2 : IntKind.u64.wrap (blk k ln dl) = blk k ln dl := IntWalk.u64_in _ (by omega)
      go_cut [110] (fun s110 wx => s110 = .bool false ∧ (wx.cell? ⟨b, o + j * 8, none⟩ = some (.int .u8 k) ∧ wx.cell? ⟨b, o + j * 8 + 1, none⟩ = some (.string nm) ∧ wx.cell? ⟨b, o + j * 8 + 2, none⟩ = some (.string tu) ∧ wx.cell? ⟨b, o + j * 8 + 3, none⟩ = some (.int .u64 hd) ∧ wx.cell? ⟨b, o + j * 8 + 4, none⟩ = some (.int .u32 off) ∧ wx.cell? ⟨b, o + j * 8 + 5, none⟩ = some (.int .u32 ln) ∧ wx.cell? ⟨b, o + j * 8 + 6, none⟩ = some (.int .u32 qt) ∧ wx.cell? ⟨b, o + j * 8 + 7, none⟩ = some (.slice a dl dc) ∧ wx.cell? ⟨w.heap.size, 0, none⟩ = some (.int .u32 n0) ∧ wx.cell? ⟨w.heap.size, 1, none⟩ = some (.int .u32 n1) ∧ wx.cell? ⟨wr.heap.size, 0, none⟩ = some (.int .u8 k) ∧ wx.cell? ⟨wr.heap.size, 1, none⟩ = some (.string nm) ∧ wx.cell? ⟨wr.heap.size, 2, none⟩ = some (.string tu) ∧ wx.cell? ⟨wr.heap.size, 3, none⟩ = some (.int .u64 hd) ∧ wx.cell? ⟨wr.heap.size, 4, none⟩ = some (.int .u32 off) ∧ wx.cell? ⟨wr.heap.size, 5, none⟩ = some (.int .u32 (ln + more)) ∧ wx.cell? ⟨wr.heap.size, 6, none⟩ = some (.int .u32 qt) ∧ wx.cell? ⟨wr.heap.size, 7, none⟩ = some (.slice a dl dc) ∧ Inv w b wr.heap.size wx))
      case first =>
        refine wp_region_held_drew (S := fun w' => w'.cell? ⟨b, o + j * 8, none⟩ = some (.int .u8 k) ∧ w'.cell? ⟨b, o + j * 8 + 1, none⟩ = some (.string nm) ∧ w'.cell? ⟨b, o + j * 8 + 2, none⟩ = some (.string tu) ∧ w'.cell? ⟨b, o + j * 8 + 3, none⟩ = some (.int .u64 hd) ∧ w'.cell? ⟨b, o + j * 8 + 4, none⟩ = some (.int .u32 off) ∧ w'.cell? ⟨b, o + j * 8 + 5, none⟩ = some (.int .u32 ln) ∧ w'.cell? ⟨b, o + j * 8 + 6, none⟩ = some (.int .u32 qt) ∧ w'.cell? ⟨b, o + j * 8 + 7, none⟩ = some (.slice a dl dc) ∧ w'.cell? ⟨w.heap.size, 0, none⟩ = some (.int .u32 n0) ∧ w'.cell? ⟨w.heap.size, 1, none⟩ = some (.int .u32 n1) ∧ w'.cell? ⟨wr.heap.size, 0, none⟩ = some (.int .u8 k) ∧ w'.cell? ⟨wr.heap.size, 1, none⟩ = some (.string nm) ∧ w'.cell? ⟨wr.heap.size, 2, none⟩ = some (.string tu) ∧ w'.cell? ⟨wr.heap.size, 3, none⟩ = some (.int .u64 hd) ∧ w'.cell? ⟨wr.heap.size, 4, none⟩ = some (.int .u32 off) ∧ w'.cell? ⟨wr.heap.size, 5, none⟩ = some (.int .u32 (ln + more)) ∧ w'.cell? ⟨wr.heap.size, 6, none⟩ = some (.int .u32 qt) ∧ w'.cell? ⟨wr.heap.size, 7, none⟩ = some (.slice a dl dc) ∧ Inv w b wr.heap.size w') (by kernel_rfl) (keepR HSb.out ⟨rfl, rfl, rfl, Nat.le_refl _, fun _ _ => rfl⟩) ?_
        intro hHeld
        refine wpAnyH_take (i := 0) (v := ?_) rfl (by kernel_rfl) (by kernel_rfl) (by kernel_rfl) (fun _ _ _ h => h) (Or.inl ⟨by rfl, ?_⟩) hHeld ?_
        rotate_left
        · (intro w hSw; (try dsimp only at hSw); go_simp)
          try with_reducible rfl
        try simp only [Act.put, List.getElem_toArray, List.getElem_cons_zero, List.setIfInBounds_toArray, List.set_cons_zero, List.set_cons_succ]
        refine wpAnyH_take (i := 2) (v := ?_) rfl (by kernel_rfl) (by kernel_rfl) (by kernel_rfl) (fun _ _ _ h => h) (Or.inl ⟨by rfl, ?_⟩) hHeld ?_
        rotate_left
        · (intro w hSw; (try dsimp only at hSw); go_simp)
          try with_reducible rfl
        try simp only [Act.put, List.getElem_toArray, List.getElem_cons_zero, List.getElem_cons_succ, List.setIfInBounds_toArray, List.set_cons_zero, List.set_cons_succ]
        refine wpAnyH_take (i := 3) (v := ?_) rfl (by kernel_rfl) (by kernel_rfl) (by kernel_rfl) (fun _ _ _ h => h) (Or.inl ⟨by rfl, ?_⟩) hHeld ?_
        rotate_left
        · (intro w hSw; (try dsimp only at hSw); go_simp)
          try with_reducible rfl
        try simp only [Act.put, List.getElem_toArray, List.getElem_cons_zero, List.getElem_cons_succ, List.setIfInBounds_toArray, List.set_cons_zero, List.set_cons_succ]
        refine wpAnyH_take (i := 4) (v := ?_) rfl (by kernel_rfl) (by kernel_rfl) (by kernel_rfl) (fun _ _ _ h => h) (Or.inl ⟨by rfl, ?_⟩) hHeld ?_
        rotate_left
        · (intro w hSw; (try dsimp only at hSw); go_simp)
          try with_reducible rfl
        try simp only [Act.put, List.getElem_toArray, List.getElem_cons_zero, List.getElem_cons_succ, List.setIfInBounds_toArray, List.set_cons_zero, List.set_cons_succ]
        refine wpAnyH_take (i := 5) (v := ?_) rfl (by kernel_rfl) (by kernel_rfl) (by kernel_rfl) (fun _ _ _ h => h) (Or.inl ⟨by rfl, ?_⟩) hHeld ?_
        rotate_left
        · (intro w hSw; (try dsimp only at hSw); go_simp)
          try with_reducible rfl
        try simp only [Act.put, List.getElem_toArray, List.getElem_cons_zero, List.getElem_cons_succ, List.setIfInBounds_toArray, List.set_cons_zero, List.set_cons_succ]
        refine wpAnyH_ready (rs := [1]) (by kernel_rfl) (by simp) ?_
        refine AllReadyH.cons rfl (fun K hK => ?_) AllReadyH.nil
        go_simp
        refine (blocks_any _ _ _ _ _ _ _ _ _ _ _ (by omega) (by omega) hk0 hk1 (by omega) (ofR_inv hHeld).1).mono ?_
        rintro e wv ⟨rfl, hbX⟩
        go_wp2_with fail
        refine hK.out _ _ (keepR hHeld hbX) (fun hHeld2 => ?_)
        clear hK K hHeld
        have hHeld := hHeld2
        clear hHeld2
        refine wpAnyH_ready (rs := [6]) (by kernel_rfl) (by simp) ?_
        refine AllReadyH.cons rfl (fun K hK => ?_) AllReadyH.nil
        go_simp
        refine (blocks_any _ _ _ _ _ _ _ _ _ _ _ (by omega) (by omega) hk0 hk1 (by omega) (ofR_inv hHeld).1).mono ?_
        rintro e wv ⟨rfl, hbX⟩
        go_wp2_with fail
        refine hK.out _ _ (keepR hHeld hbX) (fun hHeld2 => ?_)
        clear hK K hHeld
        have hHeld := hHeld2
        clear hHeld2
        refine wpAnyH_take (i := 7) (v := ?_) rfl (by kernel_rfl) (by kernel_rfl) (by kernel_rfl) (fun _ _ _ h => h) (Or.inl ⟨by rfl, ?_⟩) hHeld ?_
        rotate_left
        · (intro w hSw; (try dsimp only at hSw); go_simp)
          try with_reducible rfl
        try simp only [Act.put, List.getElem_toArray, List.getElem_cons_zero, List.getElem_cons_succ, List.setIfInBounds_toArray, List.set_cons_zero, List.set_cons_succ]
        refine wpAnyH_take (i := 8) (v := ?_) rfl (by kernel_rfl) (by kernel_rfl) (by kernel_rfl) (fun _ _ _ h => h) (Or.inl ⟨by rfl, ?_⟩) hHeld ?_
        rotate_left
        · (intro w hSw; (try dsimp only at hSw); go_simp)
          try with_reducible rfl
        try simp only [Act.put, List.getElem_toArray, List.getElem_cons_zero, List.getElem_cons_succ, List.setIfInBounds_toArray, List.set_cons_zero, List.set_cons_succ]
        refine wpAnyH_take (i := 9) (v := ?_) rfl (by kernel_rfl) (by kernel_rfl) (by kernel_rfl) (fun _ _ _ h => h) (Or.inl ⟨by rfl, ?_⟩) hHeld ?_
        rotate_left
        · (intro w hSw; (try dsimp only at hSw); go_simp)
          try with_reducible rfl
        try simp only [Act.put, List.getElem_toArray, List.getElem_cons_zero, List.getElem_cons_succ, List.setIfInBounds_toArray, List.set_cons_zero, List.set_cons_succ]
        refine wpAnyH_take (i := 10) (v := ?_) rfl (by kernel_rfl) (by kernel_rfl) (by kernel_rfl) (fun _ _ _ h => h) (Or.inl ⟨by rfl, ?_⟩) hHeld ?_
        rotate_left
        · (intro w hSw; (try dsimp only at hSw); go_simp)
          try with_reducible rfl
        try simp only [Act.put, List.getElem_toArray, List.getElem_cons_zero, List.getElem_cons_succ, List.setIfInBounds_toArray, List.set_cons_zero, List.set_cons_succ]
        refine wpAnyH_take (i := 11) (v := ?_) rfl (by kernel_rfl) (by kernel_rfl) (by kernel_rfl) (fun _ _ _ h => h) (Or.inl ⟨by rfl, ?_⟩) hHeld ?_
        rotate_left
        · (intro w hSw; (try dsimp only at hSw); go_simp)
          try with_reducible rfl
        try simp only [Act.put, List.getElem_toArray, List.getElem_cons_zero, List.getElem_cons_succ, List.setIfInBounds_toArray, List.set_cons_zero, List.set_cons_succ]
        refine wpAnyH_take (i := 12) (v := ?_) rfl (by kernel_rfl) (by kernel_rfl) (by kernel_rfl) (fun _ _ _ h => h) (Or.inl ⟨by rfl, ?_⟩) hHeld ?_
        rotate_left
        · (intro w hSw; (try dsimp only at hSw); go_simp)
          try with_reducible rfl
        try simp only [Act.put, List.getElem_toArray, List.getElem_cons_zero, List.getElem_cons_succ, List.setIfInBounds_toArray, List.set_cons_zero, List.set_cons_succ]
        refine wpAnyH_take (i := 13) (v := ?_) rfl (by kernel_rfl) (by kernel_rfl) (by kernel_rfl) (fun _ _ _ h => h) (Or.inl ⟨by rfl, ?_⟩) hHeld ?_
        rotate_left
        · (intro w hSw; (try dsimp only at hSw); go_simp)
          try with_reducible rfl
        try simp only [Act.put, List.getElem_toArray, List.getElem_cons_zero, List.getElem_cons_succ, List.setIfInBounds_toArray, List.set_cons_zero, List.set_cons_succ]
        refine wpAnyH_take (i := 14) (v := ?_) rfl (by kernel_rfl) (by kernel_rfl) (by kernel_rfl) (fun _ _ _ h => h) (Or.inl ⟨by rfl, ?_⟩) hHeld ?_
        rotate_left
        · (intro w hSw; (try dsimp only at hSw); go_simp)
          try with_reducible rfl
        try simp only [Act.put, List.getElem_toArray, List.getElem_cons_zero, List.getElem_cons_succ, List.setIfInBounds_toArray, List.set_cons_zero, List.set_cons_succ]
        refine wpAnyH_take (i := 15) (v := ?_) rfl (by kernel_rfl) (by kernel_rfl) (by kernel_rfl) (fun _ _ _ h => h) (Or.inl ⟨by rfl, ?_⟩) hHeld ?_
        rotate_left
        · (intro w hSw; (try dsimp only at hSw); go_simp)
          try with_reducible rfl
        try simp only [Act.put, List.getElem_toArray, List.getElem_cons_zero, List.getElem_cons_succ, List.setIfInBounds_toArray, List.set_cons_zero, List.set_cons_succ]
        refine wpAnyH_take (i := 16) (v := ?_) rfl (by kernel_rfl) (by kernel_rfl) (by kernel_rfl) (fun _ _ _ h => h) (Or.inl ⟨by rfl, ?_⟩) hHeld ?_
        rotate_left
        · (intro w hSw; (try dsimp only at hSw); go_simp)
          try with_reducible rfl
        try simp only [Act.put, List.getElem_toArray, List.getElem_cons_zero, List.getElem_cons_succ, List.setIfInBounds_toArray, List.set_cons_zero, List.set_cons_succ]
        refine wpAnyH_take (i := 17) (v := ?_) rfl (by kernel_rfl) (by kernel_rfl) (by kernel_rfl) (fun _ _ _ h => h) (Or.inl ⟨by rfl, ?_⟩) hHeld ?_
        rotate_left
        · (intro w hSw; (try dsimp only at hSw); go_simp)
          try with_reducible rfl
        try simp only [Act.put, List.getElem_toArray, List.getElem_cons_zero, List.getElem_cons_succ, List.setIfInBounds_toArray, List.set_cons_zero, List.set_cons_succ]
        refine wpAnyH_take (i := 18) (v := ?_) rfl (by kernel_rfl) (by kernel_rfl) (by kernel_rfl) (fun _ _ _ h => h) (Or.inl ⟨by rfl, ?_⟩) hHeld ?_
        rotate_left
        · (intro w hSw; (try dsimp only at hSw); go_simp)
          try with_reducible rfl
        try simp only [Act.put, List.getElem_toArray, List.getElem_cons_zero, List.getElem_cons_succ, List.setIfInBounds_toArray, List.set_cons_zero, List.set_cons_succ]
        refine wpAnyH_take (i := 19) (v := ?_) rfl (by kernel_rfl) (by kernel_rfl) (by kernel_rfl) (fun _ _ _ h => h) (Or.inl ⟨by rfl, ?_⟩) hHeld ?_
        rotate_left
        · (intro w hSw; (try dsimp only at hSw); go_simp)
          try with_reducible rfl
        try simp only [Act.put, List.getElem_toArray, List.getElem_cons_zero, List.getElem_cons_succ, List.setIfInBounds_toArray, List.set_cons_zero, List.set_cons_succ]
        refine wpAnyH_take (i := 20) (v := ?_) rfl (by kernel_rfl) (by kernel_rfl) (by kernel_rfl) (fun _ _ _ h => h) (Or.inl ⟨by rfl, ?_⟩) hHeld ?_
        rotate_left
        · (intro w hSw; (try dsimp only at hSw); go_simp)
          try with_reducible rfl
        try simp only [Act.put, List.getElem_toArray, List.getElem_cons_zero, List.getElem_cons_succ, List.setIfInBounds_toArray, List.set_cons_zero, List.set_cons_succ]
        refine wpAnyH_take (i := 21) (v := ?_) rfl (by kernel_rfl) (by kernel_rfl) (by kernel_rfl) (fun _ _ _ h => h) (Or.inl ⟨by rfl, ?_⟩) hHeld ?_
        rotate_left
        · (intro w hSw; (try dsimp only at hSw); go_simp)
          try with_reducible rfl
        try simp only [Act.put, List.getElem_toArray, List.getElem_cons_zero, List.getElem_cons_succ, List.setIfInBounds_toArray, List.set_cons_zero, List.set_cons_succ]
        refine wpAnyH_take (i := 22) (v := undef) rfl (by kernel_rfl) (by kernel_rfl) (by kernel_rfl) (fun _ _ _ h => h) (Or.inr ⟨by rfl, rfl⟩) hHeld ?_
        try simp only [Act.put, List.getElem_toArray, List.getElem_cons_zero, List.getElem_cons_succ, List.setIfInBounds_toArray, List.set_cons_zero, List.set_cons_succ]
        refine wpAnyH_take (i := 23) (v := undef) rfl (by kernel_rfl) (by kernel_rfl) (by kernel_rfl) (fun _ _ _ h => h) (Or.inr ⟨by rfl, rfl⟩) hHeld ?_
        try simp only [Act.put, List.getElem_toArray, List.getElem_cons_zero, List.getElem_cons_succ, List.setIfInBounds_toArray, List.set_cons_zero, List.set_cons_succ]
        refine wpAnyH_take (i := 24) (v := undef) rfl (by kernel_rfl) (by kernel_rfl) (by kernel_rfl) (fun _ _ _ h => h) (Or.inr ⟨by rfl, rfl⟩) hHeld ?_
        try simp only [Act.put, List.getElem_toArray, List.getElem_cons_zero, List.getElem_cons_succ, List.setIfInBounds_toArray, List.set_cons_zero, List.set_cons_succ]
        refine wpAnyH_take (i := 25) (v := undef) rfl (by kernel_rfl) (by kernel_rfl) (by kernel_rfl) (fun _ _ _ h => h) (Or.inr ⟨by rfl, rfl⟩) hHeld ?_
        try simp only [Act.put, List.getElem_toArray, List.getElem_cons_zero, List.getElem_cons_succ, List.setIfInBounds_toArray, List.set_cons_zero, List.set_cons_succ]
        refine wpAnyH_take (i := 26) (v := undef) rfl (by kernel_rfl) (by kernel_rfl) (by kernel_rfl) (fun _ _ _ h => h) (Or.inr ⟨by rfl, rfl⟩) hHeld ?_
        try simp only [Act.put, List.getElem_toArray, List.getElem_cons_zero, List.getElem_cons_succ, List.setIfInBounds_toArray, List.set_cons_zero, List.set_cons_succ]
        refine wpAnyH_take (i := 27) (v := undef) rfl (by kernel_rfl) (by kernel_rfl) (by kernel_rfl) (fun _ _ _ h => h) (Or.inr ⟨by rfl, rfl⟩) hHeld ?_
        try simp only [Act.put, List.getElem_toArray, List.getElem_cons_zero, List.getElem_cons_succ, List.setIfInBounds_toArray, List.set_cons_zero, List.set_cons_succ]
        refine wpAnyH_take (i := 28) (v := undef) rfl (by kernel_rfl) (by kernel_rfl) (by kernel_rfl) (fun _ _ _ h => h) (Or.inr ⟨by rfl, rfl⟩) hHeld ?_
        try simp only [Act.put, List.getElem_toArray, List.getElem_cons_zero, List.getElem_cons_succ, List.setIfInBounds_toArray, List.set_cons_zero, List.set_cons_succ]
        refine wpAnyH_take (i := 29) (v := undef) rfl (by kernel_rfl) (by kernel_rfl) (by kernel_rfl) (fun _ _ _ h => h) (Or.inr ⟨by rfl, rfl⟩) hHeld ?_
        try simp only [Act.put, List.getElem_toArray, List.getElem_cons_zero, List.getElem_cons_succ, List.setIfInBounds_toArray, List.set_cons_zero, List.set_cons_succ]
        refine wpAnyH_take (i := 30) (v := ?_) rfl (by kernel_rfl) (by kernel_rfl) (by kernel_rfl) (fun _ _ _ h => h) (Or.inl ⟨by rfl, ?_⟩) hHeld ?_
        rotate_left
        · (intro w hSw; (try dsimp only at hSw); go_simp)
          try with_reducible rfl
        try simp only [Act.put, List.getElem_toArray, List.getElem_cons_zero, List.getElem_cons_succ, List.setIfInBounds_toArray, List.set_cons_zero, List.set_cons_succ]
        refine wpAnyH_take (i := 31) (v := ?_) rfl (by kernel_rfl) (by kernel_rfl) (by kernel_rfl) (fun _ _ _ h => h) (Or.inl ⟨by rfl, ?_⟩) hHeld ?_
        rotate_left
        · (intro w hSw; (try dsimp only at hSw); go_simp)
          try with_reducible rfl
        try simp only [Act.put, List.getElem_toArray, List.getElem_cons_zero, List.getElem_cons_succ, List.setIfInBounds_toArray, List.set_cons_zero, List.set_cons_succ]
        refine wpAnyH_done (by kernel_rfl) ?_ _
        all_goals (go_wp2_with fail; go_meet; exact ⟨rfl, hHeld⟩)
      case rest =>
        obtain ⟨rfl, hcut⟩ := hcut
        have HSc := Lib.hid hcut
        clear HSb hcut
        by_cases ha : ln ≤ 65536
        · by_cases hb : (dl : Int) ≤ 65536
          · have hB3 : decide (2257 < blk k ln dl) = false := by have := blk_small k ln dl ha hb; simp; omega
            obtain ⟨d0, d1, d2, d3, d4, d5, d6, d7, d8, d9, -⟩ := HSc.out
            go_wp2_with fail
            refine (blocks_any _ _ _ _ _ _ _ _ _ _ _ (by omega) (by omega) hk0 hk1 (by omega) (ofR_inv HSc.out).1).mono ?_
            rintro e wz ⟨rfl, hbZ⟩
            have HSd := Lib.hid (keepR HSc.out hbZ)
            clear HSc hbZ d0 d1 d2 d3 d4 d5 d6 d7 d8 d9
            obtain ⟨d0, d1, d2, d3, d4, d5, d6, d7, d8, d9, -⟩ := HSd.out
            go_wp2_with fail
            refine (blocks_any _ _ _ _ _ _ _ _ _ _ _ (by omega) (by omega) hk0 hk1 (by omega) (ofR_inv HSd.out).1).mono ?_
            rintro e wz ⟨rfl, hbZ⟩
            have HSe := Lib.hid (keepR HSd.out hbZ)
            clear HSd hbZ d0 d1 d2 d3 d4 d5 d6 d7 d8 d9
            go_wp2_with fail
            go_roundw
            case rel =>
              obtain ⟨d0, d1, d2, d3, d4, d5, d6, d7, d8, d9, hr⟩ := HSe.out
              exact ⟨j + 1, by omega, by go_num, congrArg (Value.int .u64) HST.out.symm, HDJ.out (by omega), d8, d9, (ofR_inv HSe.out).2.2.1, (ofR_inv HSe.out).2.1⟩
            case measure => simp [intOf]; omega
          · have hb' : (65536 : Int) < (dl : Int) := by omega
            clear hb
            obtain ⟨d0, d1, d2, d3, d4, d5, d6, d7, d8, d9, -⟩ := HSc.out
            go_wp2_with fail
            refine (blocks_any _ _ _ _ _ _ _ _ _ _ _ (by omega) (by omega) hk0 hk1 (by omega) (ofR_inv HSc.out).1).mono ?_
            rintro e wz ⟨rfl, hbZ⟩
            have HSe := Lib.hid (keepR HSc.out hbZ)
            clear HSc hbZ d0 d1 d2 d3 d4 d5 d6 d7 d8 d9
            go_wp2_with fail
            go_roundw
            case rel =>
              obtain ⟨d0, d1, d2, d3, d4, d5, d6, d7, d8, d9, hr⟩ := HSe.out
              exact ⟨j + 1, by omega, by go_num, congrArg (Value.int .u64) HST.out.symm, HDJ.out (by omega), d8, d9, (ofR_inv HSe.out).2.2.1, (ofR_inv HSe.out).2.1⟩
            case measure => simp [intOf]; omega
        · have ha' : (65536 : Int) < ln := by omega
          clear ha
          obtain ⟨d0, d1, d2, d3, d4, d5, d6, d7, d8, d9, -⟩ := HSc.out
          go_wp2_with fail
          refine (blocks_any _ _ _ _ _ _ _ _ _ _ _ (by omega) (by omega) hk0 hk1 (by omega) (ofR_inv HSc.out).1).mono ?_
          rintro e wz ⟨rfl, hbZ⟩
          have HSe := Lib.hid (keepR HSc.out hbZ)
          clear HSc hbZ d0 d1 d2 d3 d4 d5 d6 d7 d8 d9
          go_wp2_with fail
          go_roundw
          case rel =>
            obtain ⟨d0, d1, d2, d3, d4, d5, d6, d7, d8, d9, hr⟩ := HSe.out
            exact ⟨j + 1, by omega, by go_num, congrArg (Value.int .u64) HST.out.symm, HDJ.out (by omega), d8, d9, (ofR_inv HSe.out).2.2.1, (ofR_inv HSe.out).2.1⟩
          case measure => simp [intOf]; omega
    · obtain rfl : j = len := by omega
      have hpm : decide (pg more ≤ pg (more + 1)) = true := by have := pg_mono more (more + 1) (by omega); simpa using this
      have HF2 := Lib.hid (show ∀ i, i < j → ReqAt wr b (o + i * 8) (f i) ∧ (f i).fit ∧ (f i).dl ≤ 1073741824 from fun i hi => ⟨(HF.out i hi).1.below hbwr hbw, (HF.out i hi).2, HDh.out i hi⟩)
      clear hlt hq0 hq1
      go_wp2_with fail
      refine (all_any _ _ _ _ _ _ (by omega) HF2.out (by omega) HT2.out).mono ?_
      rintro e w1 ⟨rfl, hb1⟩
      go_wp2_with fail
      refine (pages_any _ _ (by omega) (by omega)).mono ?_
      rintro e w' ⟨rfl, rfl⟩
      go_wp2_with fail
      refine (pages_any _ _ (by omega) (by omega)).mono ?_
      rintro e w' ⟨rfl, rfl⟩
      go_wp2_with fail
      refine (head_any _ (HT2.out.below hb1)).mono ?_
      rintro e w2 ⟨rfl, hb2⟩
      have hbb : Below w.heap.size w w2 := (hbwr.trans (hb1.mono (by omega))).trans (hb2.mono (by have := hb1.size; omega))
      go_wp2_with fail
      go_ret
      exact ⟨rfl, hbb⟩
end Go.Proofs.YtbmnjcmdiepcbaaDoor.Bd
