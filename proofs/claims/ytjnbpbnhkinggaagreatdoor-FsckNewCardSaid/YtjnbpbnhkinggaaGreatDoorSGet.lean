/- The contract of slot.Get. -/
import Derived.Test.YtjnbpbnhkinggaaGreatDoorSBlank
namespace Go.Proofs.YtjnbpbnhkinggaaGreatDoor.St
open Go.RowKit

/-- What a reader reads. -/
def rv (fine : Bool) (b : List UInt8) (o n : Nat) : Int := if fine then un ((b.drop o).take n) else 0
/-- Where it stands then. -/
def ra (fine : Bool) (o n : Nat) : Nat := if fine then o + n else o
theorem rv_bd (fine : Bool) (b : List UInt8) (o n : Nat) : 0 ≤ rv fine b o n ∧ rv fine b o n < 256 ^ n := by
  unfold rv
  have hp : (0 : Int) < 256 ^ n := Int.pow_pos (by decide)
  split
  · have h := un_bd ((b.drop o).take n)
    have hl : ((b.drop o).take n).length ≤ n := List.length_take_le _ _
    have h2 : (256 : Int) ^ ((b.drop o).take n).length ≤ 256 ^ n := by
      have h3 := Nat.pow_le_pow_right (n := 256) (by decide) hl
      have h4 := Int.ofNat_le.2 h3
      rwa [Int.natCast_pow, Int.natCast_pow] at h4
    exact ⟨h.1, by omega⟩
  · exact ⟨Int.le_refl _, hp⟩
theorem rnum_any (fine : Bool) (q g : Nat) (b : List UInt8) (hl : b.length = 256) (o n : Nat) (hn : n = 1 ∨ n = 2 ∨ n = 4 ∨ n = 8) (ho : o + n ≤ 252) (w : World) (h : Rd w q g b o fine) :
    Calls Tryz.prog 72 #[.pointer (some ⟨q, 0, none⟩), .int .i64 n] w fun e w' => e = .returned (.int .u64 (rv fine b o n)) ∧ Rd w' q g b (ra fine o n : Nat) fine ∧ Fr (fun i => i = q) w w' := by
  cases fine
  · exact rnum_no q g b o n hn w h
  · exact rnum_yes q g b hl o n hn ho w h
/-- Where the words stand. -/
def rp (fine : Bool) (j : Nat) : Nat := if fine then 9 + 4 * j else 1
theorem rp_le (fine : Bool) (j : Nat) : rp fine j ≤ 9 + 4 * j := by unfold rp; split <;> omega
theorem ra_rp (fine : Bool) (j : Nat) : ra fine (rp fine j) 4 = rp fine (j + 1) := by cases fine <;> simp [ra, rp] <;> omega
theorem ra_1 (fine : Bool) : ra fine 1 8 = rp fine 0 := by cases fine <;> rfl
/-- A root, as far as it was read. -/
def got (fine : Bool) (b : List UInt8) (j : Nat) : Rt where
  gen := rv fine b 1 8
  size := if 0 < j then rv fine b (rp fine 0) 4 else 0
  picks := if 1 < j then rv fine b (rp fine 1) 4 else 0
  names := if 2 < j then rv fine b (rp fine 2) 4 else 0
  free := if 3 < j then rv fine b (rp fine 3) 4 else 0
  next := if 4 < j then rv fine b (rp fine 4) 4 else 0
  hint := if 5 < j then rv fine b (rp fine 5) 4 else 0
  vols := if 6 < j then rv fine b (rp fine 6) 1 else 0
def rz : Rt := ⟨0, 0, 0, 0, 0, 0, 0, 0⟩
/-- What slot.Get returns. -/
def gotV (fine : Bool) (b : List UInt8) : Value := if fine && (got fine b 7).may then .tuple #[.agg (got fine b 7).cells, .int .i64 0] else .tuple #[.agg rz.cells, .int .i64 250]
theorem gotV_no (b : List UInt8) : gotV false b = .tuple #[.agg rz.cells, .int .i64 250] := rfl
theorem gotV_may {b : List UInt8} (h : (got true b 7).may = true) : gotV true b = .tuple #[.agg (got true b 7).cells, .int .i64 0] := by unfold gotV; rw [h]; rfl
theorem gotV_not {b : List UInt8} (h : (got true b 7).may = false) : gotV true b = .tuple #[.agg rz.cells, .int .i64 250] := by unfold gotV; rw [h]; rfl

set_option maxRecDepth 100000 in
set_option maxHeartbeats 4000000 in
theorem get_any (b : List UInt8) (hl : b.length = 256) (fine : Bool) (hf : ((sld b == b) && ((b[0]'(by omega)).toNat : Int) == 82) = fine) (hz : fine = true → ∀ i, 34 ≤ i → i < 252 → b.getD i 0 = 0) (w : World) :
    Calls Tryz.prog 68 #[.agg (bA b)] w fun e w' => e = .returned (gotV fine b) ∧ Below w.heap.size w w' := by
  have hmf : ∀ (fn : Fn) (first cap : Array Value) (w : World), (Instr.makeFunc fn first cap).run Tryz.prog w = .ok (.func fn first cap) w := fun _ _ _ _ => rfl
  have HO := Lib.hid (fun X : World => hf ▸ open_any b hl 82 X)
  have HL := Lib.hid hl
  have HZ := Lib.hid hz
  clear hf hl hz
  have HK := Lib.hid (Bk.new w 53 (bA b))
  have hsz : (Tryz.prog.info? 53).map (·.size) = some (bA b).size := by rw [bA_size, HL.out]; exact infoBlock
  generalize hV : bA b = V at *
  have HT0 := Lib.hid (show Bk (((w.alloc (.cells V 53)).alloc (.cells rz.cells 30)).alloc (.cells rz.cells 30)) (w.heap.size + 1) 30 rz.cells from by simpa using (Bk.new (w.alloc (.cells V 53)) 30 rz.cells).alloc (.cells rz.cells 30))
  have HP0 := Lib.hid (show Bk (((w.alloc (.cells V 53)).alloc (.cells rz.cells 30)).alloc (.cells rz.cells 30)) (w.heap.size + 1 + 1) 30 rz.cells from by simpa using Bk.new ((w.alloc (.cells V 53)).alloc (.cells rz.cells 30)) 30 rz.cells)
  have HB0 := Lib.hid (show Below w.heap.size w (((w.alloc (.cells V 53)).alloc (.cells rz.cells 30)).alloc (.cells rz.cells 30)) from (((Below.refl _ _).alloc (Nat.le_refl _) _).alloc (by simp) _).alloc (by simp; omega) _)
  have hs3 : (((w.alloc (.cells V 53)).alloc (.cells rz.cells 30)).alloc (.cells rz.cells 30)).heap.size = w.heap.size + 3 := by simp
  have HS3 := Lib.hid hs3
  clear hs3
  go_enter Tryz.func68, Tryz.ntmps68
  go_wp2_with (refine wpList_load_row rfl 53 _ rfl _ rfl _ V _ _ ((HK.out.alloc _).alloc _) Tryz.underlying53 rfl hsz ?_)
  refine (HO.out _).mono ?_
  rintro e w1 ⟨q, g, rfl, hq, hg, hrd, hb1⟩
  change (((w.alloc (.cells V 53)).alloc (.cells rz.cells 30)).alloc (.cells rz.cells 30)).heap.size ≤ q at hq
  change (((w.alloc (.cells V 53)).alloc (.cells rz.cells 30)).alloc (.cells rz.cells 30)).heap.size ≤ g at hg
  change Below (((w.alloc (.cells V 53)).alloc (.cells rz.cells 30)).alloc (.cells rz.cells 30)).heap.size (((w.alloc (.cells V 53)).alloc (.cells rz.cells 30)).alloc (.cells rz.cells 30)) w1 at hb1
  rw [HS3.out] at hq hg
  have HT1 := Lib.hid (HT0.out.below hb1 HT0.out.lt)
  have HP1 := Lib.hid (HP0.out.below hb1 HP0.out.lt)
  have HB1 := Lib.hid (HB0.out.trans (hb1.mono HB0.out.size))
  have HR1 := Lib.hid hrd
  have hS1 : w.heap.size ≤ w1.heap.size := Nat.le_trans HB0.out.size hb1.size
  clear HT0 HP0 HB0 hrd hb1 HK HS3 HO
  have hqP : q ≠ w.heap.size + 1 + 1 := by omega
  have hgP : g ≠ w.heap.size + 1 + 1 := by omega
  have hTq : ¬ w.heap.size + 1 = q := by omega
  have hPq : ¬ w.heap.size + 1 + 1 = q := by omega
  go_wp2_with fail
  refine (rnum_any fine q g b HL.out 1 8 (by omega) (by omega) w1 HR1.out).mono ?_
  rintro e w2 ⟨rfl, hr2, hf2⟩
  rw [ra_1] at hr2
  have k1 := HT1.out.fr hf2 hTq
  have k2 := HP1.out.fr hf2 hPq
  have k4 := HB1.out.trans (hf2.below hS1 (fun i hi h => by omega))
  have k5 : w.heap.size ≤ w2.heap.size := Nat.le_trans hS1 hf2.size
  have cp : w2.cell? ⟨w.heap.size + 1 + 1, 0, none⟩ = some (.int .u64 0) := k2.cell 0
  have fp : w2.frozen? ⟨w.heap.size + 1 + 1, 0, none⟩ = false := k2.frozen 0
  have k6 : Bk (w2.setCell ⟨w.heap.size + 1 + 1, 0, none⟩ (.int .u64 (rv fine b 1 8))) (w.heap.size + 1 + 1) 30 (got fine b 0).cells := k2.set 0 _
  have k7 := hr2.far (p := ⟨w.heap.size + 1 + 1, 0, none⟩) hqP hgP (.int .u64 (rv fine b 1 8))
  have k8 := k1.far ⟨w.heap.size + 1 + 1, 0, none⟩ (by simp) (.int .u64 (rv fine b 1 8))
  have k10 := k4.setCell (p := ⟨w.heap.size + 1 + 1, 0, none⟩) (by simp; omega) (.int .u64 (rv fine b 1 8))
  have HK2 := Lib.hid (And.intro k7 (And.intro k8 (And.intro k6 k10)))
  have hqs : q < (w2.setCell ⟨w.heap.size + 1 + 1, 0, none⟩ (.int .u64 (rv fine b 1 8))).heap.size := k7.1.lt
  have k5' : w.heap.size ≤ (w2.setCell ⟨w.heap.size + 1 + 1, 0, none⟩ (.int .u64 (rv fine b 1 8))).heap.size := by simpa [World.setCell] using k5
  have hPs := k6.lt
  clear k1 k2 k4 k5 k6 k7 k8 k10 HT1 HP1 HB1 HR1 hr2 hf2
  go_wp2_with fail
  refine (of_any _ _).mono ?_
  rintro e w4 ⟨ob, rfl, hob, hof, hb4⟩
  have HR4 := Lib.hid (HK2.out.1.below hb4)
  have HT4 := Lib.hid (HK2.out.2.1.below hb4 HK2.out.2.1.lt)
  have HP4 := Lib.hid (HK2.out.2.2.1.below hb4 HK2.out.2.2.1.lt)
  have HB4 := Lib.hid (HK2.out.2.2.2.trans (hb4.mono k5'))
  have hS4 : w.heap.size ≤ w4.heap.size := Nat.le_trans k5' hb4.size
  have HOF4 := Lib.hid hof
  have hOq : ¬ ob = q := by omega
  have hoP : ob ≠ w.heap.size + 1 + 1 := by omega
  clear HK2 hof hb4 cp fp k5' hob hqs hPs
  go_wp2_with fail
  go_loopw [18] (fun i wr => ∃ (j : Nat), j ≤ 6 ∧ i = .int .i64 j ∧ Rd wr q g b (rp fine j : Nat) fine ∧ Bk wr (w.heap.size + 1) 30 rz.cells ∧ Bk wr (w.heap.size + 1 + 1) 30 (got fine b j).cells ∧ Bk wr ob 106 (ofC (w.heap.size + 1 + 1)) ∧ Below w.heap.size w wr ∧ w.heap.size ≤ wr.heap.size) (fun i _ => 6 - (intOf i).toNat)
  case atStart => exact ⟨0, by omega, rfl, HR4.out, HT4.out, HP4.out, HOF4.out, HB4.out, hS4⟩
  case round =>
    obtain ⟨j, hj, rfl, hR, hT, hP, hO, hB, hS⟩ := hrel
    have HR := Lib.hid hR
    have HT := Lib.hid hT
    have HP := Lib.hid hP
    have HOF := Lib.hid hO
    have HB := Lib.hid hB
    clear hR hT hP hO hB HR4 HT4 HP4 HOF4 HB4
    have hj' : j = 0 ∨ j = 1 ∨ j = 2 ∨ j = 3 ∨ j = 4 ∨ j = 5 ∨ j = 6 := by omega
    rcases hj' with rfl | rfl | rfl | rfl | rfl | rfl | rfl
    · have cw : wr.cell? ⟨ob, 0, none⟩ = some (.pointer (some ⟨w.heap.size + 1 + 1, 1, none⟩)) := HOF.out.cell 0
      go_wp2_with fail
      refine (rnum_any fine q g b HL.out (rp fine 0) 4 (by omega) (by have := rp_le fine 0; omega) wr HR.out).mono ?_
      rintro e w5 ⟨rfl, hr5, hf5⟩
      rw [ra_rp] at hr5
      have k1 := HT.out.fr hf5 hTq
      have k2 := HP.out.fr hf5 hPq
      have k3 := HOF.out.fr hf5 hOq
      have k4 := HB.out.trans (hf5.below hS (fun i hi h => by omega))
      have k5 : w.heap.size ≤ w5.heap.size := Nat.le_trans hS hf5.size
      clear cw hf5
      have cp : w5.cell? ⟨w.heap.size + 1 + 1, 1, none⟩ = some (.int .u32 0) := k2.cell 1
      have fp : w5.frozen? ⟨w.heap.size + 1 + 1, 1, none⟩ = false := k2.frozen 1
      obtain ⟨b0, b1⟩ := rv_bd fine b (rp fine 0) 4
      have b2 : rv fine b (rp fine 0) 4 ≤ 4294967295 := by omega
      have k6 : Bk (w5.setCell ⟨w.heap.size + 1 + 1, 1, none⟩ (.int .u32 (rv fine b (rp fine 0) 4))) (w.heap.size + 1 + 1) 30 (got fine b 1).cells := k2.set 1 _
      have k7 := hr5.far (p := ⟨w.heap.size + 1 + 1, 1, none⟩) hqP hgP (.int .u32 (rv fine b (rp fine 0) 4))
      have k8 := k1.far ⟨w.heap.size + 1 + 1, 1, none⟩ (by simp) (.int .u32 (rv fine b (rp fine 0) 4))
      have k9 := k3.far ⟨w.heap.size + 1 + 1, 1, none⟩ hoP (.int .u32 (rv fine b (rp fine 0) 4))
      have k10 := k4.setCell (p := ⟨w.heap.size + 1 + 1, 1, none⟩) (by simp; omega) (.int .u32 (rv fine b (rp fine 0) 4))
      have HKK := Lib.hid (And.intro k7 (And.intro k8 (And.intro k6 (And.intro k9 k10))))
      clear k1 k2 k3 k4 hr5 k6 k7 k8 k9 k10 HR HT HP HOF HB b1
      generalize rv fine b (rp fine 0) 4 = x at *
      go_wp2_with fail
      go_roundw
      case rel => exact ⟨1, by omega, rfl, HKK.out.1, HKK.out.2.1, HKK.out.2.2.1, HKK.out.2.2.2.1, HKK.out.2.2.2.2, by simpa [World.setCell] using k5⟩
      case measure => simp [intOf]
    · have cw : wr.cell? ⟨ob, 1, none⟩ = some (.pointer (some ⟨w.heap.size + 1 + 1, 2, none⟩)) := HOF.out.cell 1
      go_wp2_with fail
      refine (rnum_any fine q g b HL.out (rp fine 1) 4 (by omega) (by have := rp_le fine 1; omega) wr HR.out).mono ?_
      rintro e w5 ⟨rfl, hr5, hf5⟩
      rw [ra_rp] at hr5
      have k1 := HT.out.fr hf5 hTq
      have k2 := HP.out.fr hf5 hPq
      have k3 := HOF.out.fr hf5 hOq
      have k4 := HB.out.trans (hf5.below hS (fun i hi h => by omega))
      have k5 : w.heap.size ≤ w5.heap.size := Nat.le_trans hS hf5.size
      clear cw hf5
      have cp : w5.cell? ⟨w.heap.size + 1 + 1, 2, none⟩ = some (.int .u32 0) := k2.cell 2
      have fp : w5.frozen? ⟨w.heap.size + 1 + 1, 2, none⟩ = false := k2.frozen 2
      obtain ⟨b0, b1⟩ := rv_bd fine b (rp fine 1) 4
      have b2 : rv fine b (rp fine 1) 4 ≤ 4294967295 := by omega
      have k6 : Bk (w5.setCell ⟨w.heap.size + 1 + 1, 2, none⟩ (.int .u32 (rv fine b (rp fine 1) 4))) (w.heap.size + 1 + 1) 30 (got fine b 2).cells := k2.set 2 _
      have k7 := hr5.far (p := ⟨w.heap.size + 1 + 1, 2, none⟩) hqP hgP (.int .u32 (rv fine b (rp fine 1) 4))
      have k8 := k1.far ⟨w.heap.size + 1 + 1, 2, none⟩ (by simp) (.int .u32 (rv fine b (rp fine 1) 4))
      have k9 := k3.far ⟨w.heap.size + 1 + 1, 2, none⟩ hoP (.int .u32 (rv fine b (rp fine 1) 4))
      have k10 := k4.setCell (p := ⟨w.heap.size + 1 + 1, 2, none⟩) (by simp; omega) (.int .u32 (rv fine b (rp fine 1) 4))
      have HKK := Lib.hid (And.intro k7 (And.intro k8 (And.intro k6 (And.intro k9 k10))))
      clear k1 k2 k3 k4 hr5 k6 k7 k8 k9 k10 HR HT HP HOF HB b1
      generalize rv fine b (rp fine 1) 4 = x at *
      go_wp2_with fail
      go_roundw
      case rel => exact ⟨2, by omega, rfl, HKK.out.1, HKK.out.2.1, HKK.out.2.2.1, HKK.out.2.2.2.1, HKK.out.2.2.2.2, by simpa [World.setCell] using k5⟩
      case measure => simp [intOf]
    · have cw : wr.cell? ⟨ob, 2, none⟩ = some (.pointer (some ⟨w.heap.size + 1 + 1, 3, none⟩)) := HOF.out.cell 2
      go_wp2_with fail
      refine (rnum_any fine q g b HL.out (rp fine 2) 4 (by omega) (by have := rp_le fine 2; omega) wr HR.out).mono ?_
      rintro e w5 ⟨rfl, hr5, hf5⟩
      rw [ra_rp] at hr5
      have k1 := HT.out.fr hf5 hTq
      have k2 := HP.out.fr hf5 hPq
      have k3 := HOF.out.fr hf5 hOq
      have k4 := HB.out.trans (hf5.below hS (fun i hi h => by omega))
      have k5 : w.heap.size ≤ w5.heap.size := Nat.le_trans hS hf5.size
      clear cw hf5
      have cp : w5.cell? ⟨w.heap.size + 1 + 1, 3, none⟩ = some (.int .u32 0) := k2.cell 3
      have fp : w5.frozen? ⟨w.heap.size + 1 + 1, 3, none⟩ = false := k2.frozen 3
      obtain ⟨b0, b1⟩ := rv_bd fine b (rp fine 2) 4
      have b2 : rv fine b (rp fine 2) 4 ≤ 4294967295 := by omega
      have k6 : Bk (w5.setCell ⟨w.heap.size + 1 + 1, 3, none⟩ (.int .u32 (rv fine b (rp fine 2) 4))) (w.heap.size + 1 + 1) 30 (got fine b 3).cells := k2.set 3 _
      have k7 := hr5.far (p := ⟨w.heap.size + 1 + 1, 3, none⟩) hqP hgP (.int .u32 (rv fine b (rp fine 2) 4))
      have k8 := k1.far ⟨w.heap.size + 1 + 1, 3, none⟩ (by simp) (.int .u32 (rv fine b (rp fine 2) 4))
      have k9 := k3.far ⟨w.heap.size + 1 + 1, 3, none⟩ hoP (.int .u32 (rv fine b (rp fine 2) 4))
      have k10 := k4.setCell (p := ⟨w.heap.size + 1 + 1, 3, none⟩) (by simp; omega) (.int .u32 (rv fine b (rp fine 2) 4))
      have HKK := Lib.hid (And.intro k7 (And.intro k8 (And.intro k6 (And.intro k9 k10))))
      clear k1 k2 k3 k4 hr5 k6 k7 k8 k9 k10 HR HT HP HOF HB b1
      generalize rv fine b (rp fine 2) 4 = x at *
      go_wp2_with fail
      go_roundw
      case rel => exact ⟨3, by omega, rfl, HKK.out.1, HKK.out.2.1, HKK.out.2.2.1, HKK.out.2.2.2.1, HKK.out.2.2.2.2, by simpa [World.setCell] using k5⟩
      case measure => simp [intOf]
    · have cw : wr.cell? ⟨ob, 3, none⟩ = some (.pointer (some ⟨w.heap.size + 1 + 1, 4, none⟩)) := HOF.out.cell 3
      go_wp2_with fail
      refine (rnum_any fine q g b HL.out (rp fine 3) 4 (by omega) (by have := rp_le fine 3; omega) wr HR.out).mono ?_
      rintro e w5 ⟨rfl, hr5, hf5⟩
      rw [ra_rp] at hr5
      have k1 := HT.out.fr hf5 hTq
      have k2 := HP.out.fr hf5 hPq
      have k3 := HOF.out.fr hf5 hOq
      have k4 := HB.out.trans (hf5.below hS (fun i hi h => by omega))
      have k5 : w.heap.size ≤ w5.heap.size := Nat.le_trans hS hf5.size
      clear cw hf5
      have cp : w5.cell? ⟨w.heap.size + 1 + 1, 4, none⟩ = some (.int .u32 0) := k2.cell 4
      have fp : w5.frozen? ⟨w.heap.size + 1 + 1, 4, none⟩ = false := k2.frozen 4
      obtain ⟨b0, b1⟩ := rv_bd fine b (rp fine 3) 4
      have b2 : rv fine b (rp fine 3) 4 ≤ 4294967295 := by omega
      have k6 : Bk (w5.setCell ⟨w.heap.size + 1 + 1, 4, none⟩ (.int .u32 (rv fine b (rp fine 3) 4))) (w.heap.size + 1 + 1) 30 (got fine b 4).cells := k2.set 4 _
      have k7 := hr5.far (p := ⟨w.heap.size + 1 + 1, 4, none⟩) hqP hgP (.int .u32 (rv fine b (rp fine 3) 4))
      have k8 := k1.far ⟨w.heap.size + 1 + 1, 4, none⟩ (by simp) (.int .u32 (rv fine b (rp fine 3) 4))
      have k9 := k3.far ⟨w.heap.size + 1 + 1, 4, none⟩ hoP (.int .u32 (rv fine b (rp fine 3) 4))
      have k10 := k4.setCell (p := ⟨w.heap.size + 1 + 1, 4, none⟩) (by simp; omega) (.int .u32 (rv fine b (rp fine 3) 4))
      have HKK := Lib.hid (And.intro k7 (And.intro k8 (And.intro k6 (And.intro k9 k10))))
      clear k1 k2 k3 k4 hr5 k6 k7 k8 k9 k10 HR HT HP HOF HB b1
      generalize rv fine b (rp fine 3) 4 = x at *
      go_wp2_with fail
      go_roundw
      case rel => exact ⟨4, by omega, rfl, HKK.out.1, HKK.out.2.1, HKK.out.2.2.1, HKK.out.2.2.2.1, HKK.out.2.2.2.2, by simpa [World.setCell] using k5⟩
      case measure => simp [intOf]
    · have cw : wr.cell? ⟨ob, 4, none⟩ = some (.pointer (some ⟨w.heap.size + 1 + 1, 5, none⟩)) := HOF.out.cell 4
      go_wp2_with fail
      refine (rnum_any fine q g b HL.out (rp fine 4) 4 (by omega) (by have := rp_le fine 4; omega) wr HR.out).mono ?_
      rintro e w5 ⟨rfl, hr5, hf5⟩
      rw [ra_rp] at hr5
      have k1 := HT.out.fr hf5 hTq
      have k2 := HP.out.fr hf5 hPq
      have k3 := HOF.out.fr hf5 hOq
      have k4 := HB.out.trans (hf5.below hS (fun i hi h => by omega))
      have k5 : w.heap.size ≤ w5.heap.size := Nat.le_trans hS hf5.size
      clear cw hf5
      have cp : w5.cell? ⟨w.heap.size + 1 + 1, 5, none⟩ = some (.int .u32 0) := k2.cell 5
      have fp : w5.frozen? ⟨w.heap.size + 1 + 1, 5, none⟩ = false := k2.frozen 5
      obtain ⟨b0, b1⟩ := rv_bd fine b (rp fine 4) 4
      have b2 : rv fine b (rp fine 4) 4 ≤ 4294967295 := by omega
      have k6 : Bk (w5.setCell ⟨w.heap.size + 1 + 1, 5, none⟩ (.int .u32 (rv fine b (rp fine 4) 4))) (w.heap.size + 1 + 1) 30 (got fine b 5).cells := k2.set 5 _
      have k7 := hr5.far (p := ⟨w.heap.size + 1 + 1, 5, none⟩) hqP hgP (.int .u32 (rv fine b (rp fine 4) 4))
      have k8 := k1.far ⟨w.heap.size + 1 + 1, 5, none⟩ (by simp) (.int .u32 (rv fine b (rp fine 4) 4))
      have k9 := k3.far ⟨w.heap.size + 1 + 1, 5, none⟩ hoP (.int .u32 (rv fine b (rp fine 4) 4))
      have k10 := k4.setCell (p := ⟨w.heap.size + 1 + 1, 5, none⟩) (by simp; omega) (.int .u32 (rv fine b (rp fine 4) 4))
      have HKK := Lib.hid (And.intro k7 (And.intro k8 (And.intro k6 (And.intro k9 k10))))
      clear k1 k2 k3 k4 hr5 k6 k7 k8 k9 k10 HR HT HP HOF HB b1
      generalize rv fine b (rp fine 4) 4 = x at *
      go_wp2_with fail
      go_roundw
      case rel => exact ⟨5, by omega, rfl, HKK.out.1, HKK.out.2.1, HKK.out.2.2.1, HKK.out.2.2.2.1, HKK.out.2.2.2.2, by simpa [World.setCell] using k5⟩
      case measure => simp [intOf]
    · have cw : wr.cell? ⟨ob, 5, none⟩ = some (.pointer (some ⟨w.heap.size + 1 + 1, 6, none⟩)) := HOF.out.cell 5
      go_wp2_with fail
      refine (rnum_any fine q g b HL.out (rp fine 5) 4 (by omega) (by have := rp_le fine 5; omega) wr HR.out).mono ?_
      rintro e w5 ⟨rfl, hr5, hf5⟩
      rw [ra_rp] at hr5
      have k1 := HT.out.fr hf5 hTq
      have k2 := HP.out.fr hf5 hPq
      have k3 := HOF.out.fr hf5 hOq
      have k4 := HB.out.trans (hf5.below hS (fun i hi h => by omega))
      have k5 : w.heap.size ≤ w5.heap.size := Nat.le_trans hS hf5.size
      clear cw hf5
      have cp : w5.cell? ⟨w.heap.size + 1 + 1, 6, none⟩ = some (.int .u32 0) := k2.cell 6
      have fp : w5.frozen? ⟨w.heap.size + 1 + 1, 6, none⟩ = false := k2.frozen 6
      obtain ⟨b0, b1⟩ := rv_bd fine b (rp fine 5) 4
      have b2 : rv fine b (rp fine 5) 4 ≤ 4294967295 := by omega
      have k6 : Bk (w5.setCell ⟨w.heap.size + 1 + 1, 6, none⟩ (.int .u32 (rv fine b (rp fine 5) 4))) (w.heap.size + 1 + 1) 30 (got fine b 6).cells := k2.set 6 _
      have k7 := hr5.far (p := ⟨w.heap.size + 1 + 1, 6, none⟩) hqP hgP (.int .u32 (rv fine b (rp fine 5) 4))
      have k8 := k1.far ⟨w.heap.size + 1 + 1, 6, none⟩ (by simp) (.int .u32 (rv fine b (rp fine 5) 4))
      have k9 := k3.far ⟨w.heap.size + 1 + 1, 6, none⟩ hoP (.int .u32 (rv fine b (rp fine 5) 4))
      have k10 := k4.setCell (p := ⟨w.heap.size + 1 + 1, 6, none⟩) (by simp; omega) (.int .u32 (rv fine b (rp fine 5) 4))
      have HKK := Lib.hid (And.intro k7 (And.intro k8 (And.intro k6 (And.intro k9 k10))))
      clear k1 k2 k3 k4 hr5 k6 k7 k8 k9 k10 HR HT HP HOF HB b1
      generalize rv fine b (rp fine 5) 4 = x at *
      go_wp2_with fail
      go_roundw
      case rel => exact ⟨6, by omega, rfl, HKK.out.1, HKK.out.2.1, HKK.out.2.2.1, HKK.out.2.2.2.1, HKK.out.2.2.2.2, by simpa [World.setCell] using k5⟩
      case measure => simp [intOf]
    · go_wp2_with fail
      refine (rnum_any fine q g b HL.out (rp fine 6) 1 (by omega) (by have := rp_le fine 6; omega) wr HR.out).mono ?_
      rintro e w5 ⟨rfl, hr5, hf5⟩
      have k1 := HT.out.fr hf5 hTq
      have k2 := HP.out.fr hf5 hPq
      have k4 := HB.out.trans (hf5.below hS (fun i hi h => by omega))
      have k5 : w.heap.size ≤ w5.heap.size := Nat.le_trans hS hf5.size
      clear hf5
      have cp : w5.cell? ⟨w.heap.size + 1 + 1, 7, none⟩ = some (.int .u8 0) := k2.cell 7
      have fp : w5.frozen? ⟨w.heap.size + 1 + 1, 7, none⟩ = false := k2.frozen 7
      obtain ⟨b0, b1⟩ := rv_bd fine b (rp fine 6) 1
      have b2 : rv fine b (rp fine 6) 1 ≤ 255 := by omega
      have k6 : Bk (w5.setCell ⟨w.heap.size + 1 + 1, 7, none⟩ (.int .u8 (rv fine b (rp fine 6) 1))) (w.heap.size + 1 + 1) 30 (got fine b 7).cells := k2.set 7 _
      have k7 := hr5.far (p := ⟨w.heap.size + 1 + 1, 7, none⟩) hqP hgP (.int .u8 (rv fine b (rp fine 6) 1))
      have k8 := k1.far ⟨w.heap.size + 1 + 1, 7, none⟩ (by simp) (.int .u8 (rv fine b (rp fine 6) 1))
      have k10 := k4.setCell (p := ⟨w.heap.size + 1 + 1, 7, none⟩) (by simp; omega) (.int .u8 (rv fine b (rp fine 6) 1))
      have HKR := Lib.hid k7
      have HKT := Lib.hid k8
      have HKP := Lib.hid k6
      have HKB := Lib.hid k10
      have k5' : w.heap.size ≤ (w5.setCell ⟨w.heap.size + 1 + 1, 7, none⟩ (.int .u8 (rv fine b (rp fine 6) 1))).heap.size := by simpa [World.setCell] using k5
      clear k1 k2 k4 hr5 k6 k7 k8 k10 HR HT HP HOF HB b1 k5
      generalize rv fine b (rp fine 6) 1 = x at *
      have hsR : (Tryz.prog.info? 30).map (·.size) = some 8 := by kernel_rfl
      cases fine with
      | false =>
        clear HZ
        go_wp2_with fail
        refine (end_no q g b _ _ HKR.out).mono ?_
        rintro e w6 ⟨rfl, m, rfl⟩
        have HT6 := Lib.hid (HKT.out.drewN m)
        have HB6 := Lib.hid (below_drewN HKB.out m)
        clear HKR HKT HKP HKB
        generalize (w5.setCell _ _).drewN m = w6 at *
        have c0 : w6.cell? ⟨w.heap.size + 1, 0, none⟩ = some (.int .u64 0) := HT6.out.cell 0
        have f0 : w6.frozen? ⟨w.heap.size + 1, 0, none⟩ = false := HT6.out.frozen 0
        have c1 : w6.cell? ⟨w.heap.size + 1, 1, none⟩ = some (.int .u32 0) := HT6.out.cell 1
        have f1 : w6.frozen? ⟨w.heap.size + 1, 1, none⟩ = false := HT6.out.frozen 1
        have c2 : w6.cell? ⟨w.heap.size + 1, 2, none⟩ = some (.int .u32 0) := HT6.out.cell 2
        have f2 : w6.frozen? ⟨w.heap.size + 1, 2, none⟩ = false := HT6.out.frozen 2
        have c3 : w6.cell? ⟨w.heap.size + 1, 3, none⟩ = some (.int .u32 0) := HT6.out.cell 3
        have f3 : w6.frozen? ⟨w.heap.size + 1, 3, none⟩ = false := HT6.out.frozen 3
        have c4 : w6.cell? ⟨w.heap.size + 1, 4, none⟩ = some (.int .u32 0) := HT6.out.cell 4
        have f4 : w6.frozen? ⟨w.heap.size + 1, 4, none⟩ = false := HT6.out.frozen 4
        have c5 : w6.cell? ⟨w.heap.size + 1, 5, none⟩ = some (.int .u32 0) := HT6.out.cell 5
        have f5 : w6.frozen? ⟨w.heap.size + 1, 5, none⟩ = false := HT6.out.frozen 5
        have c6 : w6.cell? ⟨w.heap.size + 1, 6, none⟩ = some (.int .u32 0) := HT6.out.cell 6
        have f6 : w6.frozen? ⟨w.heap.size + 1, 6, none⟩ = false := HT6.out.frozen 6
        have c7 : w6.cell? ⟨w.heap.size + 1, 7, none⟩ = some (.int .u8 0) := HT6.out.cell 7
        have f7 : w6.frozen? ⟨w.heap.size + 1, 7, none⟩ = false := HT6.out.frozen 7
        have HA := Lib.hid ((((((((HT6.out.set 0 (.int .u64 0)).set 1 (.int .u32 0)).set 2 (.int .u32 0)).set 3 (.int .u32 0)).set 4 (.int .u32 0)).set 5 (.int .u32 0)).set 6 (.int .u32 0)).set 7 (.int .u8 0))
        have HBX := Lib.hid ((((((((HB6.out.setCell (p := ⟨w.heap.size + 1, 0, none⟩) (Nat.le_succ _) (.int .u64 0)).setCell (p := ⟨w.heap.size + 1, 1, none⟩) (Nat.le_succ _) (.int .u32 0)).setCell (p := ⟨w.heap.size + 1, 2, none⟩) (Nat.le_succ _) (.int .u32 0)).setCell (p := ⟨w.heap.size + 1, 3, none⟩) (Nat.le_succ _) (.int .u32 0)).setCell (p := ⟨w.heap.size + 1, 4, none⟩) (Nat.le_succ _) (.int .u32 0)).setCell (p := ⟨w.heap.size + 1, 5, none⟩) (Nat.le_succ _) (.int .u32 0)).setCell (p := ⟨w.heap.size + 1, 6, none⟩) (Nat.le_succ _) (.int .u32 0)).setCell (p := ⟨w.heap.size + 1, 7, none⟩) (Nat.le_succ _) (.int .u8 0))
        go_wp2_with fail
        refine bodyPost_ret (results_row_tmp rfl _ _ _ _ _ _ rfl HA.out Tryz.underlying30 rfl hsR) rfl ⟨?_, HBX.out⟩
        rw [gotV_no]
        rfl
      | true =>
        have hEnd := HZ.out rfl
        clear HZ
        go_wp2_with fail
        refine (end_yes q g b HL.out 34 (by omega) hEnd _ HKR.out).mono ?_
        rintro e w6 ⟨rfl, m, rfl⟩
        clear hEnd
        have HT6 := Lib.hid (HKT.out.drewN m)
        have HP6 := Lib.hid (HKP.out.drewN m)
        have HB6 := Lib.hid (below_drewN HKB.out m)
        have hS6 : w.heap.size ≤ ((w5.setCell ⟨w.heap.size + 1 + 1, 7, none⟩ (.int .u8 x)).drewN m).heap.size := k5'
        clear HKR HKT HKP HKB k5'
        generalize (w5.setCell _ _).drewN m = w6 at *
        have HG := Lib.hid (@gotV_may b)
        have HG2 := Lib.hid (@gotV_not b)
        generalize hr : got true b 7 = r at *
        clear hr
        have HM := Lib.hid (fun X : World => may_any r X)
        have p0 : w6.cell? ⟨w.heap.size + 1 + 1, 0, none⟩ = some (.int .u64 r.gen) := HP6.out.cell 0
        have p1 : w6.cell? ⟨w.heap.size + 1 + 1, 1, none⟩ = some (.int .u32 r.size) := HP6.out.cell 1
        have p2 : w6.cell? ⟨w.heap.size + 1 + 1, 2, none⟩ = some (.int .u32 r.picks) := HP6.out.cell 2
        have p3 : w6.cell? ⟨w.heap.size + 1 + 1, 3, none⟩ = some (.int .u32 r.names) := HP6.out.cell 3
        have p4 : w6.cell? ⟨w.heap.size + 1 + 1, 4, none⟩ = some (.int .u32 r.free) := HP6.out.cell 4
        have p5 : w6.cell? ⟨w.heap.size + 1 + 1, 5, none⟩ = some (.int .u32 r.next) := HP6.out.cell 5
        have p6 : w6.cell? ⟨w.heap.size + 1 + 1, 6, none⟩ = some (.int .u32 r.hint) := HP6.out.cell 6
        have p7 : w6.cell? ⟨w.heap.size + 1 + 1, 7, none⟩ = some (.int .u8 r.vols) := HP6.out.cell 7
        go_wp2_with fail
        refine (HM.out _).mono ?_
        rintro e w7 ⟨rfl, hb7⟩
        have HT7 := Lib.hid (HT6.out.below hb7 HT6.out.lt)
        have HP7 := Lib.hid (HP6.out.below hb7 HP6.out.lt)
        have HB7 := Lib.hid (HB6.out.trans (hb7.mono hS6))
        clear HT6 HP6 HB6 hb7 p0 p1 p2 p3 p4 p5 p6 p7 HM
        cases hmay : r.may with
        | true =>
          have HG := Lib.hid (HG.out hmay)
          clear hmay HG2
          have c0 : w7.cell? ⟨w.heap.size + 1, 0, none⟩ = some (.int .u64 0) := HT7.out.cell 0
          have f0 : w7.frozen? ⟨w.heap.size + 1, 0, none⟩ = false := HT7.out.frozen 0
          have c1 : w7.cell? ⟨w.heap.size + 1, 1, none⟩ = some (.int .u32 0) := HT7.out.cell 1
          have f1 : w7.frozen? ⟨w.heap.size + 1, 1, none⟩ = false := HT7.out.frozen 1
          have c2 : w7.cell? ⟨w.heap.size + 1, 2, none⟩ = some (.int .u32 0) := HT7.out.cell 2
          have f2 : w7.frozen? ⟨w.heap.size + 1, 2, none⟩ = false := HT7.out.frozen 2
          have c3 : w7.cell? ⟨w.heap.size + 1, 3, none⟩ = some (.int .u32 0) := HT7.out.cell 3
          have f3 : w7.frozen? ⟨w.heap.size + 1, 3, none⟩ = false := HT7.out.frozen 3
          have c4 : w7.cell? ⟨w.heap.size + 1, 4, none⟩ = some (.int .u32 0) := HT7.out.cell 4
          have f4 : w7.frozen? ⟨w.heap.size + 1, 4, none⟩ = false := HT7.out.frozen 4
          have c5 : w7.cell? ⟨w.heap.size + 1, 5, none⟩ = some (.int .u32 0) := HT7.out.cell 5
          have f5 : w7.frozen? ⟨w.heap.size + 1, 5, none⟩ = false := HT7.out.frozen 5
          have c6 : w7.cell? ⟨w.heap.size + 1, 6, none⟩ = some (.int .u32 0) := HT7.out.cell 6
          have f6 : w7.frozen? ⟨w.heap.size + 1, 6, none⟩ = false := HT7.out.frozen 6
          have c7 : w7.cell? ⟨w.heap.size + 1, 7, none⟩ = some (.int .u8 0) := HT7.out.cell 7
          have f7 : w7.frozen? ⟨w.heap.size + 1, 7, none⟩ = false := HT7.out.frozen 7
          have p0 : w7.cell? ⟨w.heap.size + 1 + 1, 0, none⟩ = some (.int .u64 r.gen) := HP7.out.cell 0
          have p1 : w7.cell? ⟨w.heap.size + 1 + 1, 1, none⟩ = some (.int .u32 r.size) := HP7.out.cell 1
          have p2 : w7.cell? ⟨w.heap.size + 1 + 1, 2, none⟩ = some (.int .u32 r.picks) := HP7.out.cell 2
          have p3 : w7.cell? ⟨w.heap.size + 1 + 1, 3, none⟩ = some (.int .u32 r.names) := HP7.out.cell 3
          have p4 : w7.cell? ⟨w.heap.size + 1 + 1, 4, none⟩ = some (.int .u32 r.free) := HP7.out.cell 4
          have p5 : w7.cell? ⟨w.heap.size + 1 + 1, 5, none⟩ = some (.int .u32 r.next) := HP7.out.cell 5
          have p6 : w7.cell? ⟨w.heap.size + 1 + 1, 6, none⟩ = some (.int .u32 r.hint) := HP7.out.cell 6
          have p7 : w7.cell? ⟨w.heap.size + 1 + 1, 7, none⟩ = some (.int .u8 r.vols) := HP7.out.cell 7
          have HA := Lib.hid ((((((((HT7.out.set 0 (.int .u64 r.gen)).set 1 (.int .u32 r.size)).set 2 (.int .u32 r.picks)).set 3 (.int .u32 r.names)).set 4 (.int .u32 r.free)).set 5 (.int .u32 r.next)).set 6 (.int .u32 r.hint)).set 7 (.int .u8 r.vols))
          have HBX := Lib.hid ((((((((HB7.out.setCell (p := ⟨w.heap.size + 1, 0, none⟩) (Nat.le_succ _) (.int .u64 r.gen)).setCell (p := ⟨w.heap.size + 1, 1, none⟩) (Nat.le_succ _) (.int .u32 r.size)).setCell (p := ⟨w.heap.size + 1, 2, none⟩) (Nat.le_succ _) (.int .u32 r.picks)).setCell (p := ⟨w.heap.size + 1, 3, none⟩) (Nat.le_succ _) (.int .u32 r.names)).setCell (p := ⟨w.heap.size + 1, 4, none⟩) (Nat.le_succ _) (.int .u32 r.free)).setCell (p := ⟨w.heap.size + 1, 5, none⟩) (Nat.le_succ _) (.int .u32 r.next)).setCell (p := ⟨w.heap.size + 1, 6, none⟩) (Nat.le_succ _) (.int .u32 r.hint)).setCell (p := ⟨w.heap.size + 1, 7, none⟩) (Nat.le_succ _) (.int .u8 r.vols))
          go_wp2_with fail
          refine bodyPost_ret (results_row_tmp rfl _ _ _ _ _ _ rfl HA.out Tryz.underlying30 rfl hsR) rfl ⟨?_, HBX.out⟩
          rw [HG.out]
          rfl
        | false =>
          have HG := Lib.hid (HG2.out hmay)
          clear hmay HG2
          have c0 : w7.cell? ⟨w.heap.size + 1, 0, none⟩ = some (.int .u64 0) := HT7.out.cell 0
          have f0 : w7.frozen? ⟨w.heap.size + 1, 0, none⟩ = false := HT7.out.frozen 0
          have c1 : w7.cell? ⟨w.heap.size + 1, 1, none⟩ = some (.int .u32 0) := HT7.out.cell 1
          have f1 : w7.frozen? ⟨w.heap.size + 1, 1, none⟩ = false := HT7.out.frozen 1
          have c2 : w7.cell? ⟨w.heap.size + 1, 2, none⟩ = some (.int .u32 0) := HT7.out.cell 2
          have f2 : w7.frozen? ⟨w.heap.size + 1, 2, none⟩ = false := HT7.out.frozen 2
          have c3 : w7.cell? ⟨w.heap.size + 1, 3, none⟩ = some (.int .u32 0) := HT7.out.cell 3
          have f3 : w7.frozen? ⟨w.heap.size + 1, 3, none⟩ = false := HT7.out.frozen 3
          have c4 : w7.cell? ⟨w.heap.size + 1, 4, none⟩ = some (.int .u32 0) := HT7.out.cell 4
          have f4 : w7.frozen? ⟨w.heap.size + 1, 4, none⟩ = false := HT7.out.frozen 4
          have c5 : w7.cell? ⟨w.heap.size + 1, 5, none⟩ = some (.int .u32 0) := HT7.out.cell 5
          have f5 : w7.frozen? ⟨w.heap.size + 1, 5, none⟩ = false := HT7.out.frozen 5
          have c6 : w7.cell? ⟨w.heap.size + 1, 6, none⟩ = some (.int .u32 0) := HT7.out.cell 6
          have f6 : w7.frozen? ⟨w.heap.size + 1, 6, none⟩ = false := HT7.out.frozen 6
          have c7 : w7.cell? ⟨w.heap.size + 1, 7, none⟩ = some (.int .u8 0) := HT7.out.cell 7
          have f7 : w7.frozen? ⟨w.heap.size + 1, 7, none⟩ = false := HT7.out.frozen 7
          have HA := Lib.hid ((((((((HT7.out.set 0 (.int .u64 0)).set 1 (.int .u32 0)).set 2 (.int .u32 0)).set 3 (.int .u32 0)).set 4 (.int .u32 0)).set 5 (.int .u32 0)).set 6 (.int .u32 0)).set 7 (.int .u8 0))
          have HBX := Lib.hid ((((((((HB7.out.setCell (p := ⟨w.heap.size + 1, 0, none⟩) (Nat.le_succ _) (.int .u64 0)).setCell (p := ⟨w.heap.size + 1, 1, none⟩) (Nat.le_succ _) (.int .u32 0)).setCell (p := ⟨w.heap.size + 1, 2, none⟩) (Nat.le_succ _) (.int .u32 0)).setCell (p := ⟨w.heap.size + 1, 3, none⟩) (Nat.le_succ _) (.int .u32 0)).setCell (p := ⟨w.heap.size + 1, 4, none⟩) (Nat.le_succ _) (.int .u32 0)).setCell (p := ⟨w.heap.size + 1, 5, none⟩) (Nat.le_succ _) (.int .u32 0)).setCell (p := ⟨w.heap.size + 1, 6, none⟩) (Nat.le_succ _) (.int .u32 0)).setCell (p := ⟨w.heap.size + 1, 7, none⟩) (Nat.le_succ _) (.int .u8 0))
          go_wp2_with fail
          refine bodyPost_ret (results_row_tmp rfl _ _ _ _ _ _ rfl HA.out Tryz.underlying30 rfl hsR) rfl ⟨?_, HBX.out⟩
          rw [HG.out]
          rfl
end Go.Proofs.YtjnbpbnhkinggaaGreatDoor.St
