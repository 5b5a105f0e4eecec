/- The contract of card.Get, of a block of zeros. -/
import Derived.Test.YtjnbpbnhkinggaaGreatDoorKCard
namespace Go.Proofs.YtjnbpbnhkinggaaGreatDoor.St
open Go.RowKit

set_option maxRecDepth 100000 in
theorem openz (w : World) : Calls Tryz.prog 71 #[.agg (bA zb), .int .u8 67] w fun e w' =>
    ∃ q g, e = .returned (.pointer (some ⟨q, 0, none⟩)) ∧ w.heap.size ≤ q ∧ w.heap.size ≤ g ∧ Rd w' q g zb 1 false ∧ Below w.heap.size w w' := by
  have h := open_any zb zb_length 67 w
  have e : ((sld zb == zb) && ((zb[0]'(by rw [zb_length]; omega)).toNat : Int) == ((67 : UInt8).toNat : Int)) = false := by
    have : (((zb[0]'(by rw [zb_length]; omega)).toNat : Int) == ((67 : UInt8).toNat : Int)) = false := by decide
    rw [this, Bool.and_false]
  rw [e] at h
  exact h
theorem cz_info : (Tryz.prog.info? 132).map (·.size) = some czC.size := by kernel_rfl
theorem cz_one : czC.all (·.oneCell') = true := by kernel_rfl
theorem cz_built : Tryz.prog.built 132 [] = some czC := by kernel_rfl
theorem cz_built0 : Tryz.prog.built 132 [(0, .string ⟨#[]⟩)] = some czC := by kernel_rfl
set_option maxRecDepth 100000 in
set_option maxHeartbeats 1000000 in
theorem cget_zb (w : World) : Calls Tryz.prog 58 #[.agg (bA zb)] w fun e w' => e = .returned (.tuple #[.agg czC, .int .i64 250]) ∧ Below w.heap.size w w' := by
  have hszV : (Tryz.prog.info? 53).map (·.size) = some (bA zb).size := by rw [bA_size, zb_length]; exact infoBlock
  have HO := Lib.hid (fun X => openz X)
  have hB1 := (Below.refl w.heap.size w).alloc (Nat.le_refl _) (.cells (bA zb) 53)
  have hB2 := hB1.alloc hB1.size (.cells czC 132)
  have HV := Lib.hid ((Bk.new w 53 (bA zb)).alloc (.cells czC 132))
  have hC := Bk.new (w.alloc (.cells (bA zb) 53)) 132 czC
  rw [size_alloc] at hC
  have HC := Lib.hid hC
  have HB := Lib.hid hB2
  clear hB1 hB2 hC
  generalize bA zb = BV at *
  go_enter Tryz.func58, Tryz.ntmps58
  go_wp2_with (refine wpList_load_row rfl 53 _ rfl _ rfl _ BV _ _ HV.out Tryz.underlying53 rfl hszV ?_)
  refine (HO.out _).mono ?_
  rintro e w1 ⟨q, g, rfl, hq, hg, hR, hb1⟩
  have HR1 := Lib.hid hR
  have HC1 := Lib.hid (HC.out.below hb1 HC.out.lt)
  have HB1 := Lib.hid (HB.out.trans (hb1.mono HB.out.size))
  rw [size_alloc, size_alloc] at hq hg
  clear hR hb1 HV HC HB HO
  go_wp2_with fail
  refine (text_no q g zb 1 _ HR1.out).mono ?_
  rintro e w2 ⟨rfl, hR2, hF2⟩
  have hA := (Below.refl w2.heap.size w2).alloc (Nat.le_refl _) (.cells czC 132)
  have HR2 := Lib.hid (hR2.below hA)
  have hC2 := HC1.out.fr hF2 (by omega)
  have HC2 := Lib.hid (hC2.below hA hC2.lt)
  have hB2 := HB1.out.trans (hF2.below HB1.out.size (fun i hi e => by omega))
  have HB2 := Lib.hid (hB2.trans (hA.mono hB2.size))
  have HK2 := Lib.hid (Bk.new w2 132 czC)
  have h2s := Nat.le_trans HB1.out.size hF2.size
  have hw2 : w.heap.size + 1 < w2.heap.size := hC2.lt
  clear hR2 hF2 hA hC2 hB2 HR1 HC1 HB1
  simp only [czC] at HR2 HC2 HB2 HK2
  go_wp2_with fail
  generalize w2.alloc (.cells #[.string ⟨#[]⟩, .int .u32 0, .int .u32 0, .int .u32 0, .int .u32 0, .int .u32 0, .int .u32 0, .int .u32 0, .bool false] 132) = X2 at *
  generalize w2.heap.size = p5 at *
  refine (cwords_any p5 _).mono ?_
  rintro e w3 ⟨rfl, hb3⟩
  have HR3 := Lib.hid (HR2.out.below hb3)
  have HC3 := Lib.hid (HC2.out.below hb3 HC2.out.lt)
  have HK3 := Lib.hid (HK2.out.below hb3 HK2.out.lt)
  have HB3 := Lib.hid (HB2.out.trans (hb3.mono HB2.out.size))
  clear hb3 HR2 HC2 HK2 HB2
  go_wp2_with fail
  refine (fill_no q g p5 zb 1 _ HR3.out HK3.out).mono ?_
  rintro e w4 ⟨rfl, hR4, hK4, hF4⟩
  have HR4 := Lib.hid hR4
  have HK4 := Lib.hid hK4
  have HC4 := Lib.hid (HC3.out.fr hF4 (by omega))
  have HB4 := Lib.hid (HB3.out.trans (hF4.below HB3.out.size (fun i hi e => by omega)))
  clear hR4 hK4 hF4 HR3 HK3 HC3 HB3
  go_wp2_with fail
  refine (rnum_no q g zb 1 1 (by omega) _ HR4.out).mono ?_
  rintro e w5 ⟨rfl, hR5, hF5⟩
  have hpq : p5 ≠ q := bk_ne HK4.out HR4.out.1 (by decide)
  have hpg : g ≠ p5 := bk_ne HR4.out.2 HK4.out (by decide)
  have k5 := HK4.out.fr hF5 hpq
  have d8 : w5.cell? ⟨p5, 8, none⟩ = some (.bool false) := k5.cell 8
  have g8 : w5.frozen? ⟨p5, 8, none⟩ = false := k5.frozen 8
  have HR5 := Lib.hid (hR5.far (p := ⟨p5, 8, none⟩) (Ne.symm hpq) hpg (.bool false))
  have hC5 := (HC4.out.fr hF5 (by omega)).far ⟨p5, 8, none⟩ (by show w.heap.size + 1 ≠ p5; omega) (.bool false)
  have hB5 := (HB4.out.trans (hF5.below HB4.out.size (fun i hi e => by omega))).setCell (p := ⟨p5, 8, none⟩) (by show w.heap.size ≤ p5; omega) (.bool false)
  have HC5 := Lib.hid hC5
  have HB5 := Lib.hid hB5
  clear hR5 hF5 k5 hC5 hB5 HR4 HK4 HC4 HB4
  go_wp2_with fail
  refine (end_no q g zb 1 _ HR5.out).mono ?_
  rintro e w6 ⟨rfl, mm, rfl⟩
  have hC6 := HC5.out.drewN mm
  have hth := hC6.there czC.size (Nat.le_refl 9)
  have kR := hC6.all czC.toList rfl
  rw [Array.toArray_toList] at kR
  have HE := Lib.hid (And.intro kR (below_setCells (w.heap.size + 1) (by omega) czC.toList (below_drewN HB5.out mm) 0))
  clear hC6 kR HR5 HC5 HB5 d8 g8
  generalize ((w5.setCell ⟨p5, 8, none⟩ (.bool false)).drewN mm) = X6 at *
  have HBU := Lib.hid cz_built
  have hci := cz_info
  have hc1 := cz_one
  generalize hcz : czC = CV at *
  have HCZ := Lib.hid hcz
  clear hcz
  go_wp2_with (first | (refine wpList_built rfl 132 _ rfl [] rfl CV HBU.out ?_) | (refine wpList_store_mid rfl 132 _ _ rfl (w.heap.size + 1) 0 CV rfl rfl hth hci hc1 ?_; generalize X6.setCells (w.heap.size + 1) 0 CV.toList = w7 at *))
  refine bodyPost_ret (results_row_tmp rfl _ _ (w.heap.size + 1) _ CV _ rfl HE.out.1 Tryz.underlying132 rfl hci) rfl ⟨by rw [HCZ.out]; rfl, HE.out.2⟩
end Go.Proofs.YtjnbpbnhkinggaaGreatDoor.St
