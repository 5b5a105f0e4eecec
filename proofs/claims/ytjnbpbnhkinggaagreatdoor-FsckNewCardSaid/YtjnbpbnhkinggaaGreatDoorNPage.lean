/- Contracts of count.page, of pages of zeros. -/
import Derived.Test.YtjnbpbnhkinggaaGreatDoorTGet
namespace Go.Proofs.YtjnbpbnhkinggaaGreatDoor.St
open Go.RowKit

/-- A table's cells. -/
def tbC (d mp mt ms : Nat) (r : Rt) (n : Int) : Array Value := #[.pointer (some ⟨d, 0, none⟩), .int .u64 r.gen, .int .u32 r.size, .int .u32 r.picks, .int .u32 r.names, .int .u32 r.free, .int .u32 r.next, .int .u32 r.hint, .int .u8 r.vols, .int .u32 (tal n), .int .u32 (pic n), .int .u32 (fst n), .map (some mp), .map (some mt), .map (some ms)]
/-- A map that holds pages of zeros alone. -/
def Zs (C : Int → Array Value) (f : Int → Option Value) : Prop := ∀ i, f i = none ∨ f i = some (.agg (C i))
theorem Zs.put {C : Int → Array Value} {f : Int → Option Value} (h : Zs C f) (i : Int) : Zs C (fput f i (some (.agg (C i)))) := by
  intro j
  unfold fput
  by_cases e : j = i
  · subst e; rw [if_pos rfl]; exact Or.inr rfl
  · rw [if_neg e]; exact h j
theorem zeroPick (w : World) : (zeroValue 204).run Tryz.prog w = .ok (.agg (pkC 0)) w := by kernel_rfl
theorem zeroTally (w : World) : (zeroValue 182).run Tryz.prog w = .ok (.agg (tyC 0)) w := by rw [← ty_zero]; kernel_rfl
set_option maxRecDepth 100000 in
set_option maxHeartbeats 1000000 in
theorem page_pk_yes (t mp np : Nat) (at_ i : Int) (h0 : 0 ≤ i) (h1 : i < 16) (f : Int → Option Value) (hf : f i = some (.agg (pkC i))) (fv : Value) (w : World) (hM : Mp w mp np f) :
    Calls Tryz.prog 117 #[.pointer (some ⟨t, 0, none⟩), .map (some mp), .int .u32 at_, .int .u32 i, fv] w fun e w' => e = .returned (.tuple #[.agg (pkC i), .int .i64 0]) ∧ Below w.heap.size w w' := by
  have hs := pkC_info i
  have hs1 := pkC_one i
  have HSZ := Lib.hid (show (pkC i).size = 17 from pkC_size i)
  have hZ : (#[.int .u32 0, .int .u64 0, .int .u64 0, .int .u64 0, .int .u64 0, .int .u64 0, .int .u64 0, .int .u64 0, .int .u64 0, .int .u64 0, .int .u64 0, .int .u64 0, .int .u64 0, .int .u64 0, .int .u64 0, .int .u64 0, .int .u64 0] : Array Value).size = 17 := by rfl
  have HZ := Lib.hid hZ
  have hzs : (Tryz.prog.info? 204).map (·.size) = some (#[.int .u32 0, .int .u64 0, .int .u64 0, .int .u64 0, .int .u64 0, .int .u64 0, .int .u64 0, .int .u64 0, .int .u64 0, .int .u64 0, .int .u64 0, .int .u64 0, .int .u64 0, .int .u64 0, .int .u64 0, .int .u64 0, .int .u64 0] : Array Value).size := by kernel_rfl
  have hzs1 : (#[.int .u32 0, .int .u64 0, .int .u64 0, .int .u64 0, .int .u64 0, .int .u64 0, .int .u64 0, .int .u64 0, .int .u64 0, .int .u64 0, .int .u64 0, .int .u64 0, .int .u64 0, .int .u64 0, .int .u64 0, .int .u64 0, .int .u64 0] : Array Value).all (·.oneCell') = true := by kernel_rfl
  have hB1 := (Below.refl w.heap.size w).alloc (Nat.le_refl _) (.cells #[.int .u32 0, .int .u64 0, .int .u64 0, .int .u64 0, .int .u64 0, .int .u64 0, .int .u64 0, .int .u64 0, .int .u64 0, .int .u64 0, .int .u64 0, .int .u64 0, .int .u64 0, .int .u64 0, .int .u64 0, .int .u64 0, .int .u64 0] 204)
  have kR := Bk.new w 204 #[.int .u32 0, .int .u64 0, .int .u64 0, .int .u64 0, .int .u64 0, .int .u64 0, .int .u64 0, .int .u64 0, .int .u64 0, .int .u64 0, .int .u64 0, .int .u64 0, .int .u64 0, .int .u64 0, .int .u64 0, .int .u64 0, .int .u64 0]
  have hlk := (hM.alloc (.cells #[.int .u32 0, .int .u64 0, .int .u64 0, .int .u64 0, .int .u64 0, .int .u64 0, .int .u64 0, .int .u64 0, .int .u64 0, .int .u64 0, .int .u64 0, .int .u64 0, .int .u64 0, .int .u64 0, .int .u64 0, .int .u64 0, .int .u64 0] 204)).look_ok (t := 151) Tryz.underlying151 (zeroPick _) h0 (by omega)
  rw [hf] at hlk
  simp only [Option.getD_some, Option.isSome_some] at hlk
  clear hf hM
  generalize pkC i = CV at *
  have k2 := Bk.new (w.alloc (.cells #[.int .u32 0, .int .u64 0, .int .u64 0, .int .u64 0, .int .u64 0, .int .u64 0, .int .u64 0, .int .u64 0, .int .u64 0, .int .u64 0, .int .u64 0, .int .u64 0, .int .u64 0, .int .u64 0, .int .u64 0, .int .u64 0, .int .u64 0] 204)) 204 #[.int .u32 0, .int .u64 0, .int .u64 0, .int .u64 0, .int .u64 0, .int .u64 0, .int .u64 0, .int .u64 0, .int .u64 0, .int .u64 0, .int .u64 0, .int .u64 0, .int .u64 0, .int .u64 0, .int .u64 0, .int .u64 0, .int .u64 0]
  simp only [size_alloc] at k2
  have hth := k2.there CV.size (by rw [HSZ.out, hZ]; exact Nat.le_refl _)
  have k3 := k2.all CV.toList (by rw [Array.length_toList, HSZ.out, hZ])
  rw [Array.toArray_toList] at k3
  have kR2 := Bk.farCells (w.heap.size + 1) (by omega) CV.toList (kR.alloc (.cells #[.int .u32 0, .int .u64 0, .int .u64 0, .int .u64 0, .int .u64 0, .int .u64 0, .int .u64 0, .int .u64 0, .int .u64 0, .int .u64 0, .int .u64 0, .int .u64 0, .int .u64 0, .int .u64 0, .int .u64 0, .int .u64 0, .int .u64 0] 204)) 0
  have hB2 := below_setCells (w.heap.size + 1) (by omega) CV.toList (hB1.alloc hB1.size (.cells #[.int .u32 0, .int .u64 0, .int .u64 0, .int .u64 0, .int .u64 0, .int .u64 0, .int .u64 0, .int .u64 0, .int .u64 0, .int .u64 0, .int .u64 0, .int .u64 0, .int .u64 0, .int .u64 0, .int .u64 0, .int .u64 0, .int .u64 0] 204)) 0
  have hthR := kR2.there CV.size (by rw [HSZ.out, hZ]; exact Nat.le_refl _)
  have kR3 := kR2.all CV.toList (by rw [Array.length_toList, HSZ.out, hZ])
  rw [Array.toArray_toList] at kR3
  have hB3 := below_setCells w.heap.size (Nat.le_refl _) CV.toList hB2 0
  have HK3 := Lib.hid k3
  have HE := Lib.hid (And.intro kR3 hB3)
  clear k2 k3 kR kR2 kR3 hB1 hB2 hB3 hZ
  go_enter Tryz.func117, Tryz.ntmps117
  go_wp2_with (first | (refine wpList_store_mid rfl 204 _ _ rfl (w.heap.size + 1) 0 CV rfl rfl hth hs hs1 ?_; generalize ((w.alloc (.cells #[.int .u32 0, .int .u64 0, .int .u64 0, .int .u64 0, .int .u64 0, .int .u64 0, .int .u64 0, .int .u64 0, .int .u64 0, .int .u64 0, .int .u64 0, .int .u64 0, .int .u64 0, .int .u64 0, .int .u64 0, .int .u64 0, .int .u64 0] 204)).alloc (.cells #[.int .u32 0, .int .u64 0, .int .u64 0, .int .u64 0, .int .u64 0, .int .u64 0, .int .u64 0, .int .u64 0, .int .u64 0, .int .u64 0, .int .u64 0, .int .u64 0, .int .u64 0, .int .u64 0, .int .u64 0, .int .u64 0, .int .u64 0] 204)).setCells (w.heap.size + 1) 0 CV.toList = Y at *) | (refine wpList_load_row rfl 204 _ rfl _ rfl _ CV _ _ HK3.out Tryz.underlying204 rfl hs ?_) | (refine wpList_store_mid rfl 204 _ _ rfl w.heap.size 0 CV rfl rfl hthR hs hs1 ?_; generalize Y.setCells w.heap.size 0 CV.toList = Y2 at *))
  refine bodyPost_ret (results_row_tmp rfl _ _ w.heap.size _ CV _ rfl HE.out.1 Tryz.underlying204 rfl hs) rfl ⟨rfl, HE.out.2⟩
set_option maxRecDepth 100000 in
set_option maxHeartbeats 1000000 in
theorem page_pk_no (t d m k mp np : Nat) (n wt : Int) (g : Int → List UInt8) (at_ i : Int) (h0 : 0 ≤ i) (h1 : i < 16) (ha : 0 ≤ at_) (ha1 : at_ < n) (hg : g at_ = zb) (hnp : np < 100000000) (f : Int → Option Value) (hf : f i = none) (w : World) (hc : w.cell? ⟨t, 0, none⟩ = some (.pointer (some ⟨d, 0, none⟩))) (htl : t < w.heap.size) (hD : Dv w d m k n wt g) (hM : Mp w mp np f) :
    Calls Tryz.prog 117 #[.pointer (some ⟨t, 0, none⟩), .map (some mp), .int .u32 at_, .int .u32 i, .func (.func 119) #[] #[]] w fun e w' => e = .returned (.tuple #[.agg (pkC i), .int .i64 0]) ∧ Mp w' mp (np + 1) (fput f i (some (.agg (pkC i)))) ∧ Fr (fun i => i = mp) w w' := by
  have hs := pkC_info i
  have hs1 := pkC_one i
  have HSZ := Lib.hid (show (pkC i).size = 17 from pkC_size i)
  have hZ : (#[.int .u32 0, .int .u64 0, .int .u64 0, .int .u64 0, .int .u64 0, .int .u64 0, .int .u64 0, .int .u64 0, .int .u64 0, .int .u64 0, .int .u64 0, .int .u64 0, .int .u64 0, .int .u64 0, .int .u64 0, .int .u64 0, .int .u64 0] : Array Value).size = 17 := by rfl
  have HZ := Lib.hid hZ
  have hzs : (Tryz.prog.info? 204).map (·.size) = some (#[.int .u32 0, .int .u64 0, .int .u64 0, .int .u64 0, .int .u64 0, .int .u64 0, .int .u64 0, .int .u64 0, .int .u64 0, .int .u64 0, .int .u64 0, .int .u64 0, .int .u64 0, .int .u64 0, .int .u64 0, .int .u64 0, .int .u64 0] : Array Value).size := by kernel_rfl
  have hzs1 : (#[.int .u32 0, .int .u64 0, .int .u64 0, .int .u64 0, .int .u64 0, .int .u64 0, .int .u64 0, .int .u64 0, .int .u64 0, .int .u64 0, .int .u64 0, .int .u64 0, .int .u64 0, .int .u64 0, .int .u64 0, .int .u64 0, .int .u64 0] : Array Value).all (·.oneCell') = true := by kernel_rfl
  have hB1 := (Below.refl w.heap.size w).alloc (Nat.le_refl _) (.cells #[.int .u32 0, .int .u64 0, .int .u64 0, .int .u64 0, .int .u64 0, .int .u64 0, .int .u64 0, .int .u64 0, .int .u64 0, .int .u64 0, .int .u64 0, .int .u64 0, .int .u64 0, .int .u64 0, .int .u64 0, .int .u64 0, .int .u64 0] 204)
  have kR := Bk.new w 204 #[.int .u32 0, .int .u64 0, .int .u64 0, .int .u64 0, .int .u64 0, .int .u64 0, .int .u64 0, .int .u64 0, .int .u64 0, .int .u64 0, .int .u64 0, .int .u64 0, .int .u64 0, .int .u64 0, .int .u64 0, .int .u64 0, .int .u64 0]
  have hlk := (hM.alloc (.cells #[.int .u32 0, .int .u64 0, .int .u64 0, .int .u64 0, .int .u64 0, .int .u64 0, .int .u64 0, .int .u64 0, .int .u64 0, .int .u64 0, .int .u64 0, .int .u64 0, .int .u64 0, .int .u64 0, .int .u64 0, .int .u64 0, .int .u64 0] 204)).look_ok (t := 151) Tryz.underlying151 (zeroPick _) h0 (by omega)
  rw [hf] at hlk
  simp only [Option.getD_none, Option.isSome_none] at hlk
  have hzq : (pkC 0 : Array Value) = #[.int .u32 0, .int .u64 0, .int .u64 0, .int .u64 0, .int .u64 0, .int .u64 0, .int .u64 0, .int .u64 0, .int .u64 0, .int .u64 0, .int .u64 0, .int .u64 0, .int .u64 0, .int .u64 0, .int .u64 0, .int .u64 0, .int .u64 0] := rfl
  rw [hzq] at hlk
  have k2 := Bk.new (w.alloc (.cells #[.int .u32 0, .int .u64 0, .int .u64 0, .int .u64 0, .int .u64 0, .int .u64 0, .int .u64 0, .int .u64 0, .int .u64 0, .int .u64 0, .int .u64 0, .int .u64 0, .int .u64 0, .int .u64 0, .int .u64 0, .int .u64 0, .int .u64 0] 204)) 204 #[.int .u32 0, .int .u64 0, .int .u64 0, .int .u64 0, .int .u64 0, .int .u64 0, .int .u64 0, .int .u64 0, .int .u64 0, .int .u64 0, .int .u64 0, .int .u64 0, .int .u64 0, .int .u64 0, .int .u64 0, .int .u64 0, .int .u64 0]
  simp only [size_alloc] at k2
  have hth := k2.there (#[.int .u32 0, .int .u64 0, .int .u64 0, .int .u64 0, .int .u64 0, .int .u64 0, .int .u64 0, .int .u64 0, .int .u64 0, .int .u64 0, .int .u64 0, .int .u64 0, .int .u64 0, .int .u64 0, .int .u64 0, .int .u64 0, .int .u64 0] : Array Value).size (Nat.le_refl _)
  have hB2 := below_setCells (w.heap.size + 1) (by omega) (#[.int .u32 0, .int .u64 0, .int .u64 0, .int .u64 0, .int .u64 0, .int .u64 0, .int .u64 0, .int .u64 0, .int .u64 0, .int .u64 0, .int .u64 0, .int .u64 0, .int .u64 0, .int .u64 0, .int .u64 0, .int .u64 0, .int .u64 0] : Array Value).toList (hB1.alloc hB1.size (.cells #[.int .u32 0, .int .u64 0, .int .u64 0, .int .u64 0, .int .u64 0, .int .u64 0, .int .u64 0, .int .u64 0, .int .u64 0, .int .u64 0, .int .u64 0, .int .u64 0, .int .u64 0, .int .u64 0, .int .u64 0, .int .u64 0, .int .u64 0] 204)) 0
  have HR2 := Lib.hid (Bk.farCells (w.heap.size + 1) (by omega) (#[.int .u32 0, .int .u64 0, .int .u64 0, .int .u64 0, .int .u64 0, .int .u64 0, .int .u64 0, .int .u64 0, .int .u64 0, .int .u64 0, .int .u64 0, .int .u64 0, .int .u64 0, .int .u64 0, .int .u64 0, .int .u64 0, .int .u64 0] : Array Value).toList (kR.alloc (.cells #[.int .u32 0, .int .u64 0, .int .u64 0, .int .u64 0, .int .u64 0, .int .u64 0, .int .u64 0, .int .u64 0, .int .u64 0, .int .u64 0, .int .u64 0, .int .u64 0, .int .u64 0, .int .u64 0, .int .u64 0, .int .u64 0, .int .u64 0] 204)) 0)
  have HB2 := Lib.hid hB2
  have hc2 := (hB2.cell (p := ⟨t, 0, none⟩) htl).trans hc
  have HD2 := Lib.hid (hD.below hB2)
  have HM2 := Lib.hid (hM.fr (Fr.of_all hB2 (fun _ => False)) (fun h => h))
  have HC := Lib.hid hg
  have HGE := Lib.hid (fun X => get_pk i h0 h1 X)
  have hu := Tryz.underlying151
  have hszV : (Tryz.prog.info? 53).map (·.size) = some (bA zb).size := by rw [bA_size, zb_length]; exact infoBlock
  have h1V := bA_one zb
  have hne : mp ≠ w.heap.size := Nat.ne_of_lt hM.lt
  have hmlt : mp < w.heap.size := hM.lt
  clear k2 kR hB1 hB2 hZ hf hM hD hc hzq hg
  generalize pkC i = CV at *
  go_enter Tryz.func117, Tryz.ntmps117
  go_wp2_with (refine wpList_store_mid rfl 204 _ _ rfl (w.heap.size + 1) 0 #[.int .u32 0, .int .u64 0, .int .u64 0, .int .u64 0, .int .u64 0, .int .u64 0, .int .u64 0, .int .u64 0, .int .u64 0, .int .u64 0, .int .u64 0, .int .u64 0, .int .u64 0, .int .u64 0, .int .u64 0, .int .u64 0, .int .u64 0] rfl rfl hth hzs hzs1 ?_; generalize ((w.alloc (.cells #[.int .u32 0, .int .u64 0, .int .u64 0, .int .u64 0, .int .u64 0, .int .u64 0, .int .u64 0, .int .u64 0, .int .u64 0, .int .u64 0, .int .u64 0, .int .u64 0, .int .u64 0, .int .u64 0, .int .u64 0, .int .u64 0, .int .u64 0] 204)).alloc (.cells #[.int .u32 0, .int .u64 0, .int .u64 0, .int .u64 0, .int .u64 0, .int .u64 0, .int .u64 0, .int .u64 0, .int .u64 0, .int .u64 0, .int .u64 0, .int .u64 0, .int .u64 0, .int .u64 0, .int .u64 0, .int .u64 0, .int .u64 0] 204)).setCells (w.heap.size + 1) 0 (#[.int .u32 0, .int .u64 0, .int .u64 0, .int .u64 0, .int .u64 0, .int .u64 0, .int .u64 0, .int .u64 0, .int .u64 0, .int .u64 0, .int .u64 0, .int .u64 0, .int .u64 0, .int .u64 0, .int .u64 0, .int .u64 0, .int .u64 0] : Array Value).toList = Y at *)
  refine (read_any d m k n wt g at_ ha ha1 _ HD2.out).mono ?_
  rintro e w3 ⟨rfl, hb3⟩
  rw [HC.out]
  have hN0 := Bk.new w3 53 Tryz.zeroCells53
  have hthB := hN0.there (bA zb).size (by rw [zb_cells]; exact Nat.le_refl _)
  have hN1 := hN0.all (bA zb).toList (by rw [Array.length_toList, zb_cells])
  rw [Array.toArray_toList] at hN1
  have hB4 := hb3.trans ((below_setCells w3.heap.size (Nat.le_refl _) (bA zb).toList ((Below.refl w3.heap.size w3).alloc (Nat.le_refl _) (.cells Tryz.zeroCells53 53)) 0).mono hb3.size)
  have HN1 := Lib.hid hN1
  have HR4 := Lib.hid (HR2.out.below hB4 HR2.out.lt)
  have HB4 := Lib.hid (HB2.out.trans (hB4.mono HB2.out.size))
  have HM4 := Lib.hid (HM2.out.fr (Fr.of_all hB4 (fun _ => False)) (fun h => h))
  clear hN0 hN1 hB4 hb3 HR2 HB2 HM2 HD2 hlk hth hc2
  generalize bA zb = BV at *
  go_wp2_with (first | (refine wpList_store_mid rfl 53 _ _ rfl w3.heap.size 0 BV rfl rfl hthB hszV h1V ?_; generalize (w3.alloc (.cells Tryz.zeroCells53 53)).setCells w3.heap.size 0 BV.toList = w4 at *) | (refine wpList_load_row rfl 53 _ rfl _ rfl _ BV _ _ HN1.out Tryz.underlying53 rfl hszV ?_))
  refine (HGE.out _).mono ?_
  rintro e w5 ⟨rfl, hb5⟩
  have k5 := Bk.new w5 204 #[.int .u32 0, .int .u64 0, .int .u64 0, .int .u64 0, .int .u64 0, .int .u64 0, .int .u64 0, .int .u64 0, .int .u64 0, .int .u64 0, .int .u64 0, .int .u64 0, .int .u64 0, .int .u64 0, .int .u64 0, .int .u64 0, .int .u64 0]
  have hth5 := k5.there CV.size (by rw [HSZ.out, HZ.out]; exact Nat.le_refl _)
  have k6 := k5.all CV.toList (by rw [Array.length_toList, HSZ.out, HZ.out])
  rw [Array.toArray_toList] at k6
  have hB6 := hb5.trans ((below_setCells w5.heap.size (Nat.le_refl _) CV.toList ((Below.refl w5.heap.size w5).alloc (Nat.le_refl _) (.cells #[.int .u32 0, .int .u64 0, .int .u64 0, .int .u64 0, .int .u64 0, .int .u64 0, .int .u64 0, .int .u64 0, .int .u64 0, .int .u64 0, .int .u64 0, .int .u64 0, .int .u64 0, .int .u64 0, .int .u64 0, .int .u64 0, .int .u64 0] 204)) 0).mono hb5.size)
  have HK6 := Lib.hid k6
  have HR6 := Lib.hid (HR4.out.below hB6 HR4.out.lt)
  have HB6 := Lib.hid (HB4.out.trans (hB6.mono HB4.out.size))
  have hM6 := HM4.out.fr (Fr.of_all hB6 (fun _ => False)) (fun h => h)
  obtain ⟨w7, hr7, hm7, ht7⟩ := hM6.put hu (by unfold maxLen; omega) h0 (show i ≤ 4294967295 by omega) (.agg CV)
  have hf7 := Fr.of_turned ht7
  have h5ne : w5.heap.size ≠ mp := by
    have h1 := HB4.out.size
    have h2 := hb5.size
    omega
  have HK7 := Lib.hid (HK6.out.fr hf7 h5ne)
  have hR7 := HR6.out.fr hf7 (fun e => hne e.symm)
  have hF7 := (Fr.of_all HB6.out (fun i => i = mp)).trans hf7 (fun _ _ h => h)
  have hth7 := hR7.there CV.size (by rw [HSZ.out, HZ.out]; exact Nat.le_refl _)
  have kR7 := hR7.all CV.toList (by rw [Array.length_toList, HSZ.out, HZ.out])
  rw [Array.toArray_toList] at kR7
  have HE := Lib.hid (And.intro kR7 (And.intro (mp_farCells w.heap.size hne CV.toList hm7 0) (fr_setCells w.heap.size (fun h => absurd h (by omega)) CV.toList hF7 0)))
  clear k5 k6 hB6 hM6 hb5 hm7 ht7 hf7 hR7 hF7 kR7 HR4 HB4 HM4 HR6 HB6 hthB HN1
  go_wp2_with (first | (refine wpList_store_mid rfl 204 _ _ rfl w5.heap.size 0 CV rfl rfl hth5 hs hs1 ?_; generalize (w5.alloc (.cells #[.int .u32 0, .int .u64 0, .int .u64 0, .int .u64 0, .int .u64 0, .int .u64 0, .int .u64 0, .int .u64 0, .int .u64 0, .int .u64 0, .int .u64 0, .int .u64 0, .int .u64 0, .int .u64 0, .int .u64 0, .int .u64 0, .int .u64 0] 204)).setCells w5.heap.size 0 CV.toList = w6 at *) | (refine wpList_load_row rfl 204 _ rfl _ rfl _ CV _ _ HK6.out Tryz.underlying204 rfl hs ?_) | (refine wpList_load_row rfl 204 _ rfl _ rfl _ CV _ _ HK7.out Tryz.underlying204 rfl hs ?_) | (refine wpList_store_mid rfl 204 _ _ rfl w.heap.size 0 CV rfl rfl hth7 hs hs1 ?_; generalize w7.setCells w.heap.size 0 CV.toList = w8 at *))
  refine bodyPost_ret (results_row_tmp rfl _ _ w.heap.size _ CV _ rfl HE.out.1 Tryz.underlying204 rfl hs) rfl ⟨rfl, HE.out.2.1, HE.out.2.2⟩
theorem page_pk (t d m k mp np : Nat) (n wt : Int) (g : Int → List UInt8) (at_ i : Int) (h0 : 0 ≤ i) (h1 : i < 16) (ha : 0 ≤ at_) (ha1 : at_ < n) (hg : g at_ = zb) (hnp : np < 100000000) (f : Int → Option Value) (hf : Zs pkC f) (w : World) (hc : w.cell? ⟨t, 0, none⟩ = some (.pointer (some ⟨d, 0, none⟩))) (htl : t < w.heap.size) (hD : Dv w d m k n wt g) (hM : Mp w mp np f) :
    Calls Tryz.prog 117 #[.pointer (some ⟨t, 0, none⟩), .map (some mp), .int .u32 at_, .int .u32 i, .func (.func 119) #[] #[]] w fun e w' => e = .returned (.tuple #[.agg (pkC i), .int .i64 0]) ∧ (∃ f', Mp w' mp (np + 1) f' ∧ Zs pkC f') ∧ Fr (fun i => i = mp) w w' := by
  rcases hf i with e | e
  · exact (page_pk_no t d m k mp np n wt g at_ i h0 h1 ha ha1 hg hnp f e w hc htl hD hM).mono fun x w' ⟨h1, h2, h3⟩ => ⟨h1, ⟨_, h2, hf.put i⟩, h3⟩
  · exact (page_pk_yes t mp np at_ i h0 h1 f e _ w hM).mono fun x w' ⟨h1, h2⟩ => ⟨h1, ⟨f, (hM.fr (Fr.of_all h2 (fun _ => False)) (fun h => h)).mono (Nat.le_succ _), hf⟩, Fr.of_all h2 _⟩
set_option maxRecDepth 100000 in
set_option maxHeartbeats 1000000 in
theorem page_ty_yes (t mp np : Nat) (at_ i : Int) (h0 : 0 ≤ i) (h1 : i < 16384) (f : Int → Option Value) (hf : f i = some (.agg (tyC i))) (fv : Value) (w : World) (hM : Mp w mp np f) :
    Calls Tryz.prog 101 #[.pointer (some ⟨t, 0, none⟩), .map (some mp), .int .u32 at_, .int .u32 i, fv] w fun e w' => e = .returned (.tuple #[.agg (tyC i), .int .i64 0]) ∧ Below w.heap.size w w' := by
  have hs := tyC_info i
  have hs1 := tyC_one i
  have HSZ := Lib.hid (show (tyC i).size = 65 from tyC_size i)
  have hZ : (Tryz.zeroCells182 : Array Value).size = 65 := by rw [ty_zero]; exact tyC_size 0
  have HZ := Lib.hid hZ
  have hzs : (Tryz.prog.info? 182).map (·.size) = some (Tryz.zeroCells182 : Array Value).size := by kernel_rfl
  have hzs1 : (Tryz.zeroCells182 : Array Value).all (·.oneCell') = true := by kernel_rfl
  have hB1 := (Below.refl w.heap.size w).alloc (Nat.le_refl _) (.cells Tryz.zeroCells182 182)
  have kR := Bk.new w 182 Tryz.zeroCells182
  have hlk := (hM.alloc (.cells Tryz.zeroCells182 182)).look_ok (t := 152) Tryz.underlying152 (zeroTally _) h0 (by omega)
  rw [hf] at hlk
  simp only [Option.getD_some, Option.isSome_some] at hlk
  clear hf hM
  generalize tyC i = CV at *
  have k2 := Bk.new (w.alloc (.cells Tryz.zeroCells182 182)) 182 Tryz.zeroCells182
  simp only [size_alloc] at k2
  have hth := k2.there CV.size (by rw [HSZ.out, hZ]; exact Nat.le_refl _)
  have k3 := k2.all CV.toList (by rw [Array.length_toList, HSZ.out, hZ])
  rw [Array.toArray_toList] at k3
  have kR2 := Bk.farCells (w.heap.size + 1) (by omega) CV.toList (kR.alloc (.cells Tryz.zeroCells182 182)) 0
  have hB2 := below_setCells (w.heap.size + 1) (by omega) CV.toList (hB1.alloc hB1.size (.cells Tryz.zeroCells182 182)) 0
  have hthR := kR2.there CV.size (by rw [HSZ.out, hZ]; exact Nat.le_refl _)
  have kR3 := kR2.all CV.toList (by rw [Array.length_toList, HSZ.out, hZ])
  rw [Array.toArray_toList] at kR3
  have hB3 := below_setCells w.heap.size (Nat.le_refl _) CV.toList hB2 0
  have HK3 := Lib.hid k3
  have HE := Lib.hid (And.intro kR3 hB3)
  clear k2 k3 kR kR2 kR3 hB1 hB2 hB3 hZ
  go_enter Tryz.func101, Tryz.ntmps101
  go_wp2_with (first | (refine wpList_store_mid rfl 182 _ _ rfl (w.heap.size + 1) 0 CV rfl rfl hth hs hs1 ?_; generalize ((w.alloc (.cells Tryz.zeroCells182 182)).alloc (.cells Tryz.zeroCells182 182)).setCells (w.heap.size + 1) 0 CV.toList = Y at *) | (refine wpList_load_row rfl 182 _ rfl _ rfl _ CV _ _ HK3.out Tryz.underlying182 rfl hs ?_) | (refine wpList_store_mid rfl 182 _ _ rfl w.heap.size 0 CV rfl rfl hthR hs hs1 ?_; generalize Y.setCells w.heap.size 0 CV.toList = Y2 at *))
  refine bodyPost_ret (results_row_tmp rfl _ _ w.heap.size _ CV _ rfl HE.out.1 Tryz.underlying182 rfl hs) rfl ⟨rfl, HE.out.2⟩
set_option maxRecDepth 100000 in
set_option maxHeartbeats 1000000 in
theorem page_ty_no (t d m k mp np : Nat) (n wt : Int) (g : Int → List UInt8) (at_ i : Int) (h0 : 0 ≤ i) (h1 : i < 16384) (ha : 0 ≤ at_) (ha1 : at_ < n) (hg : g at_ = zb) (hnp : np < 100000000) (f : Int → Option Value) (hf : f i = none) (w : World) (hc : w.cell? ⟨t, 0, none⟩ = some (.pointer (some ⟨d, 0, none⟩))) (htl : t < w.heap.size) (hD : Dv w d m k n wt g) (hM : Mp w mp np f) :
    Calls Tryz.prog 101 #[.pointer (some ⟨t, 0, none⟩), .map (some mp), .int .u32 at_, .int .u32 i, .func (.func 102) #[] #[]] w fun e w' => e = .returned (.tuple #[.agg (tyC i), .int .i64 0]) ∧ Mp w' mp (np + 1) (fput f i (some (.agg (tyC i)))) ∧ Fr (fun i => i = mp) w w' := by
  have hs := tyC_info i
  have hs1 := tyC_one i
  have HSZ := Lib.hid (show (tyC i).size = 65 from tyC_size i)
  have hZ : (Tryz.zeroCells182 : Array Value).size = 65 := by rw [ty_zero]; exact tyC_size 0
  have HZ := Lib.hid hZ
  have hzs : (Tryz.prog.info? 182).map (·.size) = some (Tryz.zeroCells182 : Array Value).size := by kernel_rfl
  have hzs1 : (Tryz.zeroCells182 : Array Value).all (·.oneCell') = true := by kernel_rfl
  have hB1 := (Below.refl w.heap.size w).alloc (Nat.le_refl _) (.cells Tryz.zeroCells182 182)
  have kR := Bk.new w 182 Tryz.zeroCells182
  have hlk := (hM.alloc (.cells Tryz.zeroCells182 182)).look_ok (t := 152) Tryz.underlying152 (zeroTally _) h0 (by omega)
  rw [hf] at hlk
  simp only [Option.getD_none, Option.isSome_none] at hlk
  have hzq : (tyC 0 : Array Value) = Tryz.zeroCells182 := ty_zero.symm
  rw [hzq] at hlk
  have k2 := Bk.new (w.alloc (.cells Tryz.zeroCells182 182)) 182 Tryz.zeroCells182
  simp only [size_alloc] at k2
  have hth := k2.there (Tryz.zeroCells182 : Array Value).size (Nat.le_refl _)
  have hB2 := below_setCells (w.heap.size + 1) (by omega) (Tryz.zeroCells182 : Array Value).toList (hB1.alloc hB1.size (.cells Tryz.zeroCells182 182)) 0
  have HR2 := Lib.hid (Bk.farCells (w.heap.size + 1) (by omega) (Tryz.zeroCells182 : Array Value).toList (kR.alloc (.cells Tryz.zeroCells182 182)) 0)
  have HB2 := Lib.hid hB2
  have hc2 := (hB2.cell (p := ⟨t, 0, none⟩) htl).trans hc
  have HD2 := Lib.hid (hD.below hB2)
  have HM2 := Lib.hid (hM.fr (Fr.of_all hB2 (fun _ => False)) (fun h => h))
  have HC := Lib.hid hg
  have HGE := Lib.hid (fun X => get_ty i h0 h1 X)
  have hu := Tryz.underlying152
  have hszV : (Tryz.prog.info? 53).map (·.size) = some (bA zb).size := by rw [bA_size, zb_length]; exact infoBlock
  have h1V := bA_one zb
  have hne : mp ≠ w.heap.size := Nat.ne_of_lt hM.lt
  have hmlt : mp < w.heap.size := hM.lt
  clear k2 kR hB1 hB2 hZ hf hM hD hc hzq hg
  generalize tyC i = CV at *
  go_enter Tryz.func101, Tryz.ntmps101
  go_wp2_with (refine wpList_store_mid rfl 182 _ _ rfl (w.heap.size + 1) 0 Tryz.zeroCells182 rfl rfl hth hzs hzs1 ?_; generalize ((w.alloc (.cells Tryz.zeroCells182 182)).alloc (.cells Tryz.zeroCells182 182)).setCells (w.heap.size + 1) 0 (Tryz.zeroCells182 : Array Value).toList = Y at *)
  refine (read_any d m k n wt g at_ ha ha1 _ HD2.out).mono ?_
  rintro e w3 ⟨rfl, hb3⟩
  rw [HC.out]
  have hN0 := Bk.new w3 53 Tryz.zeroCells53
  have hthB := hN0.there (bA zb).size (by rw [zb_cells]; exact Nat.le_refl _)
  have hN1 := hN0.all (bA zb).toList (by rw [Array.length_toList, zb_cells])
  rw [Array.toArray_toList] at hN1
  have hB4 := hb3.trans ((below_setCells w3.heap.size (Nat.le_refl _) (bA zb).toList ((Below.refl w3.heap.size w3).alloc (Nat.le_refl _) (.cells Tryz.zeroCells53 53)) 0).mono hb3.size)
  have HN1 := Lib.hid hN1
  have HR4 := Lib.hid (HR2.out.below hB4 HR2.out.lt)
  have HB4 := Lib.hid (HB2.out.trans (hB4.mono HB2.out.size))
  have HM4 := Lib.hid (HM2.out.fr (Fr.of_all hB4 (fun _ => False)) (fun h => h))
  clear hN0 hN1 hB4 hb3 HR2 HB2 HM2 HD2 hlk hth hc2
  generalize bA zb = BV at *
  go_wp2_with (first | (refine wpList_store_mid rfl 53 _ _ rfl w3.heap.size 0 BV rfl rfl hthB hszV h1V ?_; generalize (w3.alloc (.cells Tryz.zeroCells53 53)).setCells w3.heap.size 0 BV.toList = w4 at *) | (refine wpList_load_row rfl 53 _ rfl _ rfl _ BV _ _ HN1.out Tryz.underlying53 rfl hszV ?_))
  refine (HGE.out _).mono ?_
  rintro e w5 ⟨rfl, hb5⟩
  have k5 := Bk.new w5 182 Tryz.zeroCells182
  have hth5 := k5.there CV.size (by rw [HSZ.out, HZ.out]; exact Nat.le_refl _)
  have k6 := k5.all CV.toList (by rw [Array.length_toList, HSZ.out, HZ.out])
  rw [Array.toArray_toList] at k6
  have hB6 := hb5.trans ((below_setCells w5.heap.size (Nat.le_refl _) CV.toList ((Below.refl w5.heap.size w5).alloc (Nat.le_refl _) (.cells Tryz.zeroCells182 182)) 0).mono hb5.size)
  have HK6 := Lib.hid k6
  have HR6 := Lib.hid (HR4.out.below hB6 HR4.out.lt)
  have HB6 := Lib.hid (HB4.out.trans (hB6.mono HB4.out.size))
  have hM6 := HM4.out.fr (Fr.of_all hB6 (fun _ => False)) (fun h => h)
  obtain ⟨w7, hr7, hm7, ht7⟩ := hM6.put hu (by unfold maxLen; omega) h0 (show i ≤ 4294967295 by omega) (.agg CV)
  have hf7 := Fr.of_turned ht7
  have h5ne : w5.heap.size ≠ mp := by
    have h1 := HB4.out.size
    have h2 := hb5.size
    omega
  have HK7 := Lib.hid (HK6.out.fr hf7 h5ne)
  have hR7 := HR6.out.fr hf7 (fun e => hne e.symm)
  have hF7 := (Fr.of_all HB6.out (fun i => i = mp)).trans hf7 (fun _ _ h => h)
  have hth7 := hR7.there CV.size (by rw [HSZ.out, HZ.out]; exact Nat.le_refl _)
  have kR7 := hR7.all CV.toList (by rw [Array.length_toList, HSZ.out, HZ.out])
  rw [Array.toArray_toList] at kR7
  have HE := Lib.hid (And.intro kR7 (And.intro (mp_farCells w.heap.size hne CV.toList hm7 0) (fr_setCells w.heap.size (fun h => absurd h (by omega)) CV.toList hF7 0)))
  clear k5 k6 hB6 hM6 hb5 hm7 ht7 hf7 hR7 hF7 kR7 HR4 HB4 HM4 HR6 HB6 hthB HN1
  go_wp2_with (first | (refine wpList_store_mid rfl 182 _ _ rfl w5.heap.size 0 CV rfl rfl hth5 hs hs1 ?_; generalize (w5.alloc (.cells Tryz.zeroCells182 182)).setCells w5.heap.size 0 CV.toList = w6 at *) | (refine wpList_load_row rfl 182 _ rfl _ rfl _ CV _ _ HK6.out Tryz.underlying182 rfl hs ?_) | (refine wpList_load_row rfl 182 _ rfl _ rfl _ CV _ _ HK7.out Tryz.underlying182 rfl hs ?_) | (refine wpList_store_mid rfl 182 _ _ rfl w.heap.size 0 CV rfl rfl hth7 hs hs1 ?_; generalize w7.setCells w.heap.size 0 CV.toList = w8 at *))
  refine bodyPost_ret (results_row_tmp rfl _ _ w.heap.size _ CV _ rfl HE.out.1 Tryz.underlying182 rfl hs) rfl ⟨rfl, HE.out.2.1, HE.out.2.2⟩
theorem page_ty (t d m k mp np : Nat) (n wt : Int) (g : Int → List UInt8) (at_ i : Int) (h0 : 0 ≤ i) (h1 : i < 16384) (ha : 0 ≤ at_) (ha1 : at_ < n) (hg : g at_ = zb) (hnp : np < 100000000) (f : Int → Option Value) (hf : Zs tyC f) (w : World) (hc : w.cell? ⟨t, 0, none⟩ = some (.pointer (some ⟨d, 0, none⟩))) (htl : t < w.heap.size) (hD : Dv w d m k n wt g) (hM : Mp w mp np f) :
    Calls Tryz.prog 101 #[.pointer (some ⟨t, 0, none⟩), .map (some mp), .int .u32 at_, .int .u32 i, .func (.func 102) #[] #[]] w fun e w' => e = .returned (.tuple #[.agg (tyC i), .int .i64 0]) ∧ (∃ f', Mp w' mp (np + 1) f' ∧ Zs tyC f') ∧ Fr (fun i => i = mp) w w' := by
  rcases hf i with e | e
  · exact (page_ty_no t d m k mp np n wt g at_ i h0 h1 ha ha1 hg hnp f e w hc htl hD hM).mono fun x w' ⟨h1, h2, h3⟩ => ⟨h1, ⟨_, h2, hf.put i⟩, h3⟩
  · exact (page_ty_yes t mp np at_ i h0 h1 f e _ w hM).mono fun x w' ⟨h1, h2⟩ => ⟨h1, ⟨f, (hM.fr (Fr.of_all h2 (fun _ => False)) (fun h => h)).mono (Nat.le_succ _), hf⟩, Fr.of_all h2 _⟩
end Go.Proofs.YtjnbpbnhkinggaaGreatDoor.St
