/- Contracts of tally.GetPick, tally.Get, of blocks of zeros; tally.Bit of a pick of zeros. -/
import Derived.Test.YtjnbpbnhkinggaaGreatDoorRCommit
namespace Go.Proofs.YtjnbpbnhkinggaaGreatDoor.St
open Go.RowKit

/-- A pick, and a tally, of zeros. -/
def pkC (i : Int) : Array Value := #[Value.int .u32 i, .int .u64 0, .int .u64 0, .int .u64 0, .int .u64 0, .int .u64 0, .int .u64 0, .int .u64 0, .int .u64 0, .int .u64 0, .int .u64 0, .int .u64 0, .int .u64 0, .int .u64 0, .int .u64 0, .int .u64 0, .int .u64 0]
def tyC (i : Int) : Array Value := (Value.int .u32 i :: List.replicate 64 (Value.int .u16 0)).toArray
theorem pkC_size (i : Int) : (pkC i).size = 17 := rfl
theorem tyC_size (i : Int) : (tyC i).size = 65 := by simp [tyC]
theorem pkC_one (i : Int) : (pkC i).all (·.oneCell') = true := by kernel_rfl
theorem tyC_one (i : Int) : (tyC i).all (·.oneCell') = true := by kernel_rfl
theorem pkC_info (i : Int) : (Tryz.prog.info? 204).map (·.size) = some (pkC i).size := by kernel_rfl
theorem tyC_info (i : Int) : (Tryz.prog.info? 182).map (·.size) = some (tyC i).size := by kernel_rfl
theorem pk_built (i : Int) : Tryz.prog.built 204 [(0, .int .u32 i)] = some (pkC i) := by kernel_rfl
theorem ty_built (i : Int) : Tryz.prog.built 182 [(0, .int .u32 i)] = some (tyC i) := by kernel_rfl
theorem ty_zero : Tryz.zeroCells182 = tyC 0 := by kernel_rfl
attribute [local go_sem ↓] Go.wp_at_zero Go.wp_at_succ
set_option maxRecDepth 100000 in
theorem tget_pk (i : Int) (h0 : 0 ≤ i) (h1 : i < 16) (lv : Value) (w : World) : Calls Tryz.prog 122 #[.agg (bA zb), .int .u8 80, .int .u32 i, .int .u32 16, lv, .int .i64 8] w fun e w' => e = .returned (.int .i64 0) ∧ Below w.heap.size w w' := by
  have HN := Lib.hid (Bk.new w 53 (bA zb))
  have HB := Lib.hid ((Below.refl w.heap.size w).alloc (Nat.le_refl _) (.cells (bA zb) 53))
  have hszV : (Tryz.prog.info? 53).map (·.size) = some (bA zb).size := by rw [bA_size, zb_length]; exact infoBlock
  have HZA := Lib.hid (fun X => zero_any zb zb_length X)
  rw [beq_self_eq_true] at HZA
  generalize bA zb = BV at *
  go_enter Tryz.func122, Tryz.ntmps122
  go_wp2_with (refine wpList_load_row rfl 53 _ rfl _ rfl _ BV _ _ HN.out Tryz.underlying53 rfl hszV ?_)
  refine (HZA.out _).mono ?_
  rintro e w1 ⟨rfl, hb1⟩
  have HB1 := Lib.hid (HB.out.trans (hb1.mono HB.out.size))
  clear hb1 HB HN
  go_wp2_with fail
  go_ret
  exact ⟨rfl, HB1.out⟩
set_option maxRecDepth 100000 in
theorem tget_ty (i : Int) (h0 : 0 ≤ i) (h1 : i < 16384) (lv : Value) (w : World) : Calls Tryz.prog 112 #[.agg (bA zb), .int .u8 84, .int .u32 i, .int .u32 16384, lv, .int .i64 2] w fun e w' => e = .returned (.int .i64 0) ∧ Below w.heap.size w w' := by
  have HN := Lib.hid (Bk.new w 53 (bA zb))
  have HB := Lib.hid ((Below.refl w.heap.size w).alloc (Nat.le_refl _) (.cells (bA zb) 53))
  have hszV : (Tryz.prog.info? 53).map (·.size) = some (bA zb).size := by rw [bA_size, zb_length]; exact infoBlock
  have HZA := Lib.hid (fun X => zero_any zb zb_length X)
  rw [beq_self_eq_true] at HZA
  generalize bA zb = BV at *
  go_enter Tryz.func112, Tryz.ntmps112
  go_wp2_with (refine wpList_load_row rfl 53 _ rfl _ rfl _ BV _ _ HN.out Tryz.underlying53 rfl hszV ?_)
  refine (HZA.out _).mono ?_
  rintro e w1 ⟨rfl, hb1⟩
  have HB1 := Lib.hid (HB.out.trans (hb1.mono HB.out.size))
  clear hb1 HB HN
  go_wp2_with fail
  go_ret
  exact ⟨rfl, HB1.out⟩
set_option maxRecDepth 100000 in
set_option maxHeartbeats 1000000 in
theorem get_pk (i : Int) (h0 : 0 ≤ i) (h1 : i < 16) (w : World) : Calls Tryz.prog 119 #[.agg (bA zb), .int .u32 i] w fun e w' => e = .returned (.tuple #[.agg (pkC i), .int .i64 0]) ∧ Below w.heap.size w w' := by
  have hszV : (Tryz.prog.info? 53).map (·.size) = some (bA zb).toList.length := by rw [bA_toList_length, zb_length]; exact infoBlock
  have HG := Lib.hid (fun lv X => tget_pk i h0 h1 lv X)
  have hs := pkC_info i
  have hs1 := pkC_one i
  have HBU := Lib.hid (pk_built i)
  have HSZ := Lib.hid (show (pkC i).size = 17 from pkC_size i)
  have hZ : (#[.int .u32 0, .int .u64 0, .int .u64 0, .int .u64 0, .int .u64 0, .int .u64 0, .int .u64 0, .int .u64 0, .int .u64 0, .int .u64 0, .int .u64 0, .int .u64 0, .int .u64 0, .int .u64 0, .int .u64 0, .int .u64 0, .int .u64 0] : Array Value).size = 17 := by rfl
  generalize bA zb = BV at *
  generalize pkC i = CV at *
  have hB1 := (Below.refl w.heap.size w).alloc (Nat.le_refl _) (.cells BV 53)
  have hB2 := hB1.alloc hB1.size (.cells #[.int .u32 0, .int .u64 0, .int .u64 0, .int .u64 0, .int .u64 0, .int .u64 0, .int .u64 0, .int .u64 0, .int .u64 0, .int .u64 0, .int .u64 0, .int .u64 0, .int .u64 0, .int .u64 0, .int .u64 0, .int .u64 0, .int .u64 0] 204)
  have hB3 := hB2.alloc hB2.size (.cells #[.int .u32 0, .int .u64 0, .int .u64 0, .int .u64 0, .int .u64 0, .int .u64 0, .int .u64 0, .int .u64 0, .int .u64 0, .int .u64 0, .int .u64 0, .int .u64 0, .int .u64 0, .int .u64 0, .int .u64 0, .int .u64 0, .int .u64 0] 204)
  have kV := ((Bk.new w 53 BV).alloc (.cells #[.int .u32 0, .int .u64 0, .int .u64 0, .int .u64 0, .int .u64 0, .int .u64 0, .int .u64 0, .int .u64 0, .int .u64 0, .int .u64 0, .int .u64 0, .int .u64 0, .int .u64 0, .int .u64 0, .int .u64 0, .int .u64 0, .int .u64 0] 204)).alloc (.cells #[.int .u32 0, .int .u64 0, .int .u64 0, .int .u64 0, .int .u64 0, .int .u64 0, .int .u64 0, .int .u64 0, .int .u64 0, .int .u64 0, .int .u64 0, .int .u64 0, .int .u64 0, .int .u64 0, .int .u64 0, .int .u64 0, .int .u64 0] 204)
  have kR := (Bk.new (w.alloc (.cells BV 53)) 204 #[.int .u32 0, .int .u64 0, .int .u64 0, .int .u64 0, .int .u64 0, .int .u64 0, .int .u64 0, .int .u64 0, .int .u64 0, .int .u64 0, .int .u64 0, .int .u64 0, .int .u64 0, .int .u64 0, .int .u64 0, .int .u64 0, .int .u64 0]).alloc (.cells #[.int .u32 0, .int .u64 0, .int .u64 0, .int .u64 0, .int .u64 0, .int .u64 0, .int .u64 0, .int .u64 0, .int .u64 0, .int .u64 0, .int .u64 0, .int .u64 0, .int .u64 0, .int .u64 0, .int .u64 0, .int .u64 0, .int .u64 0] 204)
  have kC := Bk.new ((w.alloc (.cells BV 53)).alloc (.cells #[.int .u32 0, .int .u64 0, .int .u64 0, .int .u64 0, .int .u64 0, .int .u64 0, .int .u64 0, .int .u64 0, .int .u64 0, .int .u64 0, .int .u64 0, .int .u64 0, .int .u64 0, .int .u64 0, .int .u64 0, .int .u64 0, .int .u64 0] 204)) 204 #[.int .u32 0, .int .u64 0, .int .u64 0, .int .u64 0, .int .u64 0, .int .u64 0, .int .u64 0, .int .u64 0, .int .u64 0, .int .u64 0, .int .u64 0, .int .u64 0, .int .u64 0, .int .u64 0, .int .u64 0, .int .u64 0, .int .u64 0]
  simp only [size_alloc] at kR kC
  have hth := kC.there CV.size (by rw [HSZ.out, hZ]; exact Nat.le_refl _)
  have kC2 := kC.all CV.toList (by rw [Array.length_toList, HSZ.out, hZ])
  rw [Array.toArray_toList] at kC2
  have HK := Lib.hid (And.intro (Bk.farCells (w.heap.size + 1 + 1) (by omega) CV.toList kV 0) (And.intro (Bk.farCells (w.heap.size + 1 + 1) (by omega) CV.toList kR 0) (And.intro kC2 (below_setCells (w.heap.size + 1 + 1) (by omega) CV.toList hB3 0))))
  have HZ := Lib.hid hZ
  clear hB1 hB2 hB3 kV kR kC kC2 hZ
  go_enter Tryz.func119, Tryz.ntmps119
  go_wp2_with (first | (refine wpList_built rfl 204 _ rfl [(0, .int .u32 i)] rfl CV HBU.out ?_) | (refine wpList_store_mid rfl 204 _ _ rfl (w.heap.size + 1 + 1) 0 CV rfl rfl hth hs hs1 ?_; generalize (((w.alloc (.cells BV 53)).alloc (.cells #[.int .u32 0, .int .u64 0, .int .u64 0, .int .u64 0, .int .u64 0, .int .u64 0, .int .u64 0, .int .u64 0, .int .u64 0, .int .u64 0, .int .u64 0, .int .u64 0, .int .u64 0, .int .u64 0, .int .u64 0, .int .u64 0, .int .u64 0] 204)).alloc (.cells #[.int .u32 0, .int .u64 0, .int .u64 0, .int .u64 0, .int .u64 0, .int .u64 0, .int .u64 0, .int .u64 0, .int .u64 0, .int .u64 0, .int .u64 0, .int .u64 0, .int .u64 0, .int .u64 0, .int .u64 0, .int .u64 0, .int .u64 0] 204)).setCells (w.heap.size + 1 + 1) 0 CV.toList = Y at *))
  refine wp_region_held_drew (S := fun Y => Bk Y w.heap.size 53 BV) (by kernel_rfl) HK.out.1 ?_
  intro hHeld
  refine wpAnyH_take (i := 0) (v := .agg BV) rfl (by kernel_rfl) (by kernel_rfl) (by kernel_rfl) (fun _ _ _ h => h) (yieldsIf_load_arr (by rfl) 53 _ rfl w.heap.size 0 rfl BV _ (fun w h => Bk.range h) Tryz.underlying53 rfl hszV) hHeld ?_
  try simp only [Act.put, List.getElem_toArray, List.getElem_cons_zero, List.getElem_cons_succ, List.setIfInBounds_toArray, List.set_cons_zero, List.set_cons_succ]
  refine wpAnyH_take (i := 1) (v := ?_) rfl (by kernel_rfl) (by kernel_rfl) (by kernel_rfl) (fun _ _ _ h => h) (Or.inl ⟨by rfl, ?_⟩) hHeld ?_
  rotate_left
  · (intro w hSw; (try dsimp only at hSw); go_simp)
    try with_reducible rfl
  try simp only [Act.put, List.getElem_toArray, List.getElem_cons_zero, List.getElem_cons_succ, List.setIfInBounds_toArray, List.set_cons_zero, List.set_cons_succ]
  refine wpAnyH_take (i := 2) (v := ?_) rfl (by kernel_rfl) (by kernel_rfl) (by kernel_rfl) (fun _ _ _ h => h) (Or.inl ⟨by rfl, ?_⟩) hHeld ?_
  rotate_left
  · (intro w hSw; (try dsimp only at hSw); go_simp)
    try with_reducible rfl
  try simp only [Act.put, List.getElem_toArray, List.getElem_cons_zero, List.getElem_cons_succ, List.setIfInBounds_toArray, List.set_cons_zero, List.set_cons_succ]
  refine wpAnyH_take (i := 3) (v := ?_) rfl (by kernel_rfl) (by kernel_rfl) (by kernel_rfl) (fun _ _ _ h => h) (Or.inl ⟨by rfl, ?_⟩) hHeld ?_
  rotate_left
  · (intro w hSw; (try dsimp only at hSw); go_simp)
    try with_reducible rfl
  try simp only [Act.put, List.getElem_toArray, List.getElem_cons_zero, List.getElem_cons_succ, List.setIfInBounds_toArray, List.set_cons_zero, List.set_cons_succ]
  have HK0 := Lib.hid (And.intro (show Bk Y.drew (w.heap.size + 1) 204 #[.int .u32 0, .int .u64 0, .int .u64 0, .int .u64 0, .int .u64 0, .int .u64 0, .int .u64 0, .int .u64 0, .int .u64 0, .int .u64 0, .int .u64 0, .int .u64 0, .int .u64 0, .int .u64 0, .int .u64 0, .int .u64 0, .int .u64 0] from HK.out.2.1.drew) (And.intro (show Bk Y.drew (w.heap.size + 1 + 1) 204 CV from HK.out.2.2.1.drew) (show Below w.heap.size w Y.drew from below_drewN HK.out.2.2.2 1)))
  clear HK hth
  generalize Y.drew = Y0 at *
  refine wpAnyH_ready (rs := [4]) (by kernel_rfl) (by simp) ?_
  refine (AllReadyH.cons rfl (fun K hK => ?_) AllReadyH.nil)
  go_simp
  refine (HG.out _ _).mono ?_
  rintro e Y1 ⟨rfl, hbX⟩
  have hH := hHeld.below hbX hHeld.lt
  have kR := HK0.out.1.below hbX HK0.out.1.lt
  have HK1 := Lib.hid (HK0.out.2.1.below hbX HK0.out.2.1.lt)
  have hB1 := HK0.out.2.2.trans (hbX.mono HK0.out.2.2.size)
  have hth := kR.there CV.size (by rw [HSZ.out, HZ.out]; exact Nat.le_refl _)
  have kR2 := kR.all CV.toList (by rw [Array.length_toList, HSZ.out, HZ.out])
  rw [Array.toArray_toList] at kR2
  have HE := Lib.hid (And.intro kR2 (below_setCells (w.heap.size + 1) (by omega) CV.toList hB1 0))
  clear HK0 hbX kR hB1 kR2
  go_wp2_with fail
  refine hK.out _ _ hH (fun _ => ?_)
  clear hK K hHeld
  have hHeld := hH
  clear hH
  try simp only [Act.put, List.getElem_toArray, List.getElem_cons_zero, List.getElem_cons_succ, List.setIfInBounds_toArray, List.set_cons_zero, List.set_cons_succ]
  refine wpAnyH_take (i := 5) (v := ?_) rfl (by kernel_rfl) (by kernel_rfl) (by kernel_rfl) (fun _ _ _ h => h) (Or.inl ⟨by rfl, ?_⟩) hHeld ?_
  rotate_left
  · (intro w hSw; (try dsimp only at hSw); go_simp)
    try with_reducible rfl
  try simp only [Act.put, List.getElem_toArray, List.getElem_cons_zero, List.getElem_cons_succ, List.setIfInBounds_toArray, List.set_cons_zero, List.set_cons_succ]
  refine wpAnyH_done (by kernel_rfl) ?_ _
  try simp only [Act.put, List.getElem_toArray, List.getElem_cons_zero, List.getElem_cons_succ, List.setIfInBounds_toArray, List.set_cons_zero, List.set_cons_succ]
  clear hHeld
  go_wp2_with (first | (refine wpList_load_row rfl 204 _ rfl _ rfl _ CV _ _ HK1.out Tryz.underlying204 rfl hs ?_) | (refine wpList_store_mid rfl 204 _ _ rfl (w.heap.size + 1) 0 CV rfl rfl hth hs hs1 ?_; generalize Y1.setCells (w.heap.size + 1) 0 CV.toList = Y2 at *))
  refine bodyPost_ret (results_row_tmp rfl _ _ (w.heap.size + 1) _ CV _ rfl HE.out.1 Tryz.underlying204 rfl hs) rfl ⟨rfl, HE.out.2⟩
set_option maxRecDepth 100000 in
set_option maxHeartbeats 1000000 in
theorem get_ty (i : Int) (h0 : 0 ≤ i) (h1 : i < 16384) (w : World) : Calls Tryz.prog 102 #[.agg (bA zb), .int .u32 i] w fun e w' => e = .returned (.tuple #[.agg (tyC i), .int .i64 0]) ∧ Below w.heap.size w w' := by
  have hszV : (Tryz.prog.info? 53).map (·.size) = some (bA zb).toList.length := by rw [bA_toList_length, zb_length]; exact infoBlock
  have HG := Lib.hid (fun lv X => tget_ty i h0 h1 lv X)
  have hs := tyC_info i
  have hs1 := tyC_one i
  have HBU := Lib.hid (ty_built i)
  have HSZ := Lib.hid (show (tyC i).size = 65 from tyC_size i)
  have hZ : (Tryz.zeroCells182 : Array Value).size = 65 := by rw [ty_zero]; exact tyC_size 0
  generalize bA zb = BV at *
  generalize tyC i = CV at *
  have hB1 := (Below.refl w.heap.size w).alloc (Nat.le_refl _) (.cells BV 53)
  have hB2 := hB1.alloc hB1.size (.cells Tryz.zeroCells182 182)
  have hB3 := hB2.alloc hB2.size (.cells Tryz.zeroCells182 182)
  have kV := ((Bk.new w 53 BV).alloc (.cells Tryz.zeroCells182 182)).alloc (.cells Tryz.zeroCells182 182)
  have kR := (Bk.new (w.alloc (.cells BV 53)) 182 Tryz.zeroCells182).alloc (.cells Tryz.zeroCells182 182)
  have kC := Bk.new ((w.alloc (.cells BV 53)).alloc (.cells Tryz.zeroCells182 182)) 182 Tryz.zeroCells182
  simp only [size_alloc] at kR kC
  have hth := kC.there CV.size (by rw [HSZ.out, hZ]; exact Nat.le_refl _)
  have kC2 := kC.all CV.toList (by rw [Array.length_toList, HSZ.out, hZ])
  rw [Array.toArray_toList] at kC2
  have HK := Lib.hid (And.intro (Bk.farCells (w.heap.size + 1 + 1) (by omega) CV.toList kV 0) (And.intro (Bk.farCells (w.heap.size + 1 + 1) (by omega) CV.toList kR 0) (And.intro kC2 (below_setCells (w.heap.size + 1 + 1) (by omega) CV.toList hB3 0))))
  have HZ := Lib.hid hZ
  clear hB1 hB2 hB3 kV kR kC kC2 hZ
  go_enter Tryz.func102, Tryz.ntmps102
  go_wp2_with (first | (refine wpList_built rfl 182 _ rfl [(0, .int .u32 i)] rfl CV HBU.out ?_) | (refine wpList_store_mid rfl 182 _ _ rfl (w.heap.size + 1 + 1) 0 CV rfl rfl hth hs hs1 ?_; generalize (((w.alloc (.cells BV 53)).alloc (.cells Tryz.zeroCells182 182)).alloc (.cells Tryz.zeroCells182 182)).setCells (w.heap.size + 1 + 1) 0 CV.toList = Y at *))
  refine wp_region_held_drew (S := fun Y => Bk Y w.heap.size 53 BV) (by kernel_rfl) HK.out.1 ?_
  intro hHeld
  refine wpAnyH_take (i := 0) (v := .agg BV) rfl (by kernel_rfl) (by kernel_rfl) (by kernel_rfl) (fun _ _ _ h => h) (yieldsIf_load_arr (by rfl) 53 _ rfl w.heap.size 0 rfl BV _ (fun w h => Bk.range h) Tryz.underlying53 rfl hszV) hHeld ?_
  try simp only [Act.put, List.getElem_toArray, List.getElem_cons_zero, List.getElem_cons_succ, List.setIfInBounds_toArray, List.set_cons_zero, List.set_cons_succ]
  refine wpAnyH_take (i := 1) (v := ?_) rfl (by kernel_rfl) (by kernel_rfl) (by kernel_rfl) (fun _ _ _ h => h) (Or.inl ⟨by rfl, ?_⟩) hHeld ?_
  rotate_left
  · (intro w hSw; (try dsimp only at hSw); go_simp)
    try with_reducible rfl
  try simp only [Act.put, List.getElem_toArray, List.getElem_cons_zero, List.getElem_cons_succ, List.setIfInBounds_toArray, List.set_cons_zero, List.set_cons_succ]
  refine wpAnyH_take (i := 2) (v := ?_) rfl (by kernel_rfl) (by kernel_rfl) (by kernel_rfl) (fun _ _ _ h => h) (Or.inl ⟨by rfl, ?_⟩) hHeld ?_
  rotate_left
  · (intro w hSw; (try dsimp only at hSw); go_simp)
    try with_reducible rfl
  try simp only [Act.put, List.getElem_toArray, List.getElem_cons_zero, List.getElem_cons_succ, List.setIfInBounds_toArray, List.set_cons_zero, List.set_cons_succ]
  refine wpAnyH_take (i := 3) (v := ?_) rfl (by kernel_rfl) (by kernel_rfl) (by kernel_rfl) (fun _ _ _ h => h) (Or.inl ⟨by rfl, ?_⟩) hHeld ?_
  rotate_left
  · (intro w hSw; (try dsimp only at hSw); go_simp)
    try with_reducible rfl
  try simp only [Act.put, List.getElem_toArray, List.getElem_cons_zero, List.getElem_cons_succ, List.setIfInBounds_toArray, List.set_cons_zero, List.set_cons_succ]
  have HK0 := Lib.hid (And.intro (show Bk Y.drew (w.heap.size + 1) 182 Tryz.zeroCells182 from HK.out.2.1.drew) (And.intro (show Bk Y.drew (w.heap.size + 1 + 1) 182 CV from HK.out.2.2.1.drew) (show Below w.heap.size w Y.drew from below_drewN HK.out.2.2.2 1)))
  clear HK hth
  generalize Y.drew = Y0 at *
  refine wpAnyH_ready (rs := [4]) (by kernel_rfl) (by simp) ?_
  refine (AllReadyH.cons rfl (fun K hK => ?_) AllReadyH.nil)
  go_simp
  refine (HG.out _ _).mono ?_
  rintro e Y1 ⟨rfl, hbX⟩
  have hH := hHeld.below hbX hHeld.lt
  have kR := HK0.out.1.below hbX HK0.out.1.lt
  have HK1 := Lib.hid (HK0.out.2.1.below hbX HK0.out.2.1.lt)
  have hB1 := HK0.out.2.2.trans (hbX.mono HK0.out.2.2.size)
  have hth := kR.there CV.size (by rw [HSZ.out, HZ.out]; exact Nat.le_refl _)
  have kR2 := kR.all CV.toList (by rw [Array.length_toList, HSZ.out, HZ.out])
  rw [Array.toArray_toList] at kR2
  have HE := Lib.hid (And.intro kR2 (below_setCells (w.heap.size + 1) (by omega) CV.toList hB1 0))
  clear HK0 hbX kR hB1 kR2
  go_wp2_with fail
  refine hK.out _ _ hH (fun _ => ?_)
  clear hK K hHeld
  have hHeld := hH
  clear hH
  try simp only [Act.put, List.getElem_toArray, List.getElem_cons_zero, List.getElem_cons_succ, List.setIfInBounds_toArray, List.set_cons_zero, List.set_cons_succ]
  refine wpAnyH_take (i := 5) (v := ?_) rfl (by kernel_rfl) (by kernel_rfl) (by kernel_rfl) (fun _ _ _ h => h) (Or.inl ⟨by rfl, ?_⟩) hHeld ?_
  rotate_left
  · (intro w hSw; (try dsimp only at hSw); go_simp)
    try with_reducible rfl
  try simp only [Act.put, List.getElem_toArray, List.getElem_cons_zero, List.getElem_cons_succ, List.setIfInBounds_toArray, List.set_cons_zero, List.set_cons_succ]
  refine wpAnyH_done (by kernel_rfl) ?_ _
  try simp only [Act.put, List.getElem_toArray, List.getElem_cons_zero, List.getElem_cons_succ, List.setIfInBounds_toArray, List.set_cons_zero, List.set_cons_succ]
  clear hHeld
  go_wp2_with (first | (refine wpList_load_row rfl 182 _ rfl _ rfl _ CV _ _ HK1.out Tryz.underlying182 rfl hs ?_) | (refine wpList_store_mid rfl 182 _ _ rfl (w.heap.size + 1) 0 CV rfl rfl hth hs hs1 ?_; generalize Y1.setCells (w.heap.size + 1) 0 CV.toList = Y2 at *))
  refine bodyPost_ret (results_row_tmp rfl _ _ (w.heap.size + 1) _ CV _ rfl HE.out.1 Tryz.underlying182 rfl hs) rfl ⟨rfl, HE.out.2⟩
set_option maxRecDepth 100000 in
theorem bit_pk (j i : Int) (h0 : 0 ≤ i) (h1 : i < 1024) (w : World) : Calls Tryz.prog 111 #[.agg (pkC j), .int .i64 i] w fun e w' => e = .returned (.tuple #[.int .i64 0, .int .i64 0]) ∧ Below w.heap.size w w' := by
  have hk := Bk.new w 204 (pkC j)
  have HB := Lib.hid ((Below.refl w.heap.size w).alloc (Nat.le_refl _) (.cells (pkC j) 204))
  have hc : ∀ a : Nat, a < 16 → (w.alloc (.cells (pkC j) 204)).cell? ⟨w.heap.size, 1 + a, none⟩ = some (.int .u64 0) := by
    intro a ha
    rw [hk.cell]
    match a with
    | 0 | 1 | 2 | 3 | 4 | 5 | 6 | 7 | 8 | 9 | 10 | 11 | 12 | 13 | 14 | 15 => rfl
    | a + 16 => omega
  have HC := Lib.hid hc
  clear hc hk
  obtain ⟨a, rfl⟩ := Int.eq_ofNat_of_zero_le h0
  have c1 := HC.out (a / 64) (by omega)
  generalize pkC j = CV at *

  go_enter Tryz.func111, Tryz.ntmps111
  have e2 : bits .and .u64 0 1 = 0 := by decide
  go_wp2_with fail
  go_ret2
  exact ⟨rfl, HB.out⟩
end Go.Proofs.YtjnbpbnhkinggaaGreatDoor.St
