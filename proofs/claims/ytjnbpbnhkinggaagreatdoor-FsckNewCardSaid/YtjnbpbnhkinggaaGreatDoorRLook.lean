/- The contract of root.look. -/
import Derived.Test.YtjnbpbnhkinggaaGreatDoorRLay
import Derived.Test.YtjnbpbnhkinggaaGreatDoorSFlush
namespace Go.Proofs.YtjnbpbnhkinggaaGreatDoor.St
open Go.RowKit

theorem step_store_mid {P : Program} {ops : Array Oper} {o : Oper} {a : Act} {w : World} {K : Act → World → Prop} {Q : Exit → Act → World → Prop} {E : Prop} (hgd : o.guard = none) (ty : TypeId) (x y : Operand) (ho : o.op = .store ty x y)
    (b of : Nat) (cells : Array Value) (hx : a.eval x = .pointer (some ⟨b, of, none⟩)) (hy : a.eval y = .agg cells) (ht : w.there b of cells.size) (hi : (P.info? ty).map (·.size) = some cells.size) (h1 : cells.all (·.oneCell') = true)
    (h : K (a.put o.dst undef) (w.setCells b of cells.toList)) : if Region.wanted o (yielded ops a.tmps) = true then Oper.wp P o a w K Q else E := by
  have hw : Region.wanted o (yielded ops a.tmps) = true := by simp [Region.wanted, hgd]
  rw [if_pos hw]
  exact wp_store_mid ty x y ho b of cells hx hy ht hi h1 h
theorem yieldsIf_load_arr {P : Program} {ops : Array Oper} {S : World → Prop} {op : Oper} {a : Act} (hw : Region.wanted op (yielded ops a.tmps) = true) (ty : TypeId) (x : Operand) (ho : op.op = .load ty x)
    (b o : Nat) (hx : a.eval x = .pointer (some ⟨b, o, none⟩)) (V : Array Value) (d : TypeDesc) (hS : ∀ w, S w → w.rangeAt b o V.toList)
    (hu : P.underlying ty = some d) (hd : d.isRow = true) (hi : (P.info? ty).map (·.size) = some V.toList.length) : YieldsIf P ops S op (.agg V) a := by
  have h := yieldsIf_load_mid (P := P) (ops := ops) (S := S) hw ty x ho b o hx V.toList d hS hu hd hi
  rwa [Array.toArray_toList] at h
/-- What slot.Get tells of a block. -/
def Gets (b : List UInt8) (r : Rt) (e : Int) : Prop := ∀ w, Calls Tryz.prog 68 #[.agg (bA b)] w fun x w' => x = .returned (.tuple #[.agg r.cells, .int .i64 e]) ∧ Below w.heap.size w w'
set_option maxRecDepth 100000 in
theorem gets_zb : Gets zb rz 250 := fun w => by
  have := get_any zb zb_length false (by decide) (fun h => by cases h) w
  rwa [gotV_no] at this
theorem fdC_one (r : Rt) (b : Bool) : (fdC r b).all (·.oneCell') = true := by cases b <;> kernel_rfl
theorem fd_size (r : Rt) (b : Bool) : (Tryz.prog.info? 111).map (·.size) = some (fdC r b).size := by kernel_rfl
theorem built_fd (r : Rt) (b : Bool) : Tryz.prog.built 111 [(0, .agg r.cells), (1, .bool b)] = some (fdC r b) := by kernel_rfl
attribute [local go_sem ↓] Go.wp_at_zero Go.wp_at_succ
set_option maxRecDepth 100000 in
set_option maxHeartbeats 1000000 in
theorem look_no (d m k : Nat) (n wr : Int) (g : Int → List UInt8) (at_ : Int) (h0 : 0 ≤ at_) (h1 : at_ < 2) (hG : Gets (g at_) rz 250) (w : World) (h : Dv w d m k n wr g) :
    Calls Tryz.prog 48 #[.pointer (some ⟨d, 0, none⟩), .int .u32 at_] w fun e w' => e = .returned (.agg (fdC rz false)) ∧ Below w.heap.size w w' := by
  have hlo := h.lo
  have hB0 : Below w.heap.size w (w.alloc (.cells (fdC rz false) 111)) := (Below.refl _ _).alloc (Nat.le_refl _) _
  have HD0 := Lib.hid (h.below hB0)
  have HR0 := Lib.hid (Bk.new w 111 (fdC rz false))
  have HB0 := Lib.hid hB0
  have HG := Lib.hid hG
  have hlV := h.len at_
  have hszV : (Tryz.prog.info? 53).map (·.size) = some (bA (g at_)).size := by rw [bA_size, hlV]; exact infoBlock
  have h1V := bA_one (g at_)
  have HSZ := Lib.hid (show (bA (g at_)).size = 256 by rw [bA_size, hlV])

  clear h hG hB0 hlV
  go_enter Tryz.func48, Tryz.ntmps48
  go_wp2_with fail
  refine (read_any d m k n wr g at_ h0 (by omega) _ HD0.out).mono ?_
  rintro e w1 ⟨rfl, hb1⟩
  have HD1 := Lib.hid (HD0.out.below hb1)
  have HR1 := Lib.hid (HR0.out.below hb1 HR0.out.lt)
  have HB1 := Lib.hid (HB0.out.trans (hb1.mono HB0.out.size))
  clear HD0 HR0 HB0 hb1
  have hN0 := Bk.new w1 53 Tryz.zeroCells53
  have HT := Lib.hid (hN0.there (bA (g at_)).size (by rw [HSZ.out, zb_cells, bA_size, zb_length]; exact Nat.le_refl _))
  have hNA := hN0.all (bA (g at_)).toList (by rw [Array.length_toList, HSZ.out, zb_cells, bA_size, zb_length])
  rw [Array.toArray_toList] at hNA
  have hBX := below_setCells w1.heap.size (Nat.le_refl _) (bA (g at_)).toList ((Below.refl w1.heap.size w1).alloc (Nat.le_refl _) (.cells Tryz.zeroCells53 53)) 0
  have HD2 := Lib.hid (HD1.out.below hBX)
  have HR2 := Lib.hid (HR1.out.below hBX HR1.out.lt)
  have HB2 := Lib.hid (HB1.out.trans (hBX.mono HB1.out.size))
  have HNA := Lib.hid hNA
  clear hN0 hNA hBX HD1 HR1 HB1
  unfold Gets at HG
  generalize bA (g at_) = V at *
  go_wp2_with (first | (refine wpList_store_mid rfl 53 _ _ rfl _ 0 V rfl rfl HT.out hszV h1V ?_) | (refine wpList_load_row rfl 53 _ rfl _ rfl _ V _ _ HNA.out Tryz.underlying53 rfl hszV ?_))
  refine (HG.out _).mono ?_
  rintro e w3 ⟨rfl, hb3⟩
  have HD3 := Lib.hid (HD2.out.below hb3)
  have HR3 := Lib.hid (HR2.out.below hb3 HR2.out.lt)
  have HB3 := Lib.hid (HB2.out.trans (hb3.mono HB2.out.size))
  clear HD2 HR2 HB2 hb3 HNA HT
  simp only [Rt.cells]
  go_wp2_with fail
  have HA := Lib.hid ((Below.refl w3.heap.size w3).alloc (Nat.le_refl _) (.cells #[.int .u64 rz.gen, .int .u32 rz.size, .int .u32 rz.picks, .int .u32 rz.names, .int .u32 rz.free, .int .u32 rz.next, .int .u32 rz.hint, .int .u8 rz.vols] 30))
  have HK := Lib.hid (show Bk (w3.alloc (.cells #[.int .u64 rz.gen, .int .u32 rz.size, .int .u32 rz.picks, .int .u32 rz.names, .int .u32 rz.free, .int .u32 rz.next, .int .u32 rz.hint, .int .u8 rz.vols] 30)) w3.heap.size 30 (Rt.cells rz) from Bk.new w3 _ _)
  have HD := Lib.hid (HD3.out.below HA.out)
  have HR := Lib.hid (HR3.out.below HA.out HR3.out.lt)
  have HB := Lib.hid (HB3.out.trans (HA.out.mono HB3.out.size))
  have hne : w3.heap.size ≠ w.heap.size := Nat.ne_of_gt HR3.out.lt
  clear HA HD3 HR3 HB3
  generalize w3.alloc (.cells #[.int .u64 rz.gen, .int .u32 rz.size, .int .u32 rz.picks, .int .u32 rz.names, .int .u32 rz.free, .int .u32 rz.next, .int .u32 rz.hint, .int .u8 rz.vols] 30) = X at *
  generalize w3.heap.size = x7 at *
  refine wp_region_held_drew (S := fun Y => Bk Y x7 30 (Rt.cells rz)) (by kernel_rfl) HK.out ?_
  intro hHeld
  refine wpAnyH_take (i := 0) (v := .agg (Rt.cells rz)) rfl (by kernel_rfl) (by kernel_rfl) (by kernel_rfl) (fun _ _ _ h => h) (yieldsIf_load_arr (by rfl) 30 _ rfl x7 0 rfl (Rt.cells rz) _ (fun w h => Bk.range h) Tryz.underlying30 rfl (by kernel_rfl)) hHeld ?_
  try simp only [Act.put, List.getElem_toArray, List.getElem_cons_zero, List.getElem_cons_succ, List.setIfInBounds_toArray, List.set_cons_zero, List.set_cons_succ]
  refine wpAnyH_take (i := 1) (v := ?_) rfl (by kernel_rfl) (by kernel_rfl) (by kernel_rfl) (fun _ _ _ h => h) (Or.inl ⟨by rfl, ?_⟩) hHeld ?_
  rotate_left
  · (intro w hSw; (try dsimp only at hSw); go_simp)
    try with_reducible rfl
  try simp only [Act.put, List.getElem_toArray, List.getElem_cons_zero, List.getElem_cons_succ, List.setIfInBounds_toArray, List.set_cons_zero, List.set_cons_succ]
  refine wpAnyH_take (i := 2) (v := ?_) rfl (by kernel_rfl) (by kernel_rfl) (by kernel_rfl) (fun _ _ _ h => h) (Or.inl ⟨by rfl, ?_⟩) hHeld ?_
  rotate_left
  · (intro w hSw; (try dsimp only at hSw); go_simp)
    try with_reducible rfl
  try simp only [Act.put, List.getElem_toArray, List.getElem_cons_zero, List.getElem_cons_succ, List.setIfInBounds_toArray, List.set_cons_zero, List.set_cons_succ]
  refine wpAnyH_take (i := 3) (v := ?_) rfl (by kernel_rfl) (by kernel_rfl) (by kernel_rfl) (fun _ _ _ h => h) (Or.inl ⟨by rfl, ?_⟩) hHeld ?_
  rotate_left
  · (intro w hSw; (try dsimp only at hSw); go_simp)
    try with_reducible rfl
  try simp only [Act.put, List.getElem_toArray, List.getElem_cons_zero, List.getElem_cons_succ, List.setIfInBounds_toArray, List.set_cons_zero, List.set_cons_succ]
  refine wpAnyH_take (i := 4) (v := undef) rfl (by kernel_rfl) (by kernel_rfl) (by kernel_rfl) (fun _ _ _ h => h) (Or.inr ⟨by rfl, rfl⟩) hHeld ?_
  try simp only [Act.put, List.getElem_toArray, List.getElem_cons_zero, List.getElem_cons_succ, List.setIfInBounds_toArray, List.set_cons_zero, List.set_cons_succ]
  refine wpAnyH_take (i := 5) (v := undef) rfl (by kernel_rfl) (by kernel_rfl) (by kernel_rfl) (fun _ _ _ h => h) (Or.inr ⟨by rfl, rfl⟩) hHeld ?_
  try simp only [Act.put, List.getElem_toArray, List.getElem_cons_zero, List.getElem_cons_succ, List.setIfInBounds_toArray, List.set_cons_zero, List.set_cons_succ]
  refine wpAnyH_take (i := 6) (v := undef) rfl (by kernel_rfl) (by kernel_rfl) (by kernel_rfl) (fun _ _ _ h => h) (Or.inr ⟨by rfl, rfl⟩) hHeld ?_
  try simp only [Act.put, List.getElem_toArray, List.getElem_cons_zero, List.getElem_cons_succ, List.setIfInBounds_toArray, List.set_cons_zero, List.set_cons_succ]
  refine wpAnyH_take (i := 7) (v := undef) rfl (by kernel_rfl) (by kernel_rfl) (by kernel_rfl) (fun _ _ _ h => h) (Or.inr ⟨by rfl, rfl⟩) hHeld ?_
  try simp only [Act.put, List.getElem_toArray, List.getElem_cons_zero, List.getElem_cons_succ, List.setIfInBounds_toArray, List.set_cons_zero, List.set_cons_succ]
  refine wpAnyH_take (i := 8) (v := undef) rfl (by kernel_rfl) (by kernel_rfl) (by kernel_rfl) (fun _ _ _ h => h) (Or.inr ⟨by rfl, rfl⟩) hHeld ?_
  try simp only [Act.put, List.getElem_toArray, List.getElem_cons_zero, List.getElem_cons_succ, List.setIfInBounds_toArray, List.set_cons_zero, List.set_cons_succ]
  refine wpAnyH_take (i := 9) (v := undef) rfl (by kernel_rfl) (by kernel_rfl) (by kernel_rfl) (fun _ _ _ h => h) (Or.inr ⟨by rfl, rfl⟩) hHeld ?_
  try simp only [Act.put, List.getElem_toArray, List.getElem_cons_zero, List.getElem_cons_succ, List.setIfInBounds_toArray, List.set_cons_zero, List.set_cons_succ]
  refine wpAnyH_take (i := 10) (v := ?_) rfl (by kernel_rfl) (by kernel_rfl) (by kernel_rfl) (fun _ _ _ h => h) (Or.inl ⟨by rfl, ?_⟩) hHeld ?_
  rotate_left
  · (intro w hSw; (try dsimp only at hSw); go_simp)
    try with_reducible rfl
  try simp only [Act.put, List.getElem_toArray, List.getElem_cons_zero, List.getElem_cons_succ, List.setIfInBounds_toArray, List.set_cons_zero, List.set_cons_succ]
  refine wpAnyH_take (i := 11) (v := ?_) rfl (by kernel_rfl) (by kernel_rfl) (by kernel_rfl) (fun _ _ _ h => h) (Or.inl ⟨by rfl, ?_⟩) hHeld ?_
  rotate_left
  · (intro w hSw; (try dsimp only at hSw); go_simp)
    try with_reducible rfl
  try simp only [Act.put, List.getElem_toArray, List.getElem_cons_zero, List.getElem_cons_succ, List.setIfInBounds_toArray, List.set_cons_zero, List.set_cons_succ]
  refine wpAnyH_take (i := 12) (v := undef) rfl (by kernel_rfl) (by kernel_rfl) (by kernel_rfl) (fun _ _ _ h => h) (Or.inr ⟨by rfl, rfl⟩) hHeld ?_
  try simp only [Act.put, List.getElem_toArray, List.getElem_cons_zero, List.getElem_cons_succ, List.setIfInBounds_toArray, List.set_cons_zero, List.set_cons_succ]
  refine wpAnyH_take (i := 13) (v := undef) rfl (by kernel_rfl) (by kernel_rfl) (by kernel_rfl) (fun _ _ _ h => h) (Or.inr ⟨by rfl, rfl⟩) hHeld ?_
  try simp only [Act.put, List.getElem_toArray, List.getElem_cons_zero, List.getElem_cons_succ, List.setIfInBounds_toArray, List.set_cons_zero, List.set_cons_succ]
  refine wpAnyH_take (i := 14) (v := undef) rfl (by kernel_rfl) (by kernel_rfl) (by kernel_rfl) (fun _ _ _ h => h) (Or.inr ⟨by rfl, rfl⟩) hHeld ?_
  try simp only [Act.put, List.getElem_toArray, List.getElem_cons_zero, List.getElem_cons_succ, List.setIfInBounds_toArray, List.set_cons_zero, List.set_cons_succ]
  refine wpAnyH_take (i := 15) (v := undef) rfl (by kernel_rfl) (by kernel_rfl) (by kernel_rfl) (fun _ _ _ h => h) (Or.inr ⟨by rfl, rfl⟩) hHeld ?_
  try simp only [Act.put, List.getElem_toArray, List.getElem_cons_zero, List.getElem_cons_succ, List.setIfInBounds_toArray, List.set_cons_zero, List.set_cons_succ]
  refine wpAnyH_take (i := 16) (v := ?_) rfl (by kernel_rfl) (by kernel_rfl) (by kernel_rfl) (fun _ _ _ h => h) (Or.inl ⟨by rfl, ?_⟩) hHeld ?_
  rotate_left
  · (intro w hSw; (try dsimp only at hSw); go_simp)
    try with_reducible rfl
  try simp only [Act.put, List.getElem_toArray, List.getElem_cons_zero, List.getElem_cons_succ, List.setIfInBounds_toArray, List.set_cons_zero, List.set_cons_succ]
  have HR1 := Lib.hid (show Bk X.drew w.heap.size 111 (fdC rz false) from HR.out.drew)
  have HB1 := Lib.hid (show Below w.heap.size w X.drew from below_drewN HB.out 1)
  clear HR HB HD HK
  generalize X.drew = Y at *
  refine wpAnyH_take (i := 17) (v := .agg (fdC rz false)) rfl (by kernel_rfl) (by kernel_rfl) (by kernel_rfl) (fun _ _ _ h => h) (yieldsIf_build (by rfl) 111 _ rfl [(0, .agg (Rt.cells rz)), (1, .bool false)] rfl _ (built_fd rz false)) hHeld ?_
  try simp only [Act.put, List.getElem_toArray, List.getElem_cons_zero, List.getElem_cons_succ, List.setIfInBounds_toArray, List.set_cons_zero, List.set_cons_succ]
  have hRA := HR1.out.all (fdC rz false).toList rfl
  rw [Array.toArray_toList] at hRA
  have hBA := below_setCells w.heap.size (Nat.le_refl _) (fdC rz false).toList HB1.out 0
  refine wpAnyH_ready (rs := [18]) (by kernel_rfl) (by simp) ?_
  refine (AllReadyH.cons rfl (fun K hK => ?_) AllReadyH.nil)
  refine step_store_mid (by rfl) 111 (.tmp 4) (.tmp 37) (by rfl) w.heap.size 0 (fdC rz false) (by rfl) (by rfl) (HR1.out.there _ (Nat.le_refl _)) (fd_size rz false) (fdC_one rz false) ?_
  refine hK.out _ _ (Bk.farCells w.heap.size hne _ hHeld 0) (fun _ => ?_)
  clear hK K
  refine wpAnyH_done (by kernel_rfl) ?_ _
  try simp only [Act.put, List.getElem_toArray, List.getElem_cons_zero, List.getElem_cons_succ, List.setIfInBounds_toArray, List.set_cons_zero, List.set_cons_succ]
  have HE := Lib.hid (And.intro hRA hBA)
  clear hRA hBA
  generalize Y.setCells w.heap.size 0 (fdC rz false).toList = Z at *
  go_wp2_with fail
  refine bodyPost_ret (results_cell_row rfl _ _ w.heap.size _ (fdC rz false) _ _ rfl HE.out.1 Tryz.underlying111 rfl (fd_size rz false)) rfl ⟨rfl, HE.out.2⟩
set_option maxRecDepth 100000 in
set_option maxHeartbeats 1000000 in
theorem look_yes (d m k : Nat) (n wr : Int) (g : Int → List UInt8) (at_ : Int) (h0 : 0 ≤ at_) (h1 : at_ < 2) (r : Rt) (hG : Gets (g at_) r 0) (hg : r.gen % 2 = at_) (hf : r.Fits n) (w : World) (h : Dv w d m k n wr g) :
    Calls Tryz.prog 48 #[.pointer (some ⟨d, 0, none⟩), .int .u32 at_] w fun e w' => e = .returned (.agg (fdC r true)) ∧ Below w.heap.size w w' := by
  have hlo := h.lo
  have hB0 : Below w.heap.size w (w.alloc (.cells (fdC rz false) 111)) := (Below.refl _ _).alloc (Nat.le_refl _) _
  have HD0 := Lib.hid (h.below hB0)
  have HR0 := Lib.hid (Bk.new w 111 (fdC rz false))
  have HB0 := Lib.hid hB0
  have HG := Lib.hid hG
  have hlV := h.len at_
  have hszV : (Tryz.prog.info? 53).map (·.size) = some (bA (g at_)).size := by rw [bA_size, hlV]; exact infoBlock
  have h1V := bA_one (g at_)
  have HSZ := Lib.hid (show (bA (g at_)).size = 256 by rw [bA_size, hlV])
  have HF := Lib.hid hf
  clear h hG hB0 hlV hf
  obtain ⟨g0, g1⟩ := HF.out.ok.gen
  have eg : (r.gen.tmod 2 == IntKind.u64.wrap at_) = true := by rw [beq_iff_eq, Int.tmod_eq_emod_of_nonneg g0, IntKind.wrap_u64, hg]; omega
  clear hg
  go_enter Tryz.func48, Tryz.ntmps48
  go_wp2_with fail
  refine (read_any d m k n wr g at_ h0 (by omega) _ HD0.out).mono ?_
  rintro e w1 ⟨rfl, hb1⟩
  have HD1 := Lib.hid (HD0.out.below hb1)
  have HR1 := Lib.hid (HR0.out.below hb1 HR0.out.lt)
  have HB1 := Lib.hid (HB0.out.trans (hb1.mono HB0.out.size))
  clear HD0 HR0 HB0 hb1
  have hN0 := Bk.new w1 53 Tryz.zeroCells53
  have HT := Lib.hid (hN0.there (bA (g at_)).size (by rw [HSZ.out, zb_cells, bA_size, zb_length]; exact Nat.le_refl _))
  have hNA := hN0.all (bA (g at_)).toList (by rw [Array.length_toList, HSZ.out, zb_cells, bA_size, zb_length])
  rw [Array.toArray_toList] at hNA
  have hBX := below_setCells w1.heap.size (Nat.le_refl _) (bA (g at_)).toList ((Below.refl w1.heap.size w1).alloc (Nat.le_refl _) (.cells Tryz.zeroCells53 53)) 0
  have HD2 := Lib.hid (HD1.out.below hBX)
  have HR2 := Lib.hid (HR1.out.below hBX HR1.out.lt)
  have HB2 := Lib.hid (HB1.out.trans (hBX.mono HB1.out.size))
  have HNA := Lib.hid hNA
  clear hN0 hNA hBX HD1 HR1 HB1
  unfold Gets at HG
  generalize bA (g at_) = V at *
  go_wp2_with (first | (refine wpList_store_mid rfl 53 _ _ rfl _ 0 V rfl rfl HT.out hszV h1V ?_) | (refine wpList_load_row rfl 53 _ rfl _ rfl _ V _ _ HNA.out Tryz.underlying53 rfl hszV ?_))
  refine (HG.out _).mono ?_
  rintro e w3 ⟨rfl, hb3⟩
  have HD3 := Lib.hid (HD2.out.below hb3)
  have HR3 := Lib.hid (HR2.out.below hb3 HR2.out.lt)
  have HB3 := Lib.hid (HB2.out.trans (hb3.mono HB2.out.size))
  clear HD2 HR2 HB2 hb3 HNA HT
  simp only [Rt.cells]
  go_wp2_with fail
  have HA := Lib.hid ((Below.refl w3.heap.size w3).alloc (Nat.le_refl _) (.cells #[.int .u64 r.gen, .int .u32 r.size, .int .u32 r.picks, .int .u32 r.names, .int .u32 r.free, .int .u32 r.next, .int .u32 r.hint, .int .u8 r.vols] 30))
  have HK := Lib.hid (show Bk (w3.alloc (.cells #[.int .u64 r.gen, .int .u32 r.size, .int .u32 r.picks, .int .u32 r.names, .int .u32 r.free, .int .u32 r.next, .int .u32 r.hint, .int .u8 r.vols] 30)) w3.heap.size 30 (Rt.cells r) from Bk.new w3 _ _)
  have HD := Lib.hid (HD3.out.below HA.out)
  have HR := Lib.hid (HR3.out.below HA.out HR3.out.lt)
  have HB := Lib.hid (HB3.out.trans (HA.out.mono HB3.out.size))
  have hne : w3.heap.size ≠ w.heap.size := Nat.ne_of_gt HR3.out.lt
  clear HA HD3 HR3 HB3
  generalize w3.alloc (.cells #[.int .u64 r.gen, .int .u32 r.size, .int .u32 r.picks, .int .u32 r.names, .int .u32 r.free, .int .u32 r.next, .int .u32 r.hint, .int .u8 r.vols] 30) = X at *
  generalize w3.heap.size = x7 at *
  refine wp_region_held_drew (S := fun Y => Bk Y x7 30 (Rt.cells r)) (by kernel_rfl) HK.out ?_
  intro hHeld
  refine wpAnyH_take (i := 0) (v := .agg (Rt.cells r)) rfl (by kernel_rfl) (by kernel_rfl) (by kernel_rfl) (fun _ _ _ h => h) (yieldsIf_load_arr (by rfl) 30 _ rfl x7 0 rfl (Rt.cells r) _ (fun w h => Bk.range h) Tryz.underlying30 rfl (by kernel_rfl)) hHeld ?_
  try simp only [Act.put, List.getElem_toArray, List.getElem_cons_zero, List.getElem_cons_succ, List.setIfInBounds_toArray, List.set_cons_zero, List.set_cons_succ]
  refine wpAnyH_take (i := 1) (v := ?_) rfl (by kernel_rfl) (by kernel_rfl) (by kernel_rfl) (fun _ _ _ h => h) (Or.inl ⟨by rfl, ?_⟩) hHeld ?_
  rotate_left
  · (intro w hSw; (try dsimp only at hSw); go_simp)
    try with_reducible rfl
  try simp only [Act.put, List.getElem_toArray, List.getElem_cons_zero, List.getElem_cons_succ, List.setIfInBounds_toArray, List.set_cons_zero, List.set_cons_succ]
  refine wpAnyH_take (i := 2) (v := ?_) rfl (by kernel_rfl) (by kernel_rfl) (by kernel_rfl) (fun _ _ _ h => h) (Or.inl ⟨by rfl, ?_⟩) hHeld ?_
  rotate_left
  · (intro w hSw; (try dsimp only at hSw); go_simp)
    try with_reducible rfl
  try simp only [Act.put, List.getElem_toArray, List.getElem_cons_zero, List.getElem_cons_succ, List.setIfInBounds_toArray, List.set_cons_zero, List.set_cons_succ]
  refine wpAnyH_take (i := 3) (v := ?_) rfl (by kernel_rfl) (by kernel_rfl) (by kernel_rfl) (fun _ _ _ h => h) (Or.inl ⟨by rfl, ?_⟩) hHeld ?_
  rotate_left
  · (intro w hSw; (try dsimp only at hSw); go_simp)
    try with_reducible rfl
  try simp only [Act.put, List.getElem_toArray, List.getElem_cons_zero, List.getElem_cons_succ, List.setIfInBounds_toArray, List.set_cons_zero, List.set_cons_succ]
  refine wpAnyH_take (i := 4) (v := ?_) rfl (by kernel_rfl) (by kernel_rfl) (by kernel_rfl) (fun _ _ _ h => h) (Or.inl ⟨by rfl, ?_⟩) hHeld ?_
  rotate_left
  · (intro w hSw; (try dsimp only at hSw); go_simp)
    try with_reducible rfl
  try simp only [Act.put, List.getElem_toArray, List.getElem_cons_zero, List.getElem_cons_succ, List.setIfInBounds_toArray, List.set_cons_zero, List.set_cons_succ]
  refine wpAnyH_take (i := 5) (v := ?_) rfl (by kernel_rfl) (by kernel_rfl) (by kernel_rfl) (fun _ _ _ h => h) (Or.inl ⟨by rfl, ?_⟩) hHeld ?_
  rotate_left
  · (intro w hSw; (try dsimp only at hSw); obtain ⟨q0, q1, q2, q3, q4, q5, q6, q7⟩ := Bk.rt hSw; go_simp)
    try with_reducible rfl
  try simp only [Act.put, List.getElem_toArray, List.getElem_cons_zero, List.getElem_cons_succ, List.setIfInBounds_toArray, List.set_cons_zero, List.set_cons_succ]
  refine wpAnyH_take (i := 6) (v := ?_) rfl (by kernel_rfl) (by kernel_rfl) (by kernel_rfl) (fun _ _ _ h => h) (Or.inl ⟨by rfl, ?_⟩) hHeld ?_
  rotate_left
  · (intro w hSw; (try dsimp only at hSw); go_simp)
    try with_reducible rfl
  try simp only [Act.put, List.getElem_toArray, List.getElem_cons_zero, List.getElem_cons_succ, List.setIfInBounds_toArray, List.set_cons_zero, List.set_cons_succ]
  refine wpAnyH_take (i := 7) (v := ?_) rfl (by kernel_rfl) (by kernel_rfl) (by kernel_rfl) (fun _ _ _ h => h) (Or.inl ⟨by rfl, ?_⟩) hHeld ?_
  rotate_left
  · (intro w hSw; (try dsimp only at hSw); go_simp)
    try with_reducible rfl
  try simp only [Act.put, List.getElem_toArray, List.getElem_cons_zero, List.getElem_cons_succ, List.setIfInBounds_toArray, List.set_cons_zero, List.set_cons_succ]
  refine wpAnyH_take (i := 8) (v := ?_) rfl (by kernel_rfl) (by kernel_rfl) (by kernel_rfl) (fun _ _ _ h => h) (Or.inl ⟨by rfl, ?_⟩) hHeld ?_
  rotate_left
  · (intro w hSw; (try dsimp only at hSw); go_simp)
    try with_reducible rfl
  try simp only [Act.put, List.getElem_toArray, List.getElem_cons_zero, List.getElem_cons_succ, List.setIfInBounds_toArray, List.set_cons_zero, List.set_cons_succ]
  refine wpAnyH_take (i := 9) (v := ?_) rfl (by kernel_rfl) (by kernel_rfl) (by kernel_rfl) (fun _ _ _ h => h) (Or.inl ⟨by rfl, ?_⟩) hHeld ?_
  rotate_left
  · (intro w hSw; (try dsimp only at hSw); go_simp)
    try with_reducible rfl
  try simp only [Act.put, List.getElem_toArray, List.getElem_cons_zero, List.getElem_cons_succ, List.setIfInBounds_toArray, List.set_cons_zero, List.set_cons_succ]
  refine wpAnyH_take (i := 10) (v := ?_) rfl (by kernel_rfl) (by kernel_rfl) (by kernel_rfl) (fun _ _ _ h => h) (Or.inl ⟨by rfl, ?_⟩) hHeld ?_
  rotate_left
  · (intro w hSw; (try dsimp only at hSw); go_simp)
    try with_reducible rfl
  try simp only [Act.put, List.getElem_toArray, List.getElem_cons_zero, List.getElem_cons_succ, List.setIfInBounds_toArray, List.set_cons_zero, List.set_cons_succ]
  refine wpAnyH_take (i := 11) (v := ?_) rfl (by kernel_rfl) (by kernel_rfl) (by kernel_rfl) (fun _ _ _ h => h) (Or.inl ⟨by rfl, ?_⟩) hHeld ?_
  rotate_left
  · (intro w hSw; (try dsimp only at hSw); go_simp)
    try with_reducible rfl
  try simp only [Act.put, List.getElem_toArray, List.getElem_cons_zero, List.getElem_cons_succ, List.setIfInBounds_toArray, List.set_cons_zero, List.set_cons_succ]
  refine wpAnyH_take (i := 12) (v := .agg (Rt.cells r)) rfl (by kernel_rfl) (by kernel_rfl) (by kernel_rfl) (fun _ _ _ h => h) (yieldsIf_load_arr (by rfl) 30 _ rfl x7 0 rfl (Rt.cells r) _ (fun w h => Bk.range h) Tryz.underlying30 rfl (by kernel_rfl)) hHeld ?_
  try simp only [Act.put, List.getElem_toArray, List.getElem_cons_zero, List.getElem_cons_succ, List.setIfInBounds_toArray, List.set_cons_zero, List.set_cons_succ]
  refine wpAnyH_take (i := 13) (v := ?_) rfl (by kernel_rfl) (by kernel_rfl) (by kernel_rfl) (fun _ _ _ h => h) (Or.inl ⟨by rfl, ?_⟩) hHeld ?_
  rotate_left
  · (intro w hSw; (try dsimp only at hSw); go_simp)
    try with_reducible rfl
  try simp only [Act.put, List.getElem_toArray, List.getElem_cons_zero, List.getElem_cons_succ, List.setIfInBounds_toArray, List.set_cons_zero, List.set_cons_succ]
  have HR0 := Lib.hid (show Bk X.drew w.heap.size 111 (fdC rz false) from HR.out.drew)
  have HB0 := Lib.hid (show Below w.heap.size w X.drew from below_drewN HB.out 1)
  have HD0 := Lib.hid (show Dv X.drew d m k n wr g from HD.out.drewN 1)
  clear HR HB HD HK
  generalize X.drew = Y0 at *
  refine wpAnyH_ready (rs := [14]) (by kernel_rfl) (by simp) ?_
  refine (AllReadyH.cons rfl (fun K hK => ?_) AllReadyH.nil)
  go_simp
  refine (size_b d m n wr _ _ HD0.out.b).mono ?_
  rintro e wv ⟨rfl, rfl⟩
  go_wp2_with fail
  refine hK.out _ _ hHeld (fun _ => ?_)
  clear hK K
  try simp only [Act.put, List.getElem_toArray, List.getElem_cons_zero, List.getElem_cons_succ, List.setIfInBounds_toArray, List.set_cons_zero, List.set_cons_succ]
  refine wpAnyH_ready (rs := [15]) (by kernel_rfl) (by simp) ?_
  refine (AllReadyH.cons rfl (fun K hK => ?_) AllReadyH.nil)
  go_simp
  refine (rmay_yes r n HF.out _).mono ?_
  rintro e Y ⟨rfl, hbX⟩
  have hH := hHeld.below hbX hHeld.lt
  have HR1 := Lib.hid (HR0.out.below hbX HR0.out.lt)
  have HB1 := Lib.hid (HB0.out.trans (hbX.mono HB0.out.size))
  clear HR0 HB0 HD0 hbX
  go_wp2_with fail
  refine hK.out _ _ hH (fun _ => ?_)
  clear hK K hHeld
  have hHeld := hH
  clear hH
  try simp only [Act.put, List.getElem_toArray, List.getElem_cons_zero, List.getElem_cons_succ, List.setIfInBounds_toArray, List.set_cons_zero, List.set_cons_succ]
  refine wpAnyH_take (i := 16) (v := ?_) rfl (by kernel_rfl) (by kernel_rfl) (by kernel_rfl) (fun _ _ _ h => h) (Or.inl ⟨by rfl, ?_⟩) hHeld ?_
  rotate_left
  · (intro w hSw; (try dsimp only at hSw); go_simp)
    try with_reducible rfl
  try simp only [Act.put, List.getElem_toArray, List.getElem_cons_zero, List.getElem_cons_succ, List.setIfInBounds_toArray, List.set_cons_zero, List.set_cons_succ]
  refine wpAnyH_take (i := 17) (v := .agg (fdC r true)) rfl (by kernel_rfl) (by kernel_rfl) (by kernel_rfl) (fun _ _ _ h => h) (yieldsIf_build (by rfl) 111 _ rfl [(0, .agg (Rt.cells r)), (1, .bool true)] rfl _ (built_fd r true)) hHeld ?_
  try simp only [Act.put, List.getElem_toArray, List.getElem_cons_zero, List.getElem_cons_succ, List.setIfInBounds_toArray, List.set_cons_zero, List.set_cons_succ]
  have hRA := HR1.out.all (fdC r true).toList rfl
  rw [Array.toArray_toList] at hRA
  have hBA := below_setCells w.heap.size (Nat.le_refl _) (fdC r true).toList HB1.out 0
  refine wpAnyH_ready (rs := [18]) (by kernel_rfl) (by simp) ?_
  refine (AllReadyH.cons rfl (fun K hK => ?_) AllReadyH.nil)
  refine step_store_mid (by rfl) 111 (.tmp 4) (.tmp 37) (by rfl) w.heap.size 0 (fdC r true) (by rfl) (by rfl) (HR1.out.there _ (Nat.le_refl _)) (fd_size r true) (fdC_one r true) ?_
  refine hK.out _ _ (Bk.farCells w.heap.size hne _ hHeld 0) (fun _ => ?_)
  clear hK K
  refine wpAnyH_done (by kernel_rfl) ?_ _
  try simp only [Act.put, List.getElem_toArray, List.getElem_cons_zero, List.getElem_cons_succ, List.setIfInBounds_toArray, List.set_cons_zero, List.set_cons_succ]
  have HE := Lib.hid (And.intro hRA hBA)
  clear hRA hBA
  generalize Y.setCells w.heap.size 0 (fdC r true).toList = Z at *
  go_wp2_with fail
  refine bodyPost_ret (results_cell_row rfl _ _ w.heap.size _ (fdC r true) _ _ rfl HE.out.1 Tryz.underlying111 rfl (fd_size r true)) rfl ⟨rfl, HE.out.2⟩
end Go.Proofs.YtjnbpbnhkinggaaGreatDoor.St
