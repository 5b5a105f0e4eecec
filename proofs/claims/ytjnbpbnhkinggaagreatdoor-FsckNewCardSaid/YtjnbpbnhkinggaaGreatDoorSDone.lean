/- The contract of field.Writer.Done. -/
import Derived.Test.YtjnbpbnhkinggaaGreatDoorSNum
import Derived.Laws.CopyOwn
namespace Go.Proofs.YtjnbpbnhkinggaaGreatDoor.St
open Go.RowKit

/-- A block that has a mark, bytes, and zeros. -/
def filled (m : UInt8) (l : List UInt8) : List UInt8 := m :: l ++ List.replicate (255 - l.length) 0
theorem filled_length (m : UInt8) (l : List UInt8) (h : l.length ≤ 251) : (filled m l).length = 256 := by
  simp [filled]; omega
theorem wr_far {w : World} {p : Nat} {v : Value} {l : List UInt8} (h : Wr w p v l) (g : Nat) (hg : p ≠ g) {t : TypeId} {cs : Array Value} (hb : Bk w g t cs) (ht : t ≠ 5) (i : Nat) (u : Value) : Wr (w.setCell ⟨g, i, none⟩ u) p v l :=
  ⟨h.1.far _ hg _, own_fr h.2 (Fr.setCell (S := fun i => i = g) (Fr.refl _ _) (p := ⟨g, i, none⟩) (fun _ => rfl) u) (fun x hx e => own_ne h.2 hb ht (by rw [hx, e]))⟩
theorem bA_one' (l : List UInt8) : ∀ v ∈ (bA l).toList, v.oneCell' = true := by
  intro v hv
  simp only [bA, List.mem_map] at hv
  obtain ⟨x, _, rfl⟩ := hv
  rfl
theorem src_pos {w : World} {p : Nat} {s : Option Addr} {c g : Nat} {l : List UInt8} (h : Wr w p (.slice s l.length c) l) : 0 < (bA l).toList.length → (some (⟨g, 1, none⟩ : Addr) = some ⟨g, 1, none⟩) ∧ ∃ ad, s = some ad ∧ ∀ j v, (bA l).toList[j]? = some v → w.cell? (ad.add j) = some v := by
  rw [bA_toList_length]
  intro hp
  refine ⟨rfl, ?_⟩
  obtain ⟨_, h1, h2⟩ := h
  rcases h2 with ⟨_, h2⟩ | ⟨g', cap, cur, hv, hb, hk, hc⟩
  · omega
  · injection hv with hs _ _
    subst hs
    exact ⟨_, rfl, World.ownsRow.cells (w := w) (base := 0) (e := 5) (size := 1) ⟨h1, .inr ⟨g', cap, cur, rfl, hb, hk, hc⟩⟩ rfl⟩
theorem splice_filled (m : UInt8) (l : List UInt8) (hl : l.length ≤ 251) : splice (bA (zb.set 0 m)).toList 1 (bA l).toList = (bA (filled m l)).toList := by
  have e : zb.set 0 m = m :: List.replicate 255 0 := rfl
  rw [e]
  simp only [bA, splice, filled, List.map_cons, List.map_append, List.take_succ_cons, List.take_zero, List.length_map, List.map_replicate, List.cons_append, List.nil_append, List.append_assoc]
  congr 2
  rw [Nat.add_comm 1, List.drop_succ_cons, List.drop_replicate]
theorem results_row_tmp {P : Program} {fn : Func} {p u : Tmp} {ty : TypeId} (h : fn.results = #[.cell p ty, .tmp u]) (tmps : Array Value) (w : World) (g : Nat) (t : TypeId) (cs : Array Value) (d : TypeDesc)
    (hp : tmps.getD p undef = .pointer (some ⟨g, 0, none⟩)) (hg : Bk w g t cs)
    (hu : P.underlying ty = some d) (hd : (match d with | .struct _ | .array _ _ => true | _ => false) = true) (hi : (P.info? ty).map (·.size) = some cs.size) :
    (results fn tmps).run P w = .ok (.tuple #[.agg cs, tmps.getD u undef]) w := by
  rw [results_cell_tmp h, hp]
  simp [asAddr, run_loadVar_row w g t ty cs (0, 0) d hg hu hd hi, Result.andThen]
theorem wr_len {w : World} {p : Nat} {v : Value} {l : List UInt8} (h : Wr w p v l) : ∃ s c, v = .slice s l.length c ∧ (0 < l.length → ∃ g, s = some ⟨g, 0, none⟩ ∧ ∀ j u, (bA l).toList[j]? = some u → w.cell? ((⟨g, 0, none⟩ : Addr).add j) = some u) := by
  obtain ⟨_, h1, h2⟩ := h
  rcases h2 with ⟨rfl, h2⟩ | ⟨g, cap, cur, rfl, hb, hk, hc⟩
  · exact ⟨none, 0, by rw [h2], by omega⟩
  · refine ⟨_, cap, rfl, fun _ => ⟨g, rfl, ?_⟩⟩
    exact World.ownsRow.cells (w := w) (base := 0) (e := 5) (size := 1) ⟨h1, .inr ⟨g, cap, cur, rfl, hb, hk, hc⟩⟩ rfl

attribute [local go_sem ↓] Go.wp_at_zero Go.wp_at_succ
set_option maxRecDepth 100000 in
set_option maxHeartbeats 1000000 in
theorem done_any (p : Nat) (v : Value) (l : List UInt8) (m : UInt8) (hl : l.length ≤ 251) (w : World) (h : Wr w p v l) :
    Calls Tryz.prog 46 #[.pointer (some ⟨p, 0, none⟩), .int .u8 (m.toNat : Int)] w fun e w' => e = .returned (.tuple #[.agg (bA (sld (filled m l))), .int .i64 0]) ∧ Below w.heap.size w w' := by
  obtain ⟨s, c, rfl, hs⟩ := wr_len h
  have HN := Lib.hid (fun X (hX : Wr X p (.slice s l.length c) l) => wnone_any p _ l X hX)
  have HW := Lib.hid (show Wr ((w.alloc (.cells Tryz.zeroCells53 53)).alloc (.cells Tryz.zeroCells53 53)) p (.slice s l.length c) l from ⟨(h.1.alloc _).alloc _, (h.2.alloc _).alloc _⟩)
  have hplt := h.1.lt
  have HK1 := Lib.hid ((Bk.new w 53 Tryz.zeroCells53).alloc (.cells Tryz.zeroCells53 53))
  have HK2 := Lib.hid (show Bk ((w.alloc (.cells Tryz.zeroCells53 53)).alloc (.cells Tryz.zeroCells53 53)) (w.heap.size + 1) 53 Tryz.zeroCells53 from by simpa using Bk.new (w.alloc (.cells Tryz.zeroCells53 53)) 53 Tryz.zeroCells53)
  have HB := Lib.hid (((Below.refl w.heap.size w).alloc (Nat.le_refl _) (.cells Tryz.zeroCells53 53)).alloc (by simp) (.cells Tryz.zeroCells53 53))
  clear h hs
  go_enter Tryz.func46, Tryz.ntmps46
  go_wp2_with fail
  refine (HN.out _ HW.out).mono ?_
  rintro e w1 ⟨rfl, hw⟩
  rw [hw] at HW HK1 HK2 HB
  clear hw HN
  have c0 : w1.cell? ⟨p, 0, none⟩ = some (.slice s l.length c) := HW.out.1.cell 0
  have c2 : w1.cell? ⟨p, 2, none⟩ = some (.bool false) := HW.out.1.cell 2
  have cz : w1.cell? ⟨w.heap.size + 1, 0, none⟩ = some (.int .u8 0) := (HK2.out.cell 0).trans (by kernel_rfl)
  have fz := HK2.out.frozen 0
  go_wp2_with fail
  have hG := HK2.out.set 0 (.int .u8 (m.toNat : Int))
  rw [zb_cells, bA_set] at hG
  have HG := Lib.hid hG
  have HW3 := Lib.hid (wr_far HW.out (w.heap.size + 1) (by omega) HK2.out (by decide) 0 (.int .u8 (m.toNat : Int)))
  have HB3 := Lib.hid (HB.out.setCell (p := ⟨w.heap.size + 1, 0, none⟩) (Nat.le_succ _) (.int .u8 (m.toNat : Int)))
  have HK3 := Lib.hid (HK1.out.far ⟨w.heap.size + 1, 0, none⟩ (by simp) (.int .u8 (m.toNat : Int)))
  clear hG HW HB HK1 HK2 c0 c2 cz fz
  generalize w1.setCell ⟨w.heap.size + 1, 0, none⟩ (.int .u8 (m.toNat : Int)) = X at *
  have c0 : X.cell? ⟨p, 0, none⟩ = some (.slice s l.length c) := HW3.out.1.cell 0
  refine wp_region_held_drew (S := fun Y => Y.cell? ⟨p, 0, none⟩ = some (.slice s l.length c)) (by kernel_rfl) c0 ?_
  intro hHeld
  refine wpAnyH_take (i := 0) (v := ?_) rfl (by kernel_rfl) (by kernel_rfl) (by kernel_rfl) (fun _ _ _ h => h) (Or.inl ⟨by rfl, ?_⟩) hHeld ?_
  rotate_left
  · (intro w hSw; (try dsimp only at hSw); go_simp)
    try with_reducible rfl
  try simp only [Act.put, List.getElem_toArray, List.getElem_cons_zero, List.getElem_cons_succ, List.setIfInBounds_toArray, List.set_cons_zero, List.set_cons_succ]
  refine wpAnyH_take (i := 1) (v := ?_) rfl (by kernel_rfl) (by kernel_rfl) (by kernel_rfl) (fun _ _ _ h => h) (Or.inl ⟨by rfl, ?_⟩) hHeld ?_
  rotate_left
  · (intro w hSw; (try dsimp only at hSw); go_simp)
    try with_reducible rfl
  try simp only [Act.put, List.getElem_toArray, List.getElem_cons_zero, List.getElem_cons_succ, List.setIfInBounds_toArray, List.set_cons_zero, List.set_cons_succ]
  refine wpAnyH_take (i := 2) (v := ?_) rfl (by kernel_rfl) (by kernel_rfl) (by kernel_rfl) (fun _ _ _ h => h) (Or.inl ⟨by rfl, ?_⟩) hHeld ?_
  rotate_left
  · (intro w hSw; (try dsimp only at hSw); go_simp)
    try with_reducible rfl
  try simp only [Act.put, List.getElem_toArray, List.getElem_cons_zero, List.getElem_cons_succ, List.setIfInBounds_toArray, List.set_cons_zero, List.set_cons_succ]
  refine wpAnyH_take (i := 3) (v := ?_) rfl (by kernel_rfl) (by kernel_rfl) (by kernel_rfl) (fun _ _ _ h => h) (Or.inl ⟨by rfl, ?_⟩) hHeld ?_
  rotate_left
  · (intro w hSw; (try dsimp only at hSw); go_simp)
    try with_reducible rfl
  try simp only [Act.put, List.getElem_toArray, List.getElem_cons_zero, List.getElem_cons_succ, List.setIfInBounds_toArray, List.set_cons_zero, List.set_cons_succ]
  refine wpAnyH_take (i := 4) (v := ?_) rfl (by kernel_rfl) (by kernel_rfl) (by kernel_rfl) (fun _ _ _ h => h) (Or.inl ⟨by rfl, ?_⟩) hHeld ?_
  rotate_left
  · (intro w hSw; (try dsimp only at hSw); go_simp)
    try with_reducible rfl
  try simp only [Act.put, List.getElem_toArray, List.getElem_cons_zero, List.getElem_cons_succ, List.setIfInBounds_toArray, List.set_cons_zero, List.set_cons_succ]
  refine wpAnyH_ready (rs := [5]) (by kernel_rfl) (by simp) ?_
  refine AllReadyH.cons rfl (fun K hK => ?_) AllReadyH.nil
  refine step_copy_splice rfl (.tmp 27) (.tmp 31) 142 142 rfl 5 Tryz.underlying142 (by kernel_rfl) _ _ _ _ _ _ rfl rfl (w.heap.size + 1) 1 (bA (zb.set 0 m)).toList 53 HG.out (bA l).toList (by rw [bA_toList_length]; exact (Nat.min_eq_left (by omega)).symm) (src_pos HW3.out) (by rw [bA_toList_length, bA_toList_length, List.length_set, zb_length]; omega) (bA_one' l) (w.heap.size + 1) X ⟨rfl, rfl, rfl, Nat.le_refl _, fun _ _ => rfl⟩ (Nat.le_refl _) ?_
  intro w2 hg2 hb2
  refine hK.out _ _ ((hb2.cell (p := ⟨p, 0, none⟩) (by simp; omega)).trans c0) (fun _ => ?_)
  clear hK K hHeld
  try simp only [Act.put, List.getElem_toArray, List.getElem_cons_zero, List.getElem_cons_succ, List.setIfInBounds_toArray, List.set_cons_zero, List.set_cons_succ]
  refine wpAnyH_done (by kernel_rfl) ?_ _
  have hG : Bk w2 (w.heap.size + 1) 53 (bA (filled m l)) := (hg2.out).trans (by rw [splice_filled m l hl, Array.toArray_toList])
  have hZ : Bk w2 w.heap.size 53 (bA zb) := by rw [← zb_cells]; exact HK3.out.below hb2 (Nat.lt_succ_self _)
  have hB : Below w.heap.size w w2 := HB3.out.trans (hb2.mono (Nat.le_succ _))
  have hsz2 : w.heap.size + 1 < w2.heap.size := hG.lt
  clear hg2 hb2 HG HB3 HK3 HW3 c0
  have HG := Lib.hid hG
  have HZ := Lib.hid hZ
  have HB := Lib.hid hB
  have hsz : (Tryz.prog.info? 53).map (·.size) = some (bA (filled m l)).size := by rw [bA_size, filled_length m l hl]; exact infoBlock
  have HS := Lib.hid (sld_any (filled m l) (filled_length m l hl))
  have hls := sld_length (filled m l) (filled_length m l hl)
  clear hG hZ hB
  generalize hT : bA (filled m l) = T at *
  generalize hU : sld (filled m l) = U at *
  go_wp2_with (refine wpList_load_row rfl 53 _ rfl _ rfl _ T _ _ HG.out Tryz.underlying53 rfl hsz ?_)
  refine (HS.out _).mono ?_
  rintro e w3 ⟨rfl, hb3⟩
  have hZ3 := HZ.out.below hb3 HZ.out.lt
  have hB3 := HB.out.trans (hb3.mono HB.out.size)
  have hthere := hZ3.there (bA U).size (by rw [bA_size, hls, bA_size, zb_length]; exact Nat.le_refl _)
  have hall := hZ3.all (bA U).toList (by rw [bA_toList_length, hls, bA_size, zb_length])
  rw [Array.toArray_toList] at hall
  have hbx := below_setCells w.heap.size (Nat.le_refl _) (bA U).toList hB3 0
  have hszU : (Tryz.prog.info? 53).map (·.size) = some (bA U).size := by rw [bA_size, hls]; exact infoBlock
  have h1U := bA_one U
  have HT := Lib.hid hthere
  have HA := Lib.hid hall
  clear hthere hall hb3 hZ3 hB3 HS HG HZ HB hT hsz
  generalize hV : bA U = V at *
  go_wp2_with (refine wpList_store_mid rfl 53 _ _ rfl _ 0 V rfl rfl HT.out hszU h1U ?_)
  refine bodyPost_ret (results_row_tmp rfl _ _ _ _ _ _ rfl HA.out Tryz.underlying53 rfl hszU) rfl ⟨by rw [hU, hV]; rfl, hbx⟩
end Go.Proofs.YtjnbpbnhkinggaaGreatDoor.St
