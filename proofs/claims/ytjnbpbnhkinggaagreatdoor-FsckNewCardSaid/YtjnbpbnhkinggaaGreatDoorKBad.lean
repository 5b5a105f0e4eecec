/- The contract of fsck.look, where the block of the names is one of zeros. -/
import Derived.Test.YtjnbpbnhkinggaaGreatDoorKSome
namespace Go.Proofs.YtjnbpbnhkinggaaGreatDoor.St
open Go.RowKit
/-- What stays, while a ref is looked at. -/
structure LB (w : World) (s me mn wk p5 p10 p11 : Nat) (r : Rt) (BV : Array Value) (X : World) : Prop where
  wk : Bk X wk 66 (wkC s me mn)
  x : Bk X p10 68 #[.int .u32 9, .int .u8 4]
  b : Bk X p11 53 BV
  k5 : Bk X p5 30 r.cells
  k3 : Bk X w.heap.size 30 rz.cells
  bl : Below w.heap.size w X
section
variable {w X Y : World} {s me mn wk p5 p10 p11 : Nat} {r : Rt} {BV : Array Value}
theorem LB.below (h : LB w s me mn wk p5 p10 p11 r BV X) (hb : Below X.heap.size X Y) : LB w s me mn wk p5 p10 p11 r BV Y :=
  ⟨h.wk.below hb h.wk.lt, h.x.below hb h.x.lt, h.b.below hb h.b.lt, h.k5.below hb h.k5.lt, h.k3.below hb h.k3.lt, h.bl.trans (hb.mono h.bl.size)⟩
theorem LB.drew (h : LB w s me mn wk p5 p10 p11 r BV X) : LB w s me mn wk p5 p10 p11 r BV X.drew := h.below ⟨rfl, rfl, rfl, Nat.le_refl _, fun _ _ => rfl⟩
theorem LB.mapped (h : LB w s me mn wk p5 p10 p11 r BV X) {y : Nat} (h1 : ¬ wk = y) (h2 : ¬ p10 = y) (h3 : ¬ p11 = y) (h4 : ¬ p5 = y) (h5 : ¬ w.heap.size = y) (hy : w.heap.size ≤ y) (hf : Fr (fun i => i = y) X Y) : LB w s me mn wk p5 p10 p11 r BV Y :=
  ⟨h.wk.fr hf h1, h.x.fr hf h2, h.b.fr hf h3, h.k5.fr hf h4, h.k3.fr hf h5, h.bl.trans (hf.below h.bl.size (fun i hi e => by omega))⟩
end
theorem lt_of_heap {w : World} {b : Nat} {o : Obj} (h : w.heap[b]? = some o) : b < w.heap.size := by
  rcases Nat.lt_or_ge b w.heap.size with l | l
  · exact l
  · rw [Array.getElem?_eq_none l] at h; cases h
attribute [local go_sem ↓] Go.wp_at_zero Go.wp_at_succ
set_option maxRecDepth 100000 in
set_option maxHeartbeats 1000000 in
theorem look_bad (d m k : Nat) (n wt : Int) (g : Int → List UInt8) (hz : ∀ a, 2 ≤ a → a < fst n → g a = zb) (r : Rt) (hr : r.size = n) (hrn : r.names = 9) (hg9 : g 9 = zb) (hf9 : fst n ≤ 9) (hn9 : 9 < n) (h1 : fst n ≤ r.hint) (h2 : r.hint < n) (hM : ∀ X, Dv X d m k n wt g → Calls Tryz.prog 29 #[.pointer (some ⟨d, 0, none⟩)] X fun e w' => e = .returned (.tuple #[.agg r.cells, .int .i64 0]) ∧ Below X.heap.size X w') (w : World) (h : Dv w d m k n wt g) :
    Calls Tryz.prog 16 #[.pointer (some ⟨d, 0, none⟩)] w fun e w' => e = .returned (.tuple #[.pointer none, .agg r.cells, .int .i64 250]) ∧ Below w.heap.size w w' := by
  have hmm := @run_makeMap Tryz.prog
  have hB0 := (Below.refl w.heap.size w).alloc (Nat.le_refl _) (.cells rz.cells 30)
  have HD0 := Lib.hid (h.below hB0)
  have HM := Lib.hid hM
  have HR0 := Lib.hid (Bk.new w 30 rz.cells)
  have HB0 := Lib.hid hB0
  have HZ := Lib.hid hz
  have HN := Lib.hid hrn
  have HS := Lib.hid hr
  have HG9 := Lib.hid hg9
  clear hB0 hM h hz hrn hr hg9
  go_enter Tryz.func16, Tryz.ntmps16
  go_wp2_with fail
  refine wp_scope_straight ?_
  go_wp2_with fail
  refine (HM.out _ HD0.out).mono ?_
  rintro e w1 ⟨rfl, hb1⟩
  have hD1 := HD0.out.below hb1
  have hR1 := HR0.out.below hb1 HR0.out.lt
  have hB1 := HB0.out.trans (hb1.mono HB0.out.size)
  have hA := (Below.refl w1.heap.size w1).alloc (Nat.le_refl _) (.cells #[.int .u64 r.gen, .int .u32 r.size, .int .u32 r.picks, .int .u32 r.names, .int .u32 r.free, .int .u32 r.next, .int .u32 r.hint, .int .u8 r.vols] 30)
  have HD1 := Lib.hid (hD1.below hA)
  have HR1 := Lib.hid (hR1.below hA hR1.lt)
  have HB1 := Lib.hid (hB1.trans (hA.mono hB1.size))
  have HK1 := Lib.hid (show Bk (w1.alloc (.cells #[.int .u64 r.gen, .int .u32 r.size, .int .u32 r.picks, .int .u32 r.names, .int .u32 r.free, .int .u32 r.next, .int .u32 r.hint, .int .u8 r.vols] 30)) w1.heap.size 30 r.cells from Bk.new w1 _ _)
  have hne : w1.heap.size ≠ w.heap.size := Nat.ne_of_gt hR1.lt
  clear hb1 HR0 HB0 HM hA hR1 hB1 hD1 HD0
  simp only [Rt.cells]
  go_wp2_with fail
  generalize w1.alloc (.cells #[.int .u64 r.gen, .int .u32 r.size, .int .u32 r.picks, .int .u32 r.names, .int .u32 r.free, .int .u32 r.next, .int .u32 r.hint, .int .u8 r.vols] 30) = X at *
  generalize w1.heap.size = p5 at *
  refine (sgnew_any d m k n wt g r HS.out h1 h2 _ HD1.out).mono ?_
  rintro e w2 ⟨s, sp, t, mp, mt, ms, mf, rfl, hS2, hge, hb2⟩
  have HS2 := Lib.hid hS2
  have HG := Lib.hid hge
  have HD2 := Lib.hid (HD1.out.below hb2)
  have HR2 := Lib.hid (HR1.out.below hb2 HR1.out.lt)
  have HK2 := Lib.hid (HK1.out.below hb2 HK1.out.lt)
  have HB2 := Lib.hid (HB1.out.trans (hb2.mono HB1.out.size))
  have HL := Lib.hid (show m < X.heap.size from HD1.out.m.lt)
  have HXS := Lib.hid (show w.heap.size ≤ X.heap.size from HB1.out.size)
  clear hS2 hge hb2 HD1 HR1 HK1 HB1
  have hM1 := Mp.made (w2.alloc (.map #[] 0))
  rw [size_alloc] at hM1
  have hW := Bk.new ((w2.alloc (.map #[] 0)).alloc (.map #[] 0)) 66 (wkC s w2.heap.size (w2.heap.size + 1))
  simp only [size_alloc] at hW
  have hA1 := (Below.refl w2.heap.size w2).alloc (Nat.le_refl _) (.map #[] 0)
  have hA2 := hA1.alloc hA1.size (.map #[] 0)
  have hA := hA2.alloc hA2.size (.cells (wkC s w2.heap.size (w2.heap.size + 1)) 66)
  have hE : ((w2.alloc (.map #[] 0)).alloc (.map #[] 0)).heap[w2.heap.size]? = some (.map #[] 0) := (Below.heap_alloc (w2.alloc (.map #[] 0)) (.map #[] 0) w2.heap.size (by rw [size_alloc]; omega)).trans (heap_alloc_new w2 (.map #[] 0))
  have hE2 : (((w2.alloc (.map #[] 0)).alloc (.map #[] 0)).alloc (.cells (wkC s w2.heap.size (w2.heap.size + 1)) 66)).heap[w2.heap.size]? = some (.map #[] 0) := (Below.heap_alloc _ _ w2.heap.size (by rw [size_alloc, size_alloc]; omega)).trans hE
  have l1 : mp < w2.heap.size := let ⟨_, a, _⟩ := HS2.out.t.p; a.lt
  have l2 : mt < w2.heap.size := let ⟨_, a, _⟩ := HS2.out.t.q; a.lt
  have HW := Lib.hid (show Wk (((w2.alloc (.map #[] 0)).alloc (.map #[] 0)).alloc (.cells (wkC s w2.heap.size (w2.heap.size + 1)) 66)) (w2.heap.size + 1 + 1) s sp t d m k mp mt ms mf w2.heap.size (w2.heap.size + 1) 0 0 r n wt g from
    ⟨hW, HS2.out.below hA, ⟨HD2.out.below hA, HZ.out, by have := HG.out; have := HL.out; omega, by have := HG.out; have := HL.out; omega, by have := HG.out; have := HL.out; omega⟩, hE2, hM1.alloc _, by omega, by omega, by omega, by omega⟩)
  have HR3 := Lib.hid (HR2.out.below hA HR2.out.lt)
  have HK3 := Lib.hid (HK2.out.below hA HK2.out.lt)
  have HB3 := Lib.hid (HB2.out.trans (hA.mono HB2.out.size))
  have HX := Lib.hid (Bk.new (((w2.alloc (.map #[] 0)).alloc (.map #[] 0)).alloc (.cells (wkC s w2.heap.size (w2.heap.size + 1)) 66)) 22 #[.int .u32 9])
  have c3 : (((w2.alloc (.map #[] 0)).alloc (.map #[] 0)).alloc (.cells (wkC s w2.heap.size (w2.heap.size + 1)) 66)).cell? ⟨p5, 3, none⟩ = some (.int .u32 9) := by rw [HK3.out.rt.2.2.2.1, HN.out]
  have HSZ := Lib.hid (show (((w2.alloc (.map #[] 0)).alloc (.map #[] 0)).alloc (.cells (wkC s w2.heap.size (w2.heap.size + 1)) 66)).heap.size = w2.heap.size + 1 + 1 + 1 by simp only [size_alloc])
  have HBW := Lib.hid HB2.out.size
  clear hM1 hW hA1 hA2 hA hE hE2 HR2 HK2 HB2 HS2 HD2
  simp only [wkC] at c3 HW HR3 HK3 HB3 HX HSZ
  go_wp2_with fail
  generalize (((w2.alloc (.map #[] 0)).alloc (.map #[] 0)).alloc (.cells #[.pointer (some ⟨s, 0, none⟩), .map (some w2.heap.size), .map (some (w2.heap.size + 1))] 66)) = X3 at *
  refine (some_nine (w2.heap.size + 1 + 1 + 1) _ (by rw [← HSZ.out]; exact HX.out)).mono ?_
  rintro e w4 ⟨bL, cL, rfl, hO4, hb4⟩
  have hA4 := ((Below.refl X3.heap.size X3).alloc (Nat.le_refl _) (.cells #[.int .u32 9] 22)).trans (hb4.mono (by rw [size_alloc]; omega))
  have HW4 := Lib.hid (HW.out.below hA4)
  have HR4 := Lib.hid (HR3.out.below hA4 HR3.out.lt)
  have HK4 := Lib.hid (HK3.out.below hA4 HK3.out.lt)
  have HB4 := Lib.hid (HB3.out.trans (hA4.mono HB3.out.size))
  have cb0 : w4.cell? ⟨bL, 0, none⟩ = some (.int .u32 9) := hO4.cellAt 0 (by decide)
  have cb1 : w4.cell? ⟨bL, 1, none⟩ = some (.int .u8 4) := hO4.cellAt 1 (by decide)
  clear hA4 hb4 HX HW HR3 HK3 HB3 c3
  have HME := Lib.hid (show w.heap.size ≤ w2.heap.size from HBW.out)
  generalize hme : w2.heap.size = me at *
  generalize hwk : me + 1 + 1 = wk at *
  clear hme hwk
  go_wp2_with fail
  go_step3
  go_wp2_with fail
  all_goals
    have hA5 := (Below.refl w4.heap.size w4).alloc (Nat.le_refl _) (.cells #[.int .u32 9, .int .u8 4] 68)
    have HW5 := Lib.hid (HW4.out.below hA5)
    have HR5 := Lib.hid (HR4.out.below hA5 HR4.out.lt)
    have HK5 := Lib.hid (HK4.out.below hA5 HK4.out.lt)
    have HB5 := Lib.hid (HB4.out.trans (hA5.mono HB4.out.size))
    have HX5 := Lib.hid (Bk.new w4 68 #[.int .u32 9, .int .u8 4])
    clear hA5 HW4 HR4 HK4 HB4 cb0 cb1
    generalize w4.alloc (.cells #[.int .u32 9, .int .u8 4] 68) = X5 at *
    generalize w4.heap.size = p10 at *
    refine (sgread_b s sp t d m k mp mt ms mf 0 0 0 0 r n wt g (fun _ => 0) r.free r.hint 0 0 (fun _ => none) HS.out 9 hf9 hn9 rfl _ HW5.out.sg HW5.out.dz).mono ?_
    rintro e w6 ⟨rfl, hb6⟩
    rw [HG9.out]
    have hszV : (Tryz.prog.info? 53).map (·.size) = some (bA zb).size := by rw [bA_size, zb_length]; exact infoBlock
    have hszL : (Tryz.prog.info? 53).map (·.size) = some (bA zb).toList.length := by rw [Array.length_toList]; exact hszV
    have h1V := bA_one zb
    have hN0 := Bk.new w6 53 Tryz.zeroCells53
    have hth := hN0.there (bA zb).size (by rw [zb_cells]; exact Nat.le_refl _)
    have hN1 := hN0.all (bA zb).toList (by rw [Array.length_toList, zb_cells])
    rw [Array.toArray_toList] at hN1
    have hA6 := hb6.trans ((below_setCells w6.heap.size (Nat.le_refl _) (bA zb).toList ((Below.refl w6.heap.size w6).alloc (Nat.le_refl _) (.cells Tryz.zeroCells53 53)) 0).mono hb6.size)
    have hW6 := HW5.out.below hA6
    have HLB := Lib.hid (show LB w s me (me + 1) wk p5 p10 w6.heap.size r (bA zb) _ from ⟨hW6.b, HX5.out.below hA6 HX5.out.lt, hN1, HK5.out.below hA6 HK5.out.lt, HR5.out.below hA6 HR5.out.lt, HB5.out.trans (hA6.mono HB5.out.size)⟩)
    have HE6 := Lib.hid hW6.e
    have HY6 := Lib.hid hW6.ny
    have hmew : w.heap.size ≤ me := HME.out
    have HKD := Lib.hid (fun X => kinds_card X)
    have HKI := Lib.hid (fun X => kids_card X)
    clear hN0 hN1 hA6 hW6 hb6 HW5 HR5 HK5 HB5 HX5
    generalize bA zb = BV at *
    go_wp2_with (refine wpList_store_mid rfl 53 _ _ rfl w6.heap.size 0 BV rfl rfl hth hszV h1V ?_; generalize (w6.alloc (.cells Tryz.zeroCells53 53)).setCells w6.heap.size 0 BV.toList = X7 at *)
    clear hth
    generalize w6.heap.size = p11 at *
    generalize hmn : me + 1 = mn at *
    have hmnw : w.heap.size ≤ mn := by omega
    have hmnme : me ≠ mn := by omega
    clear hmn
    refine wp_region_held_drew (S := (fun Y => LB w s me mn wk p5 p10 p11 r BV Y)) (by kernel_rfl) (HLB.out.drew) ?_
    intro hHeld
    refine wpAnyH_take (i := 0) (v := ?_) rfl (by kernel_rfl) (by kernel_rfl) (by kernel_rfl) (fun _ _ _ h => h) (Or.inl ⟨by rfl, ?_⟩) hHeld ?_
    rotate_left
    · (intro Y hSw; (try dsimp only at hSw); go_simp)
      try with_reducible rfl
    try simp only [Act.put, List.getElem_toArray, List.getElem_cons_zero, List.getElem_cons_succ, List.setIfInBounds_toArray, List.set_cons_zero, List.set_cons_succ]
    refine wpAnyH_take (i := 1) (v := ?_) rfl (by kernel_rfl) (by kernel_rfl) (by kernel_rfl) (fun _ _ _ h => h) (Or.inl ⟨by rfl, ?_⟩) hHeld ?_
    rotate_left
    · (intro Y hSw; (try dsimp only at hSw); go_simp)
      try with_reducible rfl
    try simp only [Act.put, List.getElem_toArray, List.getElem_cons_zero, List.getElem_cons_succ, List.setIfInBounds_toArray, List.set_cons_zero, List.set_cons_succ]
    refine wpAnyH_take (i := 2) (v := ?_) rfl (by kernel_rfl) (by kernel_rfl) (by kernel_rfl) (fun _ _ _ h => h) (Or.inl ⟨by rfl, ?_⟩) hHeld ?_
    rotate_left
    · (intro Y hSw; (try dsimp only at hSw); go_simp)
      try with_reducible rfl
    try simp only [Act.put, List.getElem_toArray, List.getElem_cons_zero, List.getElem_cons_succ, List.setIfInBounds_toArray, List.set_cons_zero, List.set_cons_succ]
    refine wpAnyH_take (i := 3) (v := ?_) rfl (by kernel_rfl) (by kernel_rfl) (by kernel_rfl) (fun _ _ _ h => h) (Or.inl ⟨by rfl, ?_⟩) hHeld ?_
    rotate_left
    · (intro Y hSw; (try dsimp only at hSw); have qw : Y.cell? ⟨wk, 2, none⟩ = some (.map (some mn)) := hSw.wk.cell 2; go_simp)
      try with_reducible rfl
    try simp only [Act.put, List.getElem_toArray, List.getElem_cons_zero, List.getElem_cons_succ, List.setIfInBounds_toArray, List.set_cons_zero, List.set_cons_succ]
    refine wpAnyH_take (i := 4) (v := ?_) rfl (by kernel_rfl) (by kernel_rfl) (by kernel_rfl) (fun _ _ _ h => h) (Or.inl ⟨by rfl, ?_⟩) hHeld ?_
    rotate_left
    · (intro Y hSw; (try dsimp only at hSw); go_simp)
      try with_reducible rfl
    try simp only [Act.put, List.getElem_toArray, List.getElem_cons_zero, List.getElem_cons_succ, List.setIfInBounds_toArray, List.set_cons_zero, List.set_cons_succ]
    refine wpAnyH_take (i := 5) (v := ?_) rfl (by kernel_rfl) (by kernel_rfl) (by kernel_rfl) (fun _ _ _ h => h) (Or.inl ⟨by rfl, ?_⟩) hHeld ?_
    rotate_left
    · (intro Y hSw; (try dsimp only at hSw); have qx0 : Y.cell? ⟨p10, 0, none⟩ = some (.int .u32 9) := hSw.x.cell 0; have qx1 : Y.cell? ⟨p10, 1, none⟩ = some (.int .u8 4) := hSw.x.cell 1; go_simp)
      try with_reducible rfl
    try simp only [Act.put, List.getElem_toArray, List.getElem_cons_zero, List.getElem_cons_succ, List.setIfInBounds_toArray, List.set_cons_zero, List.set_cons_succ]
    have HY7 := Lib.hid (show Mp X7.drew mn 0 _ from HY6.out.drew)
    have HE7 := Lib.hid (show X7.drew.heap[me]? = some (.map #[] 0) from HE6.out)
    have hlk := HY7.out.look (t := 37) Tryz.underlying37 (zeroU32 _) (show (0 : Int) ≤ 9 by decide) (by decide)
    simp only [Option.getD_none] at hlk
    obtain ⟨w8, hr8, hm8, ht8⟩ := HY7.out.put Tryz.underlying37 (by decide) (show (0 : Int) ≤ 9 by decide) (by decide) (.int .u32 1)
    have hf8 := Fr.of_turned ht8
    clear HLB HY6 HE6 hm8 ht8
    generalize X7.drew = Y7 at *
    have ew : IntKind.u32.wrap (0 + 1) = 1 := by decide
    have ew2 : IntKind.u32.wrap 1 = 1 := by decide
    refine wpAnyH_ready (rs := [6]) (by kernel_rfl) (by simp) ?_
    refine (AllReadyH.cons rfl (fun K hK => ?_) AllReadyH.nil)
    go_simp
    refine hK.out _ _ hHeld (fun _ => ?_)
    clear hK K hlk
    try simp only [Act.put, List.getElem_toArray, List.getElem_cons_zero, List.getElem_cons_succ, List.setIfInBounds_toArray, List.set_cons_zero, List.set_cons_succ]
    refine wpAnyH_take (i := 7) (v := ?_) rfl (by kernel_rfl) (by kernel_rfl) (by kernel_rfl) (fun _ _ _ h => h) (Or.inl ⟨by rfl, ?_⟩) hHeld ?_
    rotate_left
    · (intro Y hSw; (try dsimp only at hSw); go_simp)
      try with_reducible rfl
    try simp only [Act.put, List.getElem_toArray, List.getElem_cons_zero, List.getElem_cons_succ, List.setIfInBounds_toArray, List.set_cons_zero, List.set_cons_succ]
    refine wpAnyH_ready (rs := [8]) (by kernel_rfl) (by simp) ?_
    refine (AllReadyH.cons rfl (fun K hK => ?_) AllReadyH.nil)
    go_simp
    have hH := hHeld.mapped (fun e => mp_ne HY7.out hHeld.wk e.symm) (fun e => mp_ne HY7.out hHeld.x e.symm) (fun e => mp_ne HY7.out hHeld.b e.symm) (fun e => mp_ne HY7.out hHeld.k5 e.symm) (fun e => mp_ne HY7.out hHeld.k3 e.symm) hmnw hf8
    have HE8 := Lib.hid ((hf8.block me (lt_of_heap HE7.out) hmnme).trans HE7.out)
    refine hK.out _ _ hH (fun _ => ?_)
    clear hK K hHeld hr8 hf8 HY7 HE7
    refine wpAnyH_done (by kernel_rfl) ?_ _
    try simp only [Act.put, List.getElem_toArray, List.getElem_cons_zero, List.getElem_cons_succ, List.setIfInBounds_toArray, List.set_cons_zero, List.set_cons_succ]
    have HLB := Lib.hid hH
    clear hH
    go_wp2_with fail
    refine wp_region_held_drew (S := (fun Y => LB w s me mn wk p5 p10 p11 r BV Y)) (by kernel_rfl) (HLB.out.drew) ?_
    intro hHeld
    refine wpAnyH_take (i := 0) (v := ?_) rfl (by kernel_rfl) (by kernel_rfl) (by kernel_rfl) (fun _ _ _ h => h) (Or.inl ⟨by rfl, ?_⟩) hHeld ?_
    rotate_left
    · (intro Y hSw; (try dsimp only at hSw); go_simp)
      try with_reducible rfl
    try simp only [Act.put, List.getElem_toArray, List.getElem_cons_zero, List.getElem_cons_succ, List.setIfInBounds_toArray, List.set_cons_zero, List.set_cons_succ]
    refine wpAnyH_take (i := 1) (v := ?_) rfl (by kernel_rfl) (by kernel_rfl) (by kernel_rfl) (fun _ _ _ h => h) (Or.inl ⟨by rfl, ?_⟩) hHeld ?_
    rotate_left
    · (intro Y hSw; (try dsimp only at hSw); go_simp)
      try with_reducible rfl
    try simp only [Act.put, List.getElem_toArray, List.getElem_cons_zero, List.getElem_cons_succ, List.setIfInBounds_toArray, List.set_cons_zero, List.set_cons_succ]
    refine wpAnyH_take (i := 2) (v := ?_) rfl (by kernel_rfl) (by kernel_rfl) (by kernel_rfl) (fun _ _ _ h => h) (Or.inl ⟨by rfl, ?_⟩) hHeld ?_
    rotate_left
    · (intro Y hSw; (try dsimp only at hSw); go_simp)
      try with_reducible rfl
    try simp only [Act.put, List.getElem_toArray, List.getElem_cons_zero, List.getElem_cons_succ, List.setIfInBounds_toArray, List.set_cons_zero, List.set_cons_succ]
    refine wpAnyH_take (i := 3) (v := ?_) rfl (by kernel_rfl) (by kernel_rfl) (by kernel_rfl) (fun _ _ _ h => h) (Or.inl ⟨by rfl, ?_⟩) hHeld ?_
    rotate_left
    · (intro Y hSw; (try dsimp only at hSw); have qw : Y.cell? ⟨wk, 1, none⟩ = some (.map (some me)) := hSw.wk.cell 1; go_simp)
      try with_reducible rfl
    try simp only [Act.put, List.getElem_toArray, List.getElem_cons_zero, List.getElem_cons_succ, List.setIfInBounds_toArray, List.set_cons_zero, List.set_cons_succ]
    refine wpAnyH_take (i := 4) (v := ?_) rfl (by kernel_rfl) (by kernel_rfl) (by kernel_rfl) (fun _ _ _ h => h) (Or.inl ⟨by rfl, ?_⟩) hHeld ?_
    rotate_left
    · (intro Y hSw; (try dsimp only at hSw); have qx0 : Y.cell? ⟨p10, 0, none⟩ = some (.int .u32 9) := hSw.x.cell 0; have qx1 : Y.cell? ⟨p10, 1, none⟩ = some (.int .u8 4) := hSw.x.cell 1; go_simp)
      try with_reducible rfl
    try simp only [Act.put, List.getElem_toArray, List.getElem_cons_zero, List.getElem_cons_succ, List.setIfInBounds_toArray, List.set_cons_zero, List.set_cons_succ]
    have HE9 := Lib.hid (show w8.drew.heap[me]? = some (.map #[] 0) from HE8.out)
    clear HLB HE8
    generalize w8.drew = Y8 at *
    have hl0 := ref_look0 Y8 me HE9.out
    have hme1 := ref_entry Y8 me HE9.out
    have hlt := lt_of_heap HE9.out
    have hat1 := mset_at Y8 me (.map #[{ key := rf9, val := .int .u32 0, born := 0 }] 1) hlt
    have hl1 := ref_look1 _ me _ _ _ hat1
    have hst := ref_store _ me _ (.int .u32 1) hat1
    have hf1 := mset_fr Y8 me (.map #[{ key := rf9, val := .int .u32 0, born := 0 }] 1)
    have hlt2 : me < (mset Y8 me (.map #[{ key := rf9, val := .int .u32 0, born := 0 }] 1)).heap.size := lt_of_heap hat1
    have hat2 := mset_at (mset Y8 me (.map #[{ key := rf9, val := .int .u32 0, born := 0 }] 1)) me (.map #[{ key := rf9, val := .int .u32 1, born := 0 }] 1) hlt2
    have hf2 := mset_fr (mset Y8 me (.map #[{ key := rf9, val := .int .u32 0, born := 0 }] 1)) me (.map #[{ key := rf9, val := .int .u32 1, born := 0 }] 1)
    generalize hY9 : mset Y8 me (.map #[{ key := rf9, val := .int .u32 0, born := 0 }] 1) = Y9 at *
    generalize hY10 : mset Y9 me (.map #[{ key := rf9, val := .int .u32 1, born := 0 }] 1) = Y10 at *
    clear hY9 hY10
    have ne1 : ∀ {ty : TypeId} {cs : Array Value} {x : Nat}, Bk Y8 x ty cs → ¬ x = me := fun hx e => by have h1 := HE9.out; unfold Bk at hx; rw [← e, hx] at h1; cases h1
    have hH9 := hHeld.mapped (ne1 hHeld.wk) (ne1 hHeld.x) (ne1 hHeld.b) (ne1 hHeld.k5) (ne1 hHeld.k3) hmew hf1
    have hH10 := hH9.mapped (ne1 hHeld.wk) (ne1 hHeld.x) (ne1 hHeld.b) (ne1 hHeld.k5) (ne1 hHeld.k3) hmew hf2
    have HAT2 := Lib.hid hat2
    clear ne1 HE9 hlt hlt2 hat1 hat2 hf1 hf2
    have HL := Lib.hid (And.intro hH9 hH10)
    clear hH9 hH10
    simp only [rf9] at hl0 hme1 hl1 hst
    refine wpAnyH_ready (rs := [5, 7]) (by kernel_rfl) (by simp) ?_
    refine (AllReadyH.cons rfl (fun K hK => ?_) (AllReadyH.cons rfl (fun K hK => ?_) AllReadyH.nil))
    · skip
      go_simp
      refine hK.out _ _ (hHeld) (fun hH => ?_)
      clear hK K hHeld hl0 hl1
      have hHeld := hH
      clear hH
      try simp only [Act.put, List.getElem_toArray, List.getElem_cons_zero, List.getElem_cons_succ, List.setIfInBounds_toArray, List.set_cons_zero, List.set_cons_succ]
      refine wpAnyH_take (i := 6) (v := ?_) rfl (by kernel_rfl) (by kernel_rfl) (by kernel_rfl) (fun _ _ _ h => h) (Or.inl ⟨by rfl, ?_⟩) hHeld ?_
      rotate_left
      · (intro Y hSw; (try dsimp only at hSw); go_simp)
        try with_reducible rfl
      try simp only [Act.put, List.getElem_toArray, List.getElem_cons_zero, List.getElem_cons_succ, List.setIfInBounds_toArray, List.set_cons_zero, List.set_cons_succ]
      refine wpAnyH_ready (rs := [7]) (by kernel_rfl) (by simp) ?_
      refine (AllReadyH.cons rfl (fun K hK => ?_) AllReadyH.nil)
      go_simp
      refine hK.out _ _ (HL.out.1) (fun hH => ?_)
      clear hK K hHeld hme1
      have hHeld := hH
      clear hH
      try simp only [Act.put, List.getElem_toArray, List.getElem_cons_zero, List.getElem_cons_succ, List.setIfInBounds_toArray, List.set_cons_zero, List.set_cons_succ]
      refine wpAnyH_take (i := 8) (v := ?_) rfl (by kernel_rfl) (by kernel_rfl) (by kernel_rfl) (fun _ _ _ h => h) (Or.inl ⟨by rfl, ?_⟩) hHeld ?_
      rotate_left
      · (intro Y hSw; (try dsimp only at hSw); go_simp)
        try with_reducible rfl
      try simp only [Act.put, List.getElem_toArray, List.getElem_cons_zero, List.getElem_cons_succ, List.setIfInBounds_toArray, List.set_cons_zero, List.set_cons_succ]
      refine wpAnyH_ready (rs := [9]) (by kernel_rfl) (by simp) ?_
      refine (AllReadyH.cons rfl (fun K hK => ?_) AllReadyH.nil)
      go_simp
      refine hK.out _ _ (HL.out.2) (fun hH => ?_)
      clear hK K hHeld hst
      have hHeld := hH
      clear hH
      try simp only [Act.put, List.getElem_toArray, List.getElem_cons_zero, List.getElem_cons_succ, List.setIfInBounds_toArray, List.set_cons_zero, List.set_cons_succ]
      refine wpAnyH_done (by kernel_rfl) ?_ _
      try simp only [Act.put, List.getElem_toArray, List.getElem_cons_zero, List.getElem_cons_succ, List.setIfInBounds_toArray, List.set_cons_zero, List.set_cons_succ]
      have HLB := Lib.hid hHeld
      clear hHeld
      go_wp2_with fail
      refine wp_region_held_drew (S := (fun Y => LB w s me mn wk p5 p10 p11 r BV Y)) (by kernel_rfl) (HLB.out.drew) ?_
      intro hHeld
      refine wpAnyH_take (i := 0) (v := ?_) rfl (by kernel_rfl) (by kernel_rfl) (by kernel_rfl) (fun _ _ _ h => h) (Or.inl ⟨by rfl, ?_⟩) hHeld ?_
      rotate_left
      · (intro Y hSw; (try dsimp only at hSw); go_simp)
        try with_reducible rfl
      try simp only [Act.put, List.getElem_toArray, List.getElem_cons_zero, List.getElem_cons_succ, List.setIfInBounds_toArray, List.set_cons_zero, List.set_cons_succ]
      refine wpAnyH_take (i := 1) (v := ?_) rfl (by kernel_rfl) (by kernel_rfl) (by kernel_rfl) (fun _ _ _ h => h) (Or.inl ⟨by rfl, ?_⟩) hHeld ?_
      rotate_left
      · (intro Y hSw; (try dsimp only at hSw); go_simp)
        try with_reducible rfl
      try simp only [Act.put, List.getElem_toArray, List.getElem_cons_zero, List.getElem_cons_succ, List.setIfInBounds_toArray, List.set_cons_zero, List.set_cons_succ]
      refine wpAnyH_take (i := 2) (v := ?_) rfl (by kernel_rfl) (by kernel_rfl) (by kernel_rfl) (fun _ _ _ h => h) (Or.inl ⟨by rfl, ?_⟩) hHeld ?_
      rotate_left
      · (intro Y hSw; (try dsimp only at hSw); go_simp)
        try with_reducible rfl
      try simp only [Act.put, List.getElem_toArray, List.getElem_cons_zero, List.getElem_cons_succ, List.setIfInBounds_toArray, List.set_cons_zero, List.set_cons_succ]
      refine wpAnyH_take (i := 3) (v := ?_) rfl (by kernel_rfl) (by kernel_rfl) (by kernel_rfl) (fun _ _ _ h => h) (Or.inl ⟨by rfl, ?_⟩) hHeld ?_
      rotate_left
      · (intro Y hSw; (try dsimp only at hSw); have qw : Y.cell? ⟨wk, 1, none⟩ = some (.map (some me)) := hSw.wk.cell 1; go_simp)
        try with_reducible rfl
      try simp only [Act.put, List.getElem_toArray, List.getElem_cons_zero, List.getElem_cons_succ, List.setIfInBounds_toArray, List.set_cons_zero, List.set_cons_succ]
      refine wpAnyH_take (i := 4) (v := ?_) rfl (by kernel_rfl) (by kernel_rfl) (by kernel_rfl) (fun _ _ _ h => h) (Or.inl ⟨by rfl, ?_⟩) hHeld ?_
      rotate_left
      · (intro Y hSw; (try dsimp only at hSw); have qx0 : Y.cell? ⟨p10, 0, none⟩ = some (.int .u32 9) := hSw.x.cell 0; have qx1 : Y.cell? ⟨p10, 1, none⟩ = some (.int .u8 4) := hSw.x.cell 1; go_simp)
        try with_reducible rfl
      try simp only [Act.put, List.getElem_toArray, List.getElem_cons_zero, List.getElem_cons_succ, List.setIfInBounds_toArray, List.set_cons_zero, List.set_cons_succ]
      have hl2 := ref_look1 Y10.drew me _ _ _ (show Y10.drew.heap[me]? = some (.map #[{ key := rf9, val := .int .u32 1, born := 0 }] 1) from HAT2.out)
      simp only [rf9] at hl2
      clear HLB HAT2 HL
      generalize Y10.drew = Y11 at *
      refine wpAnyH_ready (rs := [5]) (by kernel_rfl) (by simp) ?_
      refine (AllReadyH.cons rfl (fun K hK => ?_) AllReadyH.nil)
      go_simp
      refine hK.out _ _ (hHeld) (fun hH => ?_)
      clear hK K hHeld hl2
      have hHeld := hH
      clear hH
      try simp only [Act.put, List.getElem_toArray, List.getElem_cons_zero, List.getElem_cons_succ, List.setIfInBounds_toArray, List.set_cons_zero, List.set_cons_succ]
      refine wpAnyH_take (i := 6) (v := ?_) rfl (by kernel_rfl) (by kernel_rfl) (by kernel_rfl) (fun _ _ _ h => h) (Or.inl ⟨by rfl, ?_⟩) hHeld ?_
      rotate_left
      · (intro Y hSw; (try dsimp only at hSw); go_simp)
        try with_reducible rfl
      try simp only [Act.put, List.getElem_toArray, List.getElem_cons_zero, List.getElem_cons_succ, List.setIfInBounds_toArray, List.set_cons_zero, List.set_cons_succ]
      refine wpAnyH_done (by kernel_rfl) ?_ _
      try simp only [Act.put, List.getElem_toArray, List.getElem_cons_zero, List.getElem_cons_succ, List.setIfInBounds_toArray, List.set_cons_zero, List.set_cons_succ]
      have HLB := Lib.hid hHeld
      clear hHeld
      go_wp2_with fail
      refine wp_region_held_drew (S := (fun Y => LB w s me mn wk p5 p10 p11 r BV Y)) (by kernel_rfl) (HLB.out.drew) ?_
      intro hHeld
      refine wpAnyH_take (i := 0) (v := ?_) rfl (by kernel_rfl) (by kernel_rfl) (by kernel_rfl) (fun _ _ _ h => h) (Or.inl ⟨by rfl, ?_⟩) hHeld ?_
      rotate_left
      · (intro Y hSw; (try dsimp only at hSw); go_simp)
        try with_reducible rfl
      try simp only [Act.put, List.getElem_toArray, List.getElem_cons_zero, List.getElem_cons_succ, List.setIfInBounds_toArray, List.set_cons_zero, List.set_cons_succ]
      refine wpAnyH_take (i := 1) (v := ?_) rfl (by kernel_rfl) (by kernel_rfl) (by kernel_rfl) (fun _ _ _ h => h) (Or.inl ⟨by rfl, ?_⟩) hHeld ?_
      rotate_left
      · (intro Y hSw; (try dsimp only at hSw); have qx0 : Y.cell? ⟨p10, 0, none⟩ = some (.int .u32 9) := hSw.x.cell 0; have qx1 : Y.cell? ⟨p10, 1, none⟩ = some (.int .u8 4) := hSw.x.cell 1; go_simp)
        try with_reducible rfl
      try simp only [Act.put, List.getElem_toArray, List.getElem_cons_zero, List.getElem_cons_succ, List.setIfInBounds_toArray, List.set_cons_zero, List.set_cons_succ]
      refine wpAnyH_take (i := 4) (v := .agg BV) rfl (by kernel_rfl) (by kernel_rfl) (by kernel_rfl) (fun _ _ _ h => h) (yieldsIf_load_arr (by rfl) 53 _ rfl p11 0 rfl BV _ (fun w h => Bk.range h.b) Tryz.underlying53 rfl hszL) hHeld ?_
      try simp only [Act.put, List.getElem_toArray, List.getElem_cons_zero, List.getElem_cons_succ, List.setIfInBounds_toArray, List.set_cons_zero, List.set_cons_succ]
      refine wpAnyH_take (i := 5) (v := ?_) rfl (by kernel_rfl) (by kernel_rfl) (by kernel_rfl) (fun _ _ _ h => h) (Or.inl ⟨by rfl, ?_⟩) hHeld ?_
      rotate_left
      · (intro Y hSw; (try dsimp only at hSw); go_simp)
        try with_reducible rfl
      try simp only [Act.put, List.getElem_toArray, List.getElem_cons_zero, List.getElem_cons_succ, List.setIfInBounds_toArray, List.set_cons_zero, List.set_cons_succ]
      refine wpAnyH_take (i := 6) (v := ?_) rfl (by kernel_rfl) (by kernel_rfl) (by kernel_rfl) (fun _ _ _ h => h) (Or.inl ⟨by rfl, ?_⟩) hHeld ?_
      rotate_left
      · (intro Y hSw; (try dsimp only at hSw); have qx0 : Y.cell? ⟨p10, 0, none⟩ = some (.int .u32 9) := hSw.x.cell 0; have qx1 : Y.cell? ⟨p10, 1, none⟩ = some (.int .u8 4) := hSw.x.cell 1; go_simp)
        try with_reducible rfl
      try simp only [Act.put, List.getElem_toArray, List.getElem_cons_zero, List.getElem_cons_succ, List.setIfInBounds_toArray, List.set_cons_zero, List.set_cons_succ]
      clear HLB
      generalize Y11.drew = Y12 at *
      refine wpAnyH_ready (rs := [2]) (by kernel_rfl) (by simp) ?_
      refine (AllReadyH.cons rfl (fun K hK => ?_) AllReadyH.nil)
      go_simp
      refine (HKD.out _).mono ?_
      rintro e Y13 ⟨rfl, hbX⟩
      have hH13 := hHeld.below hbX
      clear hbX
      go_wp2_with fail
      refine hK.out _ _ hH13 (fun hH => ?_)
      clear hK K hHeld hH13
      have hHeld := hH
      clear hH
      try simp only [Act.put, List.getElem_toArray, List.getElem_cons_zero, List.getElem_cons_succ, List.setIfInBounds_toArray, List.set_cons_zero, List.set_cons_succ]
      refine wpAnyH_take (i := 3) (v := ?_) rfl (by kernel_rfl) (by kernel_rfl) (by kernel_rfl) (fun _ _ _ h => h) (Or.inl ⟨by rfl, ?_⟩) hHeld ?_
      rotate_left
      · (intro Y hSw; (try dsimp only at hSw); have hfd : (Instr.field 88 (.agg #[.func (.func 57) #[] #[]]) 0).run Tryz.prog Y = .ok (.func (.func 57) #[] #[]) Y := (by kernel_rfl); go_simp)
        try with_reducible rfl
      try simp only [Act.put, List.getElem_toArray, List.getElem_cons_zero, List.getElem_cons_succ, List.setIfInBounds_toArray, List.set_cons_zero, List.set_cons_succ]
      refine wpAnyH_ready (rs := [7]) (by kernel_rfl) (by simp) ?_
      refine (AllReadyH.cons rfl (fun K hK => ?_) AllReadyH.nil)
      go_simp
      refine (HKI.out _).mono ?_
      rintro e Y14 ⟨rfl, hbX⟩
      have hH14 := hHeld.below hbX
      clear hbX
      go_wp2_with fail
      refine hK.out _ _ hH14 (fun hH => ?_)
      clear hK K hHeld hH14
      have hHeld := hH
      clear hH
      try simp only [Act.put, List.getElem_toArray, List.getElem_cons_zero, List.getElem_cons_succ, List.setIfInBounds_toArray, List.set_cons_zero, List.set_cons_succ]
      refine wpAnyH_take (i := 8) (v := ?_) rfl (by kernel_rfl) (by kernel_rfl) (by kernel_rfl) (fun _ _ _ h => h) (Or.inl ⟨by rfl, ?_⟩) hHeld ?_
      rotate_left
      · (intro Y hSw; (try dsimp only at hSw); go_simp)
        try with_reducible rfl
      try simp only [Act.put, List.getElem_toArray, List.getElem_cons_zero, List.getElem_cons_succ, List.setIfInBounds_toArray, List.set_cons_zero, List.set_cons_succ]
      refine wpAnyH_take (i := 9) (v := ?_) rfl (by kernel_rfl) (by kernel_rfl) (by kernel_rfl) (fun _ _ _ h => h) (Or.inl ⟨by rfl, ?_⟩) hHeld ?_
      rotate_left
      · (intro Y hSw; (try dsimp only at hSw); go_simp)
        try with_reducible rfl
      try simp only [Act.put, List.getElem_toArray, List.getElem_cons_zero, List.getElem_cons_succ, List.setIfInBounds_toArray, List.set_cons_zero, List.set_cons_succ]
      refine wpAnyH_take (i := 10) (v := ?_) rfl (by kernel_rfl) (by kernel_rfl) (by kernel_rfl) (fun _ _ _ h => h) (Or.inl ⟨by rfl, ?_⟩) hHeld ?_
      rotate_left
      · (intro Y hSw; (try dsimp only at hSw); go_simp)
        try with_reducible rfl
      try simp only [Act.put, List.getElem_toArray, List.getElem_cons_zero, List.getElem_cons_succ, List.setIfInBounds_toArray, List.set_cons_zero, List.set_cons_succ]
      refine wpAnyH_take (i := 11) (v := ?_) rfl (by kernel_rfl) (by kernel_rfl) (by kernel_rfl) (fun _ _ _ h => h) (Or.inl ⟨by rfl, ?_⟩) hHeld ?_
      rotate_left
      · (intro Y hSw; (try dsimp only at hSw); go_simp)
        try with_reducible rfl
      try simp only [Act.put, List.getElem_toArray, List.getElem_cons_zero, List.getElem_cons_succ, List.setIfInBounds_toArray, List.set_cons_zero, List.set_cons_succ]
      refine wpAnyH_take (i := 12) (v := ?_) rfl (by kernel_rfl) (by kernel_rfl) (by kernel_rfl) (fun _ _ _ h => h) (Or.inl ⟨by rfl, ?_⟩) hHeld ?_
      rotate_left
      · (intro Y hSw; (try dsimp only at hSw); go_simp)
        try with_reducible rfl
      try simp only [Act.put, List.getElem_toArray, List.getElem_cons_zero, List.getElem_cons_succ, List.setIfInBounds_toArray, List.set_cons_zero, List.set_cons_succ]
      refine wpAnyH_done (by kernel_rfl) ?_ _
      try simp only [Act.put, List.getElem_toArray, List.getElem_cons_zero, List.getElem_cons_succ, List.setIfInBounds_toArray, List.set_cons_zero, List.set_cons_succ]
      have HLB := Lib.hid hHeld
      clear hHeld
      go_wp2_with fail
      refine wp_region_held_drew (S := fun Y => Bk Y p5 30 r.cells) (by kernel_rfl) (HLB.out.drew.k5) ?_
      intro hHeld
      refine wpAnyH_take (i := 0) (v := .agg r.cells) rfl (by kernel_rfl) (by kernel_rfl) (by kernel_rfl) (fun _ _ _ h => h) (yieldsIf_load_arr (by rfl) 30 _ rfl p5 0 rfl r.cells _ (fun w h => Bk.range h) Tryz.underlying30 rfl (by kernel_rfl)) hHeld ?_
      try simp only [Act.put, List.getElem_toArray, List.getElem_cons_zero, List.getElem_cons_succ, List.setIfInBounds_toArray, List.set_cons_zero, List.set_cons_succ]
      refine wpAnyH_take (i := 1) (v := ?_) rfl (by kernel_rfl) (by kernel_rfl) (by kernel_rfl) (fun _ _ _ h => h) (Or.inl ⟨by rfl, ?_⟩) hHeld ?_
      rotate_left
      · (intro Y hSw; (try dsimp only at hSw); go_simp)
        try with_reducible rfl
      try simp only [Act.put, List.getElem_toArray, List.getElem_cons_zero, List.getElem_cons_succ, List.setIfInBounds_toArray, List.set_cons_zero, List.set_cons_succ]
      have hR2 := HLB.out.drew.k3
      have kR := hR2.all r.cells.toList rfl
      rw [Array.toArray_toList] at kR
      have HEE := Lib.hid (And.intro kR (below_setCells w.heap.size (Nat.le_refl _) r.cells.toList HLB.out.drew.bl 0))
      refine wpAnyH_ready (rs := [2]) (by kernel_rfl) (by simp) ?_
      refine (AllReadyH.cons rfl (fun K hK => ?_) AllReadyH.nil)
      refine step_store_mid (by rfl) 30 (.tmp 3) (.tmp 98) (by rfl) w.heap.size 0 r.cells (by rfl) (by rfl) (hR2.there _ (Nat.le_refl 8)) (by kernel_rfl) (by kernel_rfl) ?_
      refine hK.out _ _ (Bk.farCells w.heap.size hne _ hHeld 0) (fun hH => ?_)
      clear hK K hHeld
      have hHeld := hH
      clear hH
      try simp only [Act.put, List.getElem_toArray, List.getElem_cons_zero, List.getElem_cons_succ, List.setIfInBounds_toArray, List.set_cons_zero, List.set_cons_succ]
      refine wpAnyH_take (i := 3) (v := ?_) rfl (by kernel_rfl) (by kernel_rfl) (by kernel_rfl) (fun _ _ _ h => h) (Or.inl ⟨by rfl, ?_⟩) hHeld ?_
      rotate_left
      · (intro Y hSw; (try dsimp only at hSw); go_simp)
        try with_reducible rfl
      try simp only [Act.put, List.getElem_toArray, List.getElem_cons_zero, List.getElem_cons_succ, List.setIfInBounds_toArray, List.set_cons_zero, List.set_cons_succ]
      refine wpAnyH_done (by kernel_rfl) ?_ _
      try simp only [Act.put, List.getElem_toArray, List.getElem_cons_zero, List.getElem_cons_succ, List.setIfInBounds_toArray, List.set_cons_zero, List.set_cons_succ]
      clear hHeld hR2 kR
      generalize Y14.drew.setCells w.heap.size 0 r.cells.toList = Z at *
      go_wp2_with fail
      rw [Exit.noGoto_ret]
      refine bodyPost_ret (results_tmp_row_tmp rfl _ _ w.heap.size _ r.cells _ rfl HEE.out.1 Tryz.underlying30 rfl (by kernel_rfl)) rfl ⟨rfl, HEE.out.2⟩
    · skip
      go_simp
      refine hK.out _ _ (HL.out.1) (fun hH => ?_)
      clear hK K hHeld hl0 hme1
      have hHeld := hH
      clear hH
      try simp only [Act.put, List.getElem_toArray, List.getElem_cons_zero, List.getElem_cons_succ, List.setIfInBounds_toArray, List.set_cons_zero, List.set_cons_succ]
      refine wpAnyH_take (i := 8) (v := ?_) rfl (by kernel_rfl) (by kernel_rfl) (by kernel_rfl) (fun _ _ _ h => h) (Or.inl ⟨by rfl, ?_⟩) hHeld ?_
      rotate_left
      · (intro Y hSw; (try dsimp only at hSw); go_simp)
        try with_reducible rfl
      try simp only [Act.put, List.getElem_toArray, List.getElem_cons_zero, List.getElem_cons_succ, List.setIfInBounds_toArray, List.set_cons_zero, List.set_cons_succ]
      refine wpAnyH_ready (rs := [5]) (by kernel_rfl) (by simp) ?_
      refine (AllReadyH.cons rfl (fun K hK => ?_) AllReadyH.nil)
      go_simp
      refine hK.out _ _ (hHeld) (fun hH => ?_)
      clear hK K hHeld hl1
      have hHeld := hH
      clear hH
      try simp only [Act.put, List.getElem_toArray, List.getElem_cons_zero, List.getElem_cons_succ, List.setIfInBounds_toArray, List.set_cons_zero, List.set_cons_succ]
      refine wpAnyH_take (i := 6) (v := ?_) rfl (by kernel_rfl) (by kernel_rfl) (by kernel_rfl) (fun _ _ _ h => h) (Or.inl ⟨by rfl, ?_⟩) hHeld ?_
      rotate_left
      · (intro Y hSw; (try dsimp only at hSw); go_simp)
        try with_reducible rfl
      try simp only [Act.put, List.getElem_toArray, List.getElem_cons_zero, List.getElem_cons_succ, List.setIfInBounds_toArray, List.set_cons_zero, List.set_cons_succ]
      refine wpAnyH_ready (rs := [9]) (by kernel_rfl) (by simp) ?_
      refine (AllReadyH.cons rfl (fun K hK => ?_) AllReadyH.nil)
      go_simp
      refine hK.out _ _ (HL.out.2) (fun hH => ?_)
      clear hK K hHeld hst
      have hHeld := hH
      clear hH
      try simp only [Act.put, List.getElem_toArray, List.getElem_cons_zero, List.getElem_cons_succ, List.setIfInBounds_toArray, List.set_cons_zero, List.set_cons_succ]
      refine wpAnyH_done (by kernel_rfl) ?_ _
      try simp only [Act.put, List.getElem_toArray, List.getElem_cons_zero, List.getElem_cons_succ, List.setIfInBounds_toArray, List.set_cons_zero, List.set_cons_succ]
      have HLB := Lib.hid hHeld
      clear hHeld
      go_wp2_with fail
      refine wp_region_held_drew (S := (fun Y => LB w s me mn wk p5 p10 p11 r BV Y)) (by kernel_rfl) (HLB.out.drew) ?_
      intro hHeld
      refine wpAnyH_take (i := 0) (v := ?_) rfl (by kernel_rfl) (by kernel_rfl) (by kernel_rfl) (fun _ _ _ h => h) (Or.inl ⟨by rfl, ?_⟩) hHeld ?_
      rotate_left
      · (intro Y hSw; (try dsimp only at hSw); go_simp)
        try with_reducible rfl
      try simp only [Act.put, List.getElem_toArray, List.getElem_cons_zero, List.getElem_cons_succ, List.setIfInBounds_toArray, List.set_cons_zero, List.set_cons_succ]
      refine wpAnyH_take (i := 1) (v := ?_) rfl (by kernel_rfl) (by kernel_rfl) (by kernel_rfl) (fun _ _ _ h => h) (Or.inl ⟨by rfl, ?_⟩) hHeld ?_
      rotate_left
      · (intro Y hSw; (try dsimp only at hSw); go_simp)
        try with_reducible rfl
      try simp only [Act.put, List.getElem_toArray, List.getElem_cons_zero, List.getElem_cons_succ, List.setIfInBounds_toArray, List.set_cons_zero, List.set_cons_succ]
      refine wpAnyH_take (i := 2) (v := ?_) rfl (by kernel_rfl) (by kernel_rfl) (by kernel_rfl) (fun _ _ _ h => h) (Or.inl ⟨by rfl, ?_⟩) hHeld ?_
      rotate_left
      · (intro Y hSw; (try dsimp only at hSw); go_simp)
        try with_reducible rfl
      try simp only [Act.put, List.getElem_toArray, List.getElem_cons_zero, List.getElem_cons_succ, List.setIfInBounds_toArray, List.set_cons_zero, List.set_cons_succ]
      refine wpAnyH_take (i := 3) (v := ?_) rfl (by kernel_rfl) (by kernel_rfl) (by kernel_rfl) (fun _ _ _ h => h) (Or.inl ⟨by rfl, ?_⟩) hHeld ?_
      rotate_left
      · (intro Y hSw; (try dsimp only at hSw); have qw : Y.cell? ⟨wk, 1, none⟩ = some (.map (some me)) := hSw.wk.cell 1; go_simp)
        try with_reducible rfl
      try simp only [Act.put, List.getElem_toArray, List.getElem_cons_zero, List.getElem_cons_succ, List.setIfInBounds_toArray, List.set_cons_zero, List.set_cons_succ]
      refine wpAnyH_take (i := 4) (v := ?_) rfl (by kernel_rfl) (by kernel_rfl) (by kernel_rfl) (fun _ _ _ h => h) (Or.inl ⟨by rfl, ?_⟩) hHeld ?_
      rotate_left
      · (intro Y hSw; (try dsimp only at hSw); have qx0 : Y.cell? ⟨p10, 0, none⟩ = some (.int .u32 9) := hSw.x.cell 0; have qx1 : Y.cell? ⟨p10, 1, none⟩ = some (.int .u8 4) := hSw.x.cell 1; go_simp)
        try with_reducible rfl
      try simp only [Act.put, List.getElem_toArray, List.getElem_cons_zero, List.getElem_cons_succ, List.setIfInBounds_toArray, List.set_cons_zero, List.set_cons_succ]
      have hl2 := ref_look1 Y10.drew me _ _ _ (show Y10.drew.heap[me]? = some (.map #[{ key := rf9, val := .int .u32 1, born := 0 }] 1) from HAT2.out)
      simp only [rf9] at hl2
      clear HLB HAT2 HL
      generalize Y10.drew = Y11 at *
      refine wpAnyH_ready (rs := [5]) (by kernel_rfl) (by simp) ?_
      refine (AllReadyH.cons rfl (fun K hK => ?_) AllReadyH.nil)
      go_simp
      refine hK.out _ _ (hHeld) (fun hH => ?_)
      clear hK K hHeld hl2
      have hHeld := hH
      clear hH
      try simp only [Act.put, List.getElem_toArray, List.getElem_cons_zero, List.getElem_cons_succ, List.setIfInBounds_toArray, List.set_cons_zero, List.set_cons_succ]
      refine wpAnyH_take (i := 6) (v := ?_) rfl (by kernel_rfl) (by kernel_rfl) (by kernel_rfl) (fun _ _ _ h => h) (Or.inl ⟨by rfl, ?_⟩) hHeld ?_
      rotate_left
      · (intro Y hSw; (try dsimp only at hSw); go_simp)
        try with_reducible rfl
      try simp only [Act.put, List.getElem_toArray, List.getElem_cons_zero, List.getElem_cons_succ, List.setIfInBounds_toArray, List.set_cons_zero, List.set_cons_succ]
      refine wpAnyH_done (by kernel_rfl) ?_ _
      try simp only [Act.put, List.getElem_toArray, List.getElem_cons_zero, List.getElem_cons_succ, List.setIfInBounds_toArray, List.set_cons_zero, List.set_cons_succ]
      have HLB := Lib.hid hHeld
      clear hHeld
      go_wp2_with fail
      refine wp_region_held_drew (S := (fun Y => LB w s me mn wk p5 p10 p11 r BV Y)) (by kernel_rfl) (HLB.out.drew) ?_
      intro hHeld
      refine wpAnyH_take (i := 0) (v := ?_) rfl (by kernel_rfl) (by kernel_rfl) (by kernel_rfl) (fun _ _ _ h => h) (Or.inl ⟨by rfl, ?_⟩) hHeld ?_
      rotate_left
      · (intro Y hSw; (try dsimp only at hSw); go_simp)
        try with_reducible rfl
      try simp only [Act.put, List.getElem_toArray, List.getElem_cons_zero, List.getElem_cons_succ, List.setIfInBounds_toArray, List.set_cons_zero, List.set_cons_succ]
      refine wpAnyH_take (i := 1) (v := ?_) rfl (by kernel_rfl) (by kernel_rfl) (by kernel_rfl) (fun _ _ _ h => h) (Or.inl ⟨by rfl, ?_⟩) hHeld ?_
      rotate_left
      · (intro Y hSw; (try dsimp only at hSw); have qx0 : Y.cell? ⟨p10, 0, none⟩ = some (.int .u32 9) := hSw.x.cell 0; have qx1 : Y.cell? ⟨p10, 1, none⟩ = some (.int .u8 4) := hSw.x.cell 1; go_simp)
        try with_reducible rfl
      try simp only [Act.put, List.getElem_toArray, List.getElem_cons_zero, List.getElem_cons_succ, List.setIfInBounds_toArray, List.set_cons_zero, List.set_cons_succ]
      refine wpAnyH_take (i := 4) (v := .agg BV) rfl (by kernel_rfl) (by kernel_rfl) (by kernel_rfl) (fun _ _ _ h => h) (yieldsIf_load_arr (by rfl) 53 _ rfl p11 0 rfl BV _ (fun w h => Bk.range h.b) Tryz.underlying53 rfl hszL) hHeld ?_
      try simp only [Act.put, List.getElem_toArray, List.getElem_cons_zero, List.getElem_cons_succ, List.setIfInBounds_toArray, List.set_cons_zero, List.set_cons_succ]
      refine wpAnyH_take (i := 5) (v := ?_) rfl (by kernel_rfl) (by kernel_rfl) (by kernel_rfl) (fun _ _ _ h => h) (Or.inl ⟨by rfl, ?_⟩) hHeld ?_
      rotate_left
      · (intro Y hSw; (try dsimp only at hSw); go_simp)
        try with_reducible rfl
      try simp only [Act.put, List.getElem_toArray, List.getElem_cons_zero, List.getElem_cons_succ, List.setIfInBounds_toArray, List.set_cons_zero, List.set_cons_succ]
      refine wpAnyH_take (i := 6) (v := ?_) rfl (by kernel_rfl) (by kernel_rfl) (by kernel_rfl) (fun _ _ _ h => h) (Or.inl ⟨by rfl, ?_⟩) hHeld ?_
      rotate_left
      · (intro Y hSw; (try dsimp only at hSw); have qx0 : Y.cell? ⟨p10, 0, none⟩ = some (.int .u32 9) := hSw.x.cell 0; have qx1 : Y.cell? ⟨p10, 1, none⟩ = some (.int .u8 4) := hSw.x.cell 1; go_simp)
        try with_reducible rfl
      try simp only [Act.put, List.getElem_toArray, List.getElem_cons_zero, List.getElem_cons_succ, List.setIfInBounds_toArray, List.set_cons_zero, List.set_cons_succ]
      clear HLB
      generalize Y11.drew = Y12 at *
      refine wpAnyH_ready (rs := [2]) (by kernel_rfl) (by simp) ?_
      refine (AllReadyH.cons rfl (fun K hK => ?_) AllReadyH.nil)
      go_simp
      refine (HKD.out _).mono ?_
      rintro e Y13 ⟨rfl, hbX⟩
      have hH13 := hHeld.below hbX
      clear hbX
      go_wp2_with fail
      refine hK.out _ _ hH13 (fun hH => ?_)
      clear hK K hHeld hH13
      have hHeld := hH
      clear hH
      try simp only [Act.put, List.getElem_toArray, List.getElem_cons_zero, List.getElem_cons_succ, List.setIfInBounds_toArray, List.set_cons_zero, List.set_cons_succ]
      refine wpAnyH_take (i := 3) (v := ?_) rfl (by kernel_rfl) (by kernel_rfl) (by kernel_rfl) (fun _ _ _ h => h) (Or.inl ⟨by rfl, ?_⟩) hHeld ?_
      rotate_left
      · (intro Y hSw; (try dsimp only at hSw); have hfd : (Instr.field 88 (.agg #[.func (.func 57) #[] #[]]) 0).run Tryz.prog Y = .ok (.func (.func 57) #[] #[]) Y := (by kernel_rfl); go_simp)
        try with_reducible rfl
      try simp only [Act.put, List.getElem_toArray, List.getElem_cons_zero, List.getElem_cons_succ, List.setIfInBounds_toArray, List.set_cons_zero, List.set_cons_succ]
      refine wpAnyH_ready (rs := [7]) (by kernel_rfl) (by simp) ?_
      refine (AllReadyH.cons rfl (fun K hK => ?_) AllReadyH.nil)
      go_simp
      refine (HKI.out _).mono ?_
      rintro e Y14 ⟨rfl, hbX⟩
      have hH14 := hHeld.below hbX
      clear hbX
      go_wp2_with fail
      refine hK.out _ _ hH14 (fun hH => ?_)
      clear hK K hHeld hH14
      have hHeld := hH
      clear hH
      try simp only [Act.put, List.getElem_toArray, List.getElem_cons_zero, List.getElem_cons_succ, List.setIfInBounds_toArray, List.set_cons_zero, List.set_cons_succ]
      refine wpAnyH_take (i := 8) (v := ?_) rfl (by kernel_rfl) (by kernel_rfl) (by kernel_rfl) (fun _ _ _ h => h) (Or.inl ⟨by rfl, ?_⟩) hHeld ?_
      rotate_left
      · (intro Y hSw; (try dsimp only at hSw); go_simp)
        try with_reducible rfl
      try simp only [Act.put, List.getElem_toArray, List.getElem_cons_zero, List.getElem_cons_succ, List.setIfInBounds_toArray, List.set_cons_zero, List.set_cons_succ]
      refine wpAnyH_take (i := 9) (v := ?_) rfl (by kernel_rfl) (by kernel_rfl) (by kernel_rfl) (fun _ _ _ h => h) (Or.inl ⟨by rfl, ?_⟩) hHeld ?_
      rotate_left
      · (intro Y hSw; (try dsimp only at hSw); go_simp)
        try with_reducible rfl
      try simp only [Act.put, List.getElem_toArray, List.getElem_cons_zero, List.getElem_cons_succ, List.setIfInBounds_toArray, List.set_cons_zero, List.set_cons_succ]
      refine wpAnyH_take (i := 10) (v := ?_) rfl (by kernel_rfl) (by kernel_rfl) (by kernel_rfl) (fun _ _ _ h => h) (Or.inl ⟨by rfl, ?_⟩) hHeld ?_
      rotate_left
      · (intro Y hSw; (try dsimp only at hSw); go_simp)
        try with_reducible rfl
      try simp only [Act.put, List.getElem_toArray, List.getElem_cons_zero, List.getElem_cons_succ, List.setIfInBounds_toArray, List.set_cons_zero, List.set_cons_succ]
      refine wpAnyH_take (i := 11) (v := ?_) rfl (by kernel_rfl) (by kernel_rfl) (by kernel_rfl) (fun _ _ _ h => h) (Or.inl ⟨by rfl, ?_⟩) hHeld ?_
      rotate_left
      · (intro Y hSw; (try dsimp only at hSw); go_simp)
        try with_reducible rfl
      try simp only [Act.put, List.getElem_toArray, List.getElem_cons_zero, List.getElem_cons_succ, List.setIfInBounds_toArray, List.set_cons_zero, List.set_cons_succ]
      refine wpAnyH_take (i := 12) (v := ?_) rfl (by kernel_rfl) (by kernel_rfl) (by kernel_rfl) (fun _ _ _ h => h) (Or.inl ⟨by rfl, ?_⟩) hHeld ?_
      rotate_left
      · (intro Y hSw; (try dsimp only at hSw); go_simp)
        try with_reducible rfl
      try simp only [Act.put, List.getElem_toArray, List.getElem_cons_zero, List.getElem_cons_succ, List.setIfInBounds_toArray, List.set_cons_zero, List.set_cons_succ]
      refine wpAnyH_done (by kernel_rfl) ?_ _
      try simp only [Act.put, List.getElem_toArray, List.getElem_cons_zero, List.getElem_cons_succ, List.setIfInBounds_toArray, List.set_cons_zero, List.set_cons_succ]
      have HLB := Lib.hid hHeld
      clear hHeld
      go_wp2_with fail
      refine wp_region_held_drew (S := fun Y => Bk Y p5 30 r.cells) (by kernel_rfl) (HLB.out.drew.k5) ?_
      intro hHeld
      refine wpAnyH_take (i := 0) (v := .agg r.cells) rfl (by kernel_rfl) (by kernel_rfl) (by kernel_rfl) (fun _ _ _ h => h) (yieldsIf_load_arr (by rfl) 30 _ rfl p5 0 rfl r.cells _ (fun w h => Bk.range h) Tryz.underlying30 rfl (by kernel_rfl)) hHeld ?_
      try simp only [Act.put, List.getElem_toArray, List.getElem_cons_zero, List.getElem_cons_succ, List.setIfInBounds_toArray, List.set_cons_zero, List.set_cons_succ]
      refine wpAnyH_take (i := 1) (v := ?_) rfl (by kernel_rfl) (by kernel_rfl) (by kernel_rfl) (fun _ _ _ h => h) (Or.inl ⟨by rfl, ?_⟩) hHeld ?_
      rotate_left
      · (intro Y hSw; (try dsimp only at hSw); go_simp)
        try with_reducible rfl
      try simp only [Act.put, List.getElem_toArray, List.getElem_cons_zero, List.getElem_cons_succ, List.setIfInBounds_toArray, List.set_cons_zero, List.set_cons_succ]
      have hR2 := HLB.out.drew.k3
      have kR := hR2.all r.cells.toList rfl
      rw [Array.toArray_toList] at kR
      have HEE := Lib.hid (And.intro kR (below_setCells w.heap.size (Nat.le_refl _) r.cells.toList HLB.out.drew.bl 0))
      refine wpAnyH_ready (rs := [2]) (by kernel_rfl) (by simp) ?_
      refine (AllReadyH.cons rfl (fun K hK => ?_) AllReadyH.nil)
      refine step_store_mid (by rfl) 30 (.tmp 3) (.tmp 98) (by rfl) w.heap.size 0 r.cells (by rfl) (by rfl) (hR2.there _ (Nat.le_refl 8)) (by kernel_rfl) (by kernel_rfl) ?_
      refine hK.out _ _ (Bk.farCells w.heap.size hne _ hHeld 0) (fun hH => ?_)
      clear hK K hHeld
      have hHeld := hH
      clear hH
      try simp only [Act.put, List.getElem_toArray, List.getElem_cons_zero, List.getElem_cons_succ, List.setIfInBounds_toArray, List.set_cons_zero, List.set_cons_succ]
      refine wpAnyH_take (i := 3) (v := ?_) rfl (by kernel_rfl) (by kernel_rfl) (by kernel_rfl) (fun _ _ _ h => h) (Or.inl ⟨by rfl, ?_⟩) hHeld ?_
      rotate_left
      · (intro Y hSw; (try dsimp only at hSw); go_simp)
        try with_reducible rfl
      try simp only [Act.put, List.getElem_toArray, List.getElem_cons_zero, List.getElem_cons_succ, List.setIfInBounds_toArray, List.set_cons_zero, List.set_cons_succ]
      refine wpAnyH_done (by kernel_rfl) ?_ _
      try simp only [Act.put, List.getElem_toArray, List.getElem_cons_zero, List.getElem_cons_succ, List.setIfInBounds_toArray, List.set_cons_zero, List.set_cons_succ]
      clear hHeld hR2 kR
      generalize Y14.drew.setCells w.heap.size 0 r.cells.toList = Z at *
      go_wp2_with fail
      rw [Exit.noGoto_ret]
      refine bodyPost_ret (results_tmp_row_tmp rfl _ _ w.heap.size _ r.cells _ rfl HEE.out.1 Tryz.underlying30 rfl (by kernel_rfl)) rfl ⟨rfl, HEE.out.2⟩
end Go.Proofs.YtjnbpbnhkinggaaGreatDoor.St
