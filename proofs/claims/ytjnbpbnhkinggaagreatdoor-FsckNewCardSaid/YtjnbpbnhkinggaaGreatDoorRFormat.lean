/- The contract of root.Format, of a device of zeros. -/
import Derived.Test.YtjnbpbnhkinggaaGreatDoorRTurn
namespace Go.Proofs.YtjnbpbnhkinggaaGreatDoor.St
open Go.RowKit

/-- The root of a formatted device. -/
def froot (n : Int) : Rt := ⟨1, n, 0, 0, n - fst n, 1, fst n, 0⟩
theorem froot_fits (n : Int) (h0 : 64 ≤ n) (h1 : n ≤ 1048576) : (froot n).Fits n := by
  obtain ⟨f0, f1⟩ := fst_bd n h0 h1
  refine ⟨⟨?_, ?_, ?_, ?_, ?_, ?_, ?_, ?_⟩, ?_, rfl, ?_, ?_, ?_⟩
  all_goals simp only [froot, u32]
  all_goals try omega
  · simp [Rt.may, Rt.szOk, Rt.inOk, Rt.voOk]; omega
  · simp
theorem mp_farCells {g k : Nat} {f : Int → Option Value} (b : Nat) (hne : g ≠ b) (vs : List Value) : ∀ {w : World} (_ : Mp w g k f) (o : Nat), Mp (w.setCells b o vs) g k f := by
  induction vs with
  | nil => intro w h o; exact h
  | cons v r ih => intro w h o; exact ih (h.setCell (a := ⟨b, o, none⟩) hne v) (o + 1)
theorem fr_setCells {S : Nat → Prop} {a : World} (b : Nat) (hb : b < a.heap.size → S b) (vs : List Value) : ∀ {w : World} (_ : Fr S a w) (o : Nat), Fr S a (w.setCells b o vs) := by
  induction vs with
  | nil => intro w h o; exact h
  | cons v r ih => intro w h o; exact ih (h.setCell (p := ⟨b, o, none⟩) hb v) (o + 1)
/-- What holds at a round's head. -/
def FmtRel (w : World) (d m k : Nat) (n wt : Int) (g : Int → List UInt8) (p4 : Nat) (wr : World) : Prop := Dv wr d m k n wt g ∧ Bk wr p4 48 (planC n) ∧ Bk wr w.heap.size 30 rz.cells ∧ Below w.heap.size w wr
theorem built_fr (n : Int) : Tryz.prog.built 30 [(0, .int .u64 1), (1, .int .u32 n), (4, .int .u32 (n - fst n)), (5, .int .u32 1), (6, .int .u32 (fst n))] = some (froot n).cells := by kernel_rfl
theorem FmtRel.far {w : World} {d m k : Nat} {n wt : Int} {g : Int → List UInt8} {p4 x : Nat} {X : World} (h : FmtRel w d m k n wt g p4 X) (h1 : x ≠ p4) (h2 : x ≠ d) (h3 : x ≠ m) (h4 : x ≠ w.heap.size) (h5 : w.heap.size ≤ x) (vs : List Value) : FmtRel w d m k n wt g p4 (X.setCells x 0 vs) :=
  ⟨⟨Bk.farCells x (Ne.symm h2) vs h.1.b 0, mp_farCells x (Ne.symm h3) vs h.1.m 0, h.1.len, h.1.lo, h.1.hi⟩, Bk.farCells x (Ne.symm h1) vs h.2.1 0, Bk.farCells x (Ne.symm h4) vs h.2.2.1 0, below_setCells x h5 vs h.2.2.2 0⟩
theorem FmtRel.go {w : World} {d m k : Nat} {n wt : Int} {g : Int → List UInt8} {p4 : Nat} {X Y : World} (h : FmtRel w d m k n wt g p4 X) (hb : Below X.heap.size X Y) : FmtRel w d m k n wt g p4 Y :=
  ⟨h.1.below hb, h.2.1.below hb h.2.1.lt, h.2.2.1.below hb h.2.2.1.lt, h.2.2.2.trans (hb.mono h.2.2.2.size)⟩
attribute [local go_sem ↓] Go.wp_at_zero Go.wp_at_succ
set_option maxRecDepth 100000 in
set_option maxHeartbeats 1000000 in
theorem format_any (d m k : Nat) (n wt : Int) (g : Int → List UInt8) (hz : ∀ a, g a = zb) (hk : k < 1000) (w : World) (h : Dv w d m k n wt g) :
    Calls Tryz.prog 6 #[.pointer (some ⟨d, 0, none⟩)] w fun e w' => e = .returned (.tuple #[.agg (froot n).cells, .int .i64 0]) ∧ (∃ wt, Dv w' d m (k + 1) n wt (gset g 1 (rblk (froot n)))) ∧ Fr (fun i => i = d ∨ i = m) w w' := by
  have h0 := h.lo
  have h1 := h.hi
  obtain ⟨f0, f1⟩ := fst_bd n h0 h1
  have hB0 : Below w.heap.size w (w.alloc (.cells rz.cells 30)) := (Below.refl _ _).alloc (Nat.le_refl _) _
  have HD0 := Lib.hid (h.below hB0)
  have HR0 := Lib.hid (Bk.new w 30 rz.cells)
  have HB0 := Lib.hid hB0
  have HZ := Lib.hid hz
  clear h hB0 hz
  go_enter Tryz.func6, Tryz.ntmps6
  go_wp2_with fail
  refine (rnone_b d m n wt _ h0 _ HD0.out.b).mono ?_
  rintro e w1 ⟨rfl, rfl⟩
  go_wp2_with fail
  refine (size_b d m n wt _ _ HD0.out.b).mono ?_
  rintro e w1 ⟨rfl, rfl⟩
  go_wp2_with fail
  refine (layout_any n h0 h1 _).mono ?_
  rintro e w1 ⟨rfl, hb1⟩
  have hA := (Below.refl w1.heap.size w1).alloc (Nat.le_refl _) (.cells #[.int .u32 (tal n), .int .u32 (pic n), .int .u32 (fst n)] 48)
  have HR := Lib.hid (show FmtRel w d m k n wt g w1.heap.size (w1.alloc (.cells #[.int .u32 (tal n), .int .u32 (pic n), .int .u32 (fst n)] 48)) from
    ⟨(HD0.out.below hb1).below hA, Bk.new w1 _ _, (HR0.out.below hb1 HR0.out.lt).below hA (HR0.out.below hb1 HR0.out.lt).lt, (HB0.out.trans (hb1.mono HB0.out.size)).trans (hA.mono (HB0.out.trans (hb1.mono HB0.out.size)).size)⟩)
  clear hb1 HD0 HR0 HB0 hA
  simp only [planC]
  have c2 : (w1.alloc (.cells #[.int .u32 (tal n), .int .u32 (pic n), .int .u32 (fst n)] 48)).cell? ⟨w1.heap.size, 2, none⟩ = some (.int .u32 (fst n)) := HR.out.2.1.cell 2
  go_wp2_with fail
  clear c2
  generalize w1.alloc (.cells #[.int .u32 (tal n), .int .u32 (pic n), .int .u32 (fst n)] 48) = w2 at *
  generalize w1.heap.size = p4 at *
  go_loopw [6, 23] (fun l i wr => ∃ (j : Int), 0 ≤ j ∧ j ≤ fst n ∧ i = .int .u32 j ∧ l = .slice none 0 0 ∧ FmtRel w d m k n wt g p4 wr) (fun _ i _ => (fst n - intOf i).toNat)
  case atStart => exact ⟨0, by omega, by omega, rfl, rfl, HR.out⟩
  case round =>
    obtain ⟨j, hj0, hj1, rfl, rfl, hR⟩ := hrel
    have HR1 := Lib.hid hR
    clear hR HR
    by_cases hlt : j < fst n
    · have hzj := HZ.out j
      have HZJ := Lib.hid (show g j = zb from hzj)
      clear hzj
      go_wp2_with fail
      refine (read_any d m k n wt g j hj0 (by omega) _ HR1.out.1).mono ?_
      rintro e w3 ⟨rfl, hb3⟩
      rw [HZJ.out]
      have hN0 := Bk.new w3 53 Tryz.zeroCells53
      have hsz : (bA zb).size = 256 := by rw [bA_size, zb_length]
      have hszV : (Tryz.prog.info? 53).map (·.size) = some (bA zb).size := by rw [hsz]; exact infoBlock
      have h1V := bA_one zb
      have hth := hN0.there (bA zb).size (by rw [zb_cells]; exact Nat.le_refl _)
      have hN1 := hN0.all (bA zb).toList (by rw [Array.length_toList, zb_cells])
      rw [Array.toArray_toList] at hN1
      have hB1 := below_setCells w3.heap.size (Nat.le_refl _) (bA zb).toList ((Below.refl w3.heap.size w3).alloc (Nat.le_refl _) (.cells Tryz.zeroCells53 53)) 0
      have HN1 := Lib.hid hN1
      have HE := Lib.hid (show FmtRel w d m k n wt g p4 ((w3.alloc (.cells Tryz.zeroCells53 53)).setCells w3.heap.size 0 (bA zb).toList) from HR1.out.go (hb3.trans (hB1.mono hb3.size)))
      have HZA := Lib.hid (fun X => zero_any zb zb_length X)
      rw [beq_self_eq_true] at HZA
      clear hN0 hN1 hB1 hb3 HR1 hsz
      generalize bA zb = BV at *
      go_wp2_with (first | (refine wpList_store_mid rfl 53 _ _ rfl w3.heap.size 0 BV rfl rfl hth hszV h1V ?_; generalize (w3.alloc (.cells Tryz.zeroCells53 53)).setCells w3.heap.size 0 BV.toList = w4 at *) | (refine wpList_load_row rfl 53 _ rfl _ rfl _ BV _ _ HN1.out Tryz.underlying53 rfl hszV ?_))
      refine (HZA.out _).mono ?_
      rintro e w5 ⟨rfl, hb5⟩
      have HE5 := Lib.hid (HE.out.go hb5)
      clear HE hb5 hth HN1
      go_wp2_with fail
      go_roundw
      case rel => exact ⟨j + 1, by omega, by omega, rfl, rfl, HE5.out⟩
      case measure => simp [intOf]; omega
    · have e1 : IntKind.u32.wrap (n - fst n) = n - fst n := by rw [IntKind.wrap_u32]; omega
      go_wp2_with fail
      refine wp_region_held_drew (S := fun Y => Bk Y p4 48 (planC n) ∧ DvB Y d m n wt (.slice none 0 0)) (by kernel_rfl) ⟨HR1.out.2.1, HR1.out.1.b⟩ ?_
      intro hHeld
      refine wpAnyH_take (i := 0) (v := ?_) rfl (by kernel_rfl) (by kernel_rfl) (by kernel_rfl) (fun _ _ _ h => h) (Or.inl ⟨by rfl, ?_⟩) hHeld ?_
      rotate_left
      · (intro w hSw; (try dsimp only at hSw); go_simp)
        try with_reducible rfl
      try simp only [Act.put, List.getElem_toArray, List.getElem_cons_zero, List.getElem_cons_succ, List.setIfInBounds_toArray, List.set_cons_zero, List.set_cons_succ]
      refine wpAnyH_take (i := 2) (v := ?_) rfl (by kernel_rfl) (by kernel_rfl) (by kernel_rfl) (fun _ _ _ h => h) (Or.inl ⟨by rfl, ?_⟩) hHeld ?_
      rotate_left
      · (intro w hSw; (try dsimp only at hSw); go_simp)
        try with_reducible rfl
      try simp only [Act.put, List.getElem_toArray, List.getElem_cons_zero, List.getElem_cons_succ, List.setIfInBounds_toArray, List.set_cons_zero, List.set_cons_succ]
      refine wpAnyH_take (i := 4) (v := ?_) rfl (by kernel_rfl) (by kernel_rfl) (by kernel_rfl) (fun _ _ _ h => h) (Or.inl ⟨by rfl, ?_⟩) hHeld ?_
      rotate_left
      · (intro w hSw; (try dsimp only at hSw); go_simp)
        try with_reducible rfl
      try simp only [Act.put, List.getElem_toArray, List.getElem_cons_zero, List.getElem_cons_succ, List.setIfInBounds_toArray, List.set_cons_zero, List.set_cons_succ]
      refine wpAnyH_take (i := 5) (v := ?_) rfl (by kernel_rfl) (by kernel_rfl) (by kernel_rfl) (fun _ _ _ h => h) (Or.inl ⟨by rfl, ?_⟩) hHeld ?_
      rotate_left
      · (intro w hSw; (try dsimp only at hSw); obtain ⟨q0, q1, q2⟩ := Bk.plan hSw.1; go_simp)
        try with_reducible rfl
      try simp only [Act.put, List.getElem_toArray, List.getElem_cons_zero, List.getElem_cons_succ, List.setIfInBounds_toArray, List.set_cons_zero, List.set_cons_succ]
      refine wpAnyH_take (i := 7) (v := ?_) rfl (by kernel_rfl) (by kernel_rfl) (by kernel_rfl) (fun _ _ _ h => h) (Or.inl ⟨by rfl, ?_⟩) hHeld ?_
      rotate_left
      · (intro w hSw; (try dsimp only at hSw); go_simp)
        try with_reducible rfl
      try simp only [Act.put, List.getElem_toArray, List.getElem_cons_zero, List.getElem_cons_succ, List.setIfInBounds_toArray, List.set_cons_zero, List.set_cons_succ]
      refine wpAnyH_take (i := 8) (v := ?_) rfl (by kernel_rfl) (by kernel_rfl) (by kernel_rfl) (fun _ _ _ h => h) (Or.inl ⟨by rfl, ?_⟩) hHeld ?_
      rotate_left
      · (intro w hSw; (try dsimp only at hSw); obtain ⟨q0, q1, q2⟩ := Bk.plan hSw.1; go_simp)
        try with_reducible rfl
      try simp only [Act.put, List.getElem_toArray, List.getElem_cons_zero, List.getElem_cons_succ, List.setIfInBounds_toArray, List.set_cons_zero, List.set_cons_succ]
      have HE := Lib.hid (show FmtRel w d m k n wt g p4 wr.drew from HR1.out.go ⟨rfl, rfl, rfl, Nat.le_refl _, fun _ _ => rfl⟩)
      clear HR1
      generalize wr.drew = Y0 at *
      refine wpAnyH_ready (rs := [1, 10]) (by kernel_rfl) (by simp) ?_
      refine (AllReadyH.cons rfl (fun K hK => ?_) (AllReadyH.cons rfl (fun K hK => ?_) AllReadyH.nil))
      · skip
        go_simp
        refine (size_b d m n wt _ _ hHeld.2).mono ?_
        rintro e wv ⟨rfl, rfl⟩
        go_wp2_with fail
        refine hK.out _ _ hHeld (fun _ => ?_)
        clear hK K
        try simp only [Act.put, List.getElem_toArray, List.getElem_cons_zero, List.getElem_cons_succ, List.setIfInBounds_toArray, List.set_cons_zero, List.set_cons_succ]
        refine wpAnyH_ready (rs := [3, 10]) (by kernel_rfl) (by simp) ?_
        refine (AllReadyH.cons rfl (fun K hK => ?_) (AllReadyH.cons rfl (fun K hK => ?_) AllReadyH.nil))
        · skip
          go_simp
          refine (size_b d m n wt _ _ hHeld.2).mono ?_
          rintro e wv ⟨rfl, rfl⟩
          go_wp2_with fail
          refine hK.out _ _ hHeld (fun _ => ?_)
          clear hK K
          try simp only [Act.put, List.getElem_toArray, List.getElem_cons_zero, List.getElem_cons_succ, List.setIfInBounds_toArray, List.set_cons_zero, List.set_cons_succ]
          refine wpAnyH_take (i := 6) (v := ?_) rfl (by kernel_rfl) (by kernel_rfl) (by kernel_rfl) (fun _ _ _ h => h) (Or.inl ⟨by rfl, ?_⟩) hHeld ?_
          rotate_left
          · (intro w hSw; (try dsimp only at hSw); go_simp)
            try with_reducible rfl
          try simp only [Act.put, List.getElem_toArray, List.getElem_cons_zero, List.getElem_cons_succ, List.setIfInBounds_toArray, List.set_cons_zero, List.set_cons_succ]
          refine wpAnyH_take (i := 9) (v := .agg (froot n).cells) rfl (by kernel_rfl) (by kernel_rfl) (by kernel_rfl) (fun _ _ _ h => h) (yieldsIf_build (by rfl) 30 _ rfl [(0, .int .u64 1), (1, .int .u32 n), (4, .int .u32 (n - fst n)), (5, .int .u32 1), (6, .int .u32 (fst n))] rfl _ (built_fr n)) hHeld ?_
          try simp only [Act.put, List.getElem_toArray, List.getElem_cons_zero, List.getElem_cons_succ, List.setIfInBounds_toArray, List.set_cons_zero, List.set_cons_succ]
          refine wpAnyH_ready (rs := [10]) (by kernel_rfl) (by simp) ?_
          refine (AllReadyH.cons rfl (fun K hK => ?_) AllReadyH.nil)
          go_simp
          have hA := (Below.refl Y0.heap.size Y0).alloc (Nat.le_refl _) (.cells #[.int .u64 0, .int .u32 0, .int .u32 0, .int .u32 0, .int .u32 0, .int .u32 0, .int .u32 0, .int .u8 0] 30)
          have hH : Bk (Y0.alloc (.cells #[.int .u64 0, .int .u32 0, .int .u32 0, .int .u32 0, .int .u32 0, .int .u32 0, .int .u32 0, .int .u8 0] 30)) p4 48 (planC n) ∧ DvB (Y0.alloc (.cells #[.int .u64 0, .int .u32 0, .int .u32 0, .int .u32 0, .int .u32 0, .int .u32 0, .int .u32 0, .int .u8 0] 30)) d m n wt (.slice none 0 0) := ⟨hHeld.1.below hA hHeld.1.lt, hHeld.2.below hA hHeld.2.lt⟩
          have HE1 := Lib.hid (HE.out.go hA)
          have HK := Lib.hid (show Bk (Y0.alloc (.cells #[.int .u64 0, .int .u32 0, .int .u32 0, .int .u32 0, .int .u32 0, .int .u32 0, .int .u32 0, .int .u8 0] 30)) Y0.heap.size 30 rz.cells from Bk.new Y0 _ _)
          have hnew : Y0.heap.size ≠ p4 ∧ Y0.heap.size ≠ d ∧ Y0.heap.size ≠ m ∧ Y0.heap.size ≠ w.heap.size ∧ w.heap.size ≤ Y0.heap.size := ⟨Nat.ne_of_gt hHeld.1.lt, Nat.ne_of_gt hHeld.2.lt, Nat.ne_of_gt HE.out.1.m.lt, Nat.ne_of_gt HE.out.2.2.1.lt, HE.out.2.2.2.size⟩
          refine hK.out _ _ hH (fun _ => ?_)
          clear hK K hHeld HE hA
          have hHeld := hH
          have HE := HE1
          clear hH HE1
          try simp only [Act.put, List.getElem_toArray, List.getElem_cons_zero, List.getElem_cons_succ, List.setIfInBounds_toArray, List.set_cons_zero, List.set_cons_succ]
          generalize Y0.alloc (.cells #[.int .u64 0, .int .u32 0, .int .u32 0, .int .u32 0, .int .u32 0, .int .u32 0, .int .u32 0, .int .u8 0] 30) = Y1 at *
          generalize Y0.heap.size = x10 at *
          have hRA := HK.out.all (froot n).cells.toList rfl
          rw [Array.toArray_toList] at hRA
          have HE2 := Lib.hid (show FmtRel w d m k n wt g p4 (Y1.setCells x10 0 (froot n).cells.toList) from HE.out.far hnew.1 hnew.2.1 hnew.2.2.1 hnew.2.2.2.1 hnew.2.2.2.2 _)
          refine wpAnyH_ready (rs := [11]) (by kernel_rfl) (by simp) ?_
          refine (AllReadyH.cons rfl (fun K hK => ?_) AllReadyH.nil)
          refine step_store_mid (by rfl) 30 (.tmp 10) (.tmp 50) (by rfl) x10 0 (froot n).cells (by rfl) (by rfl) (HK.out.there _ (Nat.le_refl 8)) (by kernel_rfl) (by kernel_rfl) ?_
          refine hK.out _ _ ⟨HE2.out.2.1, HE2.out.1.b⟩ (fun _ => ?_)
          clear hK K hHeld HE
          refine wpAnyH_done (by kernel_rfl) ?_ _
          try simp only [Act.put, List.getElem_toArray, List.getElem_cons_zero, List.getElem_cons_succ, List.setIfInBounds_toArray, List.set_cons_zero, List.set_cons_succ]
          have HK2 := Lib.hid hRA
          clear hRA HK
          generalize Y1.setCells x10 0 (froot n).cells.toList = Z at *
          have hx10 : ¬ (x10 = d ∨ x10 = m) := fun h => h.elim hnew.2.1 hnew.2.2.1
          have hw10 : ¬ (w.heap.size = d ∨ w.heap.size = m) := fun h => h.elim (bk_ne HE2.out.2.2.1 HE2.out.1.b (by decide)) (fun e => mp_ne HE2.out.1.m HE2.out.2.2.1 e.symm)
          clear e1
          go_wp2_with (refine wpList_load_row rfl 30 _ rfl _ rfl _ (froot n).cells _ _ HK2.out Tryz.underlying30 rfl (by kernel_rfl) ?_)
          refine (turn_any d m k n wt g (froot n) (froot_fits n h0 h1).ok (froot_fits n h0 h1).may (.slice none 0 0) [] (by decide) (by simp; omega) (fun _ h => by cases h) Z HE2.out.1 (World.ownsRow_nil _ _ _ _)).mono ?_
          rintro e w6 ⟨rfl, ⟨wt6, hd6⟩, hf6⟩
          have HK6 := Lib.hid (HK2.out.fr hf6 hx10)
          have hR6 := HE2.out.2.2.1.fr hf6 hw10
          have hF6 := (Fr.of_all HE2.out.2.2.2 (fun i => i = d ∨ i = m)).trans hf6 (fun _ _ h => h)
          have hth := hR6.there (froot n).cells.size (Nat.le_refl 8)
          have hRA := hR6.all (froot n).cells.toList rfl
          rw [Array.toArray_toList] at hRA
          have HR7 := Lib.hid hRA
          have HD7 := Lib.hid (show Dv (w6.setCells w.heap.size 0 (froot n).cells.toList) d m (k + 1) n wt6 (gset g 1 (rblk (froot n))) from ⟨Bk.farCells w.heap.size (fun e => hw10 (Or.inl e.symm)) _ hd6.b 0, mp_farCells w.heap.size (fun e => hw10 (Or.inr e.symm)) _ hd6.m 0, hd6.len, hd6.lo, hd6.hi⟩)
          have HF7 := Lib.hid (fr_setCells w.heap.size (fun h => absurd h (by omega)) (froot n).cells.toList hF6 0)
          clear hd6 hf6 hR6 hF6 hRA HE2 HK2
          go_wp2_with (first | (refine wpList_load_row rfl 30 _ rfl _ rfl _ (froot n).cells _ _ HK6.out Tryz.underlying30 rfl (by kernel_rfl) ?_) | (refine wpList_store_mid rfl 30 _ _ rfl w.heap.size 0 (froot n).cells rfl rfl hth (by kernel_rfl) (by kernel_rfl) ?_; generalize w6.setCells w.heap.size 0 (froot n).cells.toList = w7 at *))
          refine bodyPost_ret (results_row_tmp rfl _ _ w.heap.size _ (froot n).cells _ rfl HR7.out Tryz.underlying30 rfl (by kernel_rfl)) rfl ⟨rfl, ⟨wt6, HD7.out⟩, HF7.out⟩
        · skip
          go_simp
          have hA := (Below.refl Y0.heap.size Y0).alloc (Nat.le_refl _) (.cells #[.int .u64 0, .int .u32 0, .int .u32 0, .int .u32 0, .int .u32 0, .int .u32 0, .int .u32 0, .int .u8 0] 30)
          have hH : Bk (Y0.alloc (.cells #[.int .u64 0, .int .u32 0, .int .u32 0, .int .u32 0, .int .u32 0, .int .u32 0, .int .u32 0, .int .u8 0] 30)) p4 48 (planC n) ∧ DvB (Y0.alloc (.cells #[.int .u64 0, .int .u32 0, .int .u32 0, .int .u32 0, .int .u32 0, .int .u32 0, .int .u32 0, .int .u8 0] 30)) d m n wt (.slice none 0 0) := ⟨hHeld.1.below hA hHeld.1.lt, hHeld.2.below hA hHeld.2.lt⟩
          have HE1 := Lib.hid (HE.out.go hA)
          have HK := Lib.hid (show Bk (Y0.alloc (.cells #[.int .u64 0, .int .u32 0, .int .u32 0, .int .u32 0, .int .u32 0, .int .u32 0, .int .u32 0, .int .u8 0] 30)) Y0.heap.size 30 rz.cells from Bk.new Y0 _ _)
          have hnew : Y0.heap.size ≠ p4 ∧ Y0.heap.size ≠ d ∧ Y0.heap.size ≠ m ∧ Y0.heap.size ≠ w.heap.size ∧ w.heap.size ≤ Y0.heap.size := ⟨Nat.ne_of_gt hHeld.1.lt, Nat.ne_of_gt hHeld.2.lt, Nat.ne_of_gt HE.out.1.m.lt, Nat.ne_of_gt HE.out.2.2.1.lt, HE.out.2.2.2.size⟩
          refine hK.out _ _ hH (fun _ => ?_)
          clear hK K hHeld HE hA
          have hHeld := hH
          have HE := HE1
          clear hH HE1
          try simp only [Act.put, List.getElem_toArray, List.getElem_cons_zero, List.getElem_cons_succ, List.setIfInBounds_toArray, List.set_cons_zero, List.set_cons_succ]
          generalize Y0.alloc (.cells #[.int .u64 0, .int .u32 0, .int .u32 0, .int .u32 0, .int .u32 0, .int .u32 0, .int .u32 0, .int .u8 0] 30) = Y1 at *
          generalize Y0.heap.size = x10 at *
          refine wpAnyH_ready (rs := [3]) (by kernel_rfl) (by simp) ?_
          refine (AllReadyH.cons rfl (fun K hK => ?_) AllReadyH.nil)
          go_simp
          refine (size_b d m n wt _ _ hHeld.2).mono ?_
          rintro e wv ⟨rfl, rfl⟩
          go_wp2_with fail
          refine hK.out _ _ hHeld (fun _ => ?_)
          clear hK K
          try simp only [Act.put, List.getElem_toArray, List.getElem_cons_zero, List.getElem_cons_succ, List.setIfInBounds_toArray, List.set_cons_zero, List.set_cons_succ]
          refine wpAnyH_take (i := 6) (v := ?_) rfl (by kernel_rfl) (by kernel_rfl) (by kernel_rfl) (fun _ _ _ h => h) (Or.inl ⟨by rfl, ?_⟩) hHeld ?_
          rotate_left
          · (intro w hSw; (try dsimp only at hSw); go_simp)
            try with_reducible rfl
          try simp only [Act.put, List.getElem_toArray, List.getElem_cons_zero, List.getElem_cons_succ, List.setIfInBounds_toArray, List.set_cons_zero, List.set_cons_succ]
          refine wpAnyH_take (i := 9) (v := .agg (froot n).cells) rfl (by kernel_rfl) (by kernel_rfl) (by kernel_rfl) (fun _ _ _ h => h) (yieldsIf_build (by rfl) 30 _ rfl [(0, .int .u64 1), (1, .int .u32 n), (4, .int .u32 (n - fst n)), (5, .int .u32 1), (6, .int .u32 (fst n))] rfl _ (built_fr n)) hHeld ?_
          try simp only [Act.put, List.getElem_toArray, List.getElem_cons_zero, List.getElem_cons_succ, List.setIfInBounds_toArray, List.set_cons_zero, List.set_cons_succ]
          have hRA := HK.out.all (froot n).cells.toList rfl
          rw [Array.toArray_toList] at hRA
          have HE2 := Lib.hid (show FmtRel w d m k n wt g p4 (Y1.setCells x10 0 (froot n).cells.toList) from HE.out.far hnew.1 hnew.2.1 hnew.2.2.1 hnew.2.2.2.1 hnew.2.2.2.2 _)
          refine wpAnyH_ready (rs := [11]) (by kernel_rfl) (by simp) ?_
          refine (AllReadyH.cons rfl (fun K hK => ?_) AllReadyH.nil)
          refine step_store_mid (by rfl) 30 (.tmp 10) (.tmp 50) (by rfl) x10 0 (froot n).cells (by rfl) (by rfl) (HK.out.there _ (Nat.le_refl 8)) (by kernel_rfl) (by kernel_rfl) ?_
          refine hK.out _ _ ⟨HE2.out.2.1, HE2.out.1.b⟩ (fun _ => ?_)
          clear hK K hHeld HE
          refine wpAnyH_done (by kernel_rfl) ?_ _
          try simp only [Act.put, List.getElem_toArray, List.getElem_cons_zero, List.getElem_cons_succ, List.setIfInBounds_toArray, List.set_cons_zero, List.set_cons_succ]
          have HK2 := Lib.hid hRA
          clear hRA HK
          generalize Y1.setCells x10 0 (froot n).cells.toList = Z at *
          have hx10 : ¬ (x10 = d ∨ x10 = m) := fun h => h.elim hnew.2.1 hnew.2.2.1
          have hw10 : ¬ (w.heap.size = d ∨ w.heap.size = m) := fun h => h.elim (bk_ne HE2.out.2.2.1 HE2.out.1.b (by decide)) (fun e => mp_ne HE2.out.1.m HE2.out.2.2.1 e.symm)
          clear e1
          go_wp2_with (refine wpList_load_row rfl 30 _ rfl _ rfl _ (froot n).cells _ _ HK2.out Tryz.underlying30 rfl (by kernel_rfl) ?_)
          refine (turn_any d m k n wt g (froot n) (froot_fits n h0 h1).ok (froot_fits n h0 h1).may (.slice none 0 0) [] (by decide) (by simp; omega) (fun _ h => by cases h) Z HE2.out.1 (World.ownsRow_nil _ _ _ _)).mono ?_
          rintro e w6 ⟨rfl, ⟨wt6, hd6⟩, hf6⟩
          have HK6 := Lib.hid (HK2.out.fr hf6 hx10)
          have hR6 := HE2.out.2.2.1.fr hf6 hw10
          have hF6 := (Fr.of_all HE2.out.2.2.2 (fun i => i = d ∨ i = m)).trans hf6 (fun _ _ h => h)
          have hth := hR6.there (froot n).cells.size (Nat.le_refl 8)
          have hRA := hR6.all (froot n).cells.toList rfl
          rw [Array.toArray_toList] at hRA
          have HR7 := Lib.hid hRA
          have HD7 := Lib.hid (show Dv (w6.setCells w.heap.size 0 (froot n).cells.toList) d m (k + 1) n wt6 (gset g 1 (rblk (froot n))) from ⟨Bk.farCells w.heap.size (fun e => hw10 (Or.inl e.symm)) _ hd6.b 0, mp_farCells w.heap.size (fun e => hw10 (Or.inr e.symm)) _ hd6.m 0, hd6.len, hd6.lo, hd6.hi⟩)
          have HF7 := Lib.hid (fr_setCells w.heap.size (fun h => absurd h (by omega)) (froot n).cells.toList hF6 0)
          clear hd6 hf6 hR6 hF6 hRA HE2 HK2
          go_wp2_with (first | (refine wpList_load_row rfl 30 _ rfl _ rfl _ (froot n).cells _ _ HK6.out Tryz.underlying30 rfl (by kernel_rfl) ?_) | (refine wpList_store_mid rfl 30 _ _ rfl w.heap.size 0 (froot n).cells rfl rfl hth (by kernel_rfl) (by kernel_rfl) ?_; generalize w6.setCells w.heap.size 0 (froot n).cells.toList = w7 at *))
          refine bodyPost_ret (results_row_tmp rfl _ _ w.heap.size _ (froot n).cells _ rfl HR7.out Tryz.underlying30 rfl (by kernel_rfl)) rfl ⟨rfl, ⟨wt6, HD7.out⟩, HF7.out⟩
      · skip
        go_simp
        have hA := (Below.refl Y0.heap.size Y0).alloc (Nat.le_refl _) (.cells #[.int .u64 0, .int .u32 0, .int .u32 0, .int .u32 0, .int .u32 0, .int .u32 0, .int .u32 0, .int .u8 0] 30)
        have hH : Bk (Y0.alloc (.cells #[.int .u64 0, .int .u32 0, .int .u32 0, .int .u32 0, .int .u32 0, .int .u32 0, .int .u32 0, .int .u8 0] 30)) p4 48 (planC n) ∧ DvB (Y0.alloc (.cells #[.int .u64 0, .int .u32 0, .int .u32 0, .int .u32 0, .int .u32 0, .int .u32 0, .int .u32 0, .int .u8 0] 30)) d m n wt (.slice none 0 0) := ⟨hHeld.1.below hA hHeld.1.lt, hHeld.2.below hA hHeld.2.lt⟩
        have HE1 := Lib.hid (HE.out.go hA)
        have HK := Lib.hid (show Bk (Y0.alloc (.cells #[.int .u64 0, .int .u32 0, .int .u32 0, .int .u32 0, .int .u32 0, .int .u32 0, .int .u32 0, .int .u8 0] 30)) Y0.heap.size 30 rz.cells from Bk.new Y0 _ _)
        have hnew : Y0.heap.size ≠ p4 ∧ Y0.heap.size ≠ d ∧ Y0.heap.size ≠ m ∧ Y0.heap.size ≠ w.heap.size ∧ w.heap.size ≤ Y0.heap.size := ⟨Nat.ne_of_gt hHeld.1.lt, Nat.ne_of_gt hHeld.2.lt, Nat.ne_of_gt HE.out.1.m.lt, Nat.ne_of_gt HE.out.2.2.1.lt, HE.out.2.2.2.size⟩
        refine hK.out _ _ hH (fun _ => ?_)
        clear hK K hHeld HE hA
        have hHeld := hH
        have HE := HE1
        clear hH HE1
        try simp only [Act.put, List.getElem_toArray, List.getElem_cons_zero, List.getElem_cons_succ, List.setIfInBounds_toArray, List.set_cons_zero, List.set_cons_succ]
        generalize Y0.alloc (.cells #[.int .u64 0, .int .u32 0, .int .u32 0, .int .u32 0, .int .u32 0, .int .u32 0, .int .u32 0, .int .u8 0] 30) = Y1 at *
        generalize Y0.heap.size = x10 at *
        refine wpAnyH_ready (rs := [1]) (by kernel_rfl) (by simp) ?_
        refine (AllReadyH.cons rfl (fun K hK => ?_) AllReadyH.nil)
        go_simp
        refine (size_b d m n wt _ _ hHeld.2).mono ?_
        rintro e wv ⟨rfl, rfl⟩
        go_wp2_with fail
        refine hK.out _ _ hHeld (fun _ => ?_)
        clear hK K
        try simp only [Act.put, List.getElem_toArray, List.getElem_cons_zero, List.getElem_cons_succ, List.setIfInBounds_toArray, List.set_cons_zero, List.set_cons_succ]
        refine wpAnyH_ready (rs := [3]) (by kernel_rfl) (by simp) ?_
        refine (AllReadyH.cons rfl (fun K hK => ?_) AllReadyH.nil)
        go_simp
        refine (size_b d m n wt _ _ hHeld.2).mono ?_
        rintro e wv ⟨rfl, rfl⟩
        go_wp2_with fail
        refine hK.out _ _ hHeld (fun _ => ?_)
        clear hK K
        try simp only [Act.put, List.getElem_toArray, List.getElem_cons_zero, List.getElem_cons_succ, List.setIfInBounds_toArray, List.set_cons_zero, List.set_cons_succ]
        refine wpAnyH_take (i := 6) (v := ?_) rfl (by kernel_rfl) (by kernel_rfl) (by kernel_rfl) (fun _ _ _ h => h) (Or.inl ⟨by rfl, ?_⟩) hHeld ?_
        rotate_left
        · (intro w hSw; (try dsimp only at hSw); go_simp)
          try with_reducible rfl
        try simp only [Act.put, List.getElem_toArray, List.getElem_cons_zero, List.getElem_cons_succ, List.setIfInBounds_toArray, List.set_cons_zero, List.set_cons_succ]
        refine wpAnyH_take (i := 9) (v := .agg (froot n).cells) rfl (by kernel_rfl) (by kernel_rfl) (by kernel_rfl) (fun _ _ _ h => h) (yieldsIf_build (by rfl) 30 _ rfl [(0, .int .u64 1), (1, .int .u32 n), (4, .int .u32 (n - fst n)), (5, .int .u32 1), (6, .int .u32 (fst n))] rfl _ (built_fr n)) hHeld ?_
        try simp only [Act.put, List.getElem_toArray, List.getElem_cons_zero, List.getElem_cons_succ, List.setIfInBounds_toArray, List.set_cons_zero, List.set_cons_succ]
        have hRA := HK.out.all (froot n).cells.toList rfl
        rw [Array.toArray_toList] at hRA
        have HE2 := Lib.hid (show FmtRel w d m k n wt g p4 (Y1.setCells x10 0 (froot n).cells.toList) from HE.out.far hnew.1 hnew.2.1 hnew.2.2.1 hnew.2.2.2.1 hnew.2.2.2.2 _)
        refine wpAnyH_ready (rs := [11]) (by kernel_rfl) (by simp) ?_
        refine (AllReadyH.cons rfl (fun K hK => ?_) AllReadyH.nil)
        refine step_store_mid (by rfl) 30 (.tmp 10) (.tmp 50) (by rfl) x10 0 (froot n).cells (by rfl) (by rfl) (HK.out.there _ (Nat.le_refl 8)) (by kernel_rfl) (by kernel_rfl) ?_
        refine hK.out _ _ ⟨HE2.out.2.1, HE2.out.1.b⟩ (fun _ => ?_)
        clear hK K hHeld HE
        refine wpAnyH_done (by kernel_rfl) ?_ _
        try simp only [Act.put, List.getElem_toArray, List.getElem_cons_zero, List.getElem_cons_succ, List.setIfInBounds_toArray, List.set_cons_zero, List.set_cons_succ]
        have HK2 := Lib.hid hRA
        clear hRA HK
        generalize Y1.setCells x10 0 (froot n).cells.toList = Z at *
        have hx10 : ¬ (x10 = d ∨ x10 = m) := fun h => h.elim hnew.2.1 hnew.2.2.1
        have hw10 : ¬ (w.heap.size = d ∨ w.heap.size = m) := fun h => h.elim (bk_ne HE2.out.2.2.1 HE2.out.1.b (by decide)) (fun e => mp_ne HE2.out.1.m HE2.out.2.2.1 e.symm)
        clear e1
        go_wp2_with (refine wpList_load_row rfl 30 _ rfl _ rfl _ (froot n).cells _ _ HK2.out Tryz.underlying30 rfl (by kernel_rfl) ?_)
        refine (turn_any d m k n wt g (froot n) (froot_fits n h0 h1).ok (froot_fits n h0 h1).may (.slice none 0 0) [] (by decide) (by simp; omega) (fun _ h => by cases h) Z HE2.out.1 (World.ownsRow_nil _ _ _ _)).mono ?_
        rintro e w6 ⟨rfl, ⟨wt6, hd6⟩, hf6⟩
        have HK6 := Lib.hid (HK2.out.fr hf6 hx10)
        have hR6 := HE2.out.2.2.1.fr hf6 hw10
        have hF6 := (Fr.of_all HE2.out.2.2.2 (fun i => i = d ∨ i = m)).trans hf6 (fun _ _ h => h)
        have hth := hR6.there (froot n).cells.size (Nat.le_refl 8)
        have hRA := hR6.all (froot n).cells.toList rfl
        rw [Array.toArray_toList] at hRA
        have HR7 := Lib.hid hRA
        have HD7 := Lib.hid (show Dv (w6.setCells w.heap.size 0 (froot n).cells.toList) d m (k + 1) n wt6 (gset g 1 (rblk (froot n))) from ⟨Bk.farCells w.heap.size (fun e => hw10 (Or.inl e.symm)) _ hd6.b 0, mp_farCells w.heap.size (fun e => hw10 (Or.inr e.symm)) _ hd6.m 0, hd6.len, hd6.lo, hd6.hi⟩)
        have HF7 := Lib.hid (fr_setCells w.heap.size (fun h => absurd h (by omega)) (froot n).cells.toList hF6 0)
        clear hd6 hf6 hR6 hF6 hRA HE2 HK2
        go_wp2_with (first | (refine wpList_load_row rfl 30 _ rfl _ rfl _ (froot n).cells _ _ HK6.out Tryz.underlying30 rfl (by kernel_rfl) ?_) | (refine wpList_store_mid rfl 30 _ _ rfl w.heap.size 0 (froot n).cells rfl rfl hth (by kernel_rfl) (by kernel_rfl) ?_; generalize w6.setCells w.heap.size 0 (froot n).cells.toList = w7 at *))
        refine bodyPost_ret (results_row_tmp rfl _ _ w.heap.size _ (froot n).cells _ rfl HR7.out Tryz.underlying30 rfl (by kernel_rfl)) rfl ⟨rfl, ⟨wt6, HD7.out⟩, HF7.out⟩
end Go.Proofs.YtjnbpbnhkinggaaGreatDoor.St
