/- The contract of slices.MaxFunc, of two roots that were found. -/
import Derived.Test.YtjnbpbnhkinggaaGreatDoorRLook
namespace Go.Proofs.YtjnbpbnhkinggaaGreatDoor.St
open Go.RowKit

/-- Two that were found, as an array. -/
def fd2 (r : Rt) (a : Bool) (s : Rt) (b : Bool) : Array Value := fdC r a ++ fdC s b
theorem fd2_at (r s : Rt) (a b : Bool) : (fd2 r a s b) = #[.int .u64 r.gen, .int .u32 r.size, .int .u32 r.picks, .int .u32 r.names, .int .u32 r.free, .int .u32 r.next, .int .u32 r.hint, .int .u8 r.vols, .bool a, .int .u64 s.gen, .int .u32 s.size, .int .u32 s.picks, .int .u32 s.names, .int .u32 s.free, .int .u32 s.next, .int .u32 s.hint, .int .u8 s.vols, .bool b] := rfl
theorem fd2_range0 {w : World} {g : Nat} {t : TypeId} {r s : Rt} {a b : Bool} (h : Bk w g t (fd2 r a s b)) : w.rangeAt g 0 (fdC r a).toList := by
  intro j v hv
  have hj : j < 9 := (List.getElem?_eq_some_iff.1 hv).1
  rw [h.cell, fd2, Nat.zero_add, Array.getElem?_append_left (by exact hj), ← Array.getElem?_toList]; exact hv
theorem fd2_range1 {w : World} {g : Nat} {t : TypeId} {r s : Rt} {a b : Bool} (h : Bk w g t (fd2 r a s b)) : w.rangeAt g 9 (fdC s b).toList := by
  intro j v hv
  rw [h.cell, fd2, Array.getElem?_append_right (by show (9 : Nat) ≤ _; omega), show 9 + j - (fdC r a).size = j by show 9 + j - 9 = j; omega, ← Array.getElem?_toList]; exact hv
theorem fd_sizeL (r : Rt) (b : Bool) : (Tryz.prog.info? 111).map (·.size) = some (fdC r b).toList.length := by kernel_rfl
/-- What holds at a round's head. -/
def MaxRel (p : Nat) (t : TypeId) (r s x : Rt) (a b c : Bool) (w : World) (i : Value) (wr : World) : Prop :=
  ∃ (j : Nat) (y : Rt) (e : Bool), (j = 1 ∧ y = r ∧ e = a ∨ j = 2 ∧ y = x ∧ e = c) ∧ i = .int .i64 j ∧ Bk wr p t (fd2 r a s b) ∧ Bk wr w.heap.size 111 (fdC rz false) ∧ Bk wr (w.heap.size + 1) 111 (fdC y e) ∧ Below w.heap.size w wr
attribute [local go_sem ↓] Go.wp_at_zero Go.wp_at_succ
set_option maxRecDepth 100000 in
set_option maxHeartbeats 1000000 in
theorem max_any (p : Nat) (t : TypeId) (r s x : Rt) (a b c : Bool) (hm : (0 < fdCmp s b r a ∧ x = s ∧ c = b) ∨ (fdCmp s b r a ≤ 0 ∧ x = r ∧ c = a)) (w : World) (h : Bk w p t (fd2 r a s b)) :
    Calls Tryz.prog 49 #[.slice (some ⟨p, 0, none⟩) 2 2, .func (.func 50) #[] #[]] w fun e w' => e = .returned (.agg (fdC x c)) ∧ Below w.heap.size w w' := by
  have hB0 : Below w.heap.size w (w.alloc (.cells (fdC rz false) 111)) := (Below.refl _ _).alloc (Nat.le_refl _) _
  have HP0 := Lib.hid (h.below hB0 h.lt)
  have HR0 := Lib.hid (Bk.new w 111 (fdC rz false))
  have HB0 := Lib.hid hB0
  have HM := Lib.hid hm
  have hlt := h.lt
  clear h hB0 hm
  go_enter Tryz.func49, Tryz.ntmps49
  go_wp2_with (refine wpList_load_arr rfl 111 _ rfl p 0 rfl #[.int .u64 r.gen, .int .u32 r.size, .int .u32 r.picks, .int .u32 r.names, .int .u32 r.free, .int .u32 r.next, .int .u32 r.hint, .int .u8 r.vols, .bool a] _ (fd2_range0 HP0.out) Tryz.underlying111 rfl (fd_sizeL r a) ?_)
  have hA := (Below.refl (w.alloc (.cells #[.int .u64 0, .int .u32 0, .int .u32 0, .int .u32 0, .int .u32 0, .int .u32 0, .int .u32 0, .int .u8 0, .bool false] 111)).heap.size (w.alloc (.cells #[.int .u64 0, .int .u32 0, .int .u32 0, .int .u32 0, .int .u32 0, .int .u32 0, .int .u32 0, .int .u8 0, .bool false] 111))).alloc (Nat.le_refl _) (.cells #[.int .u64 r.gen, .int .u32 r.size, .int .u32 r.picks, .int .u32 r.names, .int .u32 r.free, .int .u32 r.next, .int .u32 r.hint, .int .u8 r.vols, .bool a] 111)
  have HP1 := Lib.hid (HP0.out.below hA HP0.out.lt)
  have HR1 := Lib.hid (HR0.out.below hA HR0.out.lt)
  have HB1 := Lib.hid (HB0.out.trans (hA.mono HB0.out.size))
  have HC1 := Lib.hid (show Bk ((w.alloc (.cells #[.int .u64 0, .int .u32 0, .int .u32 0, .int .u32 0, .int .u32 0, .int .u32 0, .int .u32 0, .int .u8 0, .bool false] 111)).alloc (.cells #[.int .u64 r.gen, .int .u32 r.size, .int .u32 r.picks, .int .u32 r.names, .int .u32 r.free, .int .u32 r.next, .int .u32 r.hint, .int .u8 r.vols, .bool a] 111)) (w.heap.size + 1) 111 (fdC r a) from by
    have := Bk.new (w.alloc (.cells #[.int .u64 0, .int .u32 0, .int .u32 0, .int .u32 0, .int .u32 0, .int .u32 0, .int .u32 0, .int .u8 0, .bool false] 111)) 111 (fdC r a)
    rw [show (w.alloc (.cells #[.int .u64 0, .int .u32 0, .int .u32 0, .int .u32 0, .int .u32 0, .int .u32 0, .int .u32 0, .int .u8 0, .bool false] 111)).heap.size = w.heap.size + 1 by simp] at this
    exact this)
  clear hA HP0 HR0 HB0
  generalize (w.alloc (.cells #[.int .u64 0, .int .u32 0, .int .u32 0, .int .u32 0, .int .u32 0, .int .u32 0, .int .u32 0, .int .u8 0, .bool false] 111)).alloc (.cells #[.int .u64 r.gen, .int .u32 r.size, .int .u32 r.picks, .int .u32 r.names, .int .u32 r.free, .int .u32 r.next, .int .u32 r.hint, .int .u8 r.vols, .bool a] 111) = X at *
  have hpc : p ≠ w.heap.size + 1 := by omega
  go_loopw [6] (fun i wr => MaxRel p t r s x a b c w i wr) (fun i _ => 2 - (intOf i).toNat)
  case atStart => exact ⟨1, r, a, Or.inl ⟨rfl, rfl, rfl⟩, rfl, HP1.out, HR1.out, HC1.out, HB1.out⟩
  case round =>
    obtain ⟨j, y, e, hj, rfl, hP, hR, hC, hB⟩ := hrel
    have HP := Lib.hid hP
    have HR := Lib.hid hR
    have HC := Lib.hid hC
    have HB := Lib.hid hB
    clear hP hR hC hB HP1 HR1 HC1 HB1
    rcases hj with ⟨rfl, rfl, rfl⟩ | ⟨rfl, rfl, rfl⟩
    · go_wp2_with fail
      refine wp_region_held_drew (S := fun Y => Bk Y p t (fd2 y e s b) ∧ Bk Y (w.heap.size + 1) 111 (fdC y e)) (by kernel_rfl) ⟨HP.out, HC.out⟩ ?_
      intro hHeld
      refine wpAnyH_take (i := 0) (v := ?_) rfl (by kernel_rfl) (by kernel_rfl) (by kernel_rfl) (fun _ _ _ h => h) (Or.inl ⟨by rfl, ?_⟩) hHeld ?_
      rotate_left
      · (intro w hSw; (try dsimp only at hSw); go_simp)
        try with_reducible rfl
      try simp only [Act.put, List.getElem_toArray, List.getElem_cons_zero, List.getElem_cons_succ, List.setIfInBounds_toArray, List.set_cons_zero, List.set_cons_succ]
      refine wpAnyH_take (i := 1) (v := ?_) rfl (by kernel_rfl) (by kernel_rfl) (by kernel_rfl) (fun _ _ _ h => h) (Or.inl ⟨by rfl, ?_⟩) hHeld ?_
      rotate_left
      · (intro w hSw; (try dsimp only at hSw); go_simp)
        try with_reducible rfl
      try simp only [Act.put, List.getElem_toArray, List.getElem_cons_zero, List.getElem_cons_succ, List.setIfInBounds_toArray, List.set_cons_zero, List.set_cons_succ]
      refine wpAnyH_take (i := 2) (v := ?_) rfl (by kernel_rfl) (by kernel_rfl) (by kernel_rfl) (fun _ _ _ h => h) (Or.inl ⟨by rfl, ?_⟩) hHeld ?_
      rotate_left
      · (intro w hSw; (try dsimp only at hSw); go_simp)
        try with_reducible rfl
      try simp only [Act.put, List.getElem_toArray, List.getElem_cons_zero, List.getElem_cons_succ, List.setIfInBounds_toArray, List.set_cons_zero, List.set_cons_succ]
      refine wpAnyH_take (i := 3) (v := ?_) rfl (by kernel_rfl) (by kernel_rfl) (by kernel_rfl) (fun _ _ _ h => h) (Or.inl ⟨by rfl, ?_⟩) hHeld ?_
      rotate_left
      · (intro w hSw; (try dsimp only at hSw); go_simp)
        try with_reducible rfl
      try simp only [Act.put, List.getElem_toArray, List.getElem_cons_zero, List.getElem_cons_succ, List.setIfInBounds_toArray, List.set_cons_zero, List.set_cons_succ]
      refine wpAnyH_take (i := 4) (v := .agg (fdC s b)) rfl (by kernel_rfl) (by kernel_rfl) (by kernel_rfl) (fun _ _ _ h => h) (yieldsIf_load_arr (by rfl) 111 _ rfl p 9 rfl (fdC s b) _ (fun w h => fd2_range1 h.1) Tryz.underlying111 rfl (fd_sizeL s b)) hHeld ?_
      try simp only [Act.put, List.getElem_toArray, List.getElem_cons_zero, List.getElem_cons_succ, List.setIfInBounds_toArray, List.set_cons_zero, List.set_cons_succ]
      refine wpAnyH_take (i := 5) (v := .agg (fdC y e)) rfl (by kernel_rfl) (by kernel_rfl) (by kernel_rfl) (fun _ _ _ h => h) (yieldsIf_load_arr (by rfl) 111 _ rfl (w.heap.size + 1) 0 rfl (fdC y e) _ (fun w h => Bk.range h.2) Tryz.underlying111 rfl (fd_sizeL y e)) hHeld ?_
      try simp only [Act.put, List.getElem_toArray, List.getElem_cons_zero, List.getElem_cons_succ, List.setIfInBounds_toArray, List.set_cons_zero, List.set_cons_succ]
      have HR0 := Lib.hid (show Bk wr.drew w.heap.size 111 (fdC rz false) from HR.out.drew)
      have HB0 := Lib.hid (show Below w.heap.size w wr.drew from below_drewN HB.out 1)
      clear HR HB HP HC
      generalize wr.drew = Y0 at *
      refine wpAnyH_ready (rs := [6]) (by kernel_rfl) (by simp) ?_
      refine (AllReadyH.cons rfl (fun K hK => ?_) AllReadyH.nil)
      go_simp
      refine (compare_any s y b e _).mono ?_
      rintro en Y ⟨rfl, hbX⟩
      have hH : Bk Y p t (fd2 y e s b) ∧ Bk Y (w.heap.size + 1) 111 (fdC y e) := ⟨hHeld.1.below hbX hHeld.1.lt, hHeld.2.below hbX hHeld.2.lt⟩
      have HR1 := Lib.hid (HR0.out.below hbX HR0.out.lt)
      have HB1 := Lib.hid (HB0.out.trans (hbX.mono HB0.out.size))
      clear HR0 HB0 hbX
      go_wp2_with fail
      refine hK.out _ _ hH (fun _ => ?_)
      clear hK K hHeld
      have hHeld := hH
      clear hH
      try simp only [Act.put, List.getElem_toArray, List.getElem_cons_zero, List.getElem_cons_succ, List.setIfInBounds_toArray, List.set_cons_zero, List.set_cons_succ]
      refine wpAnyH_take (i := 7) (v := ?_) rfl (by kernel_rfl) (by kernel_rfl) (by kernel_rfl) (fun _ _ _ h => h) (Or.inl ⟨by rfl, ?_⟩) hHeld ?_
      rotate_left
      · (intro w hSw; (try dsimp only at hSw); go_simp)
        try with_reducible rfl
      try simp only [Act.put, List.getElem_toArray, List.getElem_cons_zero, List.getElem_cons_succ, List.setIfInBounds_toArray, List.set_cons_zero, List.set_cons_succ]
      refine wpAnyH_done (by kernel_rfl) ?_ _
      have HH := Lib.hid hHeld
      clear hHeld
      rcases HM.out with ⟨hm, hx, hc⟩ | ⟨hm, hx, hc⟩
      · subst hx
        subst hc
        have hd : decide (0 < fdCmp x c y e) = true := decide_eq_true hm
        have hCA := HH.out.2.all (fdC x c).toList rfl
        rw [Array.toArray_toList] at hCA
        have HE := Lib.hid (And.intro (Bk.farCells (w.heap.size + 1) hpc (fdC x c).toList HH.out.1 0) (And.intro (Bk.farCells (w.heap.size + 1) (by omega) (fdC x c).toList HR1.out 0) (And.intro hCA (below_setCells (w.heap.size + 1) (by omega) (fdC x c).toList HB1.out 0))))
        clear hCA
        have hrg := fd2_range1 HH.out.1
        have hth := HH.out.2.there (fdC x c).size (Nat.le_refl 9)
        go_wp2_with (first | (refine wpList_load_arr rfl 111 _ rfl p 9 rfl (fdC x c) _ hrg Tryz.underlying111 rfl (fd_sizeL x c) ?_) | (refine wpList_store_mid rfl 111 _ _ rfl (w.heap.size + 1) 0 (fdC x c) rfl rfl hth (fd_size x c) (fdC_one x c) ?_; generalize Y.setCells (w.heap.size + 1) 0 (fdC x c).toList = Z at *))
        clear hrg hth
        go_wp2_with fail
        go_roundw
        case rel => exact ⟨2, x, c, Or.inr ⟨rfl, rfl, rfl⟩, rfl, HE.out.1, HE.out.2.1, HE.out.2.2.1, HE.out.2.2.2⟩
        case measure => simp [intOf]
      · subst hx
        subst hc
        have hd : decide (0 < fdCmp s b x c) = false := decide_eq_false (by omega)
        go_wp2_with fail
        go_roundw
        case rel => exact ⟨2, x, c, Or.inr ⟨rfl, rfl, rfl⟩, rfl, HH.out.1, HR1.out, HH.out.2, HB1.out⟩
        case measure => simp [intOf]
    · have hRA := HR.out.all (fdC y e).toList rfl
      rw [Array.toArray_toList] at hRA
      have HE := Lib.hid (And.intro hRA (below_setCells w.heap.size (Nat.le_refl _) (fdC y e).toList HB.out 0))
      clear hRA
      have hrg := HC.out.range
      have hth := HR.out.there (fdC y e).size (Nat.le_refl 9)
      go_wp2_with (first | (refine wpList_load_arr rfl 111 _ rfl (w.heap.size + 1) 0 rfl (fdC y e) _ hrg Tryz.underlying111 rfl (fd_sizeL y e) ?_) | (refine wpList_store_mid rfl 111 _ _ rfl w.heap.size 0 (fdC y e) rfl rfl hth (fd_size y e) (fdC_one y e) ?_))
      clear hrg hth
      generalize wr.setCells w.heap.size 0 (fdC y e).toList = Z at *
      refine bodyPost_ret (results_cell_row rfl _ _ w.heap.size _ (fdC y e) _ _ rfl HE.out.1 Tryz.underlying111 rfl (fd_size y e)) rfl ⟨rfl, HE.out.2⟩
end Go.Proofs.YtjnbpbnhkinggaaGreatDoor.St
