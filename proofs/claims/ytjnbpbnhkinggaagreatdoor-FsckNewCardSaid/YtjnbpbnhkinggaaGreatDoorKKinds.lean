/- Contracts of fsck.kinds, and of the closure of cards, of a block of zeros. -/
import Derived.Test.YtjnbpbnhkinggaaGreatDoorKGet
namespace Go.Proofs.YtjnbpbnhkinggaaGreatDoor.St
open Go.RowKit

set_option maxRecDepth 100000 in
theorem some_zeros (x k : Nat) (hk : k ≤ 8) (a : Int) (w : World) (h : ∀ i, i < k → w.cell? ⟨x, i, none⟩ = some (.int .u32 0)) : Calls Tryz.prog 31 #[.int .u8 a, .slice (some ⟨x, 0, none⟩) k k] w fun e w' => e = .returned (.slice none 0 0) ∧ w = w' := by
  have H := Lib.hid h
  clear h
  go_enter Tryz.func31, Tryz.ntmps31
  go_wp2_with fail
  go_loop [5, 10] (fun v i => ∃ j : Nat, j ≤ k ∧ i = .int .i64 j ∧ v = .slice none 0 0) (fun _ i => k - (intOf i).toNat)
  case atStart => exact ⟨0, by omega, rfl, rfl⟩
  case round =>
    obtain ⟨j, hj, rfl, rfl⟩ := hrel
    by_cases hlt : j < k
    · have c0 := H.out j hlt
      go_wp2_with fail
      go_round
      case rel => exact ⟨j + 1, by omega, by go_num, rfl⟩
      case measure => simp [intOf]; omega
    · go_wp2_with fail
      go_ret
      exact ⟨rfl, rfl⟩
attribute [local go_sem] put_func
set_option maxRecDepth 100000 in
set_option maxHeartbeats 1000000 in
theorem kinds_card (w : World) : Calls Tryz.prog 33 #[.int .u8 4] w fun e w' => e = .returned (.agg #[.func (.func 57) #[] #[]]) ∧ Below w.heap.size w w' := by
  have hix : ∀ w, (Instr.index 135 (.agg #[.func (.func 59) #[] #[], .func (.func 55) #[] #[], .func (.func 55) #[] #[], .func (.func 55) #[] #[], .func (.func 57) #[] #[]]) (.int .u8 4)).run Tryz.prog w = .ok (.agg #[.func (.func 57) #[] #[]]) w := fun w => by kernel_rfl
  go_enter Tryz.func33, Tryz.ntmps33
  go_wp2_with fail
  refine bodyPost_ret (v := .agg #[.func (.func 57) #[] #[]]) (by simp [results, Tryz.results33, go_sem]) rfl ⟨rfl, ?_⟩
  exact ((((Below.refl _ _).alloc (Nat.le_refl _) _).alloc (by simp) _).alloc (by simp; omega) _).alloc (by simp; omega) _
attribute [local go_sem ↓] Go.wp_at_zero Go.wp_at_succ
set_option maxRecDepth 100000 in
set_option maxHeartbeats 1000000 in
theorem kids_card (w : World) : Calls Tryz.prog 57 #[.agg (bA zb), .int .u8 4] w fun e w' => e = .returned (.tuple #[.slice none 0 0, .bool false]) ∧ Below w.heap.size w w' := by
  have hszV : (Tryz.prog.info? 53).map (·.size) = some (bA zb).size := by rw [bA_size, zb_length]; exact infoBlock
  have HG := Lib.hid (fun X => cget_zb X)
  have HB := Lib.hid ((Below.refl w.heap.size w).alloc (Nat.le_refl _) (.cells (bA zb) 53))
  have HV := Lib.hid (Bk.new w 53 (bA zb))
  generalize bA zb = BV at *
  go_enter Tryz.func57, Tryz.ntmps57
  go_wp2_with (refine wpList_load_row rfl 53 _ rfl _ rfl _ BV _ _ HV.out Tryz.underlying53 rfl hszV ?_)
  refine (HG.out _).mono ?_
  rintro e w1 ⟨rfl, hb1⟩
  have hB1 := HB.out.trans (hb1.mono HB.out.size)
  have HB1 := Lib.hid (hB1.alloc hB1.size (.cells #[.string ⟨#[]⟩, .int .u32 0, .int .u32 0, .int .u32 0, .int .u32 0, .int .u32 0, .int .u32 0, .int .u32 0, .bool false] 132))
  have HK1 := Lib.hid (show Bk (w1.alloc (.cells #[.string ⟨#[]⟩, .int .u32 0, .int .u32 0, .int .u32 0, .int .u32 0, .int .u32 0, .int .u32 0, .int .u32 0, .bool false] 132)) w1.heap.size 132 czC from Bk.new w1 _ _)
  clear hb1 hB1 HB HV HG
  simp only [czC]
  go_wp2_with fail
  generalize w1.alloc (.cells #[.string ⟨#[]⟩, .int .u32 0, .int .u32 0, .int .u32 0, .int .u32 0, .int .u32 0, .int .u32 0, .int .u32 0, .bool false] 132) = X at *
  generalize w1.heap.size = p6 at *
  refine wp_region_held_drew (S := fun Y => Bk Y p6 132 czC ∧ Below w.heap.size w Y) (by kernel_rfl) ⟨HK1.out, below_drewN HB1.out 1⟩ ?_
  intro hHeld
  refine wpAnyH_take (i := 0) (v := ?_) rfl (by kernel_rfl) (by kernel_rfl) (by kernel_rfl) (fun _ _ _ h => h) (Or.inl ⟨by rfl, ?_⟩) hHeld ?_
  rotate_left
  · (intro Y hSw; (try dsimp only at hSw); go_simp)
    try with_reducible rfl
  try simp only [Act.put, List.getElem_toArray, List.getElem_cons_zero, List.getElem_cons_succ, List.setIfInBounds_toArray, List.set_cons_zero, List.set_cons_succ]
  refine wpAnyH_take (i := 1) (v := ?_) rfl (by kernel_rfl) (by kernel_rfl) (by kernel_rfl) (fun _ _ _ h => h) (Or.inl ⟨by rfl, ?_⟩) hHeld ?_
  rotate_left
  · (intro Y hSw; (try dsimp only at hSw); go_simp)
    try with_reducible rfl
  try simp only [Act.put, List.getElem_toArray, List.getElem_cons_zero, List.getElem_cons_succ, List.setIfInBounds_toArray, List.set_cons_zero, List.set_cons_succ]
  refine wpAnyH_take (i := 2) (v := ?_) rfl (by kernel_rfl) (by kernel_rfl) (by kernel_rfl) (fun _ _ _ h => h) (Or.inl ⟨by rfl, ?_⟩) hHeld ?_
  rotate_left
  · (intro Y hSw; (try dsimp only at hSw); have q0 : Y.cell? ⟨p6, 1, none⟩ = some (.int .u32 0) := hSw.1.cell 1; go_simp)
    try with_reducible rfl
  try simp only [Act.put, List.getElem_toArray, List.getElem_cons_zero, List.getElem_cons_succ, List.setIfInBounds_toArray, List.set_cons_zero, List.set_cons_succ]
  refine wpAnyH_take (i := 3) (v := ?_) rfl (by kernel_rfl) (by kernel_rfl) (by kernel_rfl) (fun _ _ _ h => h) (Or.inl ⟨by rfl, ?_⟩) hHeld ?_
  rotate_left
  · (intro Y hSw; (try dsimp only at hSw); go_simp)
    try with_reducible rfl
  try simp only [Act.put, List.getElem_toArray, List.getElem_cons_zero, List.getElem_cons_succ, List.setIfInBounds_toArray, List.set_cons_zero, List.set_cons_succ]
  refine wpAnyH_take (i := 4) (v := ?_) rfl (by kernel_rfl) (by kernel_rfl) (by kernel_rfl) (fun _ _ _ h => h) (Or.inl ⟨by rfl, ?_⟩) hHeld ?_
  rotate_left
  · (intro Y hSw; (try dsimp only at hSw); have q0 : Y.cell? ⟨p6, 2, none⟩ = some (.int .u32 0) := hSw.1.cell 2; go_simp)
    try with_reducible rfl
  try simp only [Act.put, List.getElem_toArray, List.getElem_cons_zero, List.getElem_cons_succ, List.setIfInBounds_toArray, List.set_cons_zero, List.set_cons_succ]
  refine wpAnyH_take (i := 7) (v := ?_) rfl (by kernel_rfl) (by kernel_rfl) (by kernel_rfl) (fun _ _ _ h => h) (Or.inl ⟨by rfl, ?_⟩) hHeld ?_
  rotate_left
  · (intro Y hSw; (try dsimp only at hSw); go_simp)
    try with_reducible rfl
  try simp only [Act.put, List.getElem_toArray, List.getElem_cons_zero, List.getElem_cons_succ, List.setIfInBounds_toArray, List.set_cons_zero, List.set_cons_succ]
  refine wpAnyH_take (i := 8) (v := ?_) rfl (by kernel_rfl) (by kernel_rfl) (by kernel_rfl) (fun _ _ _ h => h) (Or.inl ⟨by rfl, ?_⟩) hHeld ?_
  rotate_left
  · (intro Y hSw; (try dsimp only at hSw); go_simp)
    try with_reducible rfl
  try simp only [Act.put, List.getElem_toArray, List.getElem_cons_zero, List.getElem_cons_succ, List.setIfInBounds_toArray, List.set_cons_zero, List.set_cons_succ]
  refine wpAnyH_take (i := 9) (v := ?_) rfl (by kernel_rfl) (by kernel_rfl) (by kernel_rfl) (fun _ _ _ h => h) (Or.inl ⟨by rfl, ?_⟩) hHeld ?_
  rotate_left
  · (intro Y hSw; (try dsimp only at hSw); have q0 : Y.cell? ⟨p6, 5, none⟩ = some (.int .u32 0) := hSw.1.cell 5; go_simp)
    try with_reducible rfl
  try simp only [Act.put, List.getElem_toArray, List.getElem_cons_zero, List.getElem_cons_succ, List.setIfInBounds_toArray, List.set_cons_zero, List.set_cons_succ]
  refine wpAnyH_take (i := 13) (v := ?_) rfl (by kernel_rfl) (by kernel_rfl) (by kernel_rfl) (fun _ _ _ h => h) (Or.inl ⟨by rfl, ?_⟩) hHeld ?_
  rotate_left
  · (intro Y hSw; (try dsimp only at hSw); go_simp)
    try with_reducible rfl
  try simp only [Act.put, List.getElem_toArray, List.getElem_cons_zero, List.getElem_cons_succ, List.setIfInBounds_toArray, List.set_cons_zero, List.set_cons_succ]
  refine wpAnyH_take (i := 14) (v := ?_) rfl (by kernel_rfl) (by kernel_rfl) (by kernel_rfl) (fun _ _ _ h => h) (Or.inl ⟨by rfl, ?_⟩) hHeld ?_
  rotate_left
  · (intro Y hSw; (try dsimp only at hSw); go_simp)
    try with_reducible rfl
  try simp only [Act.put, List.getElem_toArray, List.getElem_cons_zero, List.getElem_cons_succ, List.setIfInBounds_toArray, List.set_cons_zero, List.set_cons_succ]
  clear HK1 HB1
  generalize X.drew = Y0 at *
  refine wpAnyH_ready (rs := [5, 10]) (by kernel_rfl) (by simp) ?_
  refine (AllReadyH.cons rfl (fun K hK => ?_) (AllReadyH.cons rfl (fun K hK => ?_) AllReadyH.nil))
  · skip
    go_simp
    have hA := (Below.refl Y0.heap.size Y0).alloc (Nat.le_refl _) (.cells #[.int .u32 0, .int .u32 0] 22)
    have hH : Bk (Y0.alloc (.cells #[.int .u32 0, .int .u32 0] 22)) p6 132 czC ∧ Below w.heap.size w (Y0.alloc (.cells #[.int .u32 0, .int .u32 0] 22)) := ⟨hHeld.1.below hA hHeld.1.lt, hHeld.2.trans (hA.mono hHeld.2.size)⟩
    have L5 := Lib.hid (Bk.new Y0 22 #[.int .u32 0, .int .u32 0])
    refine hK.out _ _ hH (fun _ => ?_)
    clear hK K hHeld hA
    have hHeld := hH
    clear hH
    try simp only [Act.put, List.getElem_toArray, List.getElem_cons_zero, List.getElem_cons_succ, List.setIfInBounds_toArray, List.set_cons_zero, List.set_cons_succ]
    generalize Y0.alloc (.cells #[.int .u32 0, .int .u32 0] 22) = Y1 at *
    generalize Y0.heap.size = g5 at *
    refine wpAnyH_ready (rs := [6, 10]) (by kernel_rfl) (by simp) ?_
    refine (AllReadyH.cons rfl (fun K hK => ?_) (AllReadyH.cons rfl (fun K hK => ?_) AllReadyH.nil))
    · skip
      have hz : ∀ i, i < 2 → Y1.cell? ⟨g5, i, none⟩ = some (.int .u32 0) := by
        intro i hi
        rw [L5.out.cell]
        match i with
        | 0 | 1 => rfl
        | i + 2 => omega
      have HZ := Lib.hid hz
      clear hz
      go_simp
      refine (some_zeros g5 2 (by decide) _ _ HZ.out).mono ?_
      rintro e wv ⟨rfl, rfl⟩
      go_wp2_with fail
      refine hK.out _ _ hHeld (fun _ => ?_)
      clear hK K HZ
      try simp only [Act.put, List.getElem_toArray, List.getElem_cons_zero, List.getElem_cons_succ, List.setIfInBounds_toArray, List.set_cons_zero, List.set_cons_succ]
      refine wpAnyH_ready (rs := [10]) (by kernel_rfl) (by simp) ?_
      refine (AllReadyH.cons rfl (fun K hK => ?_) AllReadyH.nil)
      go_simp
      have hA := (Below.refl Y1.heap.size Y1).alloc (Nat.le_refl _) (.cells #[.int .u32 0] 22)
      have hH : Bk (Y1.alloc (.cells #[.int .u32 0] 22)) p6 132 czC ∧ Below w.heap.size w (Y1.alloc (.cells #[.int .u32 0] 22)) := ⟨hHeld.1.below hA hHeld.1.lt, hHeld.2.trans (hA.mono hHeld.2.size)⟩
      have L10 := Lib.hid (Bk.new Y1 22 #[.int .u32 0])
      have T := Lib.hid (L5.out.below hA L5.out.lt)
      clear L5
      have L5 := T
      clear T
      refine hK.out _ _ hH (fun _ => ?_)
      clear hK K hHeld hA
      have hHeld := hH
      clear hH
      try simp only [Act.put, List.getElem_toArray, List.getElem_cons_zero, List.getElem_cons_succ, List.setIfInBounds_toArray, List.set_cons_zero, List.set_cons_succ]
      generalize Y1.alloc (.cells #[.int .u32 0] 22) = Y2 at *
      generalize Y1.heap.size = g10 at *
      refine wpAnyH_ready (rs := [11]) (by kernel_rfl) (by simp) ?_
      refine (AllReadyH.cons rfl (fun K hK => ?_) AllReadyH.nil)
      have hz : ∀ i, i < 1 → Y2.cell? ⟨g10, i, none⟩ = some (.int .u32 0) := by
        intro i hi
        rw [L10.out.cell]
        match i with
        | 0 => rfl
        | i + 1 => omega
      have HZ := Lib.hid hz
      clear hz
      go_simp
      refine (some_zeros g10 1 (by decide) _ _ HZ.out).mono ?_
      rintro e wv ⟨rfl, rfl⟩
      go_wp2_with fail
      refine hK.out _ _ hHeld (fun _ => ?_)
      clear hK K HZ
      try simp only [Act.put, List.getElem_toArray, List.getElem_cons_zero, List.getElem_cons_succ, List.setIfInBounds_toArray, List.set_cons_zero, List.set_cons_succ]
      refine wpAnyH_ready (rs := [12]) (by kernel_rfl) (by simp) ?_
      refine (AllReadyH.cons rfl (fun K hK => ?_) AllReadyH.nil)
      go_simp
      refine hK.out _ _ hHeld (fun _ => ?_)
      clear hK K
      try simp only [Act.put, List.getElem_toArray, List.getElem_cons_zero, List.getElem_cons_succ, List.setIfInBounds_toArray, List.set_cons_zero, List.set_cons_succ]
      refine wpAnyH_take (i := 15) (v := ?_) rfl (by kernel_rfl) (by kernel_rfl) (by kernel_rfl) (fun _ _ _ h => h) (Or.inl ⟨by rfl, ?_⟩) hHeld ?_
      rotate_left
      · (intro w hSw; (try dsimp only at hSw); go_simp)
        try with_reducible rfl
      try simp only [Act.put, List.getElem_toArray, List.getElem_cons_zero, List.getElem_cons_succ, List.setIfInBounds_toArray, List.set_cons_zero, List.set_cons_succ]
      refine wpAnyH_take (i := 16) (v := ?_) rfl (by kernel_rfl) (by kernel_rfl) (by kernel_rfl) (fun _ _ _ h => h) (Or.inl ⟨by rfl, ?_⟩) hHeld ?_
      rotate_left
      · (intro w hSw; (try dsimp only at hSw); go_simp)
        try with_reducible rfl
      try simp only [Act.put, List.getElem_toArray, List.getElem_cons_zero, List.getElem_cons_succ, List.setIfInBounds_toArray, List.set_cons_zero, List.set_cons_succ]
      refine wpAnyH_done (by kernel_rfl) ?_ _
      try simp only [Act.put, List.getElem_toArray, List.getElem_cons_zero, List.getElem_cons_succ, List.setIfInBounds_toArray, List.set_cons_zero, List.set_cons_succ]
      go_wp2_with fail
      go_ret2
      exact ⟨rfl, hHeld.2⟩
    · skip
      go_simp
      have hA := (Below.refl Y1.heap.size Y1).alloc (Nat.le_refl _) (.cells #[.int .u32 0] 22)
      have hH : Bk (Y1.alloc (.cells #[.int .u32 0] 22)) p6 132 czC ∧ Below w.heap.size w (Y1.alloc (.cells #[.int .u32 0] 22)) := ⟨hHeld.1.below hA hHeld.1.lt, hHeld.2.trans (hA.mono hHeld.2.size)⟩
      have L10 := Lib.hid (Bk.new Y1 22 #[.int .u32 0])
      have T := Lib.hid (L5.out.below hA L5.out.lt)
      clear L5
      have L5 := T
      clear T
      refine hK.out _ _ hH (fun _ => ?_)
      clear hK K hHeld hA
      have hHeld := hH
      clear hH
      try simp only [Act.put, List.getElem_toArray, List.getElem_cons_zero, List.getElem_cons_succ, List.setIfInBounds_toArray, List.set_cons_zero, List.set_cons_succ]
      generalize Y1.alloc (.cells #[.int .u32 0] 22) = Y2 at *
      generalize Y1.heap.size = g10 at *
      refine wpAnyH_ready (rs := [6]) (by kernel_rfl) (by simp) ?_
      refine (AllReadyH.cons rfl (fun K hK => ?_) AllReadyH.nil)
      have hz : ∀ i, i < 2 → Y2.cell? ⟨g5, i, none⟩ = some (.int .u32 0) := by
        intro i hi
        rw [L5.out.cell]
        match i with
        | 0 | 1 => rfl
        | i + 2 => omega
      have HZ := Lib.hid hz
      clear hz
      go_simp
      refine (some_zeros g5 2 (by decide) _ _ HZ.out).mono ?_
      rintro e wv ⟨rfl, rfl⟩
      go_wp2_with fail
      refine hK.out _ _ hHeld (fun _ => ?_)
      clear hK K HZ
      try simp only [Act.put, List.getElem_toArray, List.getElem_cons_zero, List.getElem_cons_succ, List.setIfInBounds_toArray, List.set_cons_zero, List.set_cons_succ]
      refine wpAnyH_ready (rs := [11]) (by kernel_rfl) (by simp) ?_
      refine (AllReadyH.cons rfl (fun K hK => ?_) AllReadyH.nil)
      have hz : ∀ i, i < 1 → Y2.cell? ⟨g10, i, none⟩ = some (.int .u32 0) := by
        intro i hi
        rw [L10.out.cell]
        match i with
        | 0 => rfl
        | i + 1 => omega
      have HZ := Lib.hid hz
      clear hz
      go_simp
      refine (some_zeros g10 1 (by decide) _ _ HZ.out).mono ?_
      rintro e wv ⟨rfl, rfl⟩
      go_wp2_with fail
      refine hK.out _ _ hHeld (fun _ => ?_)
      clear hK K HZ
      try simp only [Act.put, List.getElem_toArray, List.getElem_cons_zero, List.getElem_cons_succ, List.setIfInBounds_toArray, List.set_cons_zero, List.set_cons_succ]
      refine wpAnyH_ready (rs := [12]) (by kernel_rfl) (by simp) ?_
      refine (AllReadyH.cons rfl (fun K hK => ?_) AllReadyH.nil)
      go_simp
      refine hK.out _ _ hHeld (fun _ => ?_)
      clear hK K
      try simp only [Act.put, List.getElem_toArray, List.getElem_cons_zero, List.getElem_cons_succ, List.setIfInBounds_toArray, List.set_cons_zero, List.set_cons_succ]
      refine wpAnyH_take (i := 15) (v := ?_) rfl (by kernel_rfl) (by kernel_rfl) (by kernel_rfl) (fun _ _ _ h => h) (Or.inl ⟨by rfl, ?_⟩) hHeld ?_
      rotate_left
      · (intro w hSw; (try dsimp only at hSw); go_simp)
        try with_reducible rfl
      try simp only [Act.put, List.getElem_toArray, List.getElem_cons_zero, List.getElem_cons_succ, List.setIfInBounds_toArray, List.set_cons_zero, List.set_cons_succ]
      refine wpAnyH_take (i := 16) (v := ?_) rfl (by kernel_rfl) (by kernel_rfl) (by kernel_rfl) (fun _ _ _ h => h) (Or.inl ⟨by rfl, ?_⟩) hHeld ?_
      rotate_left
      · (intro w hSw; (try dsimp only at hSw); go_simp)
        try with_reducible rfl
      try simp only [Act.put, List.getElem_toArray, List.getElem_cons_zero, List.getElem_cons_succ, List.setIfInBounds_toArray, List.set_cons_zero, List.set_cons_succ]
      refine wpAnyH_done (by kernel_rfl) ?_ _
      try simp only [Act.put, List.getElem_toArray, List.getElem_cons_zero, List.getElem_cons_succ, List.setIfInBounds_toArray, List.set_cons_zero, List.set_cons_succ]
      go_wp2_with fail
      go_ret2
      exact ⟨rfl, hHeld.2⟩
  · skip
    go_simp
    have hA := (Below.refl Y0.heap.size Y0).alloc (Nat.le_refl _) (.cells #[.int .u32 0] 22)
    have hH : Bk (Y0.alloc (.cells #[.int .u32 0] 22)) p6 132 czC ∧ Below w.heap.size w (Y0.alloc (.cells #[.int .u32 0] 22)) := ⟨hHeld.1.below hA hHeld.1.lt, hHeld.2.trans (hA.mono hHeld.2.size)⟩
    have L10 := Lib.hid (Bk.new Y0 22 #[.int .u32 0])
    refine hK.out _ _ hH (fun _ => ?_)
    clear hK K hHeld hA
    have hHeld := hH
    clear hH
    try simp only [Act.put, List.getElem_toArray, List.getElem_cons_zero, List.getElem_cons_succ, List.setIfInBounds_toArray, List.set_cons_zero, List.set_cons_succ]
    generalize Y0.alloc (.cells #[.int .u32 0] 22) = Y1 at *
    generalize Y0.heap.size = g10 at *
    refine wpAnyH_ready (rs := [5]) (by kernel_rfl) (by simp) ?_
    refine (AllReadyH.cons rfl (fun K hK => ?_) AllReadyH.nil)
    go_simp
    have hA := (Below.refl Y1.heap.size Y1).alloc (Nat.le_refl _) (.cells #[.int .u32 0, .int .u32 0] 22)
    have hH : Bk (Y1.alloc (.cells #[.int .u32 0, .int .u32 0] 22)) p6 132 czC ∧ Below w.heap.size w (Y1.alloc (.cells #[.int .u32 0, .int .u32 0] 22)) := ⟨hHeld.1.below hA hHeld.1.lt, hHeld.2.trans (hA.mono hHeld.2.size)⟩
    have L5 := Lib.hid (Bk.new Y1 22 #[.int .u32 0, .int .u32 0])
    have T := Lib.hid (L10.out.below hA L10.out.lt)
    clear L10
    have L10 := T
    clear T
    refine hK.out _ _ hH (fun _ => ?_)
    clear hK K hHeld hA
    have hHeld := hH
    clear hH
    try simp only [Act.put, List.getElem_toArray, List.getElem_cons_zero, List.getElem_cons_succ, List.setIfInBounds_toArray, List.set_cons_zero, List.set_cons_succ]
    generalize Y1.alloc (.cells #[.int .u32 0, .int .u32 0] 22) = Y2 at *
    generalize Y1.heap.size = g5 at *
    refine wpAnyH_ready (rs := [6]) (by kernel_rfl) (by simp) ?_
    refine (AllReadyH.cons rfl (fun K hK => ?_) AllReadyH.nil)
    have hz : ∀ i, i < 2 → Y2.cell? ⟨g5, i, none⟩ = some (.int .u32 0) := by
      intro i hi
      rw [L5.out.cell]
      match i with
      | 0 | 1 => rfl
      | i + 2 => omega
    have HZ := Lib.hid hz
    clear hz
    go_simp
    refine (some_zeros g5 2 (by decide) _ _ HZ.out).mono ?_
    rintro e wv ⟨rfl, rfl⟩
    go_wp2_with fail
    refine hK.out _ _ hHeld (fun _ => ?_)
    clear hK K HZ
    try simp only [Act.put, List.getElem_toArray, List.getElem_cons_zero, List.getElem_cons_succ, List.setIfInBounds_toArray, List.set_cons_zero, List.set_cons_succ]
    refine wpAnyH_ready (rs := [11]) (by kernel_rfl) (by simp) ?_
    refine (AllReadyH.cons rfl (fun K hK => ?_) AllReadyH.nil)
    have hz : ∀ i, i < 1 → Y2.cell? ⟨g10, i, none⟩ = some (.int .u32 0) := by
      intro i hi
      rw [L10.out.cell]
      match i with
      | 0 => rfl
      | i + 1 => omega
    have HZ := Lib.hid hz
    clear hz
    go_simp
    refine (some_zeros g10 1 (by decide) _ _ HZ.out).mono ?_
    rintro e wv ⟨rfl, rfl⟩
    go_wp2_with fail
    refine hK.out _ _ hHeld (fun _ => ?_)
    clear hK K HZ
    try simp only [Act.put, List.getElem_toArray, List.getElem_cons_zero, List.getElem_cons_succ, List.setIfInBounds_toArray, List.set_cons_zero, List.set_cons_succ]
    refine wpAnyH_ready (rs := [12]) (by kernel_rfl) (by simp) ?_
    refine (AllReadyH.cons rfl (fun K hK => ?_) AllReadyH.nil)
    go_simp
    refine hK.out _ _ hHeld (fun _ => ?_)
    clear hK K
    try simp only [Act.put, List.getElem_toArray, List.getElem_cons_zero, List.getElem_cons_succ, List.setIfInBounds_toArray, List.set_cons_zero, List.set_cons_succ]
    refine wpAnyH_take (i := 15) (v := ?_) rfl (by kernel_rfl) (by kernel_rfl) (by kernel_rfl) (fun _ _ _ h => h) (Or.inl ⟨by rfl, ?_⟩) hHeld ?_
    rotate_left
    · (intro w hSw; (try dsimp only at hSw); go_simp)
      try with_reducible rfl
    try simp only [Act.put, List.getElem_toArray, List.getElem_cons_zero, List.getElem_cons_succ, List.setIfInBounds_toArray, List.set_cons_zero, List.set_cons_succ]
    refine wpAnyH_take (i := 16) (v := ?_) rfl (by kernel_rfl) (by kernel_rfl) (by kernel_rfl) (fun _ _ _ h => h) (Or.inl ⟨by rfl, ?_⟩) hHeld ?_
    rotate_left
    · (intro w hSw; (try dsimp only at hSw); go_simp)
      try with_reducible rfl
    try simp only [Act.put, List.getElem_toArray, List.getElem_cons_zero, List.getElem_cons_succ, List.setIfInBounds_toArray, List.set_cons_zero, List.set_cons_succ]
    refine wpAnyH_done (by kernel_rfl) ?_ _
    try simp only [Act.put, List.getElem_toArray, List.getElem_cons_zero, List.getElem_cons_succ, List.setIfInBounds_toArray, List.set_cons_zero, List.set_cons_succ]
    go_wp2_with fail
    go_ret2
    exact ⟨rfl, hHeld.2⟩
end Go.Proofs.YtjnbpbnhkinggaaGreatDoor.St
