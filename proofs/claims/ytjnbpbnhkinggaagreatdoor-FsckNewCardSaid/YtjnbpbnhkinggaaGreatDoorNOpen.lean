/- The contract of count.Open. -/
import Derived.Test.YtjnbpbnhkinggaaGreatDoorNOld
namespace Go.Proofs.YtjnbpbnhkinggaaGreatDoor.St
open Go.RowKit

theorem built_tb (d mp mt ms : Nat) (r : Rt) (n : Int) : Tryz.prog.built 155 [(0, .pointer (some ⟨d, 0, none⟩)), (1, .agg r.cells), (2, .agg (planC n)), (3, .map (some mp)), (4, .map (some mt)), (5, .map (some ms))] = some (tbC d mp mt ms r n) := by kernel_rfl
theorem cf_zero : cf (fun _ => 0) = fun _ => none := by funext i; rfl
theorem zs_none (C : Int → Array Value) : Zs C (fun _ => none) := fun _ => Or.inl rfl
attribute [local go_sem ↓] Go.wp_at_zero Go.wp_at_succ
set_option maxRecDepth 100000 in
set_option maxHeartbeats 1000000 in
theorem topen_any (d m k : Nat) (n wt : Int) (g : Int → List UInt8) (r : Rt) (hr : r.size = n) (w : World) (h : Dv w d m k n wt g) :
    Calls Tryz.prog 51 #[.pointer (some ⟨d, 0, none⟩), .agg r.cells] w fun e w' => ∃ t mp mt ms, e = .returned (.tuple #[.pointer (some ⟨t, 0, none⟩), .int .i64 0]) ∧ Tb w' t d mp mt ms 0 0 0 r n (fun _ => 0) ∧ w.heap.size ≤ mp ∧ w.heap.size ≤ mt ∧ w.heap.size ≤ ms ∧ w.heap.size ≤ t ∧ Below w.heap.size w w' := by
  subst hr
  have hmm := @run_makeMap Tryz.prog
  have h0 := h.lo
  have h1 := h.hi
  have hB0 := (Below.refl w.heap.size w).alloc (Nat.le_refl _) (.cells #[.int .u64 r.gen, .int .u32 r.size, .int .u32 r.picks, .int .u32 r.names, .int .u32 r.free, .int .u32 r.next, .int .u32 r.hint, .int .u8 r.vols] 30)
  have HD0 := Lib.hid (h.below hB0)
  have HK0 := Lib.hid (show Bk (w.alloc (.cells #[.int .u64 r.gen, .int .u32 r.size, .int .u32 r.picks, .int .u32 r.names, .int .u32 r.free, .int .u32 r.next, .int .u32 r.hint, .int .u8 r.vols] 30)) w.heap.size 30 r.cells from Bk.new w _ _)
  have HB0 := Lib.hid hB0
  have hn0 : (r.size == 0) = false := beq_eq_false_iff_ne.2 (by omega)
  have hbn : (r.size != r.size) = false := by simp
  clear h hB0
  go_enter Tryz.func51, Tryz.ntmps51
  simp only [Rt.cells]
  go_wp2_with fail
  refine (layout_any r.size h0 h1 _).mono ?_
  rintro e w1 ⟨rfl, hb1⟩
  have hA := (Below.refl w1.heap.size w1).alloc (Nat.le_refl _) (.cells #[.int .u32 (tal r.size), .int .u32 (pic r.size), .int .u32 (fst r.size)] 48)
  have HD1 := Lib.hid ((HD0.out.below hb1).below hA)
  have hk1 := HK0.out.below hb1 HK0.out.lt
  have HK1 := Lib.hid (hk1.below hA hk1.lt)
  have hb01 := HB0.out.trans (hb1.mono HB0.out.size)
  have HB1 := Lib.hid (hb01.trans (hA.mono hb01.size))
  have HP1 := Lib.hid (show Bk (w1.alloc (.cells #[.int .u32 (tal r.size), .int .u32 (pic r.size), .int .u32 (fst r.size)] 48)) w1.heap.size 48 (planC r.size) from Bk.new w1 _ _)
  clear hA hk1 hb01 hb1 HD0 HK0 HB0
  simp only [planC]
  go_wp2_with fail
  generalize w1.alloc (.cells #[.int .u32 (tal r.size), .int .u32 (pic r.size), .int .u32 (fst r.size)] 48) = w2 at *
  generalize w1.heap.size = p6 at *
  refine (size_b d m r.size wt _ _ HD1.out.b).mono ?_
  rintro e w3 ⟨rfl, rfl⟩
  go_wp2_with fail
  refine wp_region_held_drew (S := fun Y => Bk Y w.heap.size 30 r.cells ∧ DvB Y d m r.size wt (.slice none 0 0)) (by kernel_rfl) ⟨HK1.out, HD1.out.b⟩ ?_
  intro hHeld
  refine wpAnyH_take (i := 0) (v := ?_) rfl (by kernel_rfl) (by kernel_rfl) (by kernel_rfl) (fun _ _ _ h => h) (Or.inl ⟨by rfl, ?_⟩) hHeld ?_
  rotate_left
  · (intro w hSw; (try dsimp only at hSw); go_simp)
    try with_reducible rfl
  try simp only [Act.put, List.getElem_toArray, List.getElem_cons_zero, List.getElem_cons_succ, List.setIfInBounds_toArray, List.set_cons_zero, List.set_cons_succ]
  refine wpAnyH_take (i := 1) (v := ?_) rfl (by kernel_rfl) (by kernel_rfl) (by kernel_rfl) (fun _ _ _ h => h) (Or.inl ⟨by rfl, ?_⟩) hHeld ?_
  rotate_left
  · (intro w hSw; (try dsimp only at hSw); go_simp)
    try with_reducible rfl
  try simp only [Act.put, List.getElem_toArray, List.getElem_cons_zero, List.getElem_cons_succ, List.setIfInBounds_toArray, List.set_cons_zero, List.set_cons_succ]
  refine wpAnyH_take (i := 2) (v := ?_) rfl (by kernel_rfl) (by kernel_rfl) (by kernel_rfl) (fun _ _ _ h => h) (Or.inl ⟨by rfl, ?_⟩) hHeld ?_
  rotate_left
  · (intro w hSw; (try dsimp only at hSw); go_simp)
    try with_reducible rfl
  try simp only [Act.put, List.getElem_toArray, List.getElem_cons_zero, List.getElem_cons_succ, List.setIfInBounds_toArray, List.set_cons_zero, List.set_cons_succ]
  refine wpAnyH_take (i := 3) (v := ?_) rfl (by kernel_rfl) (by kernel_rfl) (by kernel_rfl) (fun _ _ _ h => h) (Or.inl ⟨by rfl, ?_⟩) hHeld ?_
  rotate_left
  · (intro w hSw; (try dsimp only at hSw); go_simp)
    try with_reducible rfl
  try simp only [Act.put, List.getElem_toArray, List.getElem_cons_zero, List.getElem_cons_succ, List.setIfInBounds_toArray, List.set_cons_zero, List.set_cons_succ]
  refine wpAnyH_take (i := 4) (v := ?_) rfl (by kernel_rfl) (by kernel_rfl) (by kernel_rfl) (fun _ _ _ h => h) (Or.inl ⟨by rfl, ?_⟩) hHeld ?_
  rotate_left
  · (intro w hSw; (try dsimp only at hSw); obtain ⟨q0, q1, q2, q3, q4, q5, q6, q7⟩ := Bk.rt hSw.1; go_simp)
    try with_reducible rfl
  try simp only [Act.put, List.getElem_toArray, List.getElem_cons_zero, List.getElem_cons_succ, List.setIfInBounds_toArray, List.set_cons_zero, List.set_cons_succ]
  refine wpAnyH_take (i := 5) (v := ?_) rfl (by kernel_rfl) (by kernel_rfl) (by kernel_rfl) (fun _ _ _ h => h) (Or.inl ⟨by rfl, ?_⟩) hHeld ?_
  rotate_left
  · (intro w hSw; (try dsimp only at hSw); go_simp)
    try with_reducible rfl
  try simp only [Act.put, List.getElem_toArray, List.getElem_cons_zero, List.getElem_cons_succ, List.setIfInBounds_toArray, List.set_cons_zero, List.set_cons_succ]
  refine wpAnyH_ready (rs := [6]) (by kernel_rfl) (by simp) ?_
  refine (AllReadyH.cons rfl (fun K hK => ?_) AllReadyH.nil)
  go_simp
  refine (size_b d m r.size wt _ _ hHeld.2).mono ?_
  rintro e wv ⟨rfl, rfl⟩
  go_wp2_with fail
  refine hK.out _ _ hHeld (fun _ => ?_)
  clear hK K
  try simp only [Act.put, List.getElem_toArray, List.getElem_cons_zero, List.getElem_cons_succ, List.setIfInBounds_toArray, List.set_cons_zero, List.set_cons_succ]
  refine wpAnyH_take (i := 7) (v := ?_) rfl (by kernel_rfl) (by kernel_rfl) (by kernel_rfl) (fun _ _ _ h => h) (Or.inl ⟨by rfl, ?_⟩) hHeld ?_
  rotate_left
  · (intro w hSw; (try dsimp only at hSw); go_simp)
    try with_reducible rfl
  try simp only [Act.put, List.getElem_toArray, List.getElem_cons_zero, List.getElem_cons_succ, List.setIfInBounds_toArray, List.set_cons_zero, List.set_cons_succ]
  refine wpAnyH_take (i := 8) (v := ?_) rfl (by kernel_rfl) (by kernel_rfl) (by kernel_rfl) (fun _ _ _ h => h) (Or.inl ⟨by rfl, ?_⟩) hHeld ?_
  rotate_left
  · (intro w hSw; (try dsimp only at hSw); go_simp)
    try with_reducible rfl
  try simp only [Act.put, List.getElem_toArray, List.getElem_cons_zero, List.getElem_cons_succ, List.setIfInBounds_toArray, List.set_cons_zero, List.set_cons_succ]
  refine wpAnyH_take (i := 9) (v := ?_) rfl (by kernel_rfl) (by kernel_rfl) (by kernel_rfl) (fun _ _ _ h => h) (Or.inl ⟨by rfl, ?_⟩) hHeld ?_
  rotate_left
  · (intro w hSw; (try dsimp only at hSw); go_simp)
    try with_reducible rfl
  try simp only [Act.put, List.getElem_toArray, List.getElem_cons_zero, List.getElem_cons_succ, List.setIfInBounds_toArray, List.set_cons_zero, List.set_cons_succ]
  refine wpAnyH_done (by kernel_rfl) ?_ _
  try simp only [Act.put, List.getElem_toArray, List.getElem_cons_zero, List.getElem_cons_succ, List.setIfInBounds_toArray, List.set_cons_zero, List.set_cons_succ]
  have HK2 := Lib.hid (show Bk w2.drew w.heap.size 30 r.cells from HK1.out.drew)
  have HP2 := Lib.hid (show Bk w2.drew p6 48 (planC r.size) from HP1.out.drew)
  have hb2 : Below w.heap.size w w2.drew := below_drewN HB1.out 1
  clear hHeld HK1 HP1 HB1 HD1
  generalize w2.drew = X at *
  have hM1 := Mp.made X
  have hM2 := Mp.made (X.alloc (.map #[] 0))
  have hM3 := Mp.made ((X.alloc (.map #[] 0)).alloc (.map #[] 0))
  simp only [size_alloc] at hM2 hM3
  have hT := Bk.new (((X.alloc (.map #[] 0)).alloc (.map #[] 0)).alloc (.map #[] 0)) 155 (tbC d X.heap.size (X.heap.size + 1) (X.heap.size + 1 + 1) r r.size)
  simp only [size_alloc] at hT
  have hB3 := ((hb2.alloc hb2.size (.map #[] 0)).alloc (by rw [size_alloc]; have := hb2.size; omega) (.map #[] 0)).alloc (by rw [size_alloc, size_alloc]; have := hb2.size; omega) (.map #[] 0)
  have hB4 := hB3.alloc hB3.size (.cells (tbC d X.heap.size (X.heap.size + 1) (X.heap.size + 1 + 1) r r.size) 155)
  have HE := Lib.hid (And.intro (show Tb ((((X.alloc (.map #[] 0)).alloc (.map #[] 0)).alloc (.map #[] 0)).alloc (.cells (tbC d X.heap.size (X.heap.size + 1) (X.heap.size + 1 + 1) r r.size) 155)) (X.heap.size + 1 + 1 + 1) d X.heap.size (X.heap.size + 1) (X.heap.size + 1 + 1) 0 0 0 r r.size (fun _ => 0) from
    ⟨hT, ⟨_, ((hM1.alloc _).alloc _).alloc _, zs_none _⟩, ⟨_, (hM2.alloc _).alloc _, zs_none _⟩, by rw [cf_zero]; exact hM3.alloc _, by omega, by omega, by omega⟩) (And.intro hb2.size hB4))
  have HBU := Lib.hid (fun mp mt ms => built_tb d mp mt ms r r.size)
  clear hM1 hM2 hM3 hT hB3 hB4 hb2
  generalize htb : tbC d X.heap.size (X.heap.size + 1) (X.heap.size + 1 + 1) r r.size = TV at *
  have HTB := Lib.hid htb
  clear htb
  go_wp2_with (first | (refine wpList_load_row rfl 30 _ rfl _ rfl _ r.cells _ _ HK2.out Tryz.underlying30 rfl (by kernel_rfl) ?_) | (refine wpList_load_row rfl 48 _ rfl _ rfl _ (planC r.size) _ _ HP2.out Tryz.underlying48 rfl (by kernel_rfl) ?_) | (refine wpList_built rfl 155 _ rfl [(0, .pointer (some ⟨d, 0, none⟩)), (1, .agg r.cells), (2, .agg (planC r.size)), (3, .map (some X.heap.size)), (4, .map (some (X.heap.size + 1))), (5, .map (some (X.heap.size + 1 + 1)))] rfl TV (by rw [← HTB.out]; exact HBU.out _ _ _) ?_))
  go_ret2
  exact ⟨_, _, _, _, rfl, HE.out.1, HE.out.2.1, by have := HE.out.2.1; omega, by have := HE.out.2.1; omega, by have := HE.out.2.1; omega, HE.out.2.2⟩
end Go.Proofs.YtjnbpbnhkinggaaGreatDoor.St
