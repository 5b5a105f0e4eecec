/- The contract of root.Commit. -/
import Derived.Test.YtjnbpbnhkinggaaGreatDoorRFormat
namespace Go.Proofs.YtjnbpbnhkinggaaGreatDoor.St
open Go.RowKit
attribute [local go_sem ↓] Go.wp_at_zero Go.wp_at_succ
set_option maxRecDepth 100000 in
set_option maxHeartbeats 1000000 in
theorem cfar_any (pd d m : Nat) (n wt : Int) (pv : Value) (a : Int) (b : List UInt8) (hl : b.length = 256) (h0 : 2 ≤ a) (h1 : a < n) (w : World) (hD : DvB w d m n wt pv) (hP : Bk w pd 23 #[.pointer (some ⟨d, 0, none⟩)]) :
    Calls Tryz.prog 36 #[.agg (#[.int .u32 a] ++ bA b), .pointer (some ⟨pd, 0, none⟩)] w fun e w' => e = .returned (.bool false) ∧ Below w.heap.size w w' := by
  have hB0 : Below w.heap.size w (w.alloc (.cells (#[.int .u32 a] ++ bA b) 58)) := (Below.refl _ _).alloc (Nat.le_refl _) _
  have HS := Lib.hid (And.intro (Bk.new w 58 (#[Value.int .u32 a] ++ bA b)) (And.intro (hP.below hB0 hP.lt) (hD.below hB0 hD.lt)))
  have HB := Lib.hid hB0
  have e1 : decide (a < 2) = false := decide_eq_false (by omega)
  have e2 : decide (n ≤ a) = false := decide_eq_false (by omega)
  clear hB0 hD hP
  go_enter Tryz.func36, Tryz.ntmps36
  generalize bA b = V at *
  go_wp2_with fail
  generalize w.alloc (.cells (#[.int .u32 a] ++ V) 58) = X at *
  refine wp_region_held_drew (S := fun Y => Bk Y w.heap.size 58 (#[Value.int .u32 a] ++ V) ∧ Bk Y pd 23 #[.pointer (some ⟨d, 0, none⟩)] ∧ DvB Y d m n wt pv) (by kernel_rfl) HS.out ?_
  intro hHeld
  refine wpAnyH_take (i := 0) (v := ?_) rfl (by kernel_rfl) (by kernel_rfl) (by kernel_rfl) (fun _ _ _ h => h) (Or.inl ⟨by rfl, ?_⟩) hHeld ?_
  rotate_left
  · (intro w hSw; (try dsimp only at hSw); go_simp)
    try with_reducible rfl
  try simp only [Act.put, List.getElem_toArray, List.getElem_cons_zero, List.getElem_cons_succ, List.setIfInBounds_toArray, List.set_cons_zero, List.set_cons_succ]
  refine wpAnyH_take (i := 1) (v := ?_) rfl (by kernel_rfl) (by kernel_rfl) (by kernel_rfl) (fun _ _ _ h => h) (Or.inl ⟨by rfl, ?_⟩) hHeld ?_
  rotate_left
  · (intro w hSw; (try dsimp only at hSw); have q0 := put_first hSw.1; go_simp)
    try with_reducible rfl
  try simp only [Act.put, List.getElem_toArray, List.getElem_cons_zero, List.getElem_cons_succ, List.setIfInBounds_toArray, List.set_cons_zero, List.set_cons_succ]
  refine wpAnyH_take (i := 2) (v := ?_) rfl (by kernel_rfl) (by kernel_rfl) (by kernel_rfl) (fun _ _ _ h => h) (Or.inl ⟨by rfl, ?_⟩) hHeld ?_
  rotate_left
  · (intro w hSw; (try dsimp only at hSw); go_simp)
    try with_reducible rfl
  try simp only [Act.put, List.getElem_toArray, List.getElem_cons_zero, List.getElem_cons_succ, List.setIfInBounds_toArray, List.set_cons_zero, List.set_cons_succ]
  refine wpAnyH_take (i := 3) (v := ?_) rfl (by kernel_rfl) (by kernel_rfl) (by kernel_rfl) (fun _ _ _ h => h) (Or.inl ⟨by rfl, ?_⟩) hHeld ?_
  rotate_left
  · (intro w hSw; (try dsimp only at hSw); go_simp)
    try with_reducible rfl
  try simp only [Act.put, List.getElem_toArray, List.getElem_cons_zero, List.getElem_cons_succ, List.setIfInBounds_toArray, List.set_cons_zero, List.set_cons_succ]
  refine wpAnyH_take (i := 4) (v := ?_) rfl (by kernel_rfl) (by kernel_rfl) (by kernel_rfl) (fun _ _ _ h => h) (Or.inl ⟨by rfl, ?_⟩) hHeld ?_
  rotate_left
  · (intro w hSw; (try dsimp only at hSw); go_simp)
    try with_reducible rfl
  try simp only [Act.put, List.getElem_toArray, List.getElem_cons_zero, List.getElem_cons_succ, List.setIfInBounds_toArray, List.set_cons_zero, List.set_cons_succ]
  refine wpAnyH_take (i := 5) (v := ?_) rfl (by kernel_rfl) (by kernel_rfl) (by kernel_rfl) (fun _ _ _ h => h) (Or.inl ⟨by rfl, ?_⟩) hHeld ?_
  rotate_left
  · (intro w hSw; (try dsimp only at hSw); have q0 := put_first hSw.1; go_simp)
    try with_reducible rfl
  try simp only [Act.put, List.getElem_toArray, List.getElem_cons_zero, List.getElem_cons_succ, List.setIfInBounds_toArray, List.set_cons_zero, List.set_cons_succ]
  refine wpAnyH_take (i := 6) (v := ?_) rfl (by kernel_rfl) (by kernel_rfl) (by kernel_rfl) (fun _ _ _ h => h) (Or.inl ⟨by rfl, ?_⟩) hHeld ?_
  rotate_left
  · (intro w hSw; (try dsimp only at hSw); have q0 : w.cell? ⟨pd, 0, none⟩ = some (.pointer (some ⟨d, 0, none⟩)) := hSw.2.1.cell 0; go_simp)
    try with_reducible rfl
  try simp only [Act.put, List.getElem_toArray, List.getElem_cons_zero, List.getElem_cons_succ, List.setIfInBounds_toArray, List.set_cons_zero, List.set_cons_succ]
  refine wpAnyH_ready (rs := [7]) (by kernel_rfl) (by simp) ?_
  refine (AllReadyH.cons rfl (fun K hK => ?_) AllReadyH.nil)
  go_simp
  refine (size_b d m n wt _ _ hHeld.2.2).mono ?_
  rintro e wv ⟨rfl, rfl⟩
  go_wp2_with fail
  refine hK.out _ _ hHeld (fun _ => ?_)
  clear hK K
  try simp only [Act.put, List.getElem_toArray, List.getElem_cons_zero, List.getElem_cons_succ, List.setIfInBounds_toArray, List.set_cons_zero, List.set_cons_succ]
  refine wpAnyH_take (i := 8) (v := ?_) rfl (by kernel_rfl) (by kernel_rfl) (by kernel_rfl) (fun _ _ _ h => h) (Or.inl ⟨by rfl, ?_⟩) hHeld ?_
  rotate_left
  · (intro w hSw; (try dsimp only at hSw); go_simp)
    try with_reducible rfl
  try simp only [Act.put, List.getElem_toArray, List.getElem_cons_zero, List.getElem_cons_succ, List.setIfInBounds_toArray, List.set_cons_zero, List.set_cons_succ]
  refine wpAnyH_take (i := 9) (v := ?_) rfl (by kernel_rfl) (by kernel_rfl) (by kernel_rfl) (fun _ _ _ h => h) (Or.inl ⟨by rfl, ?_⟩) hHeld ?_
  rotate_left
  · (intro w hSw; (try dsimp only at hSw); go_simp)
    try with_reducible rfl
  try simp only [Act.put, List.getElem_toArray, List.getElem_cons_zero, List.getElem_cons_succ, List.setIfInBounds_toArray, List.set_cons_zero, List.set_cons_succ]
  refine wpAnyH_take (i := 10) (v := ?_) rfl (by kernel_rfl) (by kernel_rfl) (by kernel_rfl) (fun _ _ _ h => h) (Or.inl ⟨by rfl, ?_⟩) hHeld ?_
  rotate_left
  · (intro w hSw; (try dsimp only at hSw); go_simp)
    try with_reducible rfl
  try simp only [Act.put, List.getElem_toArray, List.getElem_cons_zero, List.getElem_cons_succ, List.setIfInBounds_toArray, List.set_cons_zero, List.set_cons_succ]
  refine wpAnyH_done (by kernel_rfl) ?_ _
  try simp only [Act.put, List.getElem_toArray, List.getElem_cons_zero, List.getElem_cons_succ, List.setIfInBounds_toArray, List.set_cons_zero, List.set_cons_succ]
  go_wp2_with fail
  go_ret
  exact ⟨rfl, below_drewN HB.out 1⟩
set_option maxRecDepth 100000 in
set_option maxHeartbeats 1000000 in
theorem cindex_any (pd d m : Nat) (n wt : Int) (pv lv : Value) (ps : List (Int × List UInt8)) (hlen : ps.length ≤ 1000000) (hpl : ∀ p ∈ ps, p.2.length = 256 ∧ 2 ≤ p.1 ∧ p.1 < n) (w : World) (hD : DvB w d m n wt pv) (hP : Bk w pd 23 #[.pointer (some ⟨d, 0, none⟩)]) (ho : w.ownsRow 0 58 257 lv ps.length (putC ps)) :
    Calls Tryz.prog 62 #[lv, .func (.func 36) #[] #[.pointer (some ⟨pd, 0, none⟩)]] w fun e w' => e = .returned (.int .i64 (-1)) ∧ Below w.heap.size w w' := by
  obtain ⟨s, c, hpv, hlc, hs⟩ := own_form ho
  subst hpv
  have HS := Lib.hid hs
  have HD := Lib.hid hD
  have HP := Lib.hid hP
  have HO := Lib.hid ho
  have HX := Lib.hid hpl
  have heg := Go.Proofs.enters_of Tryz.func36 (by kernel_rfl) rfl
  clear hD hP ho hs hpl
  go_enter Tryz.func62, Tryz.ntmps62
  go_wp2_with fail
  go_loopw [8] (fun i wr => ∃ (j : Nat), j ≤ ps.length ∧ i = .int .i64 j ∧ Below w.heap.size w wr) (fun i _ => ps.length - (intOf i).toNat)
  case atStart => exact ⟨0, by omega, rfl, Below.refl _ _⟩
  case round =>
    obtain ⟨j, hj, rfl, hB⟩ := hrel
    have HB := Lib.hid hB
    clear hB
    by_cases hlt : j < ps.length
    · obtain ⟨gp, rfl⟩ := HS.out (by omega)
      obtain ⟨p, hp⟩ : ∃ p, ps[j]? = some p := ⟨ps[j], List.getElem?_eq_getElem hlt⟩
      obtain ⟨p0, p1, p2⟩ := HX.out p (List.mem_of_getElem? hp)
      have hsz : (#[Value.int .u32 p.1] ++ bA p.2).size = 257 := by rw [Array.size_append, bA_size, p0]; rfl
      have hszL : (Tryz.prog.info? 58).map (·.size) = some (#[Value.int .u32 p.1] ++ bA p.2).toList.length := by rw [Array.length_toList, hsz]; kernel_rfl
      have hrng := own_range (fun p hp => (HX.out p hp).1) (own_fr HO.out (Fr.of_all HB.out (fun _ => False)) (fun _ _ h => h)) hp
      have HC := Lib.hid (cfar_any pd d m n wt pv p.1 p.2 p0 p1 p2 wr (HD.out.below HB.out HD.out.lt) (HP.out.below HB.out HP.out.lt))
      clear hp p0 p1 p2 hsz
      generalize #[Value.int .u32 p.1] ++ bA p.2 = NV at *
      go_wp2_with (refine wpList_load_arr rfl 58 _ rfl gp (j * 257) rfl NV _ hrng Tryz.underlying58 rfl hszL ?_)
      refine HC.out.mono ?_
      rintro e w2 ⟨rfl, hb2⟩
      have HB2 := Lib.hid (HB.out.trans (hb2.mono HB.out.size))
      clear hb2 HB HC hrng
      go_wp2_with fail
      go_roundw
      case rel => exact ⟨j + 1, by omega, by go_num, HB2.out⟩
      case measure => simp [intOf]; omega
    · go_wp2_with fail
      go_ret
      exact ⟨rfl, HB.out⟩
theorem ccontains_any (pd d m : Nat) (n wt : Int) (pv lv : Value) (ps : List (Int × List UInt8)) (hlen : ps.length ≤ 1000000) (hpl : ∀ p ∈ ps, p.2.length = 256 ∧ 2 ≤ p.1 ∧ p.1 < n) (w : World) (hD : DvB w d m n wt pv) (hP : Bk w pd 23 #[.pointer (some ⟨d, 0, none⟩)]) (ho : w.ownsRow 0 58 257 lv ps.length (putC ps)) :
    Calls Tryz.prog 38 #[lv, .func (.func 36) #[] #[.pointer (some ⟨pd, 0, none⟩)]] w fun e w' => e = .returned (.bool false) ∧ Below w.heap.size w w' := by
  have HC := Lib.hid (cindex_any pd d m n wt pv lv ps hlen hpl w hD hP ho)
  clear hD hP ho hpl
  go_enter Tryz.func38, Tryz.ntmps38
  go_wp2_with fail
  refine HC.out.mono ?_
  rintro e w2 ⟨rfl, hb2⟩
  have HB2 := Lib.hid hb2
  clear hb2
  go_wp2_with fail
  go_ret
  exact ⟨rfl, HB2.out⟩
attribute [local go_sem] put_func
set_option maxRecDepth 100000 in
set_option maxHeartbeats 1000000 in
theorem commit_any (d m k : Nat) (n wt : Int) (g : Int → List UInt8) (r : Rt) (hr : r.Fits n) (lv : Value) (ps : List (Int × List UInt8)) (hlen : ps.length ≤ 1000000) (hk : k + ps.length < 1000000) (hpl : ∀ p ∈ ps, p.2.length = 256 ∧ 2 ≤ p.1 ∧ p.1 < n) (w : World) (h : Dv w d m k n wt g) (ho : w.ownsRow 0 58 257 lv ps.length (putC ps)) :
    Calls Tryz.prog 18 #[.pointer (some ⟨d, 0, none⟩), lv, .agg r.cells] w fun e w' => e = .returned (.int .i64 0) ∧ (∃ wt, Dv w' d m (k + ps.length + 1) n wt (gset (gputs g ps) (r.gen % 2) (rblk r))) ∧ Fr (fun i => i = d ∨ i = m) w w' := by
  have hmf : ∀ (fn : Fn) (first cap : Array Value) (w : World), (Instr.makeFunc fn first cap).run Tryz.prog w = .ok (.func fn first cap) w := fun _ _ _ _ => rfl
  obtain ⟨s, c, hpv, _, _⟩ := own_form ho
  subst hpv
  have hlo := h.lo
  have hB1 := (Below.refl w.heap.size w).alloc (Nat.le_refl _) (.cells #[.pointer (some ⟨d, 0, none⟩)] 23)
  have hB2 := hB1.alloc hB1.size (.cells #[.int .u64 r.gen, .int .u32 r.size, .int .u32 r.picks, .int .u32 r.names, .int .u32 r.free, .int .u32 r.next, .int .u32 r.hint, .int .u8 r.vols] 30)
  have k1 := Bk.new w 23 #[.pointer (some ⟨d, 0, none⟩)]
  have k2 := Bk.new (w.alloc (.cells #[.pointer (some ⟨d, 0, none⟩)] 23)) 30 #[.int .u64 r.gen, .int .u32 r.size, .int .u32 r.picks, .int .u32 r.names, .int .u32 r.free, .int .u32 r.next, .int .u32 r.hint, .int .u8 r.vols]
  rw [size_alloc] at k2
  have HS := Lib.hid (And.intro k2 (And.intro (k1.alloc (.cells #[.int .u64 r.gen, .int .u32 r.size, .int .u32 r.picks, .int .u32 r.names, .int .u32 r.free, .int .u32 r.next, .int .u32 r.hint, .int .u8 r.vols] 30)) (h.below hB2)))
  have HB := Lib.hid hB2
  have HO := Lib.hid (own_fr ho (Fr.of_all hB2 (fun _ => False)) (fun _ _ h => h))
  have HX := Lib.hid hpl
  have HF := Lib.hid hr
  clear h ho hB1 hB2 k1 k2 hpl hr
  go_enter Tryz.func18, Tryz.ntmps18
  simp only [Rt.cells]
  go_wp2_with fail
  refine (rnone_b d m n wt _ hlo _ HS.out.2.2.b).mono ?_
  rintro e w1 ⟨rfl, rfl⟩
  generalize (w.alloc (.cells #[.pointer (some ⟨d, 0, none⟩)] 23)).alloc (.cells #[.int .u64 r.gen, .int .u32 r.size, .int .u32 r.picks, .int .u32 r.names, .int .u32 r.free, .int .u32 r.next, .int .u32 r.hint, .int .u8 r.vols] 30) = X at *
  go_wp2_with fail
  refine wp_region_held_drew (S := (fun Y => Bk Y (w.heap.size + 1) 30 r.cells ∧ Bk Y w.heap.size 23 #[.pointer (some ⟨d, 0, none⟩)] ∧ DvB Y d m n wt (.slice none 0 0))) (by kernel_rfl) ⟨HS.out.1, HS.out.2.1, HS.out.2.2.b⟩ ?_
  intro hHeld
  refine wpAnyH_take (i := 0) (v := .agg r.cells) rfl (by kernel_rfl) (by kernel_rfl) (by kernel_rfl) (fun _ _ _ h => h) (yieldsIf_load_arr (by rfl) 30 _ rfl (w.heap.size + 1) 0 rfl r.cells _ (fun w h => Bk.range h.1) Tryz.underlying30 rfl (by kernel_rfl)) hHeld ?_
  try simp only [Act.put, List.getElem_toArray, List.getElem_cons_zero, List.getElem_cons_succ, List.setIfInBounds_toArray, List.set_cons_zero, List.set_cons_succ]
  refine wpAnyH_take (i := 1) (v := ?_) rfl (by kernel_rfl) (by kernel_rfl) (by kernel_rfl) (fun _ _ _ h => h) (Or.inl ⟨by rfl, ?_⟩) hHeld ?_
  rotate_left
  · (intro Y hSw; (try dsimp only at hSw); have q0 : Y.cell? ⟨w.heap.size, 0, none⟩ = some (.pointer (some ⟨d, 0, none⟩)) := hSw.2.1.cell 0; go_simp)
    try with_reducible rfl
  try simp only [Act.put, List.getElem_toArray, List.getElem_cons_zero, List.getElem_cons_succ, List.setIfInBounds_toArray, List.set_cons_zero, List.set_cons_succ]
  have HD0 := Lib.hid (show Dv X.drew d m k n wt g from HS.out.2.2.drewN 1)
  have HB0 := Lib.hid (show Below w.heap.size w X.drew from below_drewN HB.out 1)
  have HO0 := Lib.hid (own_fr HO.out ((Fr.refl (fun _ => False) X).drew) (fun _ _ h => h))
  clear HS HB HO
  generalize X.drew = Y0 at *
  refine wpAnyH_ready (rs := [2]) (by kernel_rfl) (by simp) ?_
  refine (AllReadyH.cons rfl (fun K hK => ?_) AllReadyH.nil)
  go_simp
  refine (size_b d m n wt _ _ hHeld.2.2).mono ?_
  rintro e wv ⟨rfl, rfl⟩
  go_wp2_with fail
  refine hK.out _ _ hHeld (fun _ => ?_)
  clear hK K
  try simp only [Act.put, List.getElem_toArray, List.getElem_cons_zero, List.getElem_cons_succ, List.setIfInBounds_toArray, List.set_cons_zero, List.set_cons_succ]
  refine wpAnyH_ready (rs := [3]) (by kernel_rfl) (by simp) ?_
  refine (AllReadyH.cons rfl (fun K hK => ?_) AllReadyH.nil)
  go_simp
  refine (rmay_yes r n HF.out _).mono ?_
  rintro e Y1 ⟨rfl, hbX⟩
  have hH : Bk Y1 (w.heap.size + 1) 30 r.cells ∧ Bk Y1 w.heap.size 23 #[.pointer (some ⟨d, 0, none⟩)] ∧ DvB Y1 d m n wt (.slice none 0 0) := ⟨hHeld.1.below hbX hHeld.1.lt, hHeld.2.1.below hbX hHeld.2.1.lt, hHeld.2.2.below hbX hHeld.2.2.lt⟩
  have HD1 := Lib.hid (HD0.out.below hbX)
  have HB1 := Lib.hid (HB0.out.trans (hbX.mono HB0.out.size))
  have HO1 := Lib.hid (own_fr HO0.out (Fr.of_all hbX (fun _ => False)) (fun _ _ h => h))
  clear HD0 HB0 HO0 hbX
  go_wp2_with fail
  refine hK.out _ _ hH (fun _ => ?_)
  clear hK K hHeld
  have hHeld := hH
  clear hH
  try simp only [Act.put, List.getElem_toArray, List.getElem_cons_zero, List.getElem_cons_succ, List.setIfInBounds_toArray, List.set_cons_zero, List.set_cons_succ]
  refine wpAnyH_take (i := 4) (v := ?_) rfl (by kernel_rfl) (by kernel_rfl) (by kernel_rfl) (fun _ _ _ h => h) (Or.inl ⟨by rfl, ?_⟩) hHeld ?_
  rotate_left
  · (intro w hSw; (try dsimp only at hSw); go_simp)
    try with_reducible rfl
  try simp only [Act.put, List.getElem_toArray, List.getElem_cons_zero, List.getElem_cons_succ, List.setIfInBounds_toArray, List.set_cons_zero, List.set_cons_succ]
  refine wpAnyH_take (i := 5) (v := ?_) rfl (by kernel_rfl) (by kernel_rfl) (by kernel_rfl) (fun _ _ _ h => h) (Or.inl ⟨by rfl, ?_⟩) hHeld ?_
  rotate_left
  · (intro w hSw; (try dsimp only at hSw); go_simp)
    try with_reducible rfl
  try simp only [Act.put, List.getElem_toArray, List.getElem_cons_zero, List.getElem_cons_succ, List.setIfInBounds_toArray, List.set_cons_zero, List.set_cons_succ]
  refine wpAnyH_take (i := 6) (v := ?_) rfl (by kernel_rfl) (by kernel_rfl) (by kernel_rfl) (fun _ _ _ h => h) (Or.inl ⟨by rfl, ?_⟩) hHeld ?_
  rotate_left
  · (intro w hSw; (try dsimp only at hSw); go_simp)
    try with_reducible rfl
  try simp only [Act.put, List.getElem_toArray, List.getElem_cons_zero, List.getElem_cons_succ, List.setIfInBounds_toArray, List.set_cons_zero, List.set_cons_succ]
  refine wpAnyH_take (i := 7) (v := ?_) rfl (by kernel_rfl) (by kernel_rfl) (by kernel_rfl) (fun _ _ _ h => h) (Or.inl ⟨by rfl, ?_⟩) hHeld ?_
  rotate_left
  · (intro w hSw; (try dsimp only at hSw); go_simp)
    try with_reducible rfl
  try simp only [Act.put, List.getElem_toArray, List.getElem_cons_zero, List.getElem_cons_succ, List.setIfInBounds_toArray, List.set_cons_zero, List.set_cons_succ]
  refine wpAnyH_ready (rs := [8]) (by kernel_rfl) (by simp) ?_
  refine (AllReadyH.cons rfl (fun K hK => ?_) AllReadyH.nil)
  go_simp
  refine (ccontains_any w.heap.size d m n wt _ _ ps hlen HX.out Y1 hHeld.2.2 hHeld.2.1 HO1.out).mono ?_
  rintro e Y2 ⟨rfl, hbX⟩
  have hH : Bk Y2 (w.heap.size + 1) 30 r.cells ∧ Bk Y2 w.heap.size 23 #[.pointer (some ⟨d, 0, none⟩)] ∧ DvB Y2 d m n wt (.slice none 0 0) := ⟨hHeld.1.below hbX hHeld.1.lt, hHeld.2.1.below hbX hHeld.2.1.lt, hHeld.2.2.below hbX hHeld.2.2.lt⟩
  have HD2 := Lib.hid (HD1.out.below hbX)
  have HB2 := Lib.hid (HB1.out.trans (hbX.mono HB1.out.size))
  have HO2 := Lib.hid (own_fr HO1.out (Fr.of_all hbX (fun _ => False)) (fun _ _ h => h))
  clear HD1 HB1 HO1 hbX
  go_wp2_with fail
  refine hK.out _ _ hH (fun _ => ?_)
  clear hK K hHeld
  have hHeld := hH
  clear hH
  try simp only [Act.put, List.getElem_toArray, List.getElem_cons_zero, List.getElem_cons_succ, List.setIfInBounds_toArray, List.set_cons_zero, List.set_cons_succ]
  refine wpAnyH_take (i := 9) (v := ?_) rfl (by kernel_rfl) (by kernel_rfl) (by kernel_rfl) (fun _ _ _ h => h) (Or.inl ⟨by rfl, ?_⟩) hHeld ?_
  rotate_left
  · (intro w hSw; (try dsimp only at hSw); go_simp)
    try with_reducible rfl
  try simp only [Act.put, List.getElem_toArray, List.getElem_cons_zero, List.getElem_cons_succ, List.setIfInBounds_toArray, List.set_cons_zero, List.set_cons_succ]
  refine wpAnyH_take (i := 10) (v := ?_) rfl (by kernel_rfl) (by kernel_rfl) (by kernel_rfl) (fun _ _ _ h => h) (Or.inl ⟨by rfl, ?_⟩) hHeld ?_
  rotate_left
  · (intro w hSw; (try dsimp only at hSw); go_simp)
    try with_reducible rfl
  try simp only [Act.put, List.getElem_toArray, List.getElem_cons_zero, List.getElem_cons_succ, List.setIfInBounds_toArray, List.set_cons_zero, List.set_cons_succ]
  refine wpAnyH_done (by kernel_rfl) ?_ _
  try simp only [Act.put, List.getElem_toArray, List.getElem_cons_zero, List.getElem_cons_succ, List.setIfInBounds_toArray, List.set_cons_zero, List.set_cons_succ]
  have HK := Lib.hid hHeld.1
  have cp : Y2.cell? ⟨w.heap.size, 0, none⟩ = some (.pointer (some ⟨d, 0, none⟩)) := hHeld.2.1.cell 0
  clear hHeld
  go_wp2_with (refine wpList_load_row rfl 30 _ rfl _ rfl _ r.cells _ _ HK.out Tryz.underlying30 rfl (by kernel_rfl) ?_)
  refine (turn_any d m k n wt g r HF.out.ok HF.out.may _ ps hlen hk (fun p hp => ⟨(HX.out p hp).1, by have := (HX.out p hp).2.1; omega, (HX.out p hp).2.2⟩) Y2 HD2.out HO2.out).mono ?_
  rintro e w6 ⟨rfl, hd6, hf6⟩
  have HE := Lib.hid (And.intro hd6 ((Fr.of_all HB2.out (fun i => i = d ∨ i = m)).trans hf6 (fun _ _ h => h)))
  clear hd6 hf6
  go_wp2_with fail
  go_ret
  exact ⟨rfl, HE.out.1, HE.out.2⟩
end Go.Proofs.YtjnbpbnhkinggaaGreatDoor.St
