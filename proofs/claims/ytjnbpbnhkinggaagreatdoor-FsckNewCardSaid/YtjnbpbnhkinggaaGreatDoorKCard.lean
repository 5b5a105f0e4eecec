/- The contract of card.Get, of a block that bears no card. -/
import Derived.Test.YtjnbpbnhkinggaaGreatDoorFClean
import Derived.StillTailTactics
import Derived.BigQuiet
namespace Go.Proofs.YtjnbpbnhkinggaaGreatDoor.St
open Go.RowKit

set_option maxRecDepth 100000 in
set_option maxHeartbeats 1000000 in
theorem takeSEnd_any (p4 p9 q g : Nat) (b : List UInt8) (at_ : Int) (fine ok : Bool) (u : FrameMode) (w : World) (h : Rd w q g b at_ fine) (h4 : w.cell? ⟨p4, 0, none⟩ = some (.pointer (some ⟨q, 0, none⟩))) (h9 : w.cell? ⟨p9, 0, none⟩ = some (.bool ok)) :
    CallsD Tryz.prog 99 #[.pointer (some ⟨p4, 0, none⟩), .pointer (some ⟨p9, 0, none⟩)] u w fun e u' w' => u' = u ∧ e = .returned (.tuple #[]) ∧ Rd w' q g b at_ (fine && ok) ∧ Fr (fun i => i = q) w w' := by
  have c2 : w.cell? ⟨q, 2, none⟩ = some (.bool fine) := h.1.cell 2
  have f2 : w.frozen? ⟨q, 2, none⟩ = false := h.1.frozen 2
  have H := Lib.hid h
  clear h
  cases fine
  all_goals
    go_enter_d Tryz.func99, Tryz.ntmps99
    go_wp2_with fail
    go_still_tail 10, (by kernel_rfl)
    change wpList _ _ _ _ _ w.drew
    go_wp2_with fail
    go_end0
    exact ⟨rfl, H.out.drew.setFine _, ((Fr.refl (fun i => i = q) w).setCell (p := ⟨q, 2, none⟩) (fun _ => rfl) _).drew⟩

attribute [local go_sem ↓] Go.wp_at_zero Go.wp_at_succ
set_option maxRecDepth 100000 in
set_option maxHeartbeats 1000000 in
theorem takeS_no (q g : Nat) (b : List UInt8) (at_ : Int) (may : Bool) (n : Int) (fv : Value) (w : World) (h : Rd w q g b at_ false) :
    Calls Tryz.prog 88 #[.pointer (some ⟨q, 0, none⟩), .bool may, .int .i64 n, fv] w fun e w' => e = .returned (.string ⟨#[]⟩) ∧ Rd w' q g b at_ false ∧ Fr (fun i => i = q) w w' := by
  have hmf : ∀ (fn : Fn) (first cap : Array Value) (w : World), (Instr.makeFunc fn first cap).run Tryz.prog w = .ok (.func fn first cap) w := fun _ _ _ _ => rfl
  have hB : Below w.heap.size w ((w.alloc (.cells #[.pointer (some ⟨q, 0, none⟩)] 156)).alloc (.cells #[.bool false] 4)) := ((Below.refl _ _).alloc (Nat.le_refl _) _).alloc (by simp) _
  have HB := Lib.hid hB
  have HR := Lib.hid (h.below hB)
  clear h hB
  go_enter_defers Tryz.func88, Tryz.ntmps88
  go_wp2_with fail
  go_quiet ((go_at_call 85; exact qsame (fine_any q g b at_ false _ (HR.out.drewN _))))
  go_wp2_with fail
  refine leaves_cons (f := 99) (args := #[.pointer (some ⟨w.heap.size, 0, none⟩), .pointer (some ⟨w.heap.size + 1, 0, none⟩)]) (by simp) (by simp [go_sem]) ?_
  refine (takeSEnd_any w.heap.size (w.heap.size + 1) q g b at_ false false .returning _ (HR.out.drewN _) ?_ ?_).mono ?_
  · simp [go_sem]
  · simp [go_sem]
  rintro e u' w'' ⟨rfl, rfl, hr, hf⟩
  refine ⟨_, results_tmp rfl _ _ _, rfl, hr, ?_⟩
  exact (Fr.of_all HB.out _).trans ((Fr.refl _ _).drewN _ |>.trans hf (fun _ _ h => h)) (fun _ _ h => h)
theorem text_no (q g : Nat) (b : List UInt8) (at_ : Int) (w : World) (h : Rd w q g b at_ false) :
    Calls Tryz.prog 75 #[.pointer (some ⟨q, 0, none⟩), .int .i64 24] w fun e w' => e = .returned (.string ⟨#[]⟩) ∧ Rd w' q g b at_ false ∧ Fr (fun i => i = q) w w' := by
  have hmf : ∀ (fn : Fn) (first cap : Array Value) (w : World), (Instr.makeFunc fn first cap).run Tryz.prog w = .ok (.func fn first cap) w := fun _ _ _ _ => rfl
  have hA := (Below.refl w.heap.size w).alloc (Nat.le_refl _) (.cells #[.int .i64 24] 3)
  have H := Lib.hid (And.intro (h.below hA) hA)
  clear h hA
  go_enter Tryz.func75, Tryz.ntmps75
  go_wp2_with fail
  refine (takeS_no q g b at_ _ _ _ _ H.out.1).mono ?_
  rintro e w1 ⟨rfl, h1, h2⟩
  have HE := Lib.hid (And.intro h1 ((Fr.of_all H.out.2 (fun i => i = q)).trans h2 (fun _ _ h => h)))
  clear h1 h2
  go_wp2_with fail
  go_ret
  exact ⟨rfl, HE.out.1, HE.out.2⟩
/-- A card's words. -/
def cwC (p : Nat) : Array Value := #[.pointer (some ⟨p, 1, none⟩), .pointer (some ⟨p, 2, none⟩), .pointer (some ⟨p, 3, none⟩), .pointer (some ⟨p, 4, none⟩), .pointer (some ⟨p, 5, none⟩), .pointer (some ⟨p, 6, none⟩), .pointer (some ⟨p, 7, none⟩)]
theorem built_cw (p : Nat) : Tryz.prog.built 163 [(0, .pointer (some ⟨p, 1, none⟩)), (1, .pointer (some ⟨p, 2, none⟩)), (2, .pointer (some ⟨p, 3, none⟩)), (3, .pointer (some ⟨p, 4, none⟩)), (4, .pointer (some ⟨p, 5, none⟩)), (5, .pointer (some ⟨p, 6, none⟩)), (6, .pointer (some ⟨p, 7, none⟩))] = some (cwC p) := by kernel_rfl
set_option maxRecDepth 100000 in
set_option maxHeartbeats 1000000 in
theorem cwords_any (p : Nat) (w : World) : Calls Tryz.prog 77 #[.pointer (some ⟨p, 0, none⟩)] w fun e w' => e = .returned (.agg (cwC p)) ∧ Below w.heap.size w w' := by
  have HR := Lib.hid (Bk.new w 163 #[.pointer none, .pointer none, .pointer none, .pointer none, .pointer none, .pointer none, .pointer none])
  have HB := Lib.hid ((Below.refl w.heap.size w).alloc (Nat.le_refl _) (.cells #[.pointer none, .pointer none, .pointer none, .pointer none, .pointer none, .pointer none, .pointer none] 163))
  go_enter Tryz.func77, Tryz.ntmps77
  go_wp2_with fail
  generalize w.alloc (.cells #[.pointer none, .pointer none, .pointer none, .pointer none, .pointer none, .pointer none, .pointer none] 163) = X at *
  refine wp_region_held_drew (S := fun _ => True) (by kernel_rfl) trivial ?_
  intro hHeld
  refine wpAnyH_take (i := 0) (v := ?_) rfl (by kernel_rfl) (by kernel_rfl) (by kernel_rfl) (fun _ _ _ h => h) (Or.inl ⟨by rfl, ?_⟩) hHeld ?_
  rotate_left
  · (intro w hSw; (try dsimp only at hSw); go_simp)
    try with_reducible rfl
  try simp only [Act.put, List.getElem_toArray, List.getElem_cons_zero, List.getElem_cons_succ, List.setIfInBounds_toArray, List.set_cons_zero, List.set_cons_succ]
  refine wpAnyH_take (i := 1) (v := ?_) rfl (by kernel_rfl) (by kernel_rfl) (by kernel_rfl) (fun _ _ _ h => h) (Or.inl ⟨by rfl, ?_⟩) hHeld ?_
  rotate_left
  · (intro w hSw; (try dsimp only at hSw); go_simp)
    try with_reducible rfl
  try simp only [Act.put, List.getElem_toArray, List.getElem_cons_zero, List.getElem_cons_succ, List.setIfInBounds_toArray, List.set_cons_zero, List.set_cons_succ]
  refine wpAnyH_take (i := 2) (v := ?_) rfl (by kernel_rfl) (by kernel_rfl) (by kernel_rfl) (fun _ _ _ h => h) (Or.inl ⟨by rfl, ?_⟩) hHeld ?_
  rotate_left
  · (intro w hSw; (try dsimp only at hSw); go_simp)
    try with_reducible rfl
  try simp only [Act.put, List.getElem_toArray, List.getElem_cons_zero, List.getElem_cons_succ, List.setIfInBounds_toArray, List.set_cons_zero, List.set_cons_succ]
  refine wpAnyH_take (i := 3) (v := ?_) rfl (by kernel_rfl) (by kernel_rfl) (by kernel_rfl) (fun _ _ _ h => h) (Or.inl ⟨by rfl, ?_⟩) hHeld ?_
  rotate_left
  · (intro w hSw; (try dsimp only at hSw); go_simp)
    try with_reducible rfl
  try simp only [Act.put, List.getElem_toArray, List.getElem_cons_zero, List.getElem_cons_succ, List.setIfInBounds_toArray, List.set_cons_zero, List.set_cons_succ]
  refine wpAnyH_take (i := 4) (v := ?_) rfl (by kernel_rfl) (by kernel_rfl) (by kernel_rfl) (fun _ _ _ h => h) (Or.inl ⟨by rfl, ?_⟩) hHeld ?_
  rotate_left
  · (intro w hSw; (try dsimp only at hSw); go_simp)
    try with_reducible rfl
  try simp only [Act.put, List.getElem_toArray, List.getElem_cons_zero, List.getElem_cons_succ, List.setIfInBounds_toArray, List.set_cons_zero, List.set_cons_succ]
  refine wpAnyH_take (i := 5) (v := ?_) rfl (by kernel_rfl) (by kernel_rfl) (by kernel_rfl) (fun _ _ _ h => h) (Or.inl ⟨by rfl, ?_⟩) hHeld ?_
  rotate_left
  · (intro w hSw; (try dsimp only at hSw); go_simp)
    try with_reducible rfl
  try simp only [Act.put, List.getElem_toArray, List.getElem_cons_zero, List.getElem_cons_succ, List.setIfInBounds_toArray, List.set_cons_zero, List.set_cons_succ]
  refine wpAnyH_take (i := 6) (v := ?_) rfl (by kernel_rfl) (by kernel_rfl) (by kernel_rfl) (fun _ _ _ h => h) (Or.inl ⟨by rfl, ?_⟩) hHeld ?_
  rotate_left
  · (intro w hSw; (try dsimp only at hSw); go_simp)
    try with_reducible rfl
  try simp only [Act.put, List.getElem_toArray, List.getElem_cons_zero, List.getElem_cons_succ, List.setIfInBounds_toArray, List.set_cons_zero, List.set_cons_succ]
  refine wpAnyH_take (i := 7) (v := ?_) rfl (by kernel_rfl) (by kernel_rfl) (by kernel_rfl) (fun _ _ _ h => h) (Or.inl ⟨by rfl, ?_⟩) hHeld ?_
  rotate_left
  · (intro w hSw; (try dsimp only at hSw); go_simp)
    try with_reducible rfl
  try simp only [Act.put, List.getElem_toArray, List.getElem_cons_zero, List.getElem_cons_succ, List.setIfInBounds_toArray, List.set_cons_zero, List.set_cons_succ]
  refine wpAnyH_take (i := 8) (v := ?_) rfl (by kernel_rfl) (by kernel_rfl) (by kernel_rfl) (fun _ _ _ h => h) (Or.inl ⟨by rfl, ?_⟩) hHeld ?_
  rotate_left
  · (intro w hSw; (try dsimp only at hSw); go_simp)
    try with_reducible rfl
  try simp only [Act.put, List.getElem_toArray, List.getElem_cons_zero, List.getElem_cons_succ, List.setIfInBounds_toArray, List.set_cons_zero, List.set_cons_succ]
  refine wpAnyH_take (i := 9) (v := ?_) rfl (by kernel_rfl) (by kernel_rfl) (by kernel_rfl) (fun _ _ _ h => h) (Or.inl ⟨by rfl, ?_⟩) hHeld ?_
  rotate_left
  · (intro w hSw; (try dsimp only at hSw); go_simp)
    try with_reducible rfl
  try simp only [Act.put, List.getElem_toArray, List.getElem_cons_zero, List.getElem_cons_succ, List.setIfInBounds_toArray, List.set_cons_zero, List.set_cons_succ]
  refine wpAnyH_take (i := 10) (v := ?_) rfl (by kernel_rfl) (by kernel_rfl) (by kernel_rfl) (fun _ _ _ h => h) (Or.inl ⟨by rfl, ?_⟩) hHeld ?_
  rotate_left
  · (intro w hSw; (try dsimp only at hSw); go_simp)
    try with_reducible rfl
  try simp only [Act.put, List.getElem_toArray, List.getElem_cons_zero, List.getElem_cons_succ, List.setIfInBounds_toArray, List.set_cons_zero, List.set_cons_succ]
  refine wpAnyH_take (i := 11) (v := ?_) rfl (by kernel_rfl) (by kernel_rfl) (by kernel_rfl) (fun _ _ _ h => h) (Or.inl ⟨by rfl, ?_⟩) hHeld ?_
  rotate_left
  · (intro w hSw; (try dsimp only at hSw); go_simp)
    try with_reducible rfl
  try simp only [Act.put, List.getElem_toArray, List.getElem_cons_zero, List.getElem_cons_succ, List.setIfInBounds_toArray, List.set_cons_zero, List.set_cons_succ]
  refine wpAnyH_take (i := 12) (v := ?_) rfl (by kernel_rfl) (by kernel_rfl) (by kernel_rfl) (fun _ _ _ h => h) (Or.inl ⟨by rfl, ?_⟩) hHeld ?_
  rotate_left
  · (intro w hSw; (try dsimp only at hSw); go_simp)
    try with_reducible rfl
  try simp only [Act.put, List.getElem_toArray, List.getElem_cons_zero, List.getElem_cons_succ, List.setIfInBounds_toArray, List.set_cons_zero, List.set_cons_succ]
  refine wpAnyH_take (i := 13) (v := ?_) rfl (by kernel_rfl) (by kernel_rfl) (by kernel_rfl) (fun _ _ _ h => h) (Or.inl ⟨by rfl, ?_⟩) hHeld ?_
  rotate_left
  · (intro w hSw; (try dsimp only at hSw); go_simp)
    try with_reducible rfl
  try simp only [Act.put, List.getElem_toArray, List.getElem_cons_zero, List.getElem_cons_succ, List.setIfInBounds_toArray, List.set_cons_zero, List.set_cons_succ]
  refine wpAnyH_take (i := 14) (v := ?_) rfl (by kernel_rfl) (by kernel_rfl) (by kernel_rfl) (fun _ _ _ h => h) (Or.inl ⟨by rfl, ?_⟩) hHeld ?_
  rotate_left
  · (intro w hSw; (try dsimp only at hSw); go_simp)
    try with_reducible rfl
  try simp only [Act.put, List.getElem_toArray, List.getElem_cons_zero, List.getElem_cons_succ, List.setIfInBounds_toArray, List.set_cons_zero, List.set_cons_succ]
  refine wpAnyH_take (i := 15) (v := ?_) rfl (by kernel_rfl) (by kernel_rfl) (by kernel_rfl) (fun _ _ _ h => h) (Or.inl ⟨by rfl, ?_⟩) hHeld ?_
  rotate_left
  · (intro w hSw; (try dsimp only at hSw); go_simp)
    try with_reducible rfl
  try simp only [Act.put, List.getElem_toArray, List.getElem_cons_zero, List.getElem_cons_succ, List.setIfInBounds_toArray, List.set_cons_zero, List.set_cons_succ]
  refine wpAnyH_take (i := 16) (v := ?_) rfl (by kernel_rfl) (by kernel_rfl) (by kernel_rfl) (fun _ _ _ h => h) (Or.inl ⟨by rfl, ?_⟩) hHeld ?_
  rotate_left
  · (intro w hSw; (try dsimp only at hSw); go_simp)
    try with_reducible rfl
  try simp only [Act.put, List.getElem_toArray, List.getElem_cons_zero, List.getElem_cons_succ, List.setIfInBounds_toArray, List.set_cons_zero, List.set_cons_succ]
  refine wpAnyH_take (i := 17) (v := ?_) rfl (by kernel_rfl) (by kernel_rfl) (by kernel_rfl) (fun _ _ _ h => h) (Or.inl ⟨by rfl, ?_⟩) hHeld ?_
  rotate_left
  · (intro w hSw; (try dsimp only at hSw); go_simp)
    try with_reducible rfl
  try simp only [Act.put, List.getElem_toArray, List.getElem_cons_zero, List.getElem_cons_succ, List.setIfInBounds_toArray, List.set_cons_zero, List.set_cons_succ]
  refine wpAnyH_take (i := 18) (v := ?_) rfl (by kernel_rfl) (by kernel_rfl) (by kernel_rfl) (fun _ _ _ h => h) (Or.inl ⟨by rfl, ?_⟩) hHeld ?_
  rotate_left
  · (intro w hSw; (try dsimp only at hSw); go_simp)
    try with_reducible rfl
  try simp only [Act.put, List.getElem_toArray, List.getElem_cons_zero, List.getElem_cons_succ, List.setIfInBounds_toArray, List.set_cons_zero, List.set_cons_succ]
  refine wpAnyH_take (i := 19) (v := ?_) rfl (by kernel_rfl) (by kernel_rfl) (by kernel_rfl) (fun _ _ _ h => h) (Or.inl ⟨by rfl, ?_⟩) hHeld ?_
  rotate_left
  · (intro w hSw; (try dsimp only at hSw); go_simp)
    try with_reducible rfl
  try simp only [Act.put, List.getElem_toArray, List.getElem_cons_zero, List.getElem_cons_succ, List.setIfInBounds_toArray, List.set_cons_zero, List.set_cons_succ]
  refine wpAnyH_take (i := 20) (v := ?_) rfl (by kernel_rfl) (by kernel_rfl) (by kernel_rfl) (fun _ _ _ h => h) (Or.inl ⟨by rfl, ?_⟩) hHeld ?_
  rotate_left
  · (intro w hSw; (try dsimp only at hSw); go_simp)
    try with_reducible rfl
  try simp only [Act.put, List.getElem_toArray, List.getElem_cons_zero, List.getElem_cons_succ, List.setIfInBounds_toArray, List.set_cons_zero, List.set_cons_succ]
  refine wpAnyH_take (i := 21) (v := .agg (cwC p)) rfl (by kernel_rfl) (by kernel_rfl) (by kernel_rfl) (fun _ _ _ h => h) (yieldsIf_build (by rfl) 163 _ rfl [(0, .pointer (some ⟨p, 1, none⟩)), (1, .pointer (some ⟨p, 2, none⟩)), (2, .pointer (some ⟨p, 3, none⟩)), (3, .pointer (some ⟨p, 4, none⟩)), (4, .pointer (some ⟨p, 5, none⟩)), (5, .pointer (some ⟨p, 6, none⟩)), (6, .pointer (some ⟨p, 7, none⟩))] rfl _ (built_cw p)) hHeld ?_
  try simp only [Act.put, List.getElem_toArray, List.getElem_cons_zero, List.getElem_cons_succ, List.setIfInBounds_toArray, List.set_cons_zero, List.set_cons_succ]
  have hR2 : Bk X.drew w.heap.size 163 #[.pointer none, .pointer none, .pointer none, .pointer none, .pointer none, .pointer none, .pointer none] := HR.out.drew
  have kR := hR2.all (cwC p).toList rfl
  rw [Array.toArray_toList] at kR
  have HE := Lib.hid (And.intro kR (below_setCells w.heap.size (Nat.le_refl _) (cwC p).toList (show Below w.heap.size w X.drew from below_drewN HB.out 1) 0))
  refine wpAnyH_ready (rs := [22]) (by kernel_rfl) (by simp) ?_
  refine (AllReadyH.cons rfl (fun K hK => ?_) AllReadyH.nil)
  refine step_store_mid (by rfl) 163 (.tmp 2) (.tmp 28) (by rfl) w.heap.size 0 (cwC p) (by rfl) (by rfl) (hR2.there _ (Nat.le_refl 7)) (by kernel_rfl) (by kernel_rfl) ?_
  refine hK.out _ _ trivial (fun _ => ?_)
  clear hK K hHeld kR hR2
  refine wpAnyH_done (by kernel_rfl) ?_ _
  try simp only [Act.put, List.getElem_toArray, List.getElem_cons_zero, List.getElem_cons_succ, List.setIfInBounds_toArray, List.set_cons_zero, List.set_cons_succ]
  generalize X.drew.setCells w.heap.size 0 (cwC p).toList = Z at *
  go_wp2_with fail
  have hi : (Tryz.prog.info? 163).map (·.size) = some (cwC p).size := by kernel_rfl
  refine bodyPost_ret (results_cell_row rfl _ _ w.heap.size _ (cwC p) _ _ rfl HE.out.1 Tryz.underlying163 rfl hi) rfl ⟨rfl, HE.out.2⟩
/-- A card of zeros. -/
def czC : Array Value := #[.string ⟨#[]⟩, .int .u32 0, .int .u32 0, .int .u32 0, .int .u32 0, .int .u32 0, .int .u32 0, .int .u32 0, .bool false]
set_option maxRecDepth 100000 in
set_option maxHeartbeats 2000000 in
theorem fill_no (q g p : Nat) (b : List UInt8) (at_ : Int) (w : World) (h : Rd w q g b at_ false) (hp : Bk w p 132 czC) :
    Calls Tryz.prog 76 #[.pointer (some ⟨q, 0, none⟩), .agg (cwC p)] w fun e w' => e = .returned (.tuple #[]) ∧ Rd w' q g b at_ false ∧ Bk w' p 132 czC ∧ Fr (fun i => i = q ∨ i = p) w w' := by
  have hA := (Below.refl w.heap.size w).alloc (Nat.le_refl _) (.cells (cwC p) 163)
  have HX := Lib.hid (And.intro (h.below hA) (And.intro (hp.below hA hp.lt) (Fr.of_all hA (fun i => i = q ∨ i = p))))
  have hpq : p ≠ q := bk_ne hp h.1 (by decide)
  have hpg : g ≠ p := bk_ne h.2 hp (by decide)
  clear h hp hA
  simp only [cwC]
  go_enter Tryz.func76, Tryz.ntmps76
  go_wp2_with fail
  simp only [cwC] at HX
  generalize w.alloc (.cells #[.pointer (some ⟨p, 1, none⟩), .pointer (some ⟨p, 2, none⟩), .pointer (some ⟨p, 3, none⟩), .pointer (some ⟨p, 4, none⟩), .pointer (some ⟨p, 5, none⟩), .pointer (some ⟨p, 6, none⟩), .pointer (some ⟨p, 7, none⟩)] 163) = X at *
  go_loopw [7] (fun i wr => ∃ (j : Nat), j ≤ 7 ∧ i = .int .i64 j ∧ Rd wr q g b at_ false ∧ Bk wr p 132 czC ∧ Fr (fun i => i = q ∨ i = p) w wr) (fun i _ => 7 - (intOf i).toNat)
  case atStart => exact ⟨0, by omega, rfl, HX.out.1, HX.out.2.1, HX.out.2.2⟩
  case round =>
    obtain ⟨j, hj, rfl, hR, hP, hF⟩ := hrel
    have HR := Lib.hid hR
    have HP := Lib.hid hP
    have HF := Lib.hid hF
    clear hR hP hF HX
    obtain rfl | rfl | rfl | rfl | rfl | rfl | rfl | rfl : j = 0 ∨ j = 1 ∨ j = 2 ∨ j = 3 ∨ j = 4 ∨ j = 5 ∨ j = 6 ∨ j = 7 := by omega
    · have hix : (Instr.index 163 (.agg #[.pointer (some ⟨p, 1, none⟩), .pointer (some ⟨p, 2, none⟩), .pointer (some ⟨p, 3, none⟩), .pointer (some ⟨p, 4, none⟩), .pointer (some ⟨p, 5, none⟩), .pointer (some ⟨p, 6, none⟩), .pointer (some ⟨p, 7, none⟩)]) (.int .i64 0)).run Tryz.prog wr = .ok (.pointer (some ⟨p, 1, none⟩)) wr := by kernel_rfl
      go_wp2_with fail
      clear hix
      refine (rnum_no q g b at_ 4 (by omega) _ HR.out).mono ?_
      rintro e w1 ⟨rfl, h1, h2⟩
      have k1 := HP.out.fr h2 hpq
      have d0 : w1.cell? ⟨p, 1, none⟩ = some (.int .u32 0) := k1.cell 1
      have g0 : w1.frozen? ⟨p, 1, none⟩ = false := k1.frozen 1
      have HE := Lib.hid (And.intro (h1.far (p := ⟨p, 1, none⟩) (Ne.symm hpq) hpg (.int .u32 0)) (And.intro (show Bk (w1.setCell ⟨p, 1, none⟩ (.int .u32 0)) p 132 czC from k1.set 1 _) ((HF.out.trans h2 (fun _ _ h => Or.inl h)).setCell (p := ⟨p, 1, none⟩) (fun _ => Or.inr rfl) (.int .u32 0))))
      clear h1 h2 k1 HR HP HF
      go_wp2_with fail
      go_roundw
      case rel => exact ⟨1, by omega, rfl, HE.out.1, HE.out.2.1, HE.out.2.2⟩
      case measure => simp [intOf]
    · have hix : (Instr.index 163 (.agg #[.pointer (some ⟨p, 1, none⟩), .pointer (some ⟨p, 2, none⟩), .pointer (some ⟨p, 3, none⟩), .pointer (some ⟨p, 4, none⟩), .pointer (some ⟨p, 5, none⟩), .pointer (some ⟨p, 6, none⟩), .pointer (some ⟨p, 7, none⟩)]) (.int .i64 1)).run Tryz.prog wr = .ok (.pointer (some ⟨p, 2, none⟩)) wr := by kernel_rfl
      go_wp2_with fail
      clear hix
      refine (rnum_no q g b at_ 4 (by omega) _ HR.out).mono ?_
      rintro e w1 ⟨rfl, h1, h2⟩
      have k1 := HP.out.fr h2 hpq
      have d0 : w1.cell? ⟨p, 2, none⟩ = some (.int .u32 0) := k1.cell 2
      have g0 : w1.frozen? ⟨p, 2, none⟩ = false := k1.frozen 2
      have HE := Lib.hid (And.intro (h1.far (p := ⟨p, 2, none⟩) (Ne.symm hpq) hpg (.int .u32 0)) (And.intro (show Bk (w1.setCell ⟨p, 2, none⟩ (.int .u32 0)) p 132 czC from k1.set 2 _) ((HF.out.trans h2 (fun _ _ h => Or.inl h)).setCell (p := ⟨p, 2, none⟩) (fun _ => Or.inr rfl) (.int .u32 0))))
      clear h1 h2 k1 HR HP HF
      go_wp2_with fail
      go_roundw
      case rel => exact ⟨2, by omega, rfl, HE.out.1, HE.out.2.1, HE.out.2.2⟩
      case measure => simp [intOf]
    · have hix : (Instr.index 163 (.agg #[.pointer (some ⟨p, 1, none⟩), .pointer (some ⟨p, 2, none⟩), .pointer (some ⟨p, 3, none⟩), .pointer (some ⟨p, 4, none⟩), .pointer (some ⟨p, 5, none⟩), .pointer (some ⟨p, 6, none⟩), .pointer (some ⟨p, 7, none⟩)]) (.int .i64 2)).run Tryz.prog wr = .ok (.pointer (some ⟨p, 3, none⟩)) wr := by kernel_rfl
      go_wp2_with fail
      clear hix
      refine (rnum_no q g b at_ 4 (by omega) _ HR.out).mono ?_
      rintro e w1 ⟨rfl, h1, h2⟩
      have k1 := HP.out.fr h2 hpq
      have d0 : w1.cell? ⟨p, 3, none⟩ = some (.int .u32 0) := k1.cell 3
      have g0 : w1.frozen? ⟨p, 3, none⟩ = false := k1.frozen 3
      have HE := Lib.hid (And.intro (h1.far (p := ⟨p, 3, none⟩) (Ne.symm hpq) hpg (.int .u32 0)) (And.intro (show Bk (w1.setCell ⟨p, 3, none⟩ (.int .u32 0)) p 132 czC from k1.set 3 _) ((HF.out.trans h2 (fun _ _ h => Or.inl h)).setCell (p := ⟨p, 3, none⟩) (fun _ => Or.inr rfl) (.int .u32 0))))
      clear h1 h2 k1 HR HP HF
      go_wp2_with fail
      go_roundw
      case rel => exact ⟨3, by omega, rfl, HE.out.1, HE.out.2.1, HE.out.2.2⟩
      case measure => simp [intOf]
    · have hix : (Instr.index 163 (.agg #[.pointer (some ⟨p, 1, none⟩), .pointer (some ⟨p, 2, none⟩), .pointer (some ⟨p, 3, none⟩), .pointer (some ⟨p, 4, none⟩), .pointer (some ⟨p, 5, none⟩), .pointer (some ⟨p, 6, none⟩), .pointer (some ⟨p, 7, none⟩)]) (.int .i64 3)).run Tryz.prog wr = .ok (.pointer (some ⟨p, 4, none⟩)) wr := by kernel_rfl
      go_wp2_with fail
      clear hix
      refine (rnum_no q g b at_ 4 (by omega) _ HR.out).mono ?_
      rintro e w1 ⟨rfl, h1, h2⟩
      have k1 := HP.out.fr h2 hpq
      have d0 : w1.cell? ⟨p, 4, none⟩ = some (.int .u32 0) := k1.cell 4
      have g0 : w1.frozen? ⟨p, 4, none⟩ = false := k1.frozen 4
      have HE := Lib.hid (And.intro (h1.far (p := ⟨p, 4, none⟩) (Ne.symm hpq) hpg (.int .u32 0)) (And.intro (show Bk (w1.setCell ⟨p, 4, none⟩ (.int .u32 0)) p 132 czC from k1.set 4 _) ((HF.out.trans h2 (fun _ _ h => Or.inl h)).setCell (p := ⟨p, 4, none⟩) (fun _ => Or.inr rfl) (.int .u32 0))))
      clear h1 h2 k1 HR HP HF
      go_wp2_with fail
      go_roundw
      case rel => exact ⟨4, by omega, rfl, HE.out.1, HE.out.2.1, HE.out.2.2⟩
      case measure => simp [intOf]
    · have hix : (Instr.index 163 (.agg #[.pointer (some ⟨p, 1, none⟩), .pointer (some ⟨p, 2, none⟩), .pointer (some ⟨p, 3, none⟩), .pointer (some ⟨p, 4, none⟩), .pointer (some ⟨p, 5, none⟩), .pointer (some ⟨p, 6, none⟩), .pointer (some ⟨p, 7, none⟩)]) (.int .i64 4)).run Tryz.prog wr = .ok (.pointer (some ⟨p, 5, none⟩)) wr := by kernel_rfl
      go_wp2_with fail
      clear hix
      refine (rnum_no q g b at_ 4 (by omega) _ HR.out).mono ?_
      rintro e w1 ⟨rfl, h1, h2⟩
      have k1 := HP.out.fr h2 hpq
      have d0 : w1.cell? ⟨p, 5, none⟩ = some (.int .u32 0) := k1.cell 5
      have g0 : w1.frozen? ⟨p, 5, none⟩ = false := k1.frozen 5
      have HE := Lib.hid (And.intro (h1.far (p := ⟨p, 5, none⟩) (Ne.symm hpq) hpg (.int .u32 0)) (And.intro (show Bk (w1.setCell ⟨p, 5, none⟩ (.int .u32 0)) p 132 czC from k1.set 5 _) ((HF.out.trans h2 (fun _ _ h => Or.inl h)).setCell (p := ⟨p, 5, none⟩) (fun _ => Or.inr rfl) (.int .u32 0))))
      clear h1 h2 k1 HR HP HF
      go_wp2_with fail
      go_roundw
      case rel => exact ⟨5, by omega, rfl, HE.out.1, HE.out.2.1, HE.out.2.2⟩
      case measure => simp [intOf]
    · have hix : (Instr.index 163 (.agg #[.pointer (some ⟨p, 1, none⟩), .pointer (some ⟨p, 2, none⟩), .pointer (some ⟨p, 3, none⟩), .pointer (some ⟨p, 4, none⟩), .pointer (some ⟨p, 5, none⟩), .pointer (some ⟨p, 6, none⟩), .pointer (some ⟨p, 7, none⟩)]) (.int .i64 5)).run Tryz.prog wr = .ok (.pointer (some ⟨p, 6, none⟩)) wr := by kernel_rfl
      go_wp2_with fail
      clear hix
      refine (rnum_no q g b at_ 4 (by omega) _ HR.out).mono ?_
      rintro e w1 ⟨rfl, h1, h2⟩
      have k1 := HP.out.fr h2 hpq
      have d0 : w1.cell? ⟨p, 6, none⟩ = some (.int .u32 0) := k1.cell 6
      have g0 : w1.frozen? ⟨p, 6, none⟩ = false := k1.frozen 6
      have HE := Lib.hid (And.intro (h1.far (p := ⟨p, 6, none⟩) (Ne.symm hpq) hpg (.int .u32 0)) (And.intro (show Bk (w1.setCell ⟨p, 6, none⟩ (.int .u32 0)) p 132 czC from k1.set 6 _) ((HF.out.trans h2 (fun _ _ h => Or.inl h)).setCell (p := ⟨p, 6, none⟩) (fun _ => Or.inr rfl) (.int .u32 0))))
      clear h1 h2 k1 HR HP HF
      go_wp2_with fail
      go_roundw
      case rel => exact ⟨6, by omega, rfl, HE.out.1, HE.out.2.1, HE.out.2.2⟩
      case measure => simp [intOf]
    · have hix : (Instr.index 163 (.agg #[.pointer (some ⟨p, 1, none⟩), .pointer (some ⟨p, 2, none⟩), .pointer (some ⟨p, 3, none⟩), .pointer (some ⟨p, 4, none⟩), .pointer (some ⟨p, 5, none⟩), .pointer (some ⟨p, 6, none⟩), .pointer (some ⟨p, 7, none⟩)]) (.int .i64 6)).run Tryz.prog wr = .ok (.pointer (some ⟨p, 7, none⟩)) wr := by kernel_rfl
      go_wp2_with fail
      clear hix
      refine (rnum_no q g b at_ 4 (by omega) _ HR.out).mono ?_
      rintro e w1 ⟨rfl, h1, h2⟩
      have k1 := HP.out.fr h2 hpq
      have d0 : w1.cell? ⟨p, 7, none⟩ = some (.int .u32 0) := k1.cell 7
      have g0 : w1.frozen? ⟨p, 7, none⟩ = false := k1.frozen 7
      have HE := Lib.hid (And.intro (h1.far (p := ⟨p, 7, none⟩) (Ne.symm hpq) hpg (.int .u32 0)) (And.intro (show Bk (w1.setCell ⟨p, 7, none⟩ (.int .u32 0)) p 132 czC from k1.set 7 _) ((HF.out.trans h2 (fun _ _ h => Or.inl h)).setCell (p := ⟨p, 7, none⟩) (fun _ => Or.inr rfl) (.int .u32 0))))
      clear h1 h2 k1 HR HP HF
      go_wp2_with fail
      go_roundw
      case rel => exact ⟨7, by omega, rfl, HE.out.1, HE.out.2.1, HE.out.2.2⟩
      case measure => simp [intOf]
    · go_wp2_with fail
      go_end0
      exact ⟨rfl, HR.out, HP.out, HF.out⟩
end Go.Proofs.YtjnbpbnhkinggaaGreatDoor.St
