/- Contracts of fsck.some, fsck.look, where there are no names, or there is no root. -/
import Derived.Test.YtjnbpbnhkinggaaGreatDoorNStage
namespace Go.Proofs.YtjnbpbnhkinggaaGreatDoor.St
open Go.RowKit

set_option maxRecDepth 100000 in
theorem some_zero (x : Nat) (w : World) (h : Bk w x 22 #[.int .u32 0]) : Calls Tryz.prog 31 #[.int .u8 4, .slice (some ⟨x, 0, none⟩) 1 1] w fun e w' => e = .returned (.slice none 0 0) ∧ w = w' := by
  have c0 : w.cell? ⟨x, 0, none⟩ = some (.int .u32 0) := h.cell 0
  clear h
  go_enter Tryz.func31, Tryz.ntmps31
  go_wp2_with fail
  go_loop [5, 10] (fun v i => ∃ j : Nat, (j = 0 ∨ j = 1) ∧ i = .int .i64 j ∧ v = .slice none 0 0) (fun _ i => 1 - (intOf i).toNat)
  case atStart => exact ⟨0, Or.inl rfl, rfl, rfl⟩
  case round =>
    obtain ⟨j, hj, rfl, rfl⟩ := hrel
    rcases hj with rfl | rfl
    · go_wp2_with fail
      go_round
      case rel => exact ⟨1, Or.inr rfl, rfl, rfl⟩
      case measure => simp [intOf]
    · go_wp2_with fail
      go_ret
      exact ⟨rfl, rfl⟩
theorem mount_nil (w : World) : Calls Tryz.prog 29 #[.pointer none] w fun e w' => e = .returned (.tuple #[.agg rz.cells, .int .i64 1]) ∧ Below w.heap.size w w' := by
  go_enter Tryz.func29, Tryz.ntmps29
  go_wp2_with fail
  refine (rnone_nil _).mono ?_
  rintro e w1 ⟨rfl, rfl⟩
  go_wp2_with fail
  refine bodyPost_ret (v := .tuple #[.agg rz.cells, .int .i64 1]) (by simp [results, Tryz.results29, go_sem, Rt.cells, rz]) rfl ⟨rfl, (Below.refl _ _).alloc (Nat.le_refl _) _⟩
/-- The three results of a function, the second one of which is a row. -/
theorem results_tmp_row_tmp {P : Program} {fn : Func} {a p u : Tmp} {ty : TypeId} (h : fn.results = #[.tmp a, .cell p ty, .tmp u]) (tmps : Array Value) (w : World) (g : Nat) (t : TypeId) (cs : Array Value) (d : TypeDesc)
    (hp : tmps.getD p undef = .pointer (some ⟨g, 0, none⟩)) (hg : Bk w g t cs)
    (hu : P.underlying ty = some d) (hd : (match d with | .struct _ | .array _ _ => true | _ => false) = true) (hi : (P.info? ty).map (·.size) = some cs.size) :
    (results fn tmps).run P w = .ok (.tuple #[tmps.getD a undef, .agg cs, tmps.getD u undef]) w := by
  have hp' : tmps[p]?.getD undef = .pointer (some ⟨g, 0, none⟩) := by simpa using hp
  simp only [results, h]
  simp [Sem.run_bind, Result.andThen, hp', asAddr, run_loadVar_row w g t ty cs (0, 0) d hg hu hd hi]
attribute [local go_sem ↓] Go.wp_at_zero Go.wp_at_succ
set_option maxRecDepth 100000 in
set_option maxHeartbeats 1000000 in
theorem look_err (dv : Value) (er : Int) (he : (er != 0) = true) (w : World) (hM : ∀ X, Below w.heap.size w X → Calls Tryz.prog 29 #[dv] X fun e w' => e = .returned (.tuple #[.agg rz.cells, .int .i64 er]) ∧ Below X.heap.size X w') :
    Calls Tryz.prog 16 #[dv] w fun e w' => e = .returned (.tuple #[.pointer none, .agg rz.cells, .int .i64 er]) ∧ Below w.heap.size w w' := by
  have hB0 := (Below.refl w.heap.size w).alloc (Nat.le_refl _) (.cells rz.cells 30)
  have HM := Lib.hid (hM _ hB0)
  have HR0 := Lib.hid (Bk.new w 30 rz.cells)
  have HB0 := Lib.hid hB0
  clear hB0 hM
  go_enter Tryz.func16, Tryz.ntmps16
  go_wp2_with fail
  refine wp_scope_straight ?_
  go_wp2_with fail
  refine HM.out.mono ?_
  rintro e w1 ⟨rfl, hb1⟩
  have hR1 := HR0.out.below hb1 HR0.out.lt
  have hB1 := HB0.out.trans (hb1.mono HB0.out.size)
  have hA := (Below.refl w1.heap.size w1).alloc (Nat.le_refl _) (.cells #[.int .u64 0, .int .u32 0, .int .u32 0, .int .u32 0, .int .u32 0, .int .u32 0, .int .u32 0, .int .u8 0] 30)
  have HR1 := Lib.hid (hR1.below hA hR1.lt)
  have HB1 := Lib.hid (hB1.trans (hA.mono hB1.size))
  have HK1 := Lib.hid (show Bk (w1.alloc (.cells #[.int .u64 0, .int .u32 0, .int .u32 0, .int .u32 0, .int .u32 0, .int .u32 0, .int .u32 0, .int .u8 0] 30)) w1.heap.size 30 rz.cells from Bk.new w1 _ _)
  have hne : w1.heap.size ≠ w.heap.size := Nat.ne_of_gt hR1.lt
  clear hb1 HR0 HB0 HM hA hR1 hB1
  simp only [Rt.cells, rz]
  go_wp2_with fail
  generalize w1.alloc (.cells #[.int .u64 0, .int .u32 0, .int .u32 0, .int .u32 0, .int .u32 0, .int .u32 0, .int .u32 0, .int .u8 0] 30) = X at *
  generalize w1.heap.size = p5 at *
  refine wp_region_held_drew (S := fun Y => Bk Y p5 30 rz.cells) (by kernel_rfl) HK1.out ?_
  intro hHeld
  refine wpAnyH_take (i := 0) (v := .agg rz.cells) rfl (by kernel_rfl) (by kernel_rfl) (by kernel_rfl) (fun _ _ _ h => h) (yieldsIf_load_arr (by rfl) 30 _ rfl p5 0 rfl rz.cells _ (fun w h => Bk.range h) Tryz.underlying30 rfl (by kernel_rfl)) hHeld ?_
  try simp only [Act.put, List.getElem_toArray, List.getElem_cons_zero, List.getElem_cons_succ, List.setIfInBounds_toArray, List.set_cons_zero, List.set_cons_succ]
  refine wpAnyH_take (i := 1) (v := ?_) rfl (by kernel_rfl) (by kernel_rfl) (by kernel_rfl) (fun _ _ _ h => h) (Or.inl ⟨by rfl, ?_⟩) hHeld ?_
  rotate_left
  · (intro w hSw; (try dsimp only at hSw); go_simp)
    try with_reducible rfl
  try simp only [Act.put, List.getElem_toArray, List.getElem_cons_zero, List.getElem_cons_succ, List.setIfInBounds_toArray, List.set_cons_zero, List.set_cons_succ]
  refine wpAnyH_take (i := 2) (v := ?_) rfl (by kernel_rfl) (by kernel_rfl) (by kernel_rfl) (fun _ _ _ h => h) (Or.inl ⟨by rfl, ?_⟩) hHeld ?_
  rotate_left
  · (intro w hSw; (try dsimp only at hSw); go_simp)
    try with_reducible rfl
  try simp only [Act.put, List.getElem_toArray, List.getElem_cons_zero, List.getElem_cons_succ, List.setIfInBounds_toArray, List.set_cons_zero, List.set_cons_succ]
  have hR2 : Bk X.drew w.heap.size 30 rz.cells := HR1.out.drew
  have kR := hR2.all rz.cells.toList rfl
  rw [Array.toArray_toList] at kR
  have HE := Lib.hid (And.intro kR (below_setCells w.heap.size (Nat.le_refl _) rz.cells.toList (below_drewN HB1.out 1) 0))
  refine wpAnyH_ready (rs := [3]) (by kernel_rfl) (by simp) ?_
  refine (AllReadyH.cons rfl (fun K hK => ?_) AllReadyH.nil)
  refine step_store_mid (by rfl) 30 (.tmp 3) (.tmp 21) (by rfl) w.heap.size 0 rz.cells (by rfl) (by rfl) (hR2.there _ (Nat.le_refl 8)) (by kernel_rfl) (by kernel_rfl) ?_
  refine hK.out _ _ (Bk.farCells w.heap.size hne _ hHeld 0) (fun hH => ?_)
  clear hK K hHeld
  have hHeld := hH
  clear hH
  try simp only [Act.put, List.getElem_toArray, List.getElem_cons_zero, List.getElem_cons_succ, List.setIfInBounds_toArray, List.set_cons_zero, List.set_cons_succ]
  refine wpAnyH_take (i := 4) (v := ?_) rfl (by kernel_rfl) (by kernel_rfl) (by kernel_rfl) (fun _ _ _ h => h) (Or.inl ⟨by rfl, ?_⟩) hHeld ?_
  rotate_left
  · (intro w hSw; (try dsimp only at hSw); go_simp)
    try with_reducible rfl
  try simp only [Act.put, List.getElem_toArray, List.getElem_cons_zero, List.getElem_cons_succ, List.setIfInBounds_toArray, List.set_cons_zero, List.set_cons_succ]
  refine wpAnyH_done (by kernel_rfl) ?_ _
  try simp only [Act.put, List.getElem_toArray, List.getElem_cons_zero, List.getElem_cons_succ, List.setIfInBounds_toArray, List.set_cons_zero, List.set_cons_succ]
  clear hHeld hR2 kR
  change Hid (Bk (X.drew.setCells w.heap.size 0 rz.cells.toList) w.heap.size 30 rz.cells ∧ Below w.heap.size w (X.drew.setCells w.heap.size 0 rz.cells.toList)) at HE
  generalize X.drew.setCells w.heap.size 0 rz.cells.toList = Z at *
  go_wp2_with fail
  rw [Exit.noGoto_ret]
  refine bodyPost_ret (results_tmp_row_tmp rfl _ _ w.heap.size _ rz.cells _ rfl HE.out.1 Tryz.underlying30 rfl (by kernel_rfl)) rfl ⟨rfl, HE.out.2⟩
/-- A walk's cells. -/
def wkC (s me mn : Nat) : Array Value := #[.pointer (some ⟨s, 0, none⟩), .map (some me), .map (some mn)]
/-- What fsck.look leaves, where there are no names. -/
structure Wk (w : World) (wk s sp t d m k mp mt ms mf me mn np nt : Nat) (r : Rt) (n wt : Int) (g : Int → List UInt8) : Prop where
  b : Bk w wk 66 (wkC s me mn)
  sg : Sg w s sp t d mp mt ms mf np nt 0 0 r n (fun _ => 0) r.free r.hint 0 0 (fun _ => none)
  dz : Dz w d m k n wt g mp mt ms
  e : w.heap[me]? = some (.map #[] 0)
  ny : Mp w mn 0 (fun _ => none)
  n1 : mn ≠ mp
  n2 : mn ≠ mt
  n3 : me ≠ mp
  n4 : me ≠ mt
section
variable {w w' : World} {wk s sp t d m k mp mt ms mf me mn np nt : Nat} {r : Rt} {n wt : Int} {g : Int → List UInt8}
theorem Wk.fr {S : Nat → Prop} (h : Wk w wk s sp t d m k mp mt ms mf me mn np nt r n wt g) (hf : Fr S w w') (h0 : ¬ S wk) (h1 : ¬ S s) (h2 : ¬ S sp) (h3 : ¬ S t) (h4 : ¬ S d) (h5 : ¬ S m) (h6 : ¬ S mp) (h7 : ¬ S mt) (h8 : ¬ S ms) (h9 : ¬ S mf) (h10 : ¬ S me) (h11 : ¬ S mn) : Wk w' wk s sp t d m k mp mt ms mf me mn np nt r n wt g :=
  ⟨h.b.fr hf h0, h.sg.fr hf h1 h2 h3 h6 h7 h8 h9, h.dz.fr hf h4 h5, (hf.block me (by have := h.e; rcases Nat.lt_or_ge me w.heap.size with l | l; exact l; rw [Array.getElem?_eq_none l] at this; cases this) h10).trans h.e, h.ny.fr hf h11, h.n1, h.n2, h.n3, h.n4⟩
theorem Wk.below (h : Wk w wk s sp t d m k mp mt ms mf me mn np nt r n wt g) (hb : Below w.heap.size w w') : Wk w' wk s sp t d m k mp mt ms mf me mn np nt r n wt g := h.fr (Fr.of_all hb (fun _ => False)) (fun h => h) (fun h => h) (fun h => h) (fun h => h) (fun h => h) (fun h => h) (fun h => h) (fun h => h) (fun h => h) (fun h => h) (fun h => h) (fun h => h)
/-- A block of a type of its own is written. -/
theorem Wk.apart (h : Wk w wk s sp t d m k mp mt ms mf me mn np nt r n wt g) {x : Nat} {ty : TypeId} {cs : Array Value} (hx : Bk w x ty cs) (t1 : ty ≠ 66) (t2 : ty ≠ 94) (t3 : ty ≠ 140) (t4 : ty ≠ 155) (t5 : ty ≠ 46) (hf : Fr (fun i => i = x) w w') : Wk w' wk s sp t d m k mp mt ms mf me mn np nt r n wt g :=
  h.fr hf (bk_ne h.b hx t1) (bk_ne h.sg.b hx t2) (bk_ne h.sg.p hx t3) (bk_ne h.sg.t.b hx t4) (bk_ne h.dz.v.b hx t5) (mp_ne h.dz.v.m hx) (let ⟨_, a, _⟩ := h.sg.t.p; mp_ne a hx) (let ⟨_, a, _⟩ := h.sg.t.q; mp_ne a hx) (mp_ne h.sg.t.s hx) (mp_ne h.sg.f hx) (fun e => by have h1 := h.e; unfold Bk at hx; rw [e, hx] at h1; cases h1) (mp_ne h.ny hx)
end
set_option maxRecDepth 100000 in
set_option maxHeartbeats 1000000 in
theorem look_ok (d m k : Nat) (n wt : Int) (g : Int → List UInt8) (hz : ∀ a, 2 ≤ a → a < fst n → g a = zb) (r : Rt) (hr : r.size = n) (hrn : r.names = 0) (h1 : fst n ≤ r.hint) (h2 : r.hint < n) (hM : ∀ X, Dv X d m k n wt g → Calls Tryz.prog 29 #[.pointer (some ⟨d, 0, none⟩)] X fun e w' => e = .returned (.tuple #[.agg r.cells, .int .i64 0]) ∧ Below X.heap.size X w') (w : World) (h : Dv w d m k n wt g) :
    Calls Tryz.prog 16 #[.pointer (some ⟨d, 0, none⟩)] w fun e w' => ∃ wk s sp t mp mt ms mf me mn, e = .returned (.tuple #[.pointer (some ⟨wk, 0, none⟩), .agg r.cells, .int .i64 0]) ∧ Wk w' wk s sp t d m k mp mt ms mf me mn 0 0 r n wt g ∧ (w.heap.size ≤ mp ∧ w.heap.size ≤ mt) ∧ Below w.heap.size w w' := by
  have hmm := @run_makeMap Tryz.prog
  have hB0 := (Below.refl w.heap.size w).alloc (Nat.le_refl _) (.cells rz.cells 30)
  have HD0 := Lib.hid (h.below hB0)
  have HM := Lib.hid hM
  have HR0 := Lib.hid (Bk.new w 30 rz.cells)
  have HB0 := Lib.hid hB0
  have HZ := Lib.hid hz
  have HN := Lib.hid hrn
  have HS := Lib.hid hr
  clear hB0 hM h hz hrn hr
  go_enter Tryz.func16, Tryz.ntmps16
  go_wp2_with fail
  refine wp_scope_straight ?_
  go_wp2_with fail
  refine (HM.out _ HD0.out).mono ?_
  rintro e w1 ⟨rfl, hb1⟩
  have hD1 := HD0.out.below hb1
  have hR1 := HR0.out.below hb1 HR0.out.lt
  have hB1 := HB0.out.trans (hb1.mono HB0.out.size)
  have hA := (Below.refl w1.heap.size w1).alloc (Nat.le_refl _) (.cells #[.int .u64 r.gen, .int .u32 r.size, .int .u32 r.picks, .int .u32 r.names, .int .u32 r.free, .int .u32 r.next, .int .u32 r.hint, .int .u8 r.vols] 30)
  have HD1 := Lib.hid (hD1.below hA)
  have HR1 := Lib.hid (hR1.below hA hR1.lt)
  have HB1 := Lib.hid (hB1.trans (hA.mono hB1.size))
  have HK1 := Lib.hid (show Bk (w1.alloc (.cells #[.int .u64 r.gen, .int .u32 r.size, .int .u32 r.picks, .int .u32 r.names, .int .u32 r.free, .int .u32 r.next, .int .u32 r.hint, .int .u8 r.vols] 30)) w1.heap.size 30 r.cells from Bk.new w1 _ _)
  have hne : w1.heap.size ≠ w.heap.size := Nat.ne_of_gt hR1.lt
  clear hb1 HR0 HB0 HM hA hR1 hB1 hD1 HD0
  simp only [Rt.cells]
  go_wp2_with fail
  generalize w1.alloc (.cells #[.int .u64 r.gen, .int .u32 r.size, .int .u32 r.picks, .int .u32 r.names, .int .u32 r.free, .int .u32 r.next, .int .u32 r.hint, .int .u8 r.vols] 30) = X at *
  generalize w1.heap.size = p5 at *
  refine (sgnew_any d m k n wt g r HS.out h1 h2 _ HD1.out).mono ?_
  rintro e w2 ⟨s, sp, t, mp, mt, ms, mf, rfl, hS2, hge, hb2⟩
  have HS2 := Lib.hid hS2
  have HG := Lib.hid hge
  have HD2 := Lib.hid (HD1.out.below hb2)
  have HR2 := Lib.hid (HR1.out.below hb2 HR1.out.lt)
  have HK2 := Lib.hid (HK1.out.below hb2 HK1.out.lt)
  have HB2 := Lib.hid (HB1.out.trans (hb2.mono HB1.out.size))
  have HL := Lib.hid (show m < X.heap.size from HD1.out.m.lt)
  have HXS := Lib.hid (show w.heap.size ≤ X.heap.size from HB1.out.size)
  clear hS2 hge hb2 HD1 HR1 HK1 HB1
  have hM1 := Mp.made (w2.alloc (.map #[] 0))
  rw [size_alloc] at hM1
  have hW := Bk.new ((w2.alloc (.map #[] 0)).alloc (.map #[] 0)) 66 (wkC s w2.heap.size (w2.heap.size + 1))
  simp only [size_alloc] at hW
  have hA1 := (Below.refl w2.heap.size w2).alloc (Nat.le_refl _) (.map #[] 0)
  have hA2 := hA1.alloc hA1.size (.map #[] 0)
  have hA := hA2.alloc hA2.size (.cells (wkC s w2.heap.size (w2.heap.size + 1)) 66)
  have hE : ((w2.alloc (.map #[] 0)).alloc (.map #[] 0)).heap[w2.heap.size]? = some (.map #[] 0) := (Below.heap_alloc (w2.alloc (.map #[] 0)) (.map #[] 0) w2.heap.size (by rw [size_alloc]; omega)).trans (heap_alloc_new w2 (.map #[] 0))
  have hE2 : (((w2.alloc (.map #[] 0)).alloc (.map #[] 0)).alloc (.cells (wkC s w2.heap.size (w2.heap.size + 1)) 66)).heap[w2.heap.size]? = some (.map #[] 0) := (Below.heap_alloc _ _ w2.heap.size (by rw [size_alloc, size_alloc]; omega)).trans hE
  have l1 : mp < w2.heap.size := let ⟨_, a, _⟩ := HS2.out.t.p; a.lt
  have l2 : mt < w2.heap.size := let ⟨_, a, _⟩ := HS2.out.t.q; a.lt
  have HW := Lib.hid (show Wk (((w2.alloc (.map #[] 0)).alloc (.map #[] 0)).alloc (.cells (wkC s w2.heap.size (w2.heap.size + 1)) 66)) (w2.heap.size + 1 + 1) s sp t d m k mp mt ms mf w2.heap.size (w2.heap.size + 1) 0 0 r n wt g from
    ⟨hW, HS2.out.below hA, ⟨HD2.out.below hA, HZ.out, by have := HG.out; have := HL.out; omega, by have := HG.out; have := HL.out; omega, by have := HG.out; have := HL.out; omega⟩, hE2, hM1.alloc _, by omega, by omega, by omega, by omega⟩)
  have HR3 := Lib.hid (HR2.out.below hA HR2.out.lt)
  have HK3 := Lib.hid (HK2.out.below hA HK2.out.lt)
  have HB3 := Lib.hid (HB2.out.trans (hA.mono HB2.out.size))
  have HX := Lib.hid (Bk.new (((w2.alloc (.map #[] 0)).alloc (.map #[] 0)).alloc (.cells (wkC s w2.heap.size (w2.heap.size + 1)) 66)) 22 #[.int .u32 0])
  have c3 : (((w2.alloc (.map #[] 0)).alloc (.map #[] 0)).alloc (.cells (wkC s w2.heap.size (w2.heap.size + 1)) 66)).cell? ⟨p5, 3, none⟩ = some (.int .u32 0) := by rw [HK3.out.rt.2.2.2.1, HN.out]
  have HSZ := Lib.hid (show (((w2.alloc (.map #[] 0)).alloc (.map #[] 0)).alloc (.cells (wkC s w2.heap.size (w2.heap.size + 1)) 66)).heap.size = w2.heap.size + 1 + 1 + 1 by simp only [size_alloc])
  clear hM1 hW hA1 hA2 hA hE hE2 HR2 HK2 HB2 HS2 HD2
  simp only [wkC] at c3 HW HR3 HK3 HB3 HX HSZ
  go_wp2_with fail
  generalize (((w2.alloc (.map #[] 0)).alloc (.map #[] 0)).alloc (.cells #[.pointer (some ⟨s, 0, none⟩), .map (some w2.heap.size), .map (some (w2.heap.size + 1))] 66)) = X3 at *
  refine (some_zero (w2.heap.size + 1 + 1 + 1) _ (by rw [← HSZ.out]; exact HX.out)).mono ?_
  rintro e w4 ⟨rfl, rfl⟩
  have hA4 := (Below.refl X3.heap.size X3).alloc (Nat.le_refl _) (.cells #[.int .u32 0] 22)
  have HW4 := Lib.hid (HW.out.below hA4)
  have HR4 := Lib.hid (HR3.out.below hA4 HR3.out.lt)
  have HK4 := Lib.hid (HK3.out.below hA4 HK3.out.lt)
  have HB4 := Lib.hid (HB3.out.trans (hA4.mono HB3.out.size))
  clear hA4 HX HW HR3 HK3 HB3 c3
  generalize X3.alloc (.cells #[.int .u32 0] 22) = X4 at *
  go_wp2_with fail
  go_step3
  go_wp2_with fail
  refine wp_region_held_drew (S := fun Y => Bk Y p5 30 r.cells) (by kernel_rfl) HK4.out ?_
  intro hHeld
  refine wpAnyH_take (i := 0) (v := ?_) rfl (by kernel_rfl) (by kernel_rfl) (by kernel_rfl) (fun _ _ _ h => h) (Or.inl ⟨by rfl, ?_⟩) hHeld ?_
  rotate_left
  · (intro w hSw; (try dsimp only at hSw); go_simp)
    try with_reducible rfl
  try simp only [Act.put, List.getElem_toArray, List.getElem_cons_zero, List.getElem_cons_succ, List.setIfInBounds_toArray, List.set_cons_zero, List.set_cons_succ]
  refine wpAnyH_take (i := 1) (v := .agg r.cells) rfl (by kernel_rfl) (by kernel_rfl) (by kernel_rfl) (fun _ _ _ h => h) (yieldsIf_load_arr (by rfl) 30 _ rfl p5 0 rfl r.cells _ (fun w h => Bk.range h) Tryz.underlying30 rfl (by kernel_rfl)) hHeld ?_
  try simp only [Act.put, List.getElem_toArray, List.getElem_cons_zero, List.getElem_cons_succ, List.setIfInBounds_toArray, List.set_cons_zero, List.set_cons_succ]
  refine wpAnyH_take (i := 2) (v := ?_) rfl (by kernel_rfl) (by kernel_rfl) (by kernel_rfl) (fun _ _ _ h => h) (Or.inl ⟨by rfl, ?_⟩) hHeld ?_
  rotate_left
  · (intro w hSw; (try dsimp only at hSw); go_simp)
    try with_reducible rfl
  try simp only [Act.put, List.getElem_toArray, List.getElem_cons_zero, List.getElem_cons_succ, List.setIfInBounds_toArray, List.set_cons_zero, List.set_cons_succ]
  have hR2 : Bk X4.drew w.heap.size 30 rz.cells := HR4.out.drew
  have kR := hR2.all r.cells.toList rfl
  rw [Array.toArray_toList] at kR
  have hW5 := (HW4.out.below (show Below X4.heap.size X4 X4.drew from ⟨rfl, rfl, rfl, Nat.le_refl _, fun _ _ => rfl⟩)).apart hR2 (by decide) (by decide) (by decide) (by decide) (by decide) (fr_setCells (S := fun i => i = w.heap.size) w.heap.size (fun _ => rfl) r.cells.toList (Fr.refl _ X4.drew) 0)
  have HE := Lib.hid (And.intro kR (And.intro hW5 (below_setCells w.heap.size (Nat.le_refl _) r.cells.toList (show Below w.heap.size w X4.drew from below_drewN HB4.out 1) 0)))
  refine wpAnyH_ready (rs := [3]) (by kernel_rfl) (by simp) ?_
  refine (AllReadyH.cons rfl (fun K hK => ?_) AllReadyH.nil)
  refine step_store_mid (by rfl) 30 (.tmp 3) (.tmp 45) (by rfl) w.heap.size 0 r.cells (by rfl) (by rfl) (hR2.there _ (Nat.le_refl 8)) (by kernel_rfl) (by kernel_rfl) ?_
  refine hK.out _ _ (Bk.farCells w.heap.size hne _ hHeld 0) (fun hH => ?_)
  clear hK K hHeld
  have hHeld := hH
  clear hH
  try simp only [Act.put, List.getElem_toArray, List.getElem_cons_zero, List.getElem_cons_succ, List.setIfInBounds_toArray, List.set_cons_zero, List.set_cons_succ]
  refine wpAnyH_take (i := 4) (v := ?_) rfl (by kernel_rfl) (by kernel_rfl) (by kernel_rfl) (fun _ _ _ h => h) (Or.inl ⟨by rfl, ?_⟩) hHeld ?_
  rotate_left
  · (intro w hSw; (try dsimp only at hSw); go_simp)
    try with_reducible rfl
  try simp only [Act.put, List.getElem_toArray, List.getElem_cons_zero, List.getElem_cons_succ, List.setIfInBounds_toArray, List.set_cons_zero, List.set_cons_succ]
  refine wpAnyH_done (by kernel_rfl) ?_ _
  try simp only [Act.put, List.getElem_toArray, List.getElem_cons_zero, List.getElem_cons_succ, List.setIfInBounds_toArray, List.set_cons_zero, List.set_cons_succ]
  clear hHeld hR2 kR hW5
  generalize X4.drew = X5 at *
  have HE2 := HE
  clear HE
  generalize X5.setCells w.heap.size 0 r.cells.toList = Z at *
  go_wp2_with fail
  rw [Exit.noGoto_ret]
  refine bodyPost_ret (results_tmp_row_tmp rfl _ _ w.heap.size _ r.cells _ rfl HE2.out.1 Tryz.underlying30 rfl (by kernel_rfl)) rfl ⟨_, s, sp, t, mp, mt, ms, mf, _, _, rfl, HE2.out.2.1, ⟨by have := HG.out; have := HXS.out; omega, by have := HG.out; have := HXS.out; omega⟩, HE2.out.2.2⟩
end Go.Proofs.YtjnbpbnhkinggaaGreatDoor.St
