/- Contracts of count.Table, whose pages are of zeros: none, First, Size, pickAt, pick, tallyAt, tally, Old, Get. -/
import Derived.Test.YtjnbpbnhkinggaaGreatDoorNPage
namespace Go.Proofs.YtjnbpbnhkinggaaGreatDoor.St
open Go.RowKit

/-- Counts that were set, as a map has them: none that is 0. -/
def cf (c : Int → Int) : Int → Option Value := fun i => if c i = 0 then none else some (.int .u16 (c i))
/-- Block t is a table of a device d of n blocks, all of whose pages are of zeros; its counts are c. -/
structure Tb (w : World) (t d mp mt ms np nt ns : Nat) (r : Rt) (n : Int) (c : Int → Int) : Prop where
  b : Bk w t 155 (tbC d mp mt ms r n)
  p : ∃ f, Mp w mp np f ∧ Zs pkC f
  q : ∃ f, Mp w mt nt f ∧ Zs tyC f
  s : Mp w ms ns (cf c)
  d1 : mp ≠ mt
  d2 : mp ≠ ms
  d3 : mt ≠ ms
/-- The device below it: its pages are of zeros. -/
structure Dz (w : World) (d m k : Nat) (n wt : Int) (g : Int → List UInt8) (mp mt ms : Nat) : Prop where
  v : Dv w d m k n wt g
  z : ∀ a, 2 ≤ a → a < fst n → g a = zb
  e1 : m ≠ mp
  e2 : m ≠ mt
  e3 : m ≠ ms
section
variable {w w' : World} {t d m k mp mt ms np nt ns : Nat} {r : Rt} {n wt : Int} {c : Int → Int} {g : Int → List UInt8}
theorem Tb.fr {S : Nat → Prop} (h : Tb w t d mp mt ms np nt ns r n c) (hf : Fr S w w') (h1 : ¬ S t) (h2 : ¬ S mp) (h3 : ¬ S mt) (h4 : ¬ S ms) : Tb w' t d mp mt ms np nt ns r n c :=
  ⟨h.b.fr hf h1, let ⟨f, a, b⟩ := h.p; ⟨f, a.fr hf h2, b⟩, let ⟨f, a, b⟩ := h.q; ⟨f, a.fr hf h3, b⟩, h.s.fr hf h4, h.d1, h.d2, h.d3⟩
theorem Tb.below (h : Tb w t d mp mt ms np nt ns r n c) (hb : Below w.heap.size w w') : Tb w' t d mp mt ms np nt ns r n c := h.fr (Fr.of_all hb (fun _ => False)) (fun h => h) (fun h => h) (fun h => h) (fun h => h)
theorem Tb.tmp (h : Tb w t d mp mt ms np nt ns r n c) : t ≠ mp := let ⟨_, a, _⟩ := h.p; fun e => mp_ne a h.b e.symm
theorem Tb.tmt (h : Tb w t d mp mt ms np nt ns r n c) : t ≠ mt := let ⟨_, a, _⟩ := h.q; fun e => mp_ne a h.b e.symm
theorem Tb.tms (h : Tb w t d mp mt ms np nt ns r n c) : t ≠ ms := fun e => mp_ne h.s h.b e.symm
theorem Dz.fr {S : Nat → Prop} (h : Dz w d m k n wt g mp mt ms) (hf : Fr S w w') (h1 : ¬ S d) (h2 : ¬ S m) : Dz w' d m k n wt g mp mt ms := ⟨h.v.fr hf h1 h2, h.z, h.e1, h.e2, h.e3⟩
theorem Dz.below (h : Dz w d m k n wt g mp mt ms) (hb : Below w.heap.size w w') : Dz w' d m k n wt g mp mt ms := ⟨h.v.below hb, h.z, h.e1, h.e2, h.e3⟩
end

theorem tnone_b (t d mp mt ms np nt ns : Nat) (r : Rt) (n : Int) (c : Int → Int) (w : World) (h : Tb w t d mp mt ms np nt ns r n c) : Calls Tryz.prog 70 #[.pointer (some ⟨t, 0, none⟩)] w fun e w' => e = .returned (.bool false) ∧ w = w' := by
  have c0 : w.cell? ⟨t, 0, none⟩ = some (.pointer (some ⟨d, 0, none⟩)) := h.b.cell 0
  clear h
  go_enter Tryz.func70, Tryz.ntmps70
  go_wp2_with fail
  go_ret
  exact ⟨rfl, rfl⟩
theorem tfirst_b (t d mp mt ms np nt ns : Nat) (r : Rt) (n : Int) (c : Int → Int) (w : World) (h : Tb w t d mp mt ms np nt ns r n c) : Calls Tryz.prog 53 #[.pointer (some ⟨t, 0, none⟩)] w fun e w' => e = .returned (.int .u32 (fst n)) ∧ w = w' := by
  have c0 : w.cell? ⟨t, 11, none⟩ = some (.int .u32 (fst n)) := h.b.cell 11
  have H := Lib.hid h
  clear h
  go_enter Tryz.func53, Tryz.ntmps53
  go_wp2_with fail
  refine (tnone_b t d mp mt ms np nt ns r n c _ H.out).mono ?_
  rintro e w1 ⟨rfl, rfl⟩
  go_wp2_with fail
  go_ret
  exact ⟨rfl, rfl⟩
theorem tsize_b (t d mp mt ms np nt ns : Nat) (r : Rt) (n : Int) (c : Int → Int) (w : World) (h : Tb w t d mp mt ms np nt ns r n c) : Calls Tryz.prog 54 #[.pointer (some ⟨t, 0, none⟩)] w fun e w' => e = .returned (.int .u32 r.size) ∧ w = w' := by
  have c0 : w.cell? ⟨t, 2, none⟩ = some (.int .u32 r.size) := h.b.cell 2
  have H := Lib.hid h
  clear h
  go_enter Tryz.func54, Tryz.ntmps54
  go_wp2_with fail
  refine (tnone_b t d mp mt ms np nt ns r n c _ H.out).mono ?_
  rintro e w1 ⟨rfl, rfl⟩
  go_wp2_with fail
  go_ret
  exact ⟨rfl, rfl⟩
theorem pickAt_b (t d mp mt ms np nt ns : Nat) (r : Rt) (n : Int) (c : Int → Int) (hr : r.picks = 0) (s : Int) (h0 : 0 ≤ s) (h1 : s < 16) (w : World) (h : Tb w t d mp mt ms np nt ns r n c) : Calls Tryz.prog 118 #[.pointer (some ⟨t, 0, none⟩), .int .u32 s] w fun e w' => e = .returned (.int .u32 (2 + 2 * s)) ∧ w = w' := by
  have c0 : w.cell? ⟨t, 3, none⟩ = some (.int .u32 0) := by rw [h.b.cell, ← hr]; rfl
  have e2 : bits .and .u32 0 1 = 0 := by decide
  clear h hr
  go_enter Tryz.func118, Tryz.ntmps118
  go_wp2_with fail
  go_ret
  exact ⟨by simp, rfl⟩
attribute [local go_sem ↓] Go.wp_at_zero Go.wp_at_succ
set_option maxRecDepth 100000 in
set_option maxHeartbeats 1000000 in
theorem pick_b (t d m k mp mt ms np nt ns : Nat) (r : Rt) (n wt : Int) (g : Int → List UInt8) (c : Int → Int) (hr : r.picks = 0) (hnp : np < 100000000) (s : Int) (h0 : 0 ≤ s) (h1 : s < pic n) (w : World) (h : Tb w t d mp mt ms np nt ns r n c) (hD : Dz w d m k n wt g mp mt ms) :
    Calls Tryz.prog 110 #[.pointer (some ⟨t, 0, none⟩), .int .u32 s] w fun e w' => e = .returned (.tuple #[.agg (pkC s), .int .i64 0]) ∧ Tb w' t d mp mt ms (np + 1) nt ns r n c ∧ Fr (fun i => i = mp) w w' := by
  obtain ⟨q0, q1⟩ := pic_bd n hD.v.lo hD.v.hi
  obtain ⟨u0, u1⟩ := tal_bd n hD.v.lo hD.v.hi
  obtain ⟨f0, f1⟩ := fst_bd n hD.v.lo hD.v.hi
  have hat : 2 + 2 * s < fst n := by unfold fst; omega
  have hgz := Lib.hid (hD.z (2 + 2 * s) (by omega) hat)
  have hs := pkC_info s
  have hs1 := pkC_one s
  have HSZ := Lib.hid (show (pkC s).size = 17 from rfl)
  have hB0 := (Below.refl w.heap.size w).alloc (Nat.le_refl _) (.cells #[.int .u32 0, .int .u64 0, .int .u64 0, .int .u64 0, .int .u64 0, .int .u64 0, .int .u64 0, .int .u64 0, .int .u64 0, .int .u64 0, .int .u64 0, .int .u64 0, .int .u64 0, .int .u64 0, .int .u64 0, .int .u64 0, .int .u64 0] 204)
  have HT0 := Lib.hid (h.below hB0)
  have HD0 := Lib.hid (hD.below hB0)
  have HR0 := Lib.hid (Bk.new w 204 #[.int .u32 0, .int .u64 0, .int .u64 0, .int .u64 0, .int .u64 0, .int .u64 0, .int .u64 0, .int .u64 0, .int .u64 0, .int .u64 0, .int .u64 0, .int .u64 0, .int .u64 0, .int .u64 0, .int .u64 0, .int .u64 0, .int .u64 0])
  have HB0 := Lib.hid hB0
  have hmlt : mp < w.heap.size := let ⟨_, a, _⟩ := h.p; a.lt
  have htlt := h.b.lt
  clear h hD hB0
  go_enter Tryz.func110, Tryz.ntmps110
  go_wp2_with fail
  generalize w.alloc (.cells #[.int .u32 0, .int .u64 0, .int .u64 0, .int .u64 0, .int .u64 0, .int .u64 0, .int .u64 0, .int .u64 0, .int .u64 0, .int .u64 0, .int .u64 0, .int .u64 0, .int .u64 0, .int .u64 0, .int .u64 0, .int .u64 0, .int .u64 0] 204) = X at *
  refine wp_region_held_drew (S := fun Y => Bk Y t 155 (tbC d mp mt ms r n)) (by kernel_rfl) HT0.out.b ?_
  intro hHeld
  refine wpAnyH_take (i := 0) (v := ?_) rfl (by kernel_rfl) (by kernel_rfl) (by kernel_rfl) (fun _ _ _ h => h) (Or.inl ⟨by rfl, ?_⟩) hHeld ?_
  rotate_left
  · (intro w hSw; (try dsimp only at hSw); go_simp)
    try with_reducible rfl
  try simp only [Act.put, List.getElem_toArray, List.getElem_cons_zero, List.getElem_cons_succ, List.setIfInBounds_toArray, List.set_cons_zero, List.set_cons_succ]
  refine wpAnyH_take (i := 1) (v := ?_) rfl (by kernel_rfl) (by kernel_rfl) (by kernel_rfl) (fun _ _ _ h => h) (Or.inl ⟨by rfl, ?_⟩) hHeld ?_
  rotate_left
  · (intro w hSw; (try dsimp only at hSw); go_simp)
    try with_reducible rfl
  try simp only [Act.put, List.getElem_toArray, List.getElem_cons_zero, List.getElem_cons_succ, List.setIfInBounds_toArray, List.set_cons_zero, List.set_cons_succ]
  refine wpAnyH_take (i := 2) (v := ?_) rfl (by kernel_rfl) (by kernel_rfl) (by kernel_rfl) (fun _ _ _ h => h) (Or.inl ⟨by rfl, ?_⟩) hHeld ?_
  rotate_left
  · (intro w hSw; (try dsimp only at hSw); go_simp)
    try with_reducible rfl
  try simp only [Act.put, List.getElem_toArray, List.getElem_cons_zero, List.getElem_cons_succ, List.setIfInBounds_toArray, List.set_cons_zero, List.set_cons_succ]
  refine wpAnyH_take (i := 3) (v := ?_) rfl (by kernel_rfl) (by kernel_rfl) (by kernel_rfl) (fun _ _ _ h => h) (Or.inl ⟨by rfl, ?_⟩) hHeld ?_
  rotate_left
  · (intro w hSw; (try dsimp only at hSw); go_simp)
    try with_reducible rfl
  try simp only [Act.put, List.getElem_toArray, List.getElem_cons_zero, List.getElem_cons_succ, List.setIfInBounds_toArray, List.set_cons_zero, List.set_cons_succ]
  refine wpAnyH_take (i := 4) (v := ?_) rfl (by kernel_rfl) (by kernel_rfl) (by kernel_rfl) (fun _ _ _ h => h) (Or.inl ⟨by rfl, ?_⟩) hHeld ?_
  rotate_left
  · (intro w hSw; (try dsimp only at hSw); have q0 : w.cell? ⟨t, 12, none⟩ = some (.map (some mp)) := Bk.cell hSw 12; go_simp)
    try with_reducible rfl
  try simp only [Act.put, List.getElem_toArray, List.getElem_cons_zero, List.getElem_cons_succ, List.setIfInBounds_toArray, List.set_cons_zero, List.set_cons_succ]
  refine wpAnyH_take (i := 5) (v := ?_) rfl (by kernel_rfl) (by kernel_rfl) (by kernel_rfl) (fun _ _ _ h => h) (Or.inl ⟨by rfl, ?_⟩) hHeld ?_
  rotate_left
  · (intro w hSw; (try dsimp only at hSw); go_simp)
    try with_reducible rfl
  try simp only [Act.put, List.getElem_toArray, List.getElem_cons_zero, List.getElem_cons_succ, List.setIfInBounds_toArray, List.set_cons_zero, List.set_cons_succ]
  refine wpAnyH_take (i := 6) (v := ?_) rfl (by kernel_rfl) (by kernel_rfl) (by kernel_rfl) (fun _ _ _ h => h) (Or.inl ⟨by rfl, ?_⟩) hHeld ?_
  rotate_left
  · (intro w hSw; (try dsimp only at hSw); go_simp)
    try with_reducible rfl
  try simp only [Act.put, List.getElem_toArray, List.getElem_cons_zero, List.getElem_cons_succ, List.setIfInBounds_toArray, List.set_cons_zero, List.set_cons_succ]
  refine wpAnyH_take (i := 8) (v := ?_) rfl (by kernel_rfl) (by kernel_rfl) (by kernel_rfl) (fun _ _ _ h => h) (Or.inl ⟨by rfl, ?_⟩) hHeld ?_
  rotate_left
  · (intro w hSw; (try dsimp only at hSw); go_simp)
    try with_reducible rfl
  try simp only [Act.put, List.getElem_toArray, List.getElem_cons_zero, List.getElem_cons_succ, List.setIfInBounds_toArray, List.set_cons_zero, List.set_cons_succ]
  have HT1 := Lib.hid (show Tb X.drew t d mp mt ms np nt ns r n c from HT0.out.below ⟨rfl, rfl, rfl, Nat.le_refl _, fun _ _ => rfl⟩)
  have HD1 := Lib.hid (show Dz X.drew d m k n wt g mp mt ms from HD0.out.below ⟨rfl, rfl, rfl, Nat.le_refl _, fun _ _ => rfl⟩)
  have HR1 := Lib.hid (show Bk X.drew w.heap.size 204 #[.int .u32 0, .int .u64 0, .int .u64 0, .int .u64 0, .int .u64 0, .int .u64 0, .int .u64 0, .int .u64 0, .int .u64 0, .int .u64 0, .int .u64 0, .int .u64 0, .int .u64 0, .int .u64 0, .int .u64 0, .int .u64 0, .int .u64 0] from HR0.out.drew)
  have HB1 := Lib.hid (show Below w.heap.size w X.drew from below_drewN HB0.out 1)
  clear HT0 HD0 HR0 HB0
  generalize X.drew = Y0 at *
  refine wpAnyH_ready (rs := [7]) (by kernel_rfl) (by simp) ?_
  refine (AllReadyH.cons rfl (fun K hK => ?_) AllReadyH.nil)
  go_simp
  refine (pickAt_b t d mp mt ms np nt ns r n c hr s h0 (by omega) _ HT1.out).mono ?_
  rintro e wv ⟨rfl, rfl⟩
  go_wp2_with fail
  refine hK.out _ _ hHeld (fun _ => ?_)
  clear hK K
  try simp only [Act.put, List.getElem_toArray, List.getElem_cons_zero, List.getElem_cons_succ, List.setIfInBounds_toArray, List.set_cons_zero, List.set_cons_succ]
  refine wpAnyH_ready (rs := [9]) (by kernel_rfl) (by simp) ?_
  refine (AllReadyH.cons rfl (fun K hK => ?_) AllReadyH.nil)
  go_simp
  obtain ⟨f, hf1, hf2⟩ := HT1.out.p
  refine (page_pk t d m k mp np n wt g (2 + 2 * s) s h0 (by omega) (by omega) (by omega) hgz.out hnp f hf2 _ (HT1.out.b.cell 0) HT1.out.b.lt HD1.out.v hf1).mono ?_
  rintro e Y1 ⟨rfl, ⟨f', hf3, hf4⟩, hfX⟩
  have hH := hHeld.fr hfX HT1.out.tmp
  have HT2 := Lib.hid (show Tb Y1 t d mp mt ms (np + 1) nt ns r n c from ⟨hH, ⟨f', hf3, hf4⟩, let ⟨f, a, b⟩ := HT1.out.q; ⟨f, a.fr hfX (fun e => HT1.out.d1 e.symm), b⟩, HT1.out.s.fr hfX (fun e => HT1.out.d2 e.symm), HT1.out.d1, HT1.out.d2, HT1.out.d3⟩)
  have hR2 := HR1.out.fr hfX (show ¬ w.heap.size = mp by omega)
  have hF2 := (Fr.of_all HB1.out (fun i => i = mp)).trans hfX (fun _ _ h => h)
  clear hf1 hf2 hf3 hf4 hfX HT1 HD1 HR1 HB1
  go_wp2_with fail
  refine hK.out _ _ hH (fun _ => ?_)
  clear hK K hHeld
  have hHeld := hH
  clear hH
  try simp only [Act.put, List.getElem_toArray, List.getElem_cons_zero, List.getElem_cons_succ, List.setIfInBounds_toArray, List.set_cons_zero, List.set_cons_succ]
  refine wpAnyH_take (i := 10) (v := ?_) rfl (by kernel_rfl) (by kernel_rfl) (by kernel_rfl) (fun _ _ _ h => h) (Or.inl ⟨by rfl, ?_⟩) hHeld ?_
  rotate_left
  · (intro w hSw; (try dsimp only at hSw); go_simp)
    try with_reducible rfl
  try simp only [Act.put, List.getElem_toArray, List.getElem_cons_zero, List.getElem_cons_succ, List.setIfInBounds_toArray, List.set_cons_zero, List.set_cons_succ]
  refine wpAnyH_take (i := 11) (v := ?_) rfl (by kernel_rfl) (by kernel_rfl) (by kernel_rfl) (fun _ _ _ h => h) (Or.inl ⟨by rfl, ?_⟩) hHeld ?_
  rotate_left
  · (intro w hSw; (try dsimp only at hSw); go_simp)
    try with_reducible rfl
  try simp only [Act.put, List.getElem_toArray, List.getElem_cons_zero, List.getElem_cons_succ, List.setIfInBounds_toArray, List.set_cons_zero, List.set_cons_succ]
  have hth := hR2.there (pkC s).size (Nat.le_refl 17)
  have kR := hR2.all (pkC s).toList rfl
  rw [Array.toArray_toList] at kR
  have HE := Lib.hid (And.intro kR (And.intro (show Tb (Y1.setCells w.heap.size 0 (pkC s).toList) t d mp mt ms (np + 1) nt ns r n c from HT2.out.fr (fr_setCells (S := fun i => i = w.heap.size) w.heap.size (fun _ => rfl) _ (Fr.refl _ Y1) 0) (by omega) (by omega) (fun e => by have := (let ⟨_, a, _⟩ := HT2.out.q; mp_ne a hR2); exact this e) (mp_ne HT2.out.s hR2)) (fr_setCells w.heap.size (fun h => absurd h (by omega)) (pkC s).toList hF2 0)))
  refine wpAnyH_ready (rs := [12]) (by kernel_rfl) (by simp) ?_
  refine (AllReadyH.cons rfl (fun K hK => ?_) AllReadyH.nil)
  refine step_store_mid (by rfl) 204 (.tmp 4) (.tmp 16) (by rfl) w.heap.size 0 (pkC s) (by rfl) (by rfl) hth hs hs1 ?_
  refine hK.out _ _ HE.out.2.1.b (fun hH => ?_)
  clear hK K hHeld hth kR hR2 hF2 HT2
  have hHeld := hH
  clear hH
  try simp only [Act.put, List.getElem_toArray, List.getElem_cons_zero, List.getElem_cons_succ, List.setIfInBounds_toArray, List.set_cons_zero, List.set_cons_succ]
  refine wpAnyH_take (i := 13) (v := ?_) rfl (by kernel_rfl) (by kernel_rfl) (by kernel_rfl) (fun _ _ _ h => h) (Or.inl ⟨by rfl, ?_⟩) hHeld ?_
  rotate_left
  · (intro w hSw; (try dsimp only at hSw); go_simp)
    try with_reducible rfl
  try simp only [Act.put, List.getElem_toArray, List.getElem_cons_zero, List.getElem_cons_succ, List.setIfInBounds_toArray, List.set_cons_zero, List.set_cons_succ]
  refine wpAnyH_done (by kernel_rfl) ?_ _
  try simp only [Act.put, List.getElem_toArray, List.getElem_cons_zero, List.getElem_cons_succ, List.setIfInBounds_toArray, List.set_cons_zero, List.set_cons_succ]
  generalize Y1.setCells w.heap.size 0 (pkC s).toList = Z at *
  go_wp2_with fail
  refine bodyPost_ret (results_row_tmp rfl _ _ w.heap.size _ (pkC s) _ rfl HE.out.1 Tryz.underlying204 rfl hs) rfl ⟨rfl, HE.out.2.1, HE.out.2.2⟩
end Go.Proofs.YtjnbpbnhkinggaaGreatDoor.St
