/- Contracts of fsck.Check. -/
import Derived.Test.YtjnbpbnhkinggaaGreatDoorFLook
import Derived.LoopN
import Derived.Laws.IdiomRangeMap
namespace Go.Proofs.YtjnbpbnhkinggaaGreatDoor.St
open Go.RowKit

/-- A report of so many free blocks, and of nothing else. -/
def repC (f : Int) : Array Value := #[.int .u32 f, .int .u32 0, .int .u32 0, .int .u32 0, .int .u32 0, .int .u32 0, .bool false]
theorem next_empty (w : World) (ty : TypeId) (bm : Nat) (hb : w.heap[bm]? = some (.map #[] 0)) : (Instr.next (.pointer (some ⟨w.heap.size, 0, none⟩)) false ty).run Tryz.prog (w.alloc (.mapIter (some bm) 0 #[] 0)) = .ok (.tuple #[.bool false]) (w.alloc (.mapIter (some bm) 0 #[] 0)) := by
  rcases run_next_map (P := Tryz.prog) w ty bm 0 0 #[] #[] 0 hb (fun x hx => by simp at hx) (Nat.le_refl _) with ⟨_, h⟩ | ⟨e, he, _⟩
  · exact h
  · simp [leftOf] at he
set_option maxRecDepth 100000 in
set_option maxHeartbeats 1000000 in
theorem check_err (dv : Value) (r : Rt) (er : Int) (he : (er != 0) = true) (w : World) (hL : ∀ X, Below w.heap.size w X → Calls Tryz.prog 16 #[dv] X fun e w' => e = .returned (.tuple #[.pointer none, .agg r.cells, .int .i64 er]) ∧ Below X.heap.size X w') :
    Calls Tryz.prog 7 #[dv] w fun e w' => e = .returned (.tuple #[.agg (repC 0), .int .i64 er]) ∧ Below w.heap.size w w' := by
  have hB0 := (Below.refl w.heap.size w).alloc (Nat.le_refl _) (.cells (repC 0) 34)
  have HL := Lib.hid (hL _ hB0)
  have HR0 := Lib.hid (Bk.new w 34 (repC 0))
  have HB0 := Lib.hid hB0
  clear hB0 hL
  go_enter Tryz.func7, Tryz.ntmps7
  go_wp2_with fail
  refine HL.out.mono ?_
  rintro e w1 ⟨rfl, hb1⟩
  have hR1 := HR0.out.below hb1 HR0.out.lt
  have hB1 := HB0.out.trans (hb1.mono HB0.out.size)
  have hA := (Below.refl w1.heap.size w1).alloc (Nat.le_refl _) (.cells #[.int .u64 r.gen, .int .u32 r.size, .int .u32 r.picks, .int .u32 r.names, .int .u32 r.free, .int .u32 r.next, .int .u32 r.hint, .int .u8 r.vols] 30)
  have hR2 := hR1.below hA hR1.lt
  have hB2 := hB1.trans (hA.mono hB1.size)
  have hth := hR2.there (repC 0).size (Nat.le_refl 7)
  have kR := hR2.all (repC 0).toList rfl
  rw [Array.toArray_toList] at kR
  have HE := Lib.hid (And.intro kR (below_setCells w.heap.size (Nat.le_refl _) (repC 0).toList hB2 0))
  clear hb1 HR0 HB0 HL hA hR1 hB1 hR2 hB2 kR
  have hrep : Tryz.prog.built 34 [] = some (repC 0) := by kernel_rfl
  have HRep := Lib.hid hrep
  clear hrep
  simp only [Rt.cells]
  go_wp2_with (first | (refine wpList_built rfl 34 _ rfl [] rfl (repC 0) HRep.out ?_) | (refine wpList_store_mid rfl 34 _ _ rfl w.heap.size 0 (repC 0) rfl rfl hth (by kernel_rfl) (by kernel_rfl) ?_; generalize (w1.alloc (.cells #[.int .u64 r.gen, .int .u32 r.size, .int .u32 r.picks, .int .u32 r.names, .int .u32 r.free, .int .u32 r.next, .int .u32 r.hint, .int .u8 r.vols] 30)).setCells w.heap.size 0 (repC 0).toList = w3 at *))
  refine bodyPost_ret (results_row_tmp rfl _ _ w.heap.size _ (repC 0) _ rfl HE.out.1 Tryz.underlying34 rfl (by kernel_rfl)) rfl ⟨rfl, HE.out.2⟩
/-- What holds at a round's head of fsck.Check. -/
structure ChkRel (w : World) (wk s sp t d m k mp mt ms mf me mn np nt p5 p7 : Nat) (r : Rt) (n wt : Int) (g : Int → List UInt8) (f : Int) (X : World) : Prop where
  wk : Wk X wk s sp t d m k mp mt ms mf me mn np nt r n wt g
  k5 : Bk X p5 30 r.cells
  k7 : Bk X p7 34 (repC f)
  k2 : Bk X w.heap.size 34 (repC 0)
  bl : Below w.heap.size w X
section
variable {w X Y : World} {wk s sp t d m k mp mt ms mf me mn np nt p5 p7 : Nat} {r : Rt} {n wt : Int} {g : Int → List UInt8} {f : Int}
theorem ChkRel.go (h : ChkRel w wk s sp t d m k mp mt ms mf me mn np nt p5 p7 r n wt g f X) (hb : Below X.heap.size X Y) : ChkRel w wk s sp t d m k mp mt ms mf me mn np nt p5 p7 r n wt g f Y :=
  ⟨h.wk.below hb, h.k5.below hb h.k5.lt, h.k7.below hb h.k7.lt, h.k2.below hb h.k2.lt, h.bl.trans (hb.mono h.bl.size)⟩
theorem ChkRel.counted (h : ChkRel w wk s sp t d m k mp mt ms mf me mn np nt p5 p7 r n wt g f X) {np' nt' : Nat} (hS : Sg Y s sp t d mp mt ms mf np' nt' 0 0 r n (fun _ => 0) r.free r.hint 0 0 (fun _ => none)) (hF : Fr (fun i => i = mp ∨ i = mt) X Y) (hge : w.heap.size + 1 ≤ mp ∧ w.heap.size + 1 ≤ mt) : ChkRel w wk s sp t d m k mp mt ms mf me mn np' nt' p5 p7 r n wt g f Y := by
  obtain ⟨fp, hp1, _⟩ := h.wk.sg.t.p
  obtain ⟨fq, hq1, _⟩ := h.wk.sg.t.q
  have ap : ∀ {x : Nat} {ty : TypeId} {cs : Array Value}, Bk X x ty cs → ¬ (x = mp ∨ x = mt) := fun hx e => e.elim (fun e => mp_ne hp1 hx e.symm) (fun e => mp_ne hq1 hx e.symm)
  refine ⟨⟨h.wk.b.fr hF (ap h.wk.b), hS, h.wk.dz.fr hF (ap h.wk.dz.v.b) (fun e => e.elim h.wk.dz.e1 h.wk.dz.e2), (hF.block me (by have := h.wk.e; rcases Nat.lt_or_ge me X.heap.size with l | l; exact l; rw [Array.getElem?_eq_none l] at this; cases this) (fun e => e.elim h.wk.n3 h.wk.n4)).trans h.wk.e, h.wk.ny.fr hF (fun e => e.elim h.wk.n1 h.wk.n2), h.wk.n1, h.wk.n2, h.wk.n3, h.wk.n4⟩, h.k5.fr hF (ap h.k5), h.k7.fr hF (ap h.k7), h.k2.fr hF (ap h.k2), h.bl.trans (hF.below h.bl.size (fun i hi e => by omega))⟩
theorem ChkRel.freed (h : ChkRel w wk s sp t d m k mp mt ms mf me mn np nt p5 p7 r n wt g f X) (hp7 : w.heap.size < p7) : ChkRel w wk s sp t d m k mp mt ms mf me mn np nt p5 p7 r n wt g (f + 1) (X.setCell ⟨p7, 0, none⟩ (.int .u32 (f + 1))) :=
  ⟨h.wk.apart h.k7 (by decide) (by decide) (by decide) (by decide) (by decide) ((Fr.refl (fun i => i = p7) X).setCell (p := ⟨p7, 0, none⟩) (fun _ => rfl) _), h.k5.far _ (bk_ne h.k5 h.k7 (by decide)) _, h.k7.set 0 _, h.k2.far ⟨p7, 0, none⟩ (by show w.heap.size ≠ p7; omega) _, h.bl.setCell (p := ⟨p7, 0, none⟩) (Nat.le_of_lt hp7) _⟩
end
theorem zeroU32 (w : World) : (zeroValue 22).run Tryz.prog w = .ok (.int .u32 0) w := by kernel_rfl
set_option maxRecDepth 100000 in
set_option maxHeartbeats 2000000 in
theorem check_ok2 (d m k : Nat) (n wt : Int) (g : Int → List UInt8) (r : Rt) (hr : r.size = n) (hrp : r.picks = 0) (hrf : r.free = n - fst n) (hrv : r.vols = 0) (w : World) (hD : Dv w d m k n wt g) (hL : ∀ X, Dv X d m k n wt g → Calls Tryz.prog 16 #[.pointer (some ⟨d, 0, none⟩)] X fun e w' => ∃ wk s sp t mp mt ms mf me mn, e = .returned (.tuple #[.pointer (some ⟨wk, 0, none⟩), .agg r.cells, .int .i64 0]) ∧ Wk w' wk s sp t d m k mp mt ms mf me mn 0 0 r n wt g ∧ (X.heap.size ≤ mp ∧ X.heap.size ≤ mt) ∧ Below X.heap.size X w') :
    Calls Tryz.prog 7 #[.pointer (some ⟨d, 0, none⟩)] w fun e w' => e = .returned (.tuple #[.agg (repC r.free), .int .i64 0]) ∧ Below w.heap.size w w' := by
  subst hr
  have hmm := @run_makeMap Tryz.prog
  have hlo := hD.lo
  have hhi := hD.hi
  obtain ⟨f0, f1⟩ := fst_bd r.size hlo hhi
  have hB0 := (Below.refl w.heap.size w).alloc (Nat.le_refl _) (.cells (repC 0) 34)
  have HL := Lib.hid (hL _ (hD.below hB0))
  have HR0 := Lib.hid (Bk.new w 34 (repC 0))
  have HB0 := Lib.hid hB0
  have HP := Lib.hid (And.intro hrp (And.intro hrf hrv))
  clear hB0 hL hrp hrf hrv hD
  go_enter Tryz.func7, Tryz.ntmps7
  go_wp2_with fail
  refine HL.out.mono ?_
  rintro e w1 ⟨wk, s, sp, t, mp, mt, ms, mf, me, mn, rfl, hW, hge, hb1⟩
  have hR1 := HR0.out.below hb1 HR0.out.lt
  have hB1 := HB0.out.trans (hb1.mono HB0.out.size)
  rw [size_alloc] at hge
  have HPP := Lib.hid (show w.heap.size < w1.heap.size + 1 from by have := hB1.size; omega)
  have hA1 := (Below.refl w1.heap.size w1).alloc (Nat.le_refl _) (.cells #[.int .u64 r.gen, .int .u32 r.size, .int .u32 r.picks, .int .u32 r.names, .int .u32 r.free, .int .u32 r.next, .int .u32 r.hint, .int .u8 r.vols] 30)
  have hA2 := hA1.alloc hA1.size (.cells #[.int .u32 0, .int .u32 0, .int .u32 0, .int .u32 0, .int .u32 0, .int .u32 0, .bool false] 34)
  have hA := hA2.alloc hA2.size (.map #[] 0)
  have k5 := ((Bk.new w1 30 #[.int .u64 r.gen, .int .u32 r.size, .int .u32 r.picks, .int .u32 r.names, .int .u32 r.free, .int .u32 r.next, .int .u32 r.hint, .int .u8 r.vols]).alloc (.cells #[.int .u32 0, .int .u32 0, .int .u32 0, .int .u32 0, .int .u32 0, .int .u32 0, .bool false] 34)).alloc (.map #[] 0)
  have k7 := (Bk.new (w1.alloc (.cells #[.int .u64 r.gen, .int .u32 r.size, .int .u32 r.picks, .int .u32 r.names, .int .u32 r.free, .int .u32 r.next, .int .u32 r.hint, .int .u8 r.vols] 30)) 34 #[.int .u32 0, .int .u32 0, .int .u32 0, .int .u32 0, .int .u32 0, .int .u32 0, .bool false]).alloc (.map #[] 0)
  rw [size_alloc] at k7
  have HC := Lib.hid (show ChkRel w wk s sp t d m k mp mt ms mf me mn 0 0 w1.heap.size (w1.heap.size + 1) r r.size wt g 0 (((w1.alloc (.cells #[.int .u64 r.gen, .int .u32 r.size, .int .u32 r.picks, .int .u32 r.names, .int .u32 r.free, .int .u32 r.next, .int .u32 r.hint, .int .u8 r.vols] 30)).alloc (.cells #[.int .u32 0, .int .u32 0, .int .u32 0, .int .u32 0, .int .u32 0, .int .u32 0, .bool false] 34)).alloc (.map #[] 0)) from ⟨hW.below hA, k5, k7, hR1.below hA hR1.lt, hB1.trans (hA.mono hB1.size)⟩)
  clear hb1 HR0 HB0 HL hA hA1 hA2 hR1 hB1 k5 k7 hW
  have HGE := Lib.hid hge
  clear hge
  have c1 : (((w1.alloc (.cells #[.int .u64 r.gen, .int .u32 r.size, .int .u32 r.picks, .int .u32 r.names, .int .u32 r.free, .int .u32 r.next, .int .u32 r.hint, .int .u8 r.vols] 30)).alloc (.cells #[.int .u32 0, .int .u32 0, .int .u32 0, .int .u32 0, .int .u32 0, .int .u32 0, .bool false] 34)).alloc (.map #[] 0)).cell? ⟨wk, 1, none⟩ = some (.map (some me)) := HC.out.wk.b.cell 1
  have hrng := run_range_map (P := Tryz.prog) (((w1.alloc (.cells #[.int .u64 r.gen, .int .u32 r.size, .int .u32 r.picks, .int .u32 r.names, .int .u32 r.free, .int .u32 r.next, .int .u32 r.hint, .int .u8 r.vols] 30)).alloc (.cells #[.int .u32 0, .int .u32 0, .int .u32 0, .int .u32 0, .int .u32 0, .int .u32 0, .bool false] 34)).alloc (.map #[] 0)) 64 _ _ me #[] 0 Tryz.underlying64 HC.out.wk.e
  have hnxt : ∀ ty, _ := fun ty => next_empty (((w1.alloc (.cells #[.int .u64 r.gen, .int .u32 r.size, .int .u32 r.picks, .int .u32 r.names, .int .u32 r.free, .int .u32 r.next, .int .u32 r.hint, .int .u8 r.vols] 30)).alloc (.cells #[.int .u32 0, .int .u32 0, .int .u32 0, .int .u32 0, .int .u32 0, .int .u32 0, .bool false] 34)).alloc (.map #[] 0)) ty me HC.out.wk.e
  have HNX := Lib.hid hnxt
  have HSZ := Lib.hid (show (((w1.alloc (.cells #[.int .u64 r.gen, .int .u32 r.size, .int .u32 r.picks, .int .u32 r.names, .int .u32 r.free, .int .u32 r.next, .int .u32 r.hint, .int .u8 r.vols] 30)).alloc (.cells #[.int .u32 0, .int .u32 0, .int .u32 0, .int .u32 0, .int .u32 0, .int .u32 0, .bool false] 34)).alloc (.map #[] 0)).heap.size = w1.heap.size + 1 + 1 + 1 by simp only [size_alloc])
  clear hnxt
  simp only [Rt.cells]
  go_wp2_with fail
  have HC1 := Lib.hid (HC.out.go ((Below.refl _ _).alloc (Nat.le_refl _) (.mapIter (some me) 0 #[] 0)))
  have hnx := HNX.out
  rw [HSZ.out] at hnx
  clear HC HNX hrng c1 HSZ
  generalize ((((w1.alloc (.cells #[.int .u64 r.gen, .int .u32 r.size, .int .u32 r.picks, .int .u32 r.names, .int .u32 r.free, .int .u32 r.next, .int .u32 r.hint, .int .u8 r.vols] 30)).alloc (.cells #[.int .u32 0, .int .u32 0, .int .u32 0, .int .u32 0, .int .u32 0, .int .u32 0, .bool false] 34)).alloc (.map #[] 0)).alloc (.mapIter (some me) 0 #[] 0)) = X at *
  have c5 := HC1.out.k5.rt.2.1
  refine wp_loop_rounds 1 ?_
  rw [rounds_succ]
  go_wp2_with fail
  clear hnx
  refine (layout_any r.size hlo hhi _).mono ?_
  rintro e w2 ⟨rfl, hb2⟩
  have hA := hb2.trans (((Below.refl w2.heap.size w2).alloc (Nat.le_refl _) (.cells #[.int .u32 (tal r.size), .int .u32 (pic r.size), .int .u32 (fst r.size)] 48)).mono hb2.size)
  have HC2 := Lib.hid (HC1.out.go hA)
  have hpl := Bk.new w2 48 (planC r.size)
  have c2 : (w2.alloc (.cells #[.int .u32 (tal r.size), .int .u32 (pic r.size), .int .u32 (fst r.size)] 48)).cell? ⟨w2.heap.size, 2, none⟩ = some (.int .u32 (fst r.size)) := hpl.cell 2
  clear hA hb2 hpl HC1 c5
  simp only [planC]
  go_wp2_with fail
  clear c2
  generalize w2.alloc (.cells #[.int .u32 (tal r.size), .int .u32 (pic r.size), .int .u32 (fst r.size)] 48) = X2 at *
  generalize w1.heap.size = p5 at *
  generalize w2.heap.size = p10 at *
  go_loopw [12] (fun i wr => ∃ (j : Int) (np nt : Nat), fst r.size ≤ j ∧ j ≤ r.size ∧ i = .int .u32 j ∧ (np : Int) ≤ j ∧ (nt : Int) ≤ j ∧ ChkRel w wk s sp t d m k mp mt ms mf me mn np nt p5 (p5 + 1) r r.size wt g (j - fst r.size) wr) (fun i _ => (r.size - intOf i).toNat)
  case atStart => exact ⟨fst r.size, 0, 0, by omega, by omega, rfl, by omega, by omega, by rw [show fst r.size - fst r.size = 0 by omega]; exact HC2.out⟩
  case round =>
    obtain ⟨j, np, nt, hj0, hj1, rfl, hp, ht, hR⟩ := hrel
    have HC3 := Lib.hid hR
    have c5 := hR.k5.rt.2.1
    clear hR HC2
    by_cases hlt : j < r.size
    · have c0 : wr.cell? ⟨wk, 0, none⟩ = some (.pointer (some ⟨s, 0, none⟩)) := HC3.out.wk.b.cell 0
      go_wp2_with fail
      refine (sgcount_b s sp t d m k mp mt ms mf np nt 0 0 r r.size wt g (fun _ => 0) r.free r.hint 0 0 (fun _ => none) HP.out.1 rfl (by omega) (by omega) j hj0 hlt _ HC3.out.wk.sg HC3.out.wk.dz).mono ?_
      rintro e w3 ⟨rfl, hS3, hF3⟩
      have HC4 := Lib.hid (HC3.out.counted hS3 hF3 HGE.out)
      have d0 : w3.cell? ⟨p5 + 1, 0, none⟩ = some (.int .u32 (j - fst r.size)) := HC4.out.k7.cell 0
      have g0 : w3.frozen? ⟨p5 + 1, 0, none⟩ = false := HC4.out.k7.frozen 0
      have c2 : (w3.setCell ⟨p5 + 1, 0, none⟩ (.int .u32 (j - fst r.size + 1))).cell? ⟨wk, 2, none⟩ = some (.map (some mn)) := by
        have := (HC4.out.wk.b.far ⟨p5 + 1, 0, none⟩ (bk_ne HC4.out.wk.b HC4.out.k7 (by decide)) (.int .u32 (j - fst r.size + 1))).cell 2
        exact this
      have HC5 := Lib.hid (HC4.out.freed (by have := HPP.out; omega))
      have hlk := HC5.out.wk.ny.look (t := 37) Tryz.underlying37 (zeroU32 _) (show 0 ≤ j by omega) (by omega)
      simp only [Option.getD_none] at hlk
      clear hS3 hF3 HC3 c0 c5
      go_wp2_with fail
      go_roundw
      case rel => exact ⟨j + 1, np + 1, nt + 1, by omega, by omega, rfl, by omega, by omega, by rw [show j + 1 - fst r.size = j - fst r.size + 1 by omega]; exact HC5.out⟩
      case measure => simp [intOf]; omega
    · obtain rfl : j = r.size := by omega
      have hC := HC3.out
      rw [← HP.out.2.1] at hC
      have d0 : wr.cell? ⟨p5 + 1, 0, none⟩ = some (.int .u32 r.free) := hC.k7.cell 0
      have d2 : wr.cell? ⟨p5 + 1, 2, none⟩ = some (.int .u32 0) := hC.k7.cell 2
      have d6 : wr.cell? ⟨p5 + 1, 6, none⟩ = some (.bool false) := hC.k7.cell 6
      have g6 : wr.frozen? ⟨p5 + 1, 6, none⟩ = false := hC.k7.frozen 6
      have c4 : wr.cell? ⟨p5, 4, none⟩ = some (.int .u32 r.free) := hC.k5.rt.2.2.2.2.1
      have c7 : wr.cell? ⟨p5, 7, none⟩ = some (.int .u8 0) := by rw [hC.k5.rt.2.2.2.2.2.2.2, HP.out.2.2]
      have k7 : Bk (wr.setCell ⟨p5 + 1, 6, none⟩ (.bool false)) (p5 + 1) 34 (repC r.free) := hC.k7.set 6 _
      have k2 := hC.k2.far ⟨p5 + 1, 6, none⟩ (by show w.heap.size ≠ p5 + 1; have := HPP.out; omega) (.bool false)
      have hbl := hC.bl.setCell (p := ⟨p5 + 1, 6, none⟩) (by have := HPP.out; show w.heap.size ≤ p5 + 1; omega) (.bool false)
      have hth := k2.there (repC r.free).size (Nat.le_refl 7)
      have kR := k2.all (repC r.free).toList rfl
      rw [Array.toArray_toList] at kR
      have HE := Lib.hid (And.intro kR (below_setCells w.heap.size (Nat.le_refl _) (repC r.free).toList hbl 0))
      have HK7 := Lib.hid k7
      clear hC k7 k2 hbl kR HC3
      go_wp2_with (first | (refine wpList_load_row rfl 34 _ rfl _ rfl _ (repC r.free) _ _ HK7.out Tryz.underlying34 rfl (by kernel_rfl) ?_) | (refine wpList_store_mid rfl 34 _ _ rfl w.heap.size 0 (repC r.free) rfl rfl hth (by kernel_rfl) (by kernel_rfl) ?_; generalize (wr.setCell ⟨p5 + 1, 6, none⟩ (.bool false)).setCells w.heap.size 0 (repC r.free).toList = w9 at *))
      refine bodyPost_ret (results_row_tmp rfl _ _ w.heap.size _ (repC r.free) _ rfl HE.out.1 Tryz.underlying34 rfl (by kernel_rfl)) rfl ⟨rfl, HE.out.2⟩
end Go.Proofs.YtjnbpbnhkinggaaGreatDoor.St
