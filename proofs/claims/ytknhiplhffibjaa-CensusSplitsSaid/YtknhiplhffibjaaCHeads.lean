/- Contract of census.Head: the censuses of a volume's head. -/
import Derived.Test.YtknhiplhffibjaaCHead
import Derived.Deep.QuietTactic
import Derived.BigQuiet
import Derived.IntWalk
import Derived.Laws.Entries
import Derived.Deep.Draws
import Derived.Laws.Rows
namespace Go.Proofs.Ytknhiplhffibjaa.Cs
open Go.RowKit Go.Proofs.Ytknhiplhffibjaa.Fl

theorem put_complex (P : Program) (w : World) (a : Addr) (m : Mode) (k : FloatKind) (x y : Nat) : (store a (.complex k x y) m).run P w = stored P w a (.complex k x y) m := run_store P w a _ m rfl
attribute [local go_sem] put_complex

/-- A block that is known whole. -/
def Bk (w : World) (g : Nat) (t : TypeId) (cs : Array Value) : Prop := w.heap[g]? = some (.cells cs t (0, 0))
theorem Bk.lt {w : World} {g : Nat} {t : TypeId} {cs : Array Value} (h : Bk w g t cs) : g < w.heap.size := by
  rcases Nat.lt_or_ge g w.heap.size with hlt | hge
  · exact hlt
  · unfold Bk at h; rw [Array.getElem?_eq_none hge] at h; cases h
theorem Bk.cell {w : World} {g : Nat} {t : TypeId} {cs : Array Value} (h : Bk w g t cs) (i : Nat) : w.cell? ⟨g, i, none⟩ = cs[i]? := by
  unfold Bk at h
  simp [World.cell?, h]
theorem Bk.frozen {w : World} {g : Nat} {t : TypeId} {cs : Array Value} (h : Bk w g t cs) (i : Nat) : w.frozen? ⟨g, i, none⟩ = false := by
  unfold Bk at h
  simp [World.frozen?, h]
theorem Bk.below {w w' : World} {g B : Nat} {t : TypeId} {cs : Array Value} (h : Bk w g t cs) (hb : Below B w w') (hg : g < B) : Bk w' g t cs := (hb.block g hg).trans h
theorem Bk.set {w : World} {g : Nat} {t : TypeId} {cs : Array Value} (h : Bk w g t cs) (i : Nat) (u : Value) : Bk (w.setCell ⟨g, i, none⟩ u) g t (cs.setIfInBounds i u) := by
  unfold Bk at h ⊢
  simp [World.setCell, Array.getElem?_modify, h]
theorem Bk.far {w : World} {g : Nat} {t : TypeId} {cs : Array Value} (h : Bk w g t cs) (p : Addr) (hp : g ≠ p.block) (u : Value) : Bk (w.setCell p u) g t cs := by
  unfold Bk at h ⊢
  rw [Below.heap_setCell w p u g hp]; exact h
theorem Bk.drewN {w : World} {g : Nat} {t : TypeId} {cs : Array Value} (h : Bk w g t cs) (n : Nat) : Bk (w.drewN n) g t cs := h

theorem Bk.new (w : World) (t : TypeId) (cs : Array Value) : Bk (w.alloc (.cells cs t)) w.heap.size t cs := heap_alloc_new w _
theorem Bk.alloc {w : World} {g : Nat} {t : TypeId} {cs : Array Value} (h : Bk w g t cs) (o : Obj) : Bk (w.alloc o) g t cs := (Below.heap_alloc w o g h.lt).trans h

/-- What stands at a place of the censuses that are made, ahead of round j. -/
def outv (O Bt : Nat → Int) (j i : Nat) : Value := if i < j then .complex .f64 (floatOfInt .f64 (O i)) (floatOfInt .f64 (Bt i)) else .complex .f64 0 0
def outA (O Bt : Nat → Int) (j : Nat) : Array Value := #[outv O Bt j 0, outv O Bt j 1, outv O Bt j 2, outv O Bt j 3, outv O Bt j 4, outv O Bt j 5, outv O Bt j 6, outv O Bt j 7]
theorem outA_zero (O Bt : Nat → Int) : outA O Bt 0 = #[.complex .f64 0 0, .complex .f64 0 0, .complex .f64 0 0, .complex .f64 0 0, .complex .f64 0 0, .complex .f64 0 0, .complex .f64 0 0, .complex .f64 0 0] := rfl
theorem outA_full (O Bt : Nat → Int) : outA O Bt 8 = #[.complex .f64 (floatOfInt .f64 (O 0)) (floatOfInt .f64 (Bt 0)), .complex .f64 (floatOfInt .f64 (O 1)) (floatOfInt .f64 (Bt 1)), .complex .f64 (floatOfInt .f64 (O 2)) (floatOfInt .f64 (Bt 2)), .complex .f64 (floatOfInt .f64 (O 3)) (floatOfInt .f64 (Bt 3)), .complex .f64 (floatOfInt .f64 (O 4)) (floatOfInt .f64 (Bt 4)), .complex .f64 (floatOfInt .f64 (O 5)) (floatOfInt .f64 (Bt 5)), .complex .f64 (floatOfInt .f64 (O 6)) (floatOfInt .f64 (Bt 6)), .complex .f64 (floatOfInt .f64 (O 7)) (floatOfInt .f64 (Bt 7))] := by simp [outA, outv]
theorem outA_at (O Bt : Nat → Int) (j : Nat) (hj : j < 8) : (outA O Bt j)[j]? = some (.complex .f64 0 0) := by
  have h : j = 0 ∨ j = 1 ∨ j = 2 ∨ j = 3 ∨ j = 4 ∨ j = 5 ∨ j = 6 ∨ j = 7 := by omega
  rcases h with rfl | rfl | rfl | rfl | rfl | rfl | rfl | rfl <;> simp [outA, outv]
theorem outA_set (O Bt : Nat → Int) (j : Nat) (hj : j < 8) : (outA O Bt j).setIfInBounds j (.complex .f64 (floatOfInt .f64 (O j)) (floatOfInt .f64 (Bt j))) = outA O Bt (j + 1) := by
  have h : j = 0 ∨ j = 1 ∨ j = 2 ∨ j = 3 ∨ j = 4 ∨ j = 5 ∨ j = 6 ∨ j = 7 := by omega
  rcases h with rfl | rfl | rfl | rfl | rfl | rfl | rfl | rfl <;> simp [outA, outv]

theorem below_round {w wr : World} (hb : Below w.heap.size w wr) (n j : Nat) (v : Value) : Below w.heap.size w ((wr.drewN n).setCell ⟨w.heap.size + 1 + 1, j, none⟩ v) := by
  have h : Below w.heap.size w (wr.drewN n) := ⟨hb.os, hb.tape, hb.output, hb.size, hb.block⟩
  exact h.setCell (by show w.heap.size ≤ w.heap.size + 1 + 1; omega) _
theorem size_alloc2 (w : World) (a b : Obj) : ((w.alloc a).alloc b).heap.size = w.heap.size + 1 + 1 := by simp
/-- A head's cells: how many objects, how many bytes. -/
def HeadIs (hA : Array Value) (O Bt : Nat → Int) : Prop := hA.size = 24 ∧ (∀ j, j < 8 → hA[8 + j]? = some (.int .u32 (O j)) ∧ 0 ≤ O j ∧ O j ≤ 4294967295) ∧ (∀ j, j < 8 → hA[16 + j]? = some (.int .u64 (Bt j)) ∧ 0 ≤ Bt j ∧ Bt j ≤ 18446744073709551615)

theorem quiet_of_left {P : Program} {f : FuncId} {args : Array Value} {w : World} {n : Nat} {v : Value}
    (h : Calls P f args (w.drewN n) fun e w' => e = .returned v ∧ w.drewN n = w') : Calls P f args (w.drewN n) fun e w'' => e = .returned v ∧ ∃ m, w'' = w.drewN m :=
  h.mono fun _ _ ⟨he, hm⟩ => ⟨he, n, hm.symm⟩

theorem below8 {w wr : World} (hb : Below w.heap.size w wr) (v0 v1 v2 v3 v4 v5 v6 v7 : Value) : Below w.heap.size w ((((((((wr.setCell ⟨w.heap.size + 1, 0, none⟩ v0).setCell ⟨w.heap.size + 1, 1, none⟩ v1).setCell ⟨w.heap.size + 1, 2, none⟩ v2).setCell ⟨w.heap.size + 1, 3, none⟩ v3).setCell ⟨w.heap.size + 1, 4, none⟩ v4).setCell ⟨w.heap.size + 1, 5, none⟩ v5).setCell ⟨w.heap.size + 1, 6, none⟩ v6).setCell ⟨w.heap.size + 1, 7, none⟩ v7) := by
  have h : w.heap.size ≤ w.heap.size + 1 := by omega
  exact (((((((hb.setCell h _).setCell h _).setCell h _).setCell h _).setCell h _).setCell h _).setCell h _).setCell h _

set_option maxRecDepth 100000 in
set_option maxHeartbeats 4000000 in
theorem heads_ok (hA : Array Value) (O Bt : Nat → Int) (w : World) (hI : HeadIs hA O Bt) (hB : ∀ i, i < 8 → Bt i ≤ 9007199254740992) :
    Calls Try.prog 11 #[.agg hA] w fun e w' => e = .returned (.tuple #[.agg #[.complex .f64 (floatOfInt .f64 (O 0)) (floatOfInt .f64 (Bt 0)), .complex .f64 (floatOfInt .f64 (O 1)) (floatOfInt .f64 (Bt 1)), .complex .f64 (floatOfInt .f64 (O 2)) (floatOfInt .f64 (Bt 2)), .complex .f64 (floatOfInt .f64 (O 3)) (floatOfInt .f64 (Bt 3)), .complex .f64 (floatOfInt .f64 (O 4)) (floatOfInt .f64 (Bt 4)), .complex .f64 (floatOfInt .f64 (O 5)) (floatOfInt .f64 (Bt 5)), .complex .f64 (floatOfInt .f64 (O 6)) (floatOfInt .f64 (Bt 6)), .complex .f64 (floatOfInt .f64 (O 7)) (floatOfInt .f64 (Bt 7))], .int .i64 0]) ∧ Below w.heap.size w w' := by
  have HI := Lib.hid hI
  have HB := Lib.hid hB
  clear hI hB
  go_enter Try.func11, Try.ntmps11
  go_wp2_with fail
  go_loopw [8] (fun i wr => ∃ j : Nat, j ≤ 8 ∧ i = .int .i64 j ∧ Bk wr w.heap.size 42 hA ∧ Bk wr (w.heap.size + 1) 43 #[.complex .f64 0 0, .complex .f64 0 0, .complex .f64 0 0, .complex .f64 0 0, .complex .f64 0 0, .complex .f64 0 0, .complex .f64 0 0, .complex .f64 0 0] ∧ Bk wr (w.heap.size + 1 + 1) 43 (outA O Bt j) ∧ Below w.heap.size w wr) (fun i _ => 8 - (intOf i).toNat)
  case atStart => exact ⟨0, by omega, rfl, ((Bk.new _ _ _).alloc _).alloc _, (show Bk ((w.alloc _).alloc _) (w.heap.size + 1) _ _ from by simpa using Bk.new (w.alloc _) 43 #[.complex .f64 0 0, .complex .f64 0 0, .complex .f64 0 0, .complex .f64 0 0, .complex .f64 0 0, .complex .f64 0 0, .complex .f64 0 0, .complex .f64 0 0]).alloc _, (by have h := Bk.new ((w.alloc (.cells hA 42)).alloc (.cells #[.complex .f64 0 0, .complex .f64 0 0, .complex .f64 0 0, .complex .f64 0 0, .complex .f64 0 0, .complex .f64 0 0, .complex .f64 0 0, .complex .f64 0 0] 43)) 43 #[.complex .f64 0 0, .complex .f64 0 0, .complex .f64 0 0, .complex .f64 0 0, .complex .f64 0 0, .complex .f64 0 0, .complex .f64 0 0, .complex .f64 0 0]; simp only [size_alloc2] at h; exact h), (((Below.refl _ _).alloc (Nat.le_refl _) _).alloc (by simp) _).alloc (by simp; omega) _⟩
  case round =>
    obtain ⟨j, hj, rfl, hH, hR, hU, hbw⟩ := hrel
    have HH := Lib.hid hH
    have HR := Lib.hid hR
    have HU := Lib.hid hU
    clear hH hR hU
    by_cases hlt : j < 8
    · have c1 : wr.cell? ⟨w.heap.size, 8 + j, none⟩ = some (.int .u32 (O j)) := (HH.out.cell _).trans (HI.out.2.1 j hlt).1
      have c2 : wr.cell? ⟨w.heap.size, 16 + j, none⟩ = some (.int .u64 (Bt j)) := (HH.out.cell _).trans (HI.out.2.2 j hlt).1
      have c3 : wr.cell? ⟨w.heap.size + 1 + 1, j, none⟩ = some (.complex .f64 0 0) := (HU.out.cell _).trans (outA_at O Bt j hlt)
      have c4 : wr.frozen? ⟨w.heap.size + 1 + 1, j, none⟩ = false := HU.out.frozen _
      have hj0 : (0 : Int) ≤ (j : Int) := by omega
      have hj1 : (j : Int) < 8 := by omega
      obtain ⟨o1, o2⟩ := (HI.out.2.1 j hlt).2
      have b2 := HB.out j hlt
      have b1 := (HI.out.2.2 j hlt).2.1
      have e1 : IntKind.u64.wrap (O j) = O j := IntWalk.u64_in _ (by omega)
      go_wp2_with fail
      go_quiet ((go_at_call 6; exact quiet_of_left (of_yes _ _ _ (by omega) (by omega) (by omega) (by omega))))
      go_wp2_with fail
      go_roundw
      case rel => exact ⟨j + 1, by omega, by go_num, (HH.out.drewN _).far _ (by simp; omega) _, (HR.out.drewN _).far _ (by simp) _, by rw [← outA_set O Bt j hlt]; exact (HU.out.drewN _).set j _, below_round hbw _ j _⟩
      case measure => simp [intOf]; omega
    · obtain rfl : j = 8 := by omega
      have hU := HU.out
      rw [outA_full] at hU
      have u0 := hU.cell 0
      have r0 := HR.out.cell 0
      have s0 := HR.out.frozen 0
      have u1 := hU.cell 1
      have r1 := HR.out.cell 1
      have s1 := HR.out.frozen 1
      have u2 := hU.cell 2
      have r2 := HR.out.cell 2
      have s2 := HR.out.frozen 2
      have u3 := hU.cell 3
      have r3 := HR.out.cell 3
      have s3 := HR.out.frozen 3
      have u4 := hU.cell 4
      have r4 := HR.out.cell 4
      have s4 := HR.out.frozen 4
      have u5 := hU.cell 5
      have r5 := HR.out.cell 5
      have s5 := HR.out.frozen 5
      have u6 := hU.cell 6
      have r6 := HR.out.cell 6
      have s6 := HR.out.frozen 6
      have u7 := hU.cell 7
      have r7 := HR.out.cell 7
      have s7 := HR.out.frozen 7
      simp only [List.getElem?_toArray, List.getElem?_cons_zero, List.getElem?_cons_succ] at u0 u1 u2 u3 u4 u5 u6 u7 r0 r1 r2 r3 r4 r5 r6 r7
      clear hU
      go_wp2_with fail
      refine bodyPost_ret (v := .tuple #[.agg #[.complex .f64 (floatOfInt .f64 (O 0)) (floatOfInt .f64 (Bt 0)), .complex .f64 (floatOfInt .f64 (O 1)) (floatOfInt .f64 (Bt 1)), .complex .f64 (floatOfInt .f64 (O 2)) (floatOfInt .f64 (Bt 2)), .complex .f64 (floatOfInt .f64 (O 3)) (floatOfInt .f64 (Bt 3)), .complex .f64 (floatOfInt .f64 (O 4)) (floatOfInt .f64 (Bt 4)), .complex .f64 (floatOfInt .f64 (O 5)) (floatOfInt .f64 (Bt 5)), .complex .f64 (floatOfInt .f64 (O 6)) (floatOfInt .f64 (Bt 6)), .complex .f64 (floatOfInt .f64 (O 7)) (floatOfInt .f64 (Bt 7))], .int .i64 0]) (by simp [results, Try.results11, go_sem, r0, r1, r2, r3, r4, r5, r6, r7]) rfl ⟨rfl, ?_⟩
      exact below8 hbw _ _ _ _ _ _ _ _
set_option maxRecDepth 100000 in
set_option maxHeartbeats 4000000 in
theorem heads_over (hA : Array Value) (O Bt : Nat → Int) (w : World) (hI : HeadIs hA O Bt) (K : Nat) (hK : K < 8) (hB : ∀ i, i < K → Bt i ≤ 9007199254740992) (hov : 9007199254740992 < Bt K) :
    Calls Try.prog 11 #[.agg hA] w fun e w' => e = .returned (.tuple #[.agg #[.complex .f64 0 0, .complex .f64 0 0, .complex .f64 0 0, .complex .f64 0 0, .complex .f64 0 0, .complex .f64 0 0, .complex .f64 0 0, .complex .f64 0 0], .int .i64 211]) ∧ Below w.heap.size w w' := by
  have HI := Lib.hid hI
  have HB := Lib.hid hB
  clear hI hB
  go_enter Try.func11, Try.ntmps11
  go_wp2_with fail
  go_loopw [8] (fun i wr => ∃ j : Nat, j ≤ K ∧ i = .int .i64 j ∧ Bk wr w.heap.size 42 hA ∧ Bk wr (w.heap.size + 1) 43 #[.complex .f64 0 0, .complex .f64 0 0, .complex .f64 0 0, .complex .f64 0 0, .complex .f64 0 0, .complex .f64 0 0, .complex .f64 0 0, .complex .f64 0 0] ∧ Bk wr (w.heap.size + 1 + 1) 43 (outA O Bt j) ∧ Below w.heap.size w wr) (fun i _ => 8 - (intOf i).toNat)
  case atStart => exact ⟨0, by omega, rfl, ((Bk.new _ _ _).alloc _).alloc _, (show Bk ((w.alloc _).alloc _) (w.heap.size + 1) _ _ from by simpa using Bk.new (w.alloc _) 43 #[.complex .f64 0 0, .complex .f64 0 0, .complex .f64 0 0, .complex .f64 0 0, .complex .f64 0 0, .complex .f64 0 0, .complex .f64 0 0, .complex .f64 0 0]).alloc _, (by have h := Bk.new ((w.alloc (.cells hA 42)).alloc (.cells #[.complex .f64 0 0, .complex .f64 0 0, .complex .f64 0 0, .complex .f64 0 0, .complex .f64 0 0, .complex .f64 0 0, .complex .f64 0 0, .complex .f64 0 0] 43)) 43 #[.complex .f64 0 0, .complex .f64 0 0, .complex .f64 0 0, .complex .f64 0 0, .complex .f64 0 0, .complex .f64 0 0, .complex .f64 0 0, .complex .f64 0 0]; simp only [size_alloc2] at h; exact h), (((Below.refl _ _).alloc (Nat.le_refl _) _).alloc (by simp) _).alloc (by simp; omega) _⟩
  case round =>
    obtain ⟨j, hj, rfl, hH, hR, hU, hbw⟩ := hrel
    have HH := Lib.hid hH
    have HR := Lib.hid hR
    have HU := Lib.hid hU
    clear hH hR hU
    by_cases hltK : j < K
    · have hlt : j < 8 := by omega
      have c1 : wr.cell? ⟨w.heap.size, 8 + j, none⟩ = some (.int .u32 (O j)) := (HH.out.cell _).trans (HI.out.2.1 j hlt).1
      have c2 : wr.cell? ⟨w.heap.size, 16 + j, none⟩ = some (.int .u64 (Bt j)) := (HH.out.cell _).trans (HI.out.2.2 j hlt).1
      have c3 : wr.cell? ⟨w.heap.size + 1 + 1, j, none⟩ = some (.complex .f64 0 0) := (HU.out.cell _).trans (outA_at O Bt j hlt)
      have c4 : wr.frozen? ⟨w.heap.size + 1 + 1, j, none⟩ = false := HU.out.frozen _
      have hj0 : (0 : Int) ≤ (j : Int) := by omega
      have hj1 : (j : Int) < 8 := by omega
      obtain ⟨o1, o2⟩ := (HI.out.2.1 j hlt).2
      have b2 := HB.out j hltK
      have b1 := (HI.out.2.2 j hlt).2.1
      have e1 : IntKind.u64.wrap (O j) = O j := IntWalk.u64_in _ (by omega)
      go_wp2_with fail
      go_quiet ((go_at_call 6; exact quiet_of_left (of_yes _ _ _ (by omega) (by omega) (by omega) (by omega))))
      go_wp2_with fail
      go_roundw
      case rel => exact ⟨j + 1, by omega, by go_num, (HH.out.drewN _).far _ (by simp; omega) _, (HR.out.drewN _).far _ (by simp) _, by rw [← outA_set O Bt j hlt]; exact (HU.out.drewN _).set j _, below_round hbw _ j _⟩
      case measure => simp [intOf]; omega
    · obtain rfl : j = K := by omega
      have hlt : j < 8 := hK
      have c1 : wr.cell? ⟨w.heap.size, 8 + j, none⟩ = some (.int .u32 (O j)) := (HH.out.cell _).trans (HI.out.2.1 j hlt).1
      have c2 : wr.cell? ⟨w.heap.size, 16 + j, none⟩ = some (.int .u64 (Bt j)) := (HH.out.cell _).trans (HI.out.2.2 j hlt).1
      have hj0 : (0 : Int) ≤ (j : Int) := by omega
      have hj1 : (j : Int) < 8 := by omega
      obtain ⟨o1, o2⟩ := (HI.out.2.1 j hlt).2
      have e1 : IntKind.u64.wrap (O j) = O j := IntWalk.u64_in _ (by omega)
      have r0 := HR.out.cell 0
      have s0 := HR.out.frozen 0
      have r1 := HR.out.cell 1
      have s1 := HR.out.frozen 1
      have r2 := HR.out.cell 2
      have s2 := HR.out.frozen 2
      have r3 := HR.out.cell 3
      have s3 := HR.out.frozen 3
      have r4 := HR.out.cell 4
      have s4 := HR.out.frozen 4
      have r5 := HR.out.cell 5
      have s5 := HR.out.frozen 5
      have r6 := HR.out.cell 6
      have s6 := HR.out.frozen 6
      have r7 := HR.out.cell 7
      have s7 := HR.out.frozen 7
      simp only [List.getElem?_toArray, List.getElem?_cons_zero, List.getElem?_cons_succ] at r0 r1 r2 r3 r4 r5 r6 r7
      go_wp2_with fail
      go_quiet ((go_at_call 6; exact quiet_of_left (of_no _ _ _ (by omega) (by omega) (by omega))))
      go_wp2_with fail
      refine bodyPost_ret (v := .tuple #[.agg #[.complex .f64 0 0, .complex .f64 0 0, .complex .f64 0 0, .complex .f64 0 0, .complex .f64 0 0, .complex .f64 0 0, .complex .f64 0 0, .complex .f64 0 0], .int .i64 211]) (by simp [results, Try.results11, go_sem, r0, r1, r2, r3, r4, r5, r6, r7]) rfl ⟨rfl, ?_⟩
      have hbq : Below w.heap.size w (wr.drewN nq) := ⟨hbw.os, hbw.tape, hbw.output, hbw.size, hbw.block⟩
      exact below8 hbq _ _ _ _ _ _ _ _
end Go.Proofs.Ytknhiplhffibjaa.Cs
