/- The contract of field.take at numbers. -/
import Derived.Test.YtjnbpbnhkinggaaGreatDoorSRead
import Derived.StillTailTactics
import Derived.Deep.DrawnRows
namespace Go.Proofs.YtjnbpbnhkinggaaGreatDoor.St
open Go.RowKit

theorem Rd.setFine {w : World} {q g : Nat} {b : List UInt8} {at_ : Int} {fine : Bool} (h : Rd w q g b at_ fine) (ok : Bool) : Rd (w.setCell ⟨q, 2, none⟩ (.bool ok)) q g b at_ ok :=
  ⟨h.1.set 2 _, h.2.far _ (bk_ne h.2 h.1 (by decide)) _⟩
theorem Rd.setAt {w : World} {q g : Nat} {b : List UInt8} {at_ : Int} {fine : Bool} (h : Rd w q g b at_ fine) (to_ : Int) : Rd (w.setCell ⟨q, 1, none⟩ (.int .i64 to_)) q g b to_ fine :=
  ⟨h.1.set 1 _, h.2.far _ (bk_ne h.2 h.1 (by decide)) _⟩
theorem Rd.drew {w : World} {q g : Nat} {b : List UInt8} {at_ : Int} {fine : Bool} (h : Rd w q g b at_ fine) : Rd w.drew q g b at_ fine := h
theorem Rd.drewN {w : World} {q g : Nat} {b : List UInt8} {at_ : Int} {fine : Bool} (h : Rd w q g b at_ fine) (n : Nat) : Rd (w.drewN n) q g b at_ fine := h
theorem Rd.fr {w w' : World} {q g : Nat} {b : List UInt8} {at_ : Int} {fine : Bool} {S : Nat → Prop} (h : Rd w q g b at_ fine) (hf : Fr S w w') (h1 : ¬ S q) (h2 : ¬ S g) : Rd w' q g b at_ fine := ⟨h.1.fr hf h1, h.2.fr hf h2⟩
theorem Rd.below {w w' : World} {q g : Nat} {b : List UInt8} {at_ : Int} {fine : Bool} (h : Rd w q g b at_ fine) (hb : Below w.heap.size w w') : Rd w' q g b at_ fine := ⟨h.1.below hb h.1.lt, h.2.below hb h.2.lt⟩

/-- A callee that leaves the world alone, in a region that only reads. -/
theorem qsame {P : Program} {f : FuncId} {args : Array Value} {w : World} {n : Nat} {v : Value}
    (h : Calls P f args (w.drewN n) fun e w' => e = .returned v ∧ w.drewN n = w') : Calls P f args (w.drewN n) fun e w'' => e = .returned v ∧ ∃ m, w'' = w.drewN m :=
  h.mono fun _ _ ⟨he, hm⟩ => ⟨he, n, hm.symm⟩

theorem Rd.far {w : World} {q g : Nat} {b : List UInt8} {at_ : Int} {fine : Bool} (h : Rd w q g b at_ fine) {p : Addr} (h1 : q ≠ p.block) (h2 : g ≠ p.block) (u : Value) : Rd (w.setCell p u) q g b at_ fine := ⟨h.1.far p h1 u, h.2.far p h2 u⟩
theorem numCells {w : World} {q g : Nat} {b : List UInt8} {at_ : Int} {fine : Bool} {o n : Nat} (hl : b.length = 256) (h : Rd w q g b at_ fine) (hn : o + n ≤ 256) : ∀ i, i < n → w.cell? ⟨g, o + i, none⟩ = some (.int .u8 ((((b.drop o).take n).getD i 0).toNat : Int)) := by
  intro i hi
  rw [h.2.cell, bA_at b (o + i) (by omega)]
  simp [List.getD, hi, List.getElem?_take, List.getElem?_drop, List.getElem?_eq_getElem (show o + i < b.length by omega)]

attribute [local go_sem ↓] Go.wp_at_zero Go.wp_at_succ
set_option maxRecDepth 100000 in
set_option maxHeartbeats 1000000 in
theorem takeEnd_any (p4 p9 q g : Nat) (b : List UInt8) (at_ : Int) (fine ok : Bool) (u : FrameMode) (w : World) (h : Rd w q g b at_ fine) (h4 : w.cell? ⟨p4, 0, none⟩ = some (.pointer (some ⟨q, 0, none⟩))) (h9 : w.cell? ⟨p9, 0, none⟩ = some (.bool ok)) :
    CallsD Tryz.prog 97 #[.pointer (some ⟨p4, 0, none⟩), .pointer (some ⟨p9, 0, none⟩)] u w fun e u' w' => u' = u ∧ e = .returned (.tuple #[]) ∧ Rd w' q g b at_ (fine && ok) ∧ Fr (fun i => i = q) w w' := by
  have c2 : w.cell? ⟨q, 2, none⟩ = some (.bool fine) := h.1.cell 2
  have f2 : w.frozen? ⟨q, 2, none⟩ = false := h.1.frozen 2
  have H := Lib.hid h
  clear h
  cases fine
  all_goals
    go_enter_d Tryz.func97, Tryz.ntmps97
    go_wp2_with fail
    go_still_tail 10, (by kernel_rfl)
    change wpList _ _ _ _ _ w.drew
    go_wp2_with fail
    go_end0
    exact ⟨rfl, H.out.drew.setFine _, ((Fr.refl (fun i => i = q) w).setCell (p := ⟨q, 2, none⟩) (fun _ => rfl) _).drew⟩

attribute [local go_sem ↓] Go.wp_at_zero Go.wp_at_succ
set_option maxRecDepth 100000 in
set_option maxHeartbeats 1000000 in
theorem take_no (q g : Nat) (b : List UInt8) (at_ : Int) (may : Bool) (n : Int) (fv : Value) (w : World) (h : Rd w q g b at_ false) :
    Calls Tryz.prog 83 #[.pointer (some ⟨q, 0, none⟩), .bool may, .int .i64 n, fv] w fun e w' => e = .returned (.int .u64 0) ∧ Rd w' q g b at_ false ∧ Fr (fun i => i = q) w w' := by
  have hmf : ∀ (fn : Fn) (first cap : Array Value) (w : World), (Instr.makeFunc fn first cap).run Tryz.prog w = .ok (.func fn first cap) w := fun _ _ _ _ => rfl
  have hB : Below w.heap.size w ((w.alloc (.cells #[.pointer (some ⟨q, 0, none⟩)] 156)).alloc (.cells #[.bool false] 4)) := ((Below.refl _ _).alloc (Nat.le_refl _) _).alloc (by simp) _
  have HB := Lib.hid hB
  have HR := Lib.hid (h.below hB)
  clear h hB
  go_enter_defers Tryz.func83, Tryz.ntmps83
  go_wp2_with fail
  go_quiet ((go_at_call 85; exact qsame (fine_any q g b at_ false _ (HR.out.drewN _))))
  go_wp2_with fail
  refine leaves_cons (f := 97) (args := #[.pointer (some ⟨w.heap.size, 0, none⟩), .pointer (some ⟨w.heap.size + 1, 0, none⟩)]) (by simp) (by simp [go_sem]) ?_
  refine (takeEnd_any w.heap.size (w.heap.size + 1) q g b at_ false false .returning _ (HR.out.drewN _) ?_ ?_).mono ?_
  · simp [go_sem]
  · simp [go_sem]
  rintro e u' w'' ⟨rfl, rfl, hr, hf⟩
  refine ⟨_, results_tmp rfl _ _ _, rfl, hr, ?_⟩
  exact (Fr.of_all HB.out _).trans ((Fr.refl _ _).drewN _ |>.trans hf (fun _ _ h => h)) (fun _ _ h => h)
set_option maxRecDepth 100000 in
set_option maxHeartbeats 1000000 in
theorem take_yes (q g : Nat) (b : List UInt8) (hl : b.length = 256) (o n : Nat) (hn : o + n ≤ 252) (hn1 : 1 ≤ n) (hn8 : n ≤ 8) (w : World) (h : Rd w q g b o true) :
    Calls Tryz.prog 83 #[.pointer (some ⟨q, 0, none⟩), .bool true, .int .i64 n, .func (.func 84) #[] #[]] w fun e w' => e = .returned (.int .u64 (un ((b.drop o).take n))) ∧ Rd w' q g b (o + n : Nat) true ∧ Fr (fun i => i = q) w w' := by
  have hmf : ∀ (fn : Fn) (first cap : Array Value) (w : World), (Instr.makeFunc fn first cap).run Tryz.prog w = .ok (.func fn first cap) w := fun _ _ _ _ => rfl
  have hB : Below w.heap.size w ((w.alloc (.cells #[.pointer (some ⟨q, 0, none⟩)] 156)).alloc (.cells #[.bool false] 4)) := ((Below.refl _ _).alloc (Nat.le_refl _) _).alloc (by simp) _
  have HB := Lib.hid hB
  have hq := h.1.lt
  have hg := h.2.lt
  have HR := Lib.hid (h.below hB)
  have c0 : ((w.alloc (.cells #[.pointer (some ⟨q, 0, none⟩)] 156)).alloc (.cells #[.bool false] 4)).cell? ⟨q, 0, none⟩ = some (.slice (some ⟨g, 0, none⟩) 252 256) := HR.out.1.cell 0
  have c1 : ((w.alloc (.cells #[.pointer (some ⟨q, 0, none⟩)] 156)).alloc (.cells #[.bool false] 4)).cell? ⟨q, 1, none⟩ = some (.int .i64 o) := HR.out.1.cell 1
  have HL := Lib.hid hl
  have x0 : (0 : Int) ≤ (o : Int) := by omega
  have x1 : (o : Int) + n ≤ 256 := by omega
  have x2 : (o : Int) ≤ o + n := by omega
  have x3 : (n : Int) ≤ 252 - o := by omega
  have x4 : 0 ≤ (o : Int) + n := by omega
  clear h hB hl
  go_enter_defers Tryz.func83, Tryz.ntmps83
  go_wp2_with fail
  go_quiet ((go_at_call 85; exact qsame (fine_any q g b _ true _ (HR.out.drewN _))))
  have HR1 := Lib.hid (HR.out.drewN nq)
  have HB1 := Lib.hid (below_drewN HB.out nq)
  have k0 : (((w.alloc (.cells #[.pointer (some ⟨q, 0, none⟩)] 156)).alloc (.cells #[.bool false] 4)).drewN nq).cell? ⟨q, 0, none⟩ = some (.slice (some ⟨g, 0, none⟩) 252 256) := c0
  have k1 : (((w.alloc (.cells #[.pointer (some ⟨q, 0, none⟩)] 156)).alloc (.cells #[.bool false] 4)).drewN nq).cell? ⟨q, 1, none⟩ = some (.int .i64 o) := c1
  have HF := Lib.hid (show (((w.alloc (.cells #[.pointer (some ⟨q, 0, none⟩)] 156)).alloc (.cells #[.bool false] 4)).drewN nq).frozen? ⟨q, 1, none⟩ = false from HR1.out.1.frozen 1)
  have k4 : (((w.alloc (.cells #[.pointer (some ⟨q, 0, none⟩)] 156)).alloc (.cells #[.bool false] 4)).drewN nq).cell? ⟨w.heap.size, 0, none⟩ = some (.pointer (some ⟨q, 0, none⟩)) := by simp [go_sem]
  have HK9 := Lib.hid (show Bk (((w.alloc (.cells #[.pointer (some ⟨q, 0, none⟩)] 156)).alloc (.cells #[.bool false] 4)).drewN nq) (w.heap.size + 1) 4 #[.bool false] from by simpa using (Bk.new (w.alloc (.cells #[.pointer (some ⟨q, 0, none⟩)] 156)) 4 #[.bool false]).drewN nq)
  clear c0 c1 HR HB
  generalize ((w.alloc (.cells #[.pointer (some ⟨q, 0, none⟩)] 156)).alloc (.cells #[.bool false] 4)).drewN nq = W at *
  go_wp2_with fail
  go_quiet ((go_at_call 84; exact qsame (num1_any g o _ n ((b.drop o).take n) (by rw [List.length_take, List.length_drop, HL.out]; omega) hn8 (by omega) _ (numCells HL.out HR1.out (by omega)))))
  have hne : ¬ q = w.heap.size + 1 := by omega
  have hne2 : ¬ w.heap.size + 1 = q := by omega
  have c9 : W.cell? ⟨w.heap.size + 1, 0, none⟩ = some (.bool false) := HK9.out.cell 0
  have f9 : W.frozen? ⟨w.heap.size + 1, 0, none⟩ = false := HK9.out.frozen 0
  have f1 := HF.out
  go_wp2_with fail
  have HV := Lib.hid (((HR1.out.drewN nq).far (p := ⟨w.heap.size + 1, 0, none⟩) hne (by simp; omega) (.bool true)).setAt ((o : Int) + n))
  have hF : Fr (fun i => i = q) w (((W.drewN nq).setCell ⟨w.heap.size + 1, 0, none⟩ (.bool true)).setCell ⟨q, 1, none⟩ (.int .i64 ((o : Int) + n))) :=
    (((Fr.of_all HB1.out (fun i => i = q)).drewN nq).setCell (by intro h; simp at h; omega) _).setCell (fun _ => rfl) _
  refine leaves_cons (f := 97) (args := #[.pointer (some ⟨w.heap.size, 0, none⟩), .pointer (some ⟨w.heap.size + 1, 0, none⟩)]) (by simp) (by simp [go_sem]) ?_
  refine (takeEnd_any w.heap.size (w.heap.size + 1) q g b _ true true .returning _ HV.out ?_ ?_).mono ?_
  · rw [World.cell?_setCell_other _ _ _ _ (by intro h; injection h; omega), World.cell?_setCell_other _ _ _ _ (by simp)]; exact k4
  · rw [World.cell?_setCell_other _ _ _ _ (by intro h; injection h; omega)]; exact ((HK9.out.drewN nq).set 0 (.bool true)).cell 0
  rintro e u' w'' ⟨rfl, rfl, hr, hf⟩
  refine ⟨_, results_tmp rfl _ _ _, rfl, ?_, hF.trans hf (fun _ _ h => h)⟩
  rw [Int.natCast_add]; exact hr
end Go.Proofs.YtjnbpbnhkinggaaGreatDoor.St
