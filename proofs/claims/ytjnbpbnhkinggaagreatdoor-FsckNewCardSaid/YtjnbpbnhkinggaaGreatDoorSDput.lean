/- The contract of dev.Dev.put. -/
import Derived.Test.YtjnbpbnhkinggaaGreatDoorSWrite
namespace Go.Proofs.YtjnbpbnhkinggaaGreatDoor.St
open Go.RowKit

/-- g, but b at a. -/
def gset (g : Int → List UInt8) (a : Int) (b : List UInt8) : Int → List UInt8 := fun i => if i = a then b else g i
theorem gset_len {g : Int → List UInt8} (h : ∀ a, (g a).length = 256) (a : Int) (b : List UInt8) (hb : b.length = 256) : ∀ i, (gset g a b i).length = 256 := by
  intro i; unfold gset; split
  · exact hb
  · exact h i
theorem gf_put (g : Int → List UInt8) (a : Int) (b : List UInt8) (h : b ≠ zb) : fput (gf g) a (some (.agg (bA b))) = gf (gset g a b) := by
  funext i
  unfold fput gf gset
  by_cases e : i = a
  · subst e; simp [h]
  · simp [e]
theorem gf_del (g : Int → List UInt8) (a : Int) (v : Option Value) : fput (fput (gf g) a v) a none = gf (gset g a zb) := by
  funext i
  unfold fput gf gset
  by_cases e : i = a
  · subst e; simp
  · simp [e]
theorem put_range {w : World} {p : Nat} {x : Value} {V : Array Value} (h : Bk w p 58 (#[x] ++ V)) : w.rangeAt p 1 V.toList := by
  intro j v hv
  rw [h.cell, Array.getElem?_append_right (by simp)]
  simpa using hv
theorem put_first {w : World} {p : Nat} {x : Value} {V : Array Value} (h : Bk w p 58 (#[x] ++ V)) : w.cell? ⟨p, 0, none⟩ = some x := by
  rw [h.cell, Array.getElem?_append_left (by simp)]; rfl
/-- A whole row is loaded, out of the middle of a block. -/
theorem wpList_load_arr {P : Program} {ops : Array Oper} {rest : List Oper} {op : Oper} {a : Act} {w : World} {Q : Exit → Act → World → Prop} (hgd : op.guard = none) (ty : TypeId) (x : Operand) (ho : op.op = .load ty x)
    (b o : Nat) (hx : a.eval x = .pointer (some ⟨b, o, none⟩)) (V : Array Value) (d : TypeDesc) (hc : w.rangeAt b o V.toList) (hu : P.underlying ty = some d) (hd : d.isRow = true) (hi : (P.info? ty).map (·.size) = some V.toList.length)
    (h : wpList P ops Q rest (a.put op.dst (.agg V)) w) : wpList P ops Q (op :: rest) a w :=
  wpList_load_mid hgd ty x ho b o hx V.toList d hc hu hd hi (by rw [Array.toArray_toList]; exact h)
attribute [local go_sem ↓] Go.wp_at_zero Go.wp_at_succ
set_option maxRecDepth 100000 in
set_option maxHeartbeats 1000000 in
theorem dput_no (d m k : Nat) (n wr : Int) (g : Int → List UInt8) (pv : Value) (a : Int) (b : List UInt8) (hl : b.length = 256) (hb : (b == zb) = false) (h0 : 0 ≤ a) (h1 : a < 4294967296) (hk : k < 1000000000) (w : World) (hD : DvB w d m n wr pv) (hM : Mp w m k (gf g)) :
    Calls Tryz.prog 47 #[.pointer (some ⟨d, 0, none⟩), .agg (#[.int .u32 a] ++ bA b)] w fun e w' => e = .returned (.tuple #[]) ∧ Mp w' m (k + 1) (gf (gset g a b)) ∧ Fr (fun i => i = m) w w' := by
  have hE := Lib.hid (fun X => equalIn_block b zb hl zb_length X)
  have hb' := Lib.hid hb
  have hB0 : Below w.heap.size w (w.alloc (.cells (#[.int .u32 a] ++ bA b) 58)) := (Below.refl _ _).alloc (Nat.le_refl _) _
  have HS0 := Lib.hid (And.intro (Bk.new w 58 (#[.int .u32 a] ++ bA b)) (hD.below hB0 hD.lt))
  have HM0 := Lib.hid (hM.alloc (.cells (#[.int .u32 a] ++ bA b) 58))
  have hne : m ≠ w.heap.size := Nat.ne_of_lt hM.lt
  have hnd : m ≠ d := mp_ne hM hD
  have HB0 := Lib.hid hB0
  have hu := Tryz.underlying42
  have hszV : (Tryz.prog.info? 53).map (·.size) = some (bA b).toList.length := by rw [bA_toList_length, hl]; exact infoBlock
  have HG := Lib.hid (show fput (gf g) a (some (.agg (bA b))) = gf (gset g a b) from gf_put g a b (fun e => by rw [e, beq_self_eq_true] at hb; cases hb))
  clear hB0 hM hD hb
  generalize hV : bA b = V at *
  have HV := Lib.hid hV
  clear hV
  go_enter Tryz.func47, Tryz.ntmps47
  go_wp2_with fail
  generalize w.alloc (.cells (#[.int .u32 a] ++ V) 58) = X at *
  have hy : ∀ (ops : Array Oper) (op : Oper) (a_1 : Act) (x : Operand), op.op = .load 53 x → Region.wanted op (yielded ops a_1.tmps) = true → a_1.eval x = .pointer (some ⟨w.heap.size, 1, none⟩) → YieldsIf Tryz.prog ops (fun Y => Bk Y w.heap.size 58 (#[Value.int .u32 a] ++ V) ∧ DvB Y d m n wr pv) op (.agg V) a_1 := by
    intro ops op a_1 x ho hw hx
    have h := yieldsIf_load_mid (P := Tryz.prog) (ops := ops) (S := (fun Y => Bk Y w.heap.size 58 (#[Value.int .u32 a] ++ V) ∧ DvB Y d m n wr pv)) hw 53 x ho w.heap.size 1 hx V.toList _ (fun w h => put_range h.1) Tryz.underlying53 rfl hszV
    rwa [Array.toArray_toList] at h
  have HY := Lib.hid hy
  clear hy
  refine wp_region_held_drew (S := (fun Y => Bk Y w.heap.size 58 (#[Value.int .u32 a] ++ V) ∧ DvB Y d m n wr pv)) (by kernel_rfl) HS0.out ?_
  intro hHeld
  refine wpAnyH_take (i := 0) (v := ?_) rfl (by kernel_rfl) (by kernel_rfl) (by kernel_rfl) (fun _ _ _ h => h) (Or.inl ⟨by rfl, ?_⟩) hHeld ?_
  rotate_left
  · (intro w hSw; (try dsimp only at hSw); go_simp)
    try with_reducible rfl
  try simp only [Act.put, List.getElem_toArray, List.getElem_cons_zero, List.getElem_cons_succ, List.setIfInBounds_toArray, List.set_cons_zero, List.set_cons_succ]
  refine wpAnyH_take (i := 1) (v := ?_) rfl (by kernel_rfl) (by kernel_rfl) (by kernel_rfl) (fun _ _ _ h => h) (Or.inl ⟨by rfl, ?_⟩) hHeld ?_
  rotate_left
  · (intro w hSw; (try dsimp only at hSw); go_simp)
    try with_reducible rfl
  try simp only [Act.put, List.getElem_toArray, List.getElem_cons_zero, List.getElem_cons_succ, List.setIfInBounds_toArray, List.set_cons_zero, List.set_cons_succ]
  refine wpAnyH_take (i := 2) (v := ?_) rfl (by kernel_rfl) (by kernel_rfl) (by kernel_rfl) (fun _ _ _ h => h) (Or.inl ⟨by rfl, ?_⟩) hHeld ?_
  rotate_left
  · (intro w hSw; (try dsimp only at hSw); go_simp)
    try with_reducible rfl
  try simp only [Act.put, List.getElem_toArray, List.getElem_cons_zero, List.getElem_cons_succ, List.setIfInBounds_toArray, List.set_cons_zero, List.set_cons_succ]
  refine wpAnyH_take (i := 3) (v := ?_) rfl (by kernel_rfl) (by kernel_rfl) (by kernel_rfl) (fun _ _ _ h => h) (Or.inl ⟨by rfl, ?_⟩) hHeld ?_
  rotate_left
  · (intro w hSw; (try dsimp only at hSw); have q0 : w.cell? ⟨d, 1, none⟩ = some (.map (some m)) := hSw.2.cell 1; go_simp)
    try with_reducible rfl
  try simp only [Act.put, List.getElem_toArray, List.getElem_cons_zero, List.getElem_cons_succ, List.setIfInBounds_toArray, List.set_cons_zero, List.set_cons_succ]
  refine wpAnyH_take (i := 4) (v := ?_) rfl (by kernel_rfl) (by kernel_rfl) (by kernel_rfl) (fun _ _ _ h => h) (Or.inl ⟨by rfl, ?_⟩) hHeld ?_
  rotate_left
  · (intro w hSw; (try dsimp only at hSw); go_simp)
    try with_reducible rfl
  try simp only [Act.put, List.getElem_toArray, List.getElem_cons_zero, List.getElem_cons_succ, List.setIfInBounds_toArray, List.set_cons_zero, List.set_cons_succ]
  refine wpAnyH_take (i := 5) (v := ?_) rfl (by kernel_rfl) (by kernel_rfl) (by kernel_rfl) (fun _ _ _ h => h) (Or.inl ⟨by rfl, ?_⟩) hHeld ?_
  rotate_left
  · (intro w hSw; (try dsimp only at hSw); have q0 := put_first hSw.1; go_simp)
    try with_reducible rfl
  try simp only [Act.put, List.getElem_toArray, List.getElem_cons_zero, List.getElem_cons_succ, List.setIfInBounds_toArray, List.set_cons_zero, List.set_cons_succ]
  refine wpAnyH_take (i := 6) (v := ?_) rfl (by kernel_rfl) (by kernel_rfl) (by kernel_rfl) (fun _ _ _ h => h) (Or.inl ⟨by rfl, ?_⟩) hHeld ?_
  rotate_left
  · (intro w hSw; (try dsimp only at hSw); go_simp)
    try with_reducible rfl
  try simp only [Act.put, List.getElem_toArray, List.getElem_cons_zero, List.getElem_cons_succ, List.setIfInBounds_toArray, List.set_cons_zero, List.set_cons_succ]
  refine wpAnyH_take (i := 7) (v := .agg V) rfl (by kernel_rfl) (by kernel_rfl) (by kernel_rfl) (fun _ _ _ h => h) (HY.out _ _ _ _ rfl (by rfl) rfl) hHeld ?_
  try simp only [Act.put, List.getElem_toArray, List.getElem_cons_zero, List.getElem_cons_succ, List.setIfInBounds_toArray, List.set_cons_zero, List.set_cons_succ]
  have HM1 := Lib.hid (show Mp X.drew m k (gf g) from HM0.out.drew)
  clear HM0 HS0
  obtain ⟨w2, hr2, hm2, ht2⟩ := HM1.out.put hu (by unfold maxLen; omega) h0 (by omega) (.agg V)
  refine wpAnyH_ready (rs := [8]) (by kernel_rfl) (by simp) ?_
  refine (AllReadyH.cons rfl (fun K hK => ?_) AllReadyH.nil)
  go_simp
  have hf2 := Fr.of_turned ht2
  have hS2 : Bk w2 w.heap.size 58 (#[.int .u32 a] ++ V) ∧ DvB w2 d m n wr pv := ⟨hHeld.1.fr hf2 (fun e => hne e.symm), hHeld.2.fr hf2 (fun e => hnd e.symm)⟩
  refine hK.out _ _ hS2 (fun _ => ?_)
  clear hK K hHeld hr2
  refine wpAnyH_done (by kernel_rfl) ?_ _
  try simp only [Act.put, List.getElem_toArray, List.getElem_cons_zero, List.getElem_cons_succ, List.setIfInBounds_toArray, List.set_cons_zero, List.set_cons_succ]
  have HF2 := Lib.hid (show Fr (fun i => i = m) w w2 from ((Fr.of_all (below_drewN HB0.out 1) (fun i => i = m)).trans hf2 (fun _ _ h => h)))
  have HM2 := Lib.hid hm2
  have HS2 := Lib.hid hS2
  clear hf2 ht2 hm2 hS2 HM1 HB0
  have hl3 := hE.out w2
  rw [hb'.out, ← zb_cells] at hl3
  go_wp2_with (refine wpList_load_arr rfl 53 _ rfl w.heap.size 1 rfl V _ (put_range HS2.out.1) Tryz.underlying53 rfl hszV ?_)
  go_end0
  exact ⟨rfl, by rw [← HG.out]; exact HM2.out, HF2.out⟩
set_option maxRecDepth 100000 in
set_option maxHeartbeats 1000000 in
theorem dput_yes (d m k : Nat) (n wr : Int) (g : Int → List UInt8) (pv : Value) (a : Int) (b : List UInt8) (hl : b.length = 256) (hb : (b == zb) = true) (h0 : 0 ≤ a) (h1 : a < 4294967296) (hk : k < 1000000000) (w : World) (hD : DvB w d m n wr pv) (hM : Mp w m k (gf g)) :
    Calls Tryz.prog 47 #[.pointer (some ⟨d, 0, none⟩), .agg (#[.int .u32 a] ++ bA b)] w fun e w' => e = .returned (.tuple #[]) ∧ Mp w' m (k + 1) (gf (gset g a b)) ∧ Fr (fun i => i = m) w w' := by
  have hE := Lib.hid (fun X => equalIn_block b zb hl zb_length X)
  have hb' := Lib.hid hb
  have hB0 : Below w.heap.size w (w.alloc (.cells (#[.int .u32 a] ++ bA b) 58)) := (Below.refl _ _).alloc (Nat.le_refl _) _
  have HS0 := Lib.hid (And.intro (Bk.new w 58 (#[.int .u32 a] ++ bA b)) (hD.below hB0 hD.lt))
  have HM0 := Lib.hid (hM.alloc (.cells (#[.int .u32 a] ++ bA b) 58))
  have hne : m ≠ w.heap.size := Nat.ne_of_lt hM.lt
  have hnd : m ≠ d := mp_ne hM hD
  have HB0 := Lib.hid hB0
  have hu := Tryz.underlying42
  have hszV : (Tryz.prog.info? 53).map (·.size) = some (bA b).toList.length := by rw [bA_toList_length, hl]; exact infoBlock
  have HG := Lib.hid (show fput (fput (gf g) a (some (.agg (bA b)))) a none = gf (gset g a b) from by rw [eq_of_beq hb]; exact gf_del g a _)
  clear hB0 hM hD hb
  generalize hV : bA b = V at *
  have HV := Lib.hid hV
  clear hV
  go_enter Tryz.func47, Tryz.ntmps47
  go_wp2_with fail
  generalize w.alloc (.cells (#[.int .u32 a] ++ V) 58) = X at *
  have hy : ∀ (ops : Array Oper) (op : Oper) (a_1 : Act) (x : Operand), op.op = .load 53 x → Region.wanted op (yielded ops a_1.tmps) = true → a_1.eval x = .pointer (some ⟨w.heap.size, 1, none⟩) → YieldsIf Tryz.prog ops (fun Y => Bk Y w.heap.size 58 (#[Value.int .u32 a] ++ V) ∧ DvB Y d m n wr pv) op (.agg V) a_1 := by
    intro ops op a_1 x ho hw hx
    have h := yieldsIf_load_mid (P := Tryz.prog) (ops := ops) (S := (fun Y => Bk Y w.heap.size 58 (#[Value.int .u32 a] ++ V) ∧ DvB Y d m n wr pv)) hw 53 x ho w.heap.size 1 hx V.toList _ (fun w h => put_range h.1) Tryz.underlying53 rfl hszV
    rwa [Array.toArray_toList] at h
  have HY := Lib.hid hy
  clear hy
  refine wp_region_held_drew (S := (fun Y => Bk Y w.heap.size 58 (#[Value.int .u32 a] ++ V) ∧ DvB Y d m n wr pv)) (by kernel_rfl) HS0.out ?_
  intro hHeld
  refine wpAnyH_take (i := 0) (v := ?_) rfl (by kernel_rfl) (by kernel_rfl) (by kernel_rfl) (fun _ _ _ h => h) (Or.inl ⟨by rfl, ?_⟩) hHeld ?_
  rotate_left
  · (intro w hSw; (try dsimp only at hSw); go_simp)
    try with_reducible rfl
  try simp only [Act.put, List.getElem_toArray, List.getElem_cons_zero, List.getElem_cons_succ, List.setIfInBounds_toArray, List.set_cons_zero, List.set_cons_succ]
  refine wpAnyH_take (i := 1) (v := ?_) rfl (by kernel_rfl) (by kernel_rfl) (by kernel_rfl) (fun _ _ _ h => h) (Or.inl ⟨by rfl, ?_⟩) hHeld ?_
  rotate_left
  · (intro w hSw; (try dsimp only at hSw); go_simp)
    try with_reducible rfl
  try simp only [Act.put, List.getElem_toArray, List.getElem_cons_zero, List.getElem_cons_succ, List.setIfInBounds_toArray, List.set_cons_zero, List.set_cons_succ]
  refine wpAnyH_take (i := 2) (v := ?_) rfl (by kernel_rfl) (by kernel_rfl) (by kernel_rfl) (fun _ _ _ h => h) (Or.inl ⟨by rfl, ?_⟩) hHeld ?_
  rotate_left
  · (intro w hSw; (try dsimp only at hSw); go_simp)
    try with_reducible rfl
  try simp only [Act.put, List.getElem_toArray, List.getElem_cons_zero, List.getElem_cons_succ, List.setIfInBounds_toArray, List.set_cons_zero, List.set_cons_succ]
  refine wpAnyH_take (i := 3) (v := ?_) rfl (by kernel_rfl) (by kernel_rfl) (by kernel_rfl) (fun _ _ _ h => h) (Or.inl ⟨by rfl, ?_⟩) hHeld ?_
  rotate_left
  · (intro w hSw; (try dsimp only at hSw); have q0 : w.cell? ⟨d, 1, none⟩ = some (.map (some m)) := hSw.2.cell 1; go_simp)
    try with_reducible rfl
  try simp only [Act.put, List.getElem_toArray, List.getElem_cons_zero, List.getElem_cons_succ, List.setIfInBounds_toArray, List.set_cons_zero, List.set_cons_succ]
  refine wpAnyH_take (i := 4) (v := ?_) rfl (by kernel_rfl) (by kernel_rfl) (by kernel_rfl) (fun _ _ _ h => h) (Or.inl ⟨by rfl, ?_⟩) hHeld ?_
  rotate_left
  · (intro w hSw; (try dsimp only at hSw); go_simp)
    try with_reducible rfl
  try simp only [Act.put, List.getElem_toArray, List.getElem_cons_zero, List.getElem_cons_succ, List.setIfInBounds_toArray, List.set_cons_zero, List.set_cons_succ]
  refine wpAnyH_take (i := 5) (v := ?_) rfl (by kernel_rfl) (by kernel_rfl) (by kernel_rfl) (fun _ _ _ h => h) (Or.inl ⟨by rfl, ?_⟩) hHeld ?_
  rotate_left
  · (intro w hSw; (try dsimp only at hSw); have q0 := put_first hSw.1; go_simp)
    try with_reducible rfl
  try simp only [Act.put, List.getElem_toArray, List.getElem_cons_zero, List.getElem_cons_succ, List.setIfInBounds_toArray, List.set_cons_zero, List.set_cons_succ]
  refine wpAnyH_take (i := 6) (v := ?_) rfl (by kernel_rfl) (by kernel_rfl) (by kernel_rfl) (fun _ _ _ h => h) (Or.inl ⟨by rfl, ?_⟩) hHeld ?_
  rotate_left
  · (intro w hSw; (try dsimp only at hSw); go_simp)
    try with_reducible rfl
  try simp only [Act.put, List.getElem_toArray, List.getElem_cons_zero, List.getElem_cons_succ, List.setIfInBounds_toArray, List.set_cons_zero, List.set_cons_succ]
  refine wpAnyH_take (i := 7) (v := .agg V) rfl (by kernel_rfl) (by kernel_rfl) (by kernel_rfl) (fun _ _ _ h => h) (HY.out _ _ _ _ rfl (by rfl) rfl) hHeld ?_
  try simp only [Act.put, List.getElem_toArray, List.getElem_cons_zero, List.getElem_cons_succ, List.setIfInBounds_toArray, List.set_cons_zero, List.set_cons_succ]
  have HM1 := Lib.hid (show Mp X.drew m k (gf g) from HM0.out.drew)
  clear HM0 HS0
  obtain ⟨w2, hr2, hm2, ht2⟩ := HM1.out.put hu (by unfold maxLen; omega) h0 (by omega) (.agg V)
  refine wpAnyH_ready (rs := [8]) (by kernel_rfl) (by simp) ?_
  refine (AllReadyH.cons rfl (fun K hK => ?_) AllReadyH.nil)
  go_simp
  have hf2 := Fr.of_turned ht2
  have hS2 : Bk w2 w.heap.size 58 (#[.int .u32 a] ++ V) ∧ DvB w2 d m n wr pv := ⟨hHeld.1.fr hf2 (fun e => hne e.symm), hHeld.2.fr hf2 (fun e => hnd e.symm)⟩
  refine hK.out _ _ hS2 (fun _ => ?_)
  clear hK K hHeld hr2
  refine wpAnyH_done (by kernel_rfl) ?_ _
  try simp only [Act.put, List.getElem_toArray, List.getElem_cons_zero, List.getElem_cons_succ, List.setIfInBounds_toArray, List.set_cons_zero, List.set_cons_succ]
  have HF2 := Lib.hid (show Fr (fun i => i = m) w w2 from ((Fr.of_all (below_drewN HB0.out 1) (fun i => i = m)).trans hf2 (fun _ _ h => h)))
  have HM2 := Lib.hid hm2
  have HS2 := Lib.hid hS2
  clear hf2 ht2 hm2 hS2 HM1 HB0
  have hl3 := hE.out w2
  rw [hb'.out, ← zb_cells] at hl3
  go_wp2_with (refine wpList_load_arr rfl 53 _ rfl w.heap.size 1 rfl V _ (put_range HS2.out.1) Tryz.underlying53 rfl hszV ?_)
  clear hl3
  refine wp_region_held_drew (S := (fun Y => Bk Y w.heap.size 58 (#[Value.int .u32 a] ++ V) ∧ DvB Y d m n wr pv)) (by kernel_rfl) HS2.out ?_
  intro hHeld
  refine wpAnyH_take (i := 0) (v := ?_) rfl (by kernel_rfl) (by kernel_rfl) (by kernel_rfl) (fun _ _ _ h => h) (Or.inl ⟨by rfl, ?_⟩) hHeld ?_
  rotate_left
  · (intro w hSw; (try dsimp only at hSw); go_simp)
    try with_reducible rfl
  try simp only [Act.put, List.getElem_toArray, List.getElem_cons_zero, List.getElem_cons_succ, List.setIfInBounds_toArray, List.set_cons_zero, List.set_cons_succ]
  refine wpAnyH_take (i := 1) (v := ?_) rfl (by kernel_rfl) (by kernel_rfl) (by kernel_rfl) (fun _ _ _ h => h) (Or.inl ⟨by rfl, ?_⟩) hHeld ?_
  rotate_left
  · (intro w hSw; (try dsimp only at hSw); go_simp)
    try with_reducible rfl
  try simp only [Act.put, List.getElem_toArray, List.getElem_cons_zero, List.getElem_cons_succ, List.setIfInBounds_toArray, List.set_cons_zero, List.set_cons_succ]
  refine wpAnyH_take (i := 2) (v := ?_) rfl (by kernel_rfl) (by kernel_rfl) (by kernel_rfl) (fun _ _ _ h => h) (Or.inl ⟨by rfl, ?_⟩) hHeld ?_
  rotate_left
  · (intro w hSw; (try dsimp only at hSw); go_simp)
    try with_reducible rfl
  try simp only [Act.put, List.getElem_toArray, List.getElem_cons_zero, List.getElem_cons_succ, List.setIfInBounds_toArray, List.set_cons_zero, List.set_cons_succ]
  refine wpAnyH_take (i := 3) (v := ?_) rfl (by kernel_rfl) (by kernel_rfl) (by kernel_rfl) (fun _ _ _ h => h) (Or.inl ⟨by rfl, ?_⟩) hHeld ?_
  rotate_left
  · (intro w hSw; (try dsimp only at hSw); have q0 : w.cell? ⟨d, 1, none⟩ = some (.map (some m)) := hSw.2.cell 1; go_simp)
    try with_reducible rfl
  try simp only [Act.put, List.getElem_toArray, List.getElem_cons_zero, List.getElem_cons_succ, List.setIfInBounds_toArray, List.set_cons_zero, List.set_cons_succ]
  refine wpAnyH_take (i := 4) (v := ?_) rfl (by kernel_rfl) (by kernel_rfl) (by kernel_rfl) (fun _ _ _ h => h) (Or.inl ⟨by rfl, ?_⟩) hHeld ?_
  rotate_left
  · (intro w hSw; (try dsimp only at hSw); go_simp)
    try with_reducible rfl
  try simp only [Act.put, List.getElem_toArray, List.getElem_cons_zero, List.getElem_cons_succ, List.setIfInBounds_toArray, List.set_cons_zero, List.set_cons_succ]
  refine wpAnyH_take (i := 5) (v := ?_) rfl (by kernel_rfl) (by kernel_rfl) (by kernel_rfl) (fun _ _ _ h => h) (Or.inl ⟨by rfl, ?_⟩) hHeld ?_
  rotate_left
  · (intro w hSw; (try dsimp only at hSw); have q0 := put_first hSw.1; go_simp)
    try with_reducible rfl
  try simp only [Act.put, List.getElem_toArray, List.getElem_cons_zero, List.getElem_cons_succ, List.setIfInBounds_toArray, List.set_cons_zero, List.set_cons_succ]
  have HM3 := Lib.hid (show Mp w2.drew m (k + 1) _ from HM2.out.drew)
  obtain ⟨w3, hr3, hm3, ht3⟩ := HM3.out.del hu h0 (show a ≤ 4294967295 by omega) 0
  refine wpAnyH_ready (rs := [6]) (by kernel_rfl) (by simp) ?_
  refine (AllReadyH.cons rfl (fun K hK => ?_) AllReadyH.nil)
  go_simp
  have hf3 := Fr.of_turned ht3
  have hS3 : Bk w3 w.heap.size 58 (#[.int .u32 a] ++ V) ∧ DvB w3 d m n wr pv := ⟨hHeld.1.fr hf3 (fun e => hne e.symm), hHeld.2.fr hf3 (fun e => hnd e.symm)⟩
  refine hK.out _ _ hS3 (fun _ => ?_)
  clear hK K hHeld hr3
  refine wpAnyH_done (by kernel_rfl) ?_ _
  try simp only [Act.put, List.getElem_toArray, List.getElem_cons_zero, List.getElem_cons_succ, List.setIfInBounds_toArray, List.set_cons_zero, List.set_cons_succ]
  have HF3 := Lib.hid (show Fr (fun i => i = m) w w3 from (HF2.out.drew.trans hf3 (fun _ _ h => h)))
  have HM3' := Lib.hid hm3
  clear hf3 ht3 hm3 hS3 HM3 HM2 HF2 HS2
  go_end0
  exact ⟨rfl, by rw [← HG.out]; exact HM3'.out, HF3.out⟩
theorem dput_any (d m k : Nat) (n wr : Int) (g : Int → List UInt8) (pv : Value) (a : Int) (b : List UInt8) (hl : b.length = 256) (h0 : 0 ≤ a) (h1 : a < 4294967296) (hk : k < 1000000000) (w : World) (hD : DvB w d m n wr pv) (hM : Mp w m k (gf g)) :
    Calls Tryz.prog 47 #[.pointer (some ⟨d, 0, none⟩), .agg (#[.int .u32 a] ++ bA b)] w fun e w' => e = .returned (.tuple #[]) ∧ Mp w' m (k + 1) (gf (gset g a b)) ∧ Fr (fun i => i = m) w w' := by
  cases hb : (b == zb) with
  | false => exact dput_no d m k n wr g pv a b hl hb h0 h1 hk w hD hM
  | true => exact dput_yes d m k n wr g pv a b hl hb h0 h1 hk w hD hM
end Go.Proofs.YtjnbpbnhkinggaaGreatDoor.St
