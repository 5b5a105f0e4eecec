/- Maps by what they hold, key by key: whatever their elements are. -/
import Derived.Test.YtjnbpbnhkinggaaGreatDoorSSeal
import Derived.Maps.OwnSet
namespace Go.Proofs.YtjnbpbnhkinggaaGreatDoor.St
open Go.RowKit

/-- Any value, as it is. -/
def heldR (v : Value) : Option (DataW Value × List MemPlace) := some (.held v, [])

/-- What a map that holds f reads as at a key. -/
def MpAt (D : DataW Value) (f : Int → Option Value) : Prop :=
  ∀ i : Int, 0 ≤ i → i ≤ 4294967295 → (∀ z, D.atKey (.int .u32 i) z = match f i with | some v => .held v | none => z) ∧ Maps.has D (.int .u32 i) = (f i).isSome
/-- Block b is a map of at most n entries, keyed by numbers of 32 bits, that holds f. -/
def Mp (w : World) (b n : Nat) (f : Int → Option Value) : Prop :=
  ∃ D : DataW Value, w.ownsMap Tryz.prog 22 heldR b n D ∧ MpAt D f

theorem law32 : Maps.Keyed Tryz.prog 22 := Maps.int_keyed Tryz.underlying22
theorem key32 {i : Int} (h0 : 0 ≤ i) (h1 : i ≤ 4294967295) : keyOf Tryz.prog 22 (.int .u32 i) = some (.int .u32 i) :=
  Maps.keyOf_int_mk Tryz.underlying22 (WalkArith.wf_u32 ⟨h0, h1⟩)

theorem Mp.made (w : World) : Mp (w.alloc (.map #[] 0)) w.heap.size 0 (fun _ => none) :=
  ⟨.map [], World.ownsMap_made w _ _ _, fun _ _ _ => ⟨fun _ => rfl, rfl⟩⟩
theorem Mp.lt {w : World} {b n : Nat} {f : Int → Option Value} (h : Mp w b n f) : b < w.heap.size := let ⟨_, h, _⟩ := h; h.lt
theorem Mp.kept {w w' : World} {b n : Nat} {f : Int → Option Value} {row : Option Nat} (h : Mp w b n f) (hg : w.grownBy w' row) (hne : some b ≠ row) : Mp w' b n f :=
  let ⟨D, h, hf⟩ := h; ⟨D, h.kept hg hne, hf⟩
theorem Mp.alloc {w : World} {b n : Nat} {f : Int → Option Value} (h : Mp w b n f) (o : Obj) : Mp (w.alloc o) b n f :=
  let ⟨D, h, hf⟩ := h; ⟨D, h.alloc o, hf⟩
theorem Mp.drew {w : World} {b n : Nat} {f : Int → Option Value} (h : Mp w b n f) : Mp w.drew b n f := h
theorem Mp.mono {w : World} {b n m : Nat} {f : Int → Option Value} (h : Mp w b n f) (hn : n ≤ m) : Mp w b m f :=
  let ⟨D, h, hf⟩ := h; ⟨D, h.mono hn, hf⟩
theorem Mp.setCell {w : World} {b n : Nat} {f : Int → Option Value} (h : Mp w b n f) {a : Addr} (ha : b ≠ a.block) (u : Value) : Mp (w.setCell a u) b n f :=
  let ⟨D, h, hf⟩ := h; ⟨D, h.setCell ha u, hf⟩
/-- A block is what it was, so is the map. -/
theorem Mp.same {w w' : World} {b n : Nat} {f : Int → Option Value} (h : Mp w b n f) (hb : w'.heap[b]? = w.heap[b]?) : Mp w' b n f :=
  let ⟨D, ⟨es, c, h1, h2⟩, hf⟩ := h; ⟨D, ⟨es, c, by rw [hb]; exact h1, h2⟩, hf⟩
theorem heldR_inv {v u : Value} {ps : List MemPlace} (h : heldR v = some (.held u, ps)) : v = u := by
  simp [heldR] at h
  exact h.1
theorem at_held {D : DataW Value} {f : Int → Option Value} (hf : MpAt D f) {i : Int} (h0 : 0 ≤ i) (h1 : i ≤ 4294967295) (z : Value) : D.atKey (.int .u32 i) (.held z) = .held ((f i).getD z) := by
  rw [(hf i h0 h1).1]
  cases f i <;> rfl
theorem Mp.look {w : World} {b n : Nat} {f : Int → Option Value} (h : Mp w b n f) {t e : TypeId} (ht : Tryz.prog.underlying t = some (.map 22 e)) {z : Value} (hz : (zeroValue e).run Tryz.prog w = .ok z w) {i : Int} (h0 : 0 ≤ i) (h1 : i ≤ 4294967295) :
    (Instr.lookup t (.map (some b)) (.int .u32 i) false).run Tryz.prog w = .ok ((f i).getD z) w := by
  obtain ⟨D, h, hf⟩ := h
  obtain ⟨v, ps, hr, hv⟩ := h.lookup law32 ht hz (zd := .held z) (zp := []) rfl (key32 h0 h1)
  rw [at_held hf h0 h1] at hv
  rw [hr, heldR_inv hv]
theorem Mp.look_ok {w : World} {b n : Nat} {f : Int → Option Value} (h : Mp w b n f) {t e : TypeId} (ht : Tryz.prog.underlying t = some (.map 22 e)) {z : Value} (hz : (zeroValue e).run Tryz.prog w = .ok z w) {i : Int} (h0 : 0 ≤ i) (h1 : i ≤ 4294967295) :
    (Instr.lookup t (.map (some b)) (.int .u32 i) true).run Tryz.prog w = .ok (.tuple #[(f i).getD z, .bool (f i).isSome]) w := by
  obtain ⟨D, h, hf⟩ := h
  obtain ⟨v, ps, hr, hv⟩ := h.look_ok law32 ht hz (zd := .held z) (zp := []) rfl (key32 h0 h1)
  rw [at_held hf h0 h1] at hv
  rw [hr, heldR_inv hv, (hf i h0 h1).2]
theorem Mp.len0 {w : World} {b : Nat} {f : Int → Option Value} (h : Mp w b 0 f) {t e : TypeId} (ht : Tryz.prog.underlying t = some (.map 22 e)) (ty : TypeId) : (Builtin.len_ #[t] ty #[.map (some b)]).run Tryz.prog w = .ok (.int .i64 0) w := by
  obtain ⟨D, h, hf⟩ := h
  rw [h.len ht ty]
  have := h.size_le
  have e : Maps.size D = 0 := by omega
  rw [e]
  rfl
/-- f, but v at i. -/
def fput (f : Int → Option Value) (i : Int) (v : Option Value) : Int → Option Value := fun j => if j = i then v else f j
theorem litne {i j : Int} (h : j ≠ i) : (Lit.int .u32 j) ≠ .int .u32 i := by
  intro e
  injection e
  contradiction
theorem Mp.put {w : World} {b n : Nat} {f : Int → Option Value} (h : Mp w b n f) {t e : TypeId} (ht : Tryz.prog.underlying t = some (.map 22 e)) (hn : n < maxLen) {i : Int} (h0 : 0 ≤ i) (h1 : i ≤ 4294967295) (v : Value) :
    ∃ w', (Instr.mapUpdate t (.map (some b)) (.int .u32 i) v).run Tryz.prog w = .ok () w' ∧ Mp w' b (n + 1) (fput f i (some v)) ∧ w.mapTurned w' b := by
  obtain ⟨D, h, hf⟩ := h
  obtain ⟨w', hr, ho, hg⟩ := h.store law32 ht hn (val := v) (d := .held v) (ps := []) (key32 h0 h1) rfl
  refine ⟨w', hr, ⟨_, ho, fun j j0 j1 => ?_⟩, hg⟩
  unfold fput
  by_cases hj : j = i
  · subst hj
    rw [if_pos rfl]
    exact ⟨fun z => Maps.atKey_put_same h.isMap (by trivial) _ _, Maps.has_put_same h.isMap (by trivial) _⟩
  · rw [if_neg hj]
    exact ⟨fun z => by rw [Maps.atKey_put_other (litne hj)]; exact (hf j j0 j1).1 z, by rw [Maps.has_put_other (litne hj)]; exact (hf j j0 j1).2⟩
theorem Mp.del {w : World} {b n : Nat} {f : Int → Option Value} (h : Mp w b n f) {t e : TypeId} (ht : Tryz.prog.underlying t = some (.map 22 e)) {i : Int} (h0 : 0 ≤ i) (h1 : i ≤ 4294967295) (ty : TypeId) :
    ∃ w', (Builtin.delete_ #[t, 22] ty #[.map (some b), .int .u32 i]).run Tryz.prog w = .ok (.tuple #[]) w' ∧ Mp w' b n (fput f i none) ∧ w.mapTurned w' b := by
  obtain ⟨D, h, hf⟩ := h
  obtain ⟨w', hr, ho, hg⟩ := h.drop law32 ht (key32 h0 h1) ty
  refine ⟨w', hr, ⟨_, ho, fun j j0 j1 => ?_⟩, hg⟩
  unfold fput
  by_cases hj : j = i
  · subst hj
    rw [if_pos rfl]
    exact ⟨fun z => Maps.atKey_del_same _, Maps.has_del_same⟩
  · rw [if_neg hj]
    exact ⟨fun z => by rw [Maps.atKey_del_other (litne hj)]; exact (hf j j0 j1).1 z, by rw [Maps.has_del_other (litne hj)]; exact (hf j j0 j1).2⟩
end Go.Proofs.YtjnbpbnhkinggaaGreatDoor.St
