/- Maps keyed by fsck.ref: an entry that is put into an empty one. -/
import Derived.Test.YtjnbpbnhkinggaaGreatDoorKKinds
import Derived.MapKept
namespace Go.Proofs.YtjnbpbnhkinggaaGreatDoor.St
open Go.RowKit

/-- The ref of the card at block 9, as a key. -/
def rf9 : Value := .agg #[.int .u32 9, .int .u8 4]
theorem rf_check (e : Bool) (w : World) : (Instr.checkKey e 10000 68 rf9).run Tryz.prog w = .ok () w := by kernel_rfl
theorem rf_none (w : World) : (Instr.findKey 68 rf9 []).run Tryz.prog w = .ok none w := by kernel_rfl
theorem rf_some (v : Value) (k : Nat) (w : World) : (Instr.findKey 68 rf9 [{ key := rf9, val := v, born := k }]).run Tryz.prog w = .ok (some (0, v)) w := by kernel_rfl
theorem ref_look0 (w : World) (me : Nat) (hb : w.heap[me]? = some (.map #[] 0)) : (Instr.lookup 64 (.map (some me)) rf9 false).run Tryz.prog w = .ok (.int .u32 0) w := by
  simp [Instr.lookup, run_underlying Tryz.underlying64, MapKept.run_getObj_map hb, rf_check, rf_none, zeroU32, Result.andThen]
theorem ref_look1 (w : World) (me : Nat) (v : Value) (k c : Nat) (hb : w.heap[me]? = some (.map #[{ key := rf9, val := v, born := k }] c)) : (Instr.lookup 64 (.map (some me)) rf9 false).run Tryz.prog w = .ok v w := by
  simp [Instr.lookup, run_underlying Tryz.underlying64, MapKept.run_getObj_map hb, rf_check, rf_some, Result.andThen]
/-- A world whose block me is another one. -/
def mset (w : World) (me : Nat) (o : Obj) : World := { w with heap := w.heap.setIfInBounds me o }
theorem mset_at (w : World) (me : Nat) (o : Obj) (h : me < w.heap.size) : (mset w me o).heap[me]? = some o := by
  simp [mset, h]
theorem mset_fr (w : World) (me : Nat) (o : Obj) : Fr (fun i => i = me) w (mset w me o) :=
  ⟨rfl, rfl, rfl, by simp [mset], fun i _ hn => by simp [mset, Array.getElem?_setIfInBounds_ne (Ne.symm hn)]⟩
theorem ref_entry (w : World) (me : Nat) (hb : w.heap[me]? = some (.map #[] 0)) : (Instr.mapEntry 64 (.map (some me)) rf9).run Tryz.prog w = .ok (.tuple #[.int .u32 0, .int .i64 0]) (mset w me (.map #[{ key := rf9, val := .int .u32 0, born := 0 }] 1)) := by
  simp [Instr.mapEntry, run_underlying Tryz.underlying64, MapKept.run_getObj_map hb, rf_check, rf_none, zeroU32, MapKept.run_setObj_map _ hb, Result.andThen, mset]
  rfl
theorem ref_store (w : World) (me : Nat) (v u : Value) (hb : w.heap[me]? = some (.map #[{ key := rf9, val := v, born := 0 }] 1)) : (Instr.entryStore 64 (.map (some me)) (.int .i64 0) u).run Tryz.prog w = .ok () (mset w me (.map #[{ key := rf9, val := u, born := 0 }] 1)) := by
  simp [Instr.entryStore, MapKept.run_getObj_map hb, asInt, asIntOf, MapKept.run_setObj_map _ hb, Result.andThen, mset]
end Go.Proofs.YtjnbpbnhkinggaaGreatDoor.St
