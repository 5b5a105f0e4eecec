/- Contracts of fsck.Clean, fsck.Counts. -/
import Derived.Test.YtjnbpbnhkinggaaGreatDoorFCheck
namespace Go.Proofs.YtjnbpbnhkinggaaGreatDoor.St
open Go.RowKit

theorem clean_yes (dv : Value) (f : Int) (w : World) (h : Calls Tryz.prog 7 #[dv] w fun e w' => e = .returned (.tuple #[.agg (repC f), .int .i64 0]) ∧ Below w.heap.size w w') :
    Calls Tryz.prog 5 #[dv] w fun e w' => e = .returned (.bool true) ∧ Below w.heap.size w w' := by
  have H := Lib.hid h
  clear h
  go_enter Tryz.func5, Tryz.ntmps5
  go_wp2_with fail
  refine H.out.mono ?_
  rintro e w1 ⟨rfl, hb1⟩
  have HE := Lib.hid (hb1.alloc hb1.size (.cells #[.int .u32 f, .int .u32 0, .int .u32 0, .int .u32 0, .int .u32 0, .int .u32 0, .bool false] 34))
  clear hb1 H
  simp only [repC]
  go_wp2_with fail
  go_ret
  exact ⟨rfl, HE.out⟩
theorem clean_no (dv : Value) (f er : Int) (he : (er == 0) = false) (w : World) (h : Calls Tryz.prog 7 #[dv] w fun e w' => e = .returned (.tuple #[.agg (repC f), .int .i64 er]) ∧ Below w.heap.size w w') :
    Calls Tryz.prog 5 #[dv] w fun e w' => e = .returned (.bool false) ∧ Below w.heap.size w w' := by
  have H := Lib.hid h
  clear h
  go_enter Tryz.func5, Tryz.ntmps5
  go_wp2_with fail
  refine H.out.mono ?_
  rintro e w1 ⟨rfl, hb1⟩
  have HE := Lib.hid (hb1.alloc hb1.size (.cells #[.int .u32 f, .int .u32 0, .int .u32 0, .int .u32 0, .int .u32 0, .int .u32 0, .bool false] 34))
  clear hb1 H
  simp only [repC]
  go_wp2_with fail
  go_ret
  exact ⟨rfl, HE.out⟩
set_option maxRecDepth 100000 in
set_option maxHeartbeats 1000000 in
theorem counts_ok (d m k : Nat) (n wt : Int) (g : Int → List UInt8) (r : Rt) (w : World) (hL : Calls Tryz.prog 16 #[.pointer (some ⟨d, 0, none⟩)] w fun e w' => ∃ wk s sp t mp mt ms mf me mn, e = .returned (.tuple #[.pointer (some ⟨wk, 0, none⟩), .agg r.cells, .int .i64 0]) ∧ Wk w' wk s sp t d m k mp mt ms mf me mn 0 0 r n wt g ∧ (w.heap.size ≤ mp ∧ w.heap.size ≤ mt) ∧ Below w.heap.size w w') :
    Calls Tryz.prog 8 #[.pointer (some ⟨d, 0, none⟩)] w fun e w' => ∃ mn, e = .returned (.tuple #[.map (some mn), .int .i64 0]) ∧ Mp w' mn 0 (fun _ => none) ∧ Below w.heap.size w w' := by
  have H := Lib.hid hL
  clear hL
  go_enter Tryz.func8, Tryz.ntmps8
  go_wp2_with fail
  refine H.out.mono ?_
  rintro e w1 ⟨wk, s, sp, t, mp, mt, ms, mf, me, mn, rfl, hW, _, hb1⟩
  have hA := (Below.refl w1.heap.size w1).alloc (Nat.le_refl _) (.cells #[.int .u64 r.gen, .int .u32 r.size, .int .u32 r.picks, .int .u32 r.names, .int .u32 r.free, .int .u32 r.next, .int .u32 r.hint, .int .u8 r.vols] 30)
  have hW2 := hW.below hA
  have HE := Lib.hid (And.intro hW2.ny (hb1.trans (hA.mono hb1.size)))
  have c2 : (w1.alloc (.cells #[.int .u64 r.gen, .int .u32 r.size, .int .u32 r.picks, .int .u32 r.names, .int .u32 r.free, .int .u32 r.next, .int .u32 r.hint, .int .u8 r.vols] 30)).cell? ⟨wk, 2, none⟩ = some (.map (some mn)) := hW2.b.cell 2
  clear hb1 H hA hW hW2
  simp only [Rt.cells]
  go_wp2_with fail
  go_ret2
  exact ⟨mn, rfl, HE.out.1, HE.out.2⟩
end Go.Proofs.YtjnbpbnhkinggaaGreatDoor.St
