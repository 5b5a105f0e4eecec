/- CensusBack: the law's walk. -/
import Derived.Test.YtknhiplhffibjaaCHead
import Derived.Deep.QuietTactic
import Derived.BigQuiet
import Derived.IntWalk
import Derived.Laws.Entries
namespace Go.Proofs.Ytknhiplhffibjaa.Cs
open Go.RowKit Go.Proofs.Ytknhiplhffibjaa.Fl

theorem run_csum {a b c d re im : Nat} (h1 : Ieee.double.add a c = some re) (h2 : Ieee.double.add b d = some im) (w : World) : (binOp .add 24 (.complex .f64 a b) (.complex .f64 c d)).run Try.prog w = .ok (.complex .f64 re im) w :=
  run_complex_sum w .add (.inl rfl) 24 .f64 a b c d re im (by unfold cSumBits floatBits; simp only [FloatKind.format]; rw [h1, h2]; rfl)
theorem run_cdif {a b c d re im : Nat} (h1 : Ieee.double.sub a c = some re) (h2 : Ieee.double.sub b d = some im) (w : World) : (binOp .sub 24 (.complex .f64 a b) (.complex .f64 c d)).run Try.prog w = .ok (.complex .f64 re im) w :=
  run_complex_sum w .sub (.inr rfl) 24 .f64 a b c d re im (by unfold cSumBits floatBits; simp only [FloatKind.format]; rw [h1, h2]; rfl)
/-- A complex number is stored. -/
theorem st_complex (P : Program) (w : World) (a : Addr) (m : Mode) (k : FloatKind) (x y : Nat) : (store a (.complex k x y) m).run P w = stored P w a (.complex k x y) m := run_store P w a _ m rfl
attribute [local go_sem] st_complex

/-- The state ahead of a round. -/
def BackSt (w : World) (a0 a1 b0 b1 c0 c1 : Int) (X : World) : Nat → Prop
  | 0 => (X.cell? ⟨w.heap.size + 1 + 1 + 1 + 1, 0, none⟩ = some (.int .u64 a0) ∧ X.cell? ⟨w.heap.size + 1 + 1 + 1 + 1, 1, none⟩ = some (.int .u64 a1) ∧ X.cell? ⟨w.heap.size + 1 + 1 + 1 + 1, 2, none⟩ = some (.int .u64 b0) ∧ X.cell? ⟨w.heap.size + 1 + 1 + 1 + 1, 3, none⟩ = some (.int .u64 b1) ∧ X.cell? ⟨w.heap.size + 1 + 1 + 1 + 1, 4, none⟩ = some (.int .u64 c0) ∧ X.cell? ⟨w.heap.size + 1 + 1 + 1 + 1, 5, none⟩ = some (.int .u64 c1)) ∧ (X.cell? ⟨w.heap.size + 1 + 1 + 1, 0, none⟩ = some (.complex .f64 0 0) ∧ X.cell? ⟨w.heap.size + 1 + 1 + 1, 1, none⟩ = some (.complex .f64 0 0) ∧ X.cell? ⟨w.heap.size + 1 + 1 + 1, 2, none⟩ = some (.complex .f64 0 0)) ∧ (X.frozen? ⟨w.heap.size + 1 + 1 + 1, 0, none⟩ = false ∧ X.frozen? ⟨w.heap.size + 1 + 1 + 1, 1, none⟩ = false ∧ X.frozen? ⟨w.heap.size + 1 + 1 + 1, 2, none⟩ = false) ∧ w.heap.size + 1 + 1 + 1 + 1 < X.heap.size ∧ Below w.heap.size w X
  | 1 => (X.cell? ⟨w.heap.size + 1 + 1 + 1 + 1, 0, none⟩ = some (.int .u64 a0) ∧ X.cell? ⟨w.heap.size + 1 + 1 + 1 + 1, 1, none⟩ = some (.int .u64 a1) ∧ X.cell? ⟨w.heap.size + 1 + 1 + 1 + 1, 2, none⟩ = some (.int .u64 b0) ∧ X.cell? ⟨w.heap.size + 1 + 1 + 1 + 1, 3, none⟩ = some (.int .u64 b1) ∧ X.cell? ⟨w.heap.size + 1 + 1 + 1 + 1, 4, none⟩ = some (.int .u64 c0) ∧ X.cell? ⟨w.heap.size + 1 + 1 + 1 + 1, 5, none⟩ = some (.int .u64 c1)) ∧ (X.cell? ⟨w.heap.size + 1 + 1 + 1, 0, none⟩ = some (.complex .f64 (floatOfInt .f64 (a0 % 9007199254740993)) (floatOfInt .f64 (a1 % 9007199254740993))) ∧ X.cell? ⟨w.heap.size + 1 + 1 + 1, 1, none⟩ = some (.complex .f64 0 0) ∧ X.cell? ⟨w.heap.size + 1 + 1 + 1, 2, none⟩ = some (.complex .f64 0 0)) ∧ (X.frozen? ⟨w.heap.size + 1 + 1 + 1, 0, none⟩ = false ∧ X.frozen? ⟨w.heap.size + 1 + 1 + 1, 1, none⟩ = false ∧ X.frozen? ⟨w.heap.size + 1 + 1 + 1, 2, none⟩ = false) ∧ w.heap.size + 1 + 1 + 1 + 1 < X.heap.size ∧ Below w.heap.size w X
  | 2 => (X.cell? ⟨w.heap.size + 1 + 1 + 1 + 1, 0, none⟩ = some (.int .u64 a0) ∧ X.cell? ⟨w.heap.size + 1 + 1 + 1 + 1, 1, none⟩ = some (.int .u64 a1) ∧ X.cell? ⟨w.heap.size + 1 + 1 + 1 + 1, 2, none⟩ = some (.int .u64 b0) ∧ X.cell? ⟨w.heap.size + 1 + 1 + 1 + 1, 3, none⟩ = some (.int .u64 b1) ∧ X.cell? ⟨w.heap.size + 1 + 1 + 1 + 1, 4, none⟩ = some (.int .u64 c0) ∧ X.cell? ⟨w.heap.size + 1 + 1 + 1 + 1, 5, none⟩ = some (.int .u64 c1)) ∧ (X.cell? ⟨w.heap.size + 1 + 1 + 1, 0, none⟩ = some (.complex .f64 (floatOfInt .f64 (a0 % 9007199254740993)) (floatOfInt .f64 (a1 % 9007199254740993))) ∧ X.cell? ⟨w.heap.size + 1 + 1 + 1, 1, none⟩ = some (.complex .f64 (floatOfInt .f64 (b0 % 9007199254740993)) (floatOfInt .f64 (b1 % 9007199254740993))) ∧ X.cell? ⟨w.heap.size + 1 + 1 + 1, 2, none⟩ = some (.complex .f64 0 0)) ∧ (X.frozen? ⟨w.heap.size + 1 + 1 + 1, 0, none⟩ = false ∧ X.frozen? ⟨w.heap.size + 1 + 1 + 1, 1, none⟩ = false ∧ X.frozen? ⟨w.heap.size + 1 + 1 + 1, 2, none⟩ = false) ∧ w.heap.size + 1 + 1 + 1 + 1 < X.heap.size ∧ Below w.heap.size w X
  | _ => (X.cell? ⟨w.heap.size + 1 + 1 + 1 + 1, 0, none⟩ = some (.int .u64 a0) ∧ X.cell? ⟨w.heap.size + 1 + 1 + 1 + 1, 1, none⟩ = some (.int .u64 a1) ∧ X.cell? ⟨w.heap.size + 1 + 1 + 1 + 1, 2, none⟩ = some (.int .u64 b0) ∧ X.cell? ⟨w.heap.size + 1 + 1 + 1 + 1, 3, none⟩ = some (.int .u64 b1) ∧ X.cell? ⟨w.heap.size + 1 + 1 + 1 + 1, 4, none⟩ = some (.int .u64 c0) ∧ X.cell? ⟨w.heap.size + 1 + 1 + 1 + 1, 5, none⟩ = some (.int .u64 c1)) ∧ (X.cell? ⟨w.heap.size + 1 + 1 + 1, 0, none⟩ = some (.complex .f64 (floatOfInt .f64 (a0 % 9007199254740993)) (floatOfInt .f64 (a1 % 9007199254740993))) ∧ X.cell? ⟨w.heap.size + 1 + 1 + 1, 1, none⟩ = some (.complex .f64 (floatOfInt .f64 (b0 % 9007199254740993)) (floatOfInt .f64 (b1 % 9007199254740993))) ∧ X.cell? ⟨w.heap.size + 1 + 1 + 1, 2, none⟩ = some (.complex .f64 (floatOfInt .f64 (c0 % 9007199254740993)) (floatOfInt .f64 (c1 % 9007199254740993)))) ∧ (X.frozen? ⟨w.heap.size + 1 + 1 + 1, 0, none⟩ = false ∧ X.frozen? ⟨w.heap.size + 1 + 1 + 1, 1, none⟩ = false ∧ X.frozen? ⟨w.heap.size + 1 + 1 + 1, 2, none⟩ = false) ∧ w.heap.size + 1 + 1 + 1 + 1 < X.heap.size ∧ Below w.heap.size w X
theorem ord_self (n : Int) (h1 : -9007199254740992 ≤ n) (h2 : n ≤ 9007199254740992) : FloatKind.f64.format.order (floatOfInt .f64 n) (floatOfInt .f64 n) = some .eq := ord_eq (ofInt_isZ n h1 h2) (ofInt_isZ n h1 h2) rfl

theorem back_keep0 {w X Y : World} {a0 a1 b0 b1 c0 c1 : Int} (h : (X.cell? ⟨w.heap.size + 1 + 1 + 1 + 1, 0, none⟩ = some (.int .u64 a0) ∧ X.cell? ⟨w.heap.size + 1 + 1 + 1 + 1, 1, none⟩ = some (.int .u64 a1) ∧ X.cell? ⟨w.heap.size + 1 + 1 + 1 + 1, 2, none⟩ = some (.int .u64 b0) ∧ X.cell? ⟨w.heap.size + 1 + 1 + 1 + 1, 3, none⟩ = some (.int .u64 b1) ∧ X.cell? ⟨w.heap.size + 1 + 1 + 1 + 1, 4, none⟩ = some (.int .u64 c0) ∧ X.cell? ⟨w.heap.size + 1 + 1 + 1 + 1, 5, none⟩ = some (.int .u64 c1)) ∧ (X.cell? ⟨w.heap.size + 1 + 1 + 1, 0, none⟩ = some (.complex .f64 0 0) ∧ X.cell? ⟨w.heap.size + 1 + 1 + 1, 1, none⟩ = some (.complex .f64 0 0) ∧ X.cell? ⟨w.heap.size + 1 + 1 + 1, 2, none⟩ = some (.complex .f64 0 0)) ∧ (X.frozen? ⟨w.heap.size + 1 + 1 + 1, 0, none⟩ = false ∧ X.frozen? ⟨w.heap.size + 1 + 1 + 1, 1, none⟩ = false ∧ X.frozen? ⟨w.heap.size + 1 + 1 + 1, 2, none⟩ = false) ∧ w.heap.size + 1 + 1 + 1 + 1 < X.heap.size ∧ Below w.heap.size w X) (hb : Below X.heap.size X Y) : (Y.cell? ⟨w.heap.size + 1 + 1 + 1 + 1, 0, none⟩ = some (.int .u64 a0) ∧ Y.cell? ⟨w.heap.size + 1 + 1 + 1 + 1, 1, none⟩ = some (.int .u64 a1) ∧ Y.cell? ⟨w.heap.size + 1 + 1 + 1 + 1, 2, none⟩ = some (.int .u64 b0) ∧ Y.cell? ⟨w.heap.size + 1 + 1 + 1 + 1, 3, none⟩ = some (.int .u64 b1) ∧ Y.cell? ⟨w.heap.size + 1 + 1 + 1 + 1, 4, none⟩ = some (.int .u64 c0) ∧ Y.cell? ⟨w.heap.size + 1 + 1 + 1 + 1, 5, none⟩ = some (.int .u64 c1)) ∧ (Y.cell? ⟨w.heap.size + 1 + 1 + 1, 0, none⟩ = some (.complex .f64 0 0) ∧ Y.cell? ⟨w.heap.size + 1 + 1 + 1, 1, none⟩ = some (.complex .f64 0 0) ∧ Y.cell? ⟨w.heap.size + 1 + 1 + 1, 2, none⟩ = some (.complex .f64 0 0)) ∧ (Y.frozen? ⟨w.heap.size + 1 + 1 + 1, 0, none⟩ = false ∧ Y.frozen? ⟨w.heap.size + 1 + 1 + 1, 1, none⟩ = false ∧ Y.frozen? ⟨w.heap.size + 1 + 1 + 1, 2, none⟩ = false) ∧ w.heap.size + 1 + 1 + 1 + 1 < Y.heap.size ∧ Below w.heap.size w Y := by
  obtain ⟨⟨i0, i1, i2, i3, i4, i5⟩, ⟨l0, l1, l2⟩, ⟨f0, f1, f2⟩, hz, hbw⟩ := h
  have ci := fun o => hb.cell (p := ⟨w.heap.size + 1 + 1 + 1 + 1, o, none⟩) hz
  have cl := fun o => hb.cell (p := ⟨w.heap.size + 1 + 1 + 1, o, none⟩) (by show w.heap.size + 1 + 1 + 1 < _; omega)
  have fl := fun o => hb.frozen (p := ⟨w.heap.size + 1 + 1 + 1, o, none⟩) (by show w.heap.size + 1 + 1 + 1 < _; omega)
  exact ⟨⟨(ci _).trans i0, (ci _).trans i1, (ci _).trans i2, (ci _).trans i3, (ci _).trans i4, (ci _).trans i5⟩, ⟨(cl _).trans l0, (cl _).trans l1, (cl _).trans l2⟩, ⟨(fl _).trans f0, (fl _).trans f1, (fl _).trans f2⟩, Nat.lt_of_lt_of_le hz hb.size, hbw.trans (hb.mono hbw.size)⟩

theorem back_keep1 {w X Y : World} {a0 a1 b0 b1 c0 c1 : Int} (h : (X.cell? ⟨w.heap.size + 1 + 1 + 1 + 1, 0, none⟩ = some (.int .u64 a0) ∧ X.cell? ⟨w.heap.size + 1 + 1 + 1 + 1, 1, none⟩ = some (.int .u64 a1) ∧ X.cell? ⟨w.heap.size + 1 + 1 + 1 + 1, 2, none⟩ = some (.int .u64 b0) ∧ X.cell? ⟨w.heap.size + 1 + 1 + 1 + 1, 3, none⟩ = some (.int .u64 b1) ∧ X.cell? ⟨w.heap.size + 1 + 1 + 1 + 1, 4, none⟩ = some (.int .u64 c0) ∧ X.cell? ⟨w.heap.size + 1 + 1 + 1 + 1, 5, none⟩ = some (.int .u64 c1)) ∧ (X.cell? ⟨w.heap.size + 1 + 1 + 1, 0, none⟩ = some (.complex .f64 (floatOfInt .f64 (a0 % 9007199254740993)) (floatOfInt .f64 (a1 % 9007199254740993))) ∧ X.cell? ⟨w.heap.size + 1 + 1 + 1, 1, none⟩ = some (.complex .f64 0 0) ∧ X.cell? ⟨w.heap.size + 1 + 1 + 1, 2, none⟩ = some (.complex .f64 0 0)) ∧ (X.frozen? ⟨w.heap.size + 1 + 1 + 1, 0, none⟩ = false ∧ X.frozen? ⟨w.heap.size + 1 + 1 + 1, 1, none⟩ = false ∧ X.frozen? ⟨w.heap.size + 1 + 1 + 1, 2, none⟩ = false) ∧ w.heap.size + 1 + 1 + 1 + 1 < X.heap.size ∧ Below w.heap.size w X) (hb : Below X.heap.size X Y) : (Y.cell? ⟨w.heap.size + 1 + 1 + 1 + 1, 0, none⟩ = some (.int .u64 a0) ∧ Y.cell? ⟨w.heap.size + 1 + 1 + 1 + 1, 1, none⟩ = some (.int .u64 a1) ∧ Y.cell? ⟨w.heap.size + 1 + 1 + 1 + 1, 2, none⟩ = some (.int .u64 b0) ∧ Y.cell? ⟨w.heap.size + 1 + 1 + 1 + 1, 3, none⟩ = some (.int .u64 b1) ∧ Y.cell? ⟨w.heap.size + 1 + 1 + 1 + 1, 4, none⟩ = some (.int .u64 c0) ∧ Y.cell? ⟨w.heap.size + 1 + 1 + 1 + 1, 5, none⟩ = some (.int .u64 c1)) ∧ (Y.cell? ⟨w.heap.size + 1 + 1 + 1, 0, none⟩ = some (.complex .f64 (floatOfInt .f64 (a0 % 9007199254740993)) (floatOfInt .f64 (a1 % 9007199254740993))) ∧ Y.cell? ⟨w.heap.size + 1 + 1 + 1, 1, none⟩ = some (.complex .f64 0 0) ∧ Y.cell? ⟨w.heap.size + 1 + 1 + 1, 2, none⟩ = some (.complex .f64 0 0)) ∧ (Y.frozen? ⟨w.heap.size + 1 + 1 + 1, 0, none⟩ = false ∧ Y.frozen? ⟨w.heap.size + 1 + 1 + 1, 1, none⟩ = false ∧ Y.frozen? ⟨w.heap.size + 1 + 1 + 1, 2, none⟩ = false) ∧ w.heap.size + 1 + 1 + 1 + 1 < Y.heap.size ∧ Below w.heap.size w Y := by
  obtain ⟨⟨i0, i1, i2, i3, i4, i5⟩, ⟨l0, l1, l2⟩, ⟨f0, f1, f2⟩, hz, hbw⟩ := h
  have ci := fun o => hb.cell (p := ⟨w.heap.size + 1 + 1 + 1 + 1, o, none⟩) hz
  have cl := fun o => hb.cell (p := ⟨w.heap.size + 1 + 1 + 1, o, none⟩) (by show w.heap.size + 1 + 1 + 1 < _; omega)
  have fl := fun o => hb.frozen (p := ⟨w.heap.size + 1 + 1 + 1, o, none⟩) (by show w.heap.size + 1 + 1 + 1 < _; omega)
  exact ⟨⟨(ci _).trans i0, (ci _).trans i1, (ci _).trans i2, (ci _).trans i3, (ci _).trans i4, (ci _).trans i5⟩, ⟨(cl _).trans l0, (cl _).trans l1, (cl _).trans l2⟩, ⟨(fl _).trans f0, (fl _).trans f1, (fl _).trans f2⟩, Nat.lt_of_lt_of_le hz hb.size, hbw.trans (hb.mono hbw.size)⟩

theorem back_keep2 {w X Y : World} {a0 a1 b0 b1 c0 c1 : Int} (h : (X.cell? ⟨w.heap.size + 1 + 1 + 1 + 1, 0, none⟩ = some (.int .u64 a0) ∧ X.cell? ⟨w.heap.size + 1 + 1 + 1 + 1, 1, none⟩ = some (.int .u64 a1) ∧ X.cell? ⟨w.heap.size + 1 + 1 + 1 + 1, 2, none⟩ = some (.int .u64 b0) ∧ X.cell? ⟨w.heap.size + 1 + 1 + 1 + 1, 3, none⟩ = some (.int .u64 b1) ∧ X.cell? ⟨w.heap.size + 1 + 1 + 1 + 1, 4, none⟩ = some (.int .u64 c0) ∧ X.cell? ⟨w.heap.size + 1 + 1 + 1 + 1, 5, none⟩ = some (.int .u64 c1)) ∧ (X.cell? ⟨w.heap.size + 1 + 1 + 1, 0, none⟩ = some (.complex .f64 (floatOfInt .f64 (a0 % 9007199254740993)) (floatOfInt .f64 (a1 % 9007199254740993))) ∧ X.cell? ⟨w.heap.size + 1 + 1 + 1, 1, none⟩ = some (.complex .f64 (floatOfInt .f64 (b0 % 9007199254740993)) (floatOfInt .f64 (b1 % 9007199254740993))) ∧ X.cell? ⟨w.heap.size + 1 + 1 + 1, 2, none⟩ = some (.complex .f64 0 0)) ∧ (X.frozen? ⟨w.heap.size + 1 + 1 + 1, 0, none⟩ = false ∧ X.frozen? ⟨w.heap.size + 1 + 1 + 1, 1, none⟩ = false ∧ X.frozen? ⟨w.heap.size + 1 + 1 + 1, 2, none⟩ = false) ∧ w.heap.size + 1 + 1 + 1 + 1 < X.heap.size ∧ Below w.heap.size w X) (hb : Below X.heap.size X Y) : (Y.cell? ⟨w.heap.size + 1 + 1 + 1 + 1, 0, none⟩ = some (.int .u64 a0) ∧ Y.cell? ⟨w.heap.size + 1 + 1 + 1 + 1, 1, none⟩ = some (.int .u64 a1) ∧ Y.cell? ⟨w.heap.size + 1 + 1 + 1 + 1, 2, none⟩ = some (.int .u64 b0) ∧ Y.cell? ⟨w.heap.size + 1 + 1 + 1 + 1, 3, none⟩ = some (.int .u64 b1) ∧ Y.cell? ⟨w.heap.size + 1 + 1 + 1 + 1, 4, none⟩ = some (.int .u64 c0) ∧ Y.cell? ⟨w.heap.size + 1 + 1 + 1 + 1, 5, none⟩ = some (.int .u64 c1)) ∧ (Y.cell? ⟨w.heap.size + 1 + 1 + 1, 0, none⟩ = some (.complex .f64 (floatOfInt .f64 (a0 % 9007199254740993)) (floatOfInt .f64 (a1 % 9007199254740993))) ∧ Y.cell? ⟨w.heap.size + 1 + 1 + 1, 1, none⟩ = some (.complex .f64 (floatOfInt .f64 (b0 % 9007199254740993)) (floatOfInt .f64 (b1 % 9007199254740993))) ∧ Y.cell? ⟨w.heap.size + 1 + 1 + 1, 2, none⟩ = some (.complex .f64 0 0)) ∧ (Y.frozen? ⟨w.heap.size + 1 + 1 + 1, 0, none⟩ = false ∧ Y.frozen? ⟨w.heap.size + 1 + 1 + 1, 1, none⟩ = false ∧ Y.frozen? ⟨w.heap.size + 1 + 1 + 1, 2, none⟩ = false) ∧ w.heap.size + 1 + 1 + 1 + 1 < Y.heap.size ∧ Below w.heap.size w Y := by
  obtain ⟨⟨i0, i1, i2, i3, i4, i5⟩, ⟨l0, l1, l2⟩, ⟨f0, f1, f2⟩, hz, hbw⟩ := h
  have ci := fun o => hb.cell (p := ⟨w.heap.size + 1 + 1 + 1 + 1, o, none⟩) hz
  have cl := fun o => hb.cell (p := ⟨w.heap.size + 1 + 1 + 1, o, none⟩) (by show w.heap.size + 1 + 1 + 1 < _; omega)
  have fl := fun o => hb.frozen (p := ⟨w.heap.size + 1 + 1 + 1, o, none⟩) (by show w.heap.size + 1 + 1 + 1 < _; omega)
  exact ⟨⟨(ci _).trans i0, (ci _).trans i1, (ci _).trans i2, (ci _).trans i3, (ci _).trans i4, (ci _).trans i5⟩, ⟨(cl _).trans l0, (cl _).trans l1, (cl _).trans l2⟩, ⟨(fl _).trans f0, (fl _).trans f1, (fl _).trans f2⟩, Nat.lt_of_lt_of_le hz hb.size, hbw.trans (hb.mono hbw.size)⟩

theorem back_keep3 {w X Y : World} {a0 a1 b0 b1 c0 c1 : Int} (h : (X.cell? ⟨w.heap.size + 1 + 1 + 1 + 1, 0, none⟩ = some (.int .u64 a0) ∧ X.cell? ⟨w.heap.size + 1 + 1 + 1 + 1, 1, none⟩ = some (.int .u64 a1) ∧ X.cell? ⟨w.heap.size + 1 + 1 + 1 + 1, 2, none⟩ = some (.int .u64 b0) ∧ X.cell? ⟨w.heap.size + 1 + 1 + 1 + 1, 3, none⟩ = some (.int .u64 b1) ∧ X.cell? ⟨w.heap.size + 1 + 1 + 1 + 1, 4, none⟩ = some (.int .u64 c0) ∧ X.cell? ⟨w.heap.size + 1 + 1 + 1 + 1, 5, none⟩ = some (.int .u64 c1)) ∧ (X.cell? ⟨w.heap.size + 1 + 1 + 1, 0, none⟩ = some (.complex .f64 (floatOfInt .f64 (a0 % 9007199254740993)) (floatOfInt .f64 (a1 % 9007199254740993))) ∧ X.cell? ⟨w.heap.size + 1 + 1 + 1, 1, none⟩ = some (.complex .f64 (floatOfInt .f64 (b0 % 9007199254740993)) (floatOfInt .f64 (b1 % 9007199254740993))) ∧ X.cell? ⟨w.heap.size + 1 + 1 + 1, 2, none⟩ = some (.complex .f64 (floatOfInt .f64 (c0 % 9007199254740993)) (floatOfInt .f64 (c1 % 9007199254740993)))) ∧ (X.frozen? ⟨w.heap.size + 1 + 1 + 1, 0, none⟩ = false ∧ X.frozen? ⟨w.heap.size + 1 + 1 + 1, 1, none⟩ = false ∧ X.frozen? ⟨w.heap.size + 1 + 1 + 1, 2, none⟩ = false) ∧ w.heap.size + 1 + 1 + 1 + 1 < X.heap.size ∧ Below w.heap.size w X) (hb : Below X.heap.size X Y) : (Y.cell? ⟨w.heap.size + 1 + 1 + 1 + 1, 0, none⟩ = some (.int .u64 a0) ∧ Y.cell? ⟨w.heap.size + 1 + 1 + 1 + 1, 1, none⟩ = some (.int .u64 a1) ∧ Y.cell? ⟨w.heap.size + 1 + 1 + 1 + 1, 2, none⟩ = some (.int .u64 b0) ∧ Y.cell? ⟨w.heap.size + 1 + 1 + 1 + 1, 3, none⟩ = some (.int .u64 b1) ∧ Y.cell? ⟨w.heap.size + 1 + 1 + 1 + 1, 4, none⟩ = some (.int .u64 c0) ∧ Y.cell? ⟨w.heap.size + 1 + 1 + 1 + 1, 5, none⟩ = some (.int .u64 c1)) ∧ (Y.cell? ⟨w.heap.size + 1 + 1 + 1, 0, none⟩ = some (.complex .f64 (floatOfInt .f64 (a0 % 9007199254740993)) (floatOfInt .f64 (a1 % 9007199254740993))) ∧ Y.cell? ⟨w.heap.size + 1 + 1 + 1, 1, none⟩ = some (.complex .f64 (floatOfInt .f64 (b0 % 9007199254740993)) (floatOfInt .f64 (b1 % 9007199254740993))) ∧ Y.cell? ⟨w.heap.size + 1 + 1 + 1, 2, none⟩ = some (.complex .f64 (floatOfInt .f64 (c0 % 9007199254740993)) (floatOfInt .f64 (c1 % 9007199254740993)))) ∧ (Y.frozen? ⟨w.heap.size + 1 + 1 + 1, 0, none⟩ = false ∧ Y.frozen? ⟨w.heap.size + 1 + 1 + 1, 1, none⟩ = false ∧ Y.frozen? ⟨w.heap.size + 1 + 1 + 1, 2, none⟩ = false) ∧ w.heap.size + 1 + 1 + 1 + 1 < Y.heap.size ∧ Below w.heap.size w Y := by
  obtain ⟨⟨i0, i1, i2, i3, i4, i5⟩, ⟨l0, l1, l2⟩, ⟨f0, f1, f2⟩, hz, hbw⟩ := h
  have ci := fun o => hb.cell (p := ⟨w.heap.size + 1 + 1 + 1 + 1, o, none⟩) hz
  have cl := fun o => hb.cell (p := ⟨w.heap.size + 1 + 1 + 1, o, none⟩) (by show w.heap.size + 1 + 1 + 1 < _; omega)
  have fl := fun o => hb.frozen (p := ⟨w.heap.size + 1 + 1 + 1, o, none⟩) (by show w.heap.size + 1 + 1 + 1 < _; omega)
  exact ⟨⟨(ci _).trans i0, (ci _).trans i1, (ci _).trans i2, (ci _).trans i3, (ci _).trans i4, (ci _).trans i5⟩, ⟨(cl _).trans l0, (cl _).trans l1, (cl _).trans l2⟩, ⟨(fl _).trans f0, (fl _).trans f1, (fl _).trans f2⟩, Nat.lt_of_lt_of_le hz hb.size, hbw.trans (hb.mono hbw.size)⟩

theorem back_set0 {w X : World} {a0 a1 b0 b1 c0 c1 : Int} (h : (X.cell? ⟨w.heap.size + 1 + 1 + 1 + 1, 0, none⟩ = some (.int .u64 a0) ∧ X.cell? ⟨w.heap.size + 1 + 1 + 1 + 1, 1, none⟩ = some (.int .u64 a1) ∧ X.cell? ⟨w.heap.size + 1 + 1 + 1 + 1, 2, none⟩ = some (.int .u64 b0) ∧ X.cell? ⟨w.heap.size + 1 + 1 + 1 + 1, 3, none⟩ = some (.int .u64 b1) ∧ X.cell? ⟨w.heap.size + 1 + 1 + 1 + 1, 4, none⟩ = some (.int .u64 c0) ∧ X.cell? ⟨w.heap.size + 1 + 1 + 1 + 1, 5, none⟩ = some (.int .u64 c1)) ∧ (X.cell? ⟨w.heap.size + 1 + 1 + 1, 0, none⟩ = some (.complex .f64 0 0) ∧ X.cell? ⟨w.heap.size + 1 + 1 + 1, 1, none⟩ = some (.complex .f64 0 0) ∧ X.cell? ⟨w.heap.size + 1 + 1 + 1, 2, none⟩ = some (.complex .f64 0 0)) ∧ (X.frozen? ⟨w.heap.size + 1 + 1 + 1, 0, none⟩ = false ∧ X.frozen? ⟨w.heap.size + 1 + 1 + 1, 1, none⟩ = false ∧ X.frozen? ⟨w.heap.size + 1 + 1 + 1, 2, none⟩ = false) ∧ w.heap.size + 1 + 1 + 1 + 1 < X.heap.size ∧ Below w.heap.size w X) : ((X.setCell ⟨w.heap.size + 1 + 1 + 1, 0, none⟩ (.complex .f64 (floatOfInt .f64 (a0 % 9007199254740993)) (floatOfInt .f64 (a1 % 9007199254740993)))).cell? ⟨w.heap.size + 1 + 1 + 1 + 1, 0, none⟩ = some (.int .u64 a0) ∧ (X.setCell ⟨w.heap.size + 1 + 1 + 1, 0, none⟩ (.complex .f64 (floatOfInt .f64 (a0 % 9007199254740993)) (floatOfInt .f64 (a1 % 9007199254740993)))).cell? ⟨w.heap.size + 1 + 1 + 1 + 1, 1, none⟩ = some (.int .u64 a1) ∧ (X.setCell ⟨w.heap.size + 1 + 1 + 1, 0, none⟩ (.complex .f64 (floatOfInt .f64 (a0 % 9007199254740993)) (floatOfInt .f64 (a1 % 9007199254740993)))).cell? ⟨w.heap.size + 1 + 1 + 1 + 1, 2, none⟩ = some (.int .u64 b0) ∧ (X.setCell ⟨w.heap.size + 1 + 1 + 1, 0, none⟩ (.complex .f64 (floatOfInt .f64 (a0 % 9007199254740993)) (floatOfInt .f64 (a1 % 9007199254740993)))).cell? ⟨w.heap.size + 1 + 1 + 1 + 1, 3, none⟩ = some (.int .u64 b1) ∧ (X.setCell ⟨w.heap.size + 1 + 1 + 1, 0, none⟩ (.complex .f64 (floatOfInt .f64 (a0 % 9007199254740993)) (floatOfInt .f64 (a1 % 9007199254740993)))).cell? ⟨w.heap.size + 1 + 1 + 1 + 1, 4, none⟩ = some (.int .u64 c0) ∧ (X.setCell ⟨w.heap.size + 1 + 1 + 1, 0, none⟩ (.complex .f64 (floatOfInt .f64 (a0 % 9007199254740993)) (floatOfInt .f64 (a1 % 9007199254740993)))).cell? ⟨w.heap.size + 1 + 1 + 1 + 1, 5, none⟩ = some (.int .u64 c1)) ∧ ((X.setCell ⟨w.heap.size + 1 + 1 + 1, 0, none⟩ (.complex .f64 (floatOfInt .f64 (a0 % 9007199254740993)) (floatOfInt .f64 (a1 % 9007199254740993)))).cell? ⟨w.heap.size + 1 + 1 + 1, 0, none⟩ = some (.complex .f64 (floatOfInt .f64 (a0 % 9007199254740993)) (floatOfInt .f64 (a1 % 9007199254740993))) ∧ (X.setCell ⟨w.heap.size + 1 + 1 + 1, 0, none⟩ (.complex .f64 (floatOfInt .f64 (a0 % 9007199254740993)) (floatOfInt .f64 (a1 % 9007199254740993)))).cell? ⟨w.heap.size + 1 + 1 + 1, 1, none⟩ = some (.complex .f64 0 0) ∧ (X.setCell ⟨w.heap.size + 1 + 1 + 1, 0, none⟩ (.complex .f64 (floatOfInt .f64 (a0 % 9007199254740993)) (floatOfInt .f64 (a1 % 9007199254740993)))).cell? ⟨w.heap.size + 1 + 1 + 1, 2, none⟩ = some (.complex .f64 0 0)) ∧ ((X.setCell ⟨w.heap.size + 1 + 1 + 1, 0, none⟩ (.complex .f64 (floatOfInt .f64 (a0 % 9007199254740993)) (floatOfInt .f64 (a1 % 9007199254740993)))).frozen? ⟨w.heap.size + 1 + 1 + 1, 0, none⟩ = false ∧ (X.setCell ⟨w.heap.size + 1 + 1 + 1, 0, none⟩ (.complex .f64 (floatOfInt .f64 (a0 % 9007199254740993)) (floatOfInt .f64 (a1 % 9007199254740993)))).frozen? ⟨w.heap.size + 1 + 1 + 1, 1, none⟩ = false ∧ (X.setCell ⟨w.heap.size + 1 + 1 + 1, 0, none⟩ (.complex .f64 (floatOfInt .f64 (a0 % 9007199254740993)) (floatOfInt .f64 (a1 % 9007199254740993)))).frozen? ⟨w.heap.size + 1 + 1 + 1, 2, none⟩ = false) ∧ w.heap.size + 1 + 1 + 1 + 1 < (X.setCell ⟨w.heap.size + 1 + 1 + 1, 0, none⟩ (.complex .f64 (floatOfInt .f64 (a0 % 9007199254740993)) (floatOfInt .f64 (a1 % 9007199254740993)))).heap.size ∧ Below w.heap.size w (X.setCell ⟨w.heap.size + 1 + 1 + 1, 0, none⟩ (.complex .f64 (floatOfInt .f64 (a0 % 9007199254740993)) (floatOfInt .f64 (a1 % 9007199254740993)))) := by
  obtain ⟨⟨i0, i1, i2, i3, i4, i5⟩, ⟨l0, l1, l2⟩, ⟨f0, f1, f2⟩, hz, hbw⟩ := h
  have ci := fun o => World.cell?_setCell_other X ⟨w.heap.size + 1 + 1 + 1, 0, none⟩ ⟨w.heap.size + 1 + 1 + 1 + 1, o, none⟩ (.complex .f64 (floatOfInt .f64 (a0 % 9007199254740993)) (floatOfInt .f64 (a1 % 9007199254740993))) (by simp)
  exact ⟨⟨(ci _).trans i0, (ci _).trans i1, (ci _).trans i2, (ci _).trans i3, (ci _).trans i4, (ci _).trans i5⟩, ⟨World.cell?_setCell_same X _ _ l0, (World.cell?_setCell_other X _ _ _ (by simp)).trans l1, (World.cell?_setCell_other X _ _ _ (by simp)).trans l2⟩, ⟨by simpa using f0, by simpa using f1, by simpa using f2⟩, by simpa [World.setCell] using hz, hbw.setCell (by show w.heap.size ≤ w.heap.size + 1 + 1 + 1; omega) _⟩

theorem back_set1 {w X : World} {a0 a1 b0 b1 c0 c1 : Int} (h : (X.cell? ⟨w.heap.size + 1 + 1 + 1 + 1, 0, none⟩ = some (.int .u64 a0) ∧ X.cell? ⟨w.heap.size + 1 + 1 + 1 + 1, 1, none⟩ = some (.int .u64 a1) ∧ X.cell? ⟨w.heap.size + 1 + 1 + 1 + 1, 2, none⟩ = some (.int .u64 b0) ∧ X.cell? ⟨w.heap.size + 1 + 1 + 1 + 1, 3, none⟩ = some (.int .u64 b1) ∧ X.cell? ⟨w.heap.size + 1 + 1 + 1 + 1, 4, none⟩ = some (.int .u64 c0) ∧ X.cell? ⟨w.heap.size + 1 + 1 + 1 + 1, 5, none⟩ = some (.int .u64 c1)) ∧ (X.cell? ⟨w.heap.size + 1 + 1 + 1, 0, none⟩ = some (.complex .f64 (floatOfInt .f64 (a0 % 9007199254740993)) (floatOfInt .f64 (a1 % 9007199254740993))) ∧ X.cell? ⟨w.heap.size + 1 + 1 + 1, 1, none⟩ = some (.complex .f64 0 0) ∧ X.cell? ⟨w.heap.size + 1 + 1 + 1, 2, none⟩ = some (.complex .f64 0 0)) ∧ (X.frozen? ⟨w.heap.size + 1 + 1 + 1, 0, none⟩ = false ∧ X.frozen? ⟨w.heap.size + 1 + 1 + 1, 1, none⟩ = false ∧ X.frozen? ⟨w.heap.size + 1 + 1 + 1, 2, none⟩ = false) ∧ w.heap.size + 1 + 1 + 1 + 1 < X.heap.size ∧ Below w.heap.size w X) : ((X.setCell ⟨w.heap.size + 1 + 1 + 1, 1, none⟩ (.complex .f64 (floatOfInt .f64 (b0 % 9007199254740993)) (floatOfInt .f64 (b1 % 9007199254740993)))).cell? ⟨w.heap.size + 1 + 1 + 1 + 1, 0, none⟩ = some (.int .u64 a0) ∧ (X.setCell ⟨w.heap.size + 1 + 1 + 1, 1, none⟩ (.complex .f64 (floatOfInt .f64 (b0 % 9007199254740993)) (floatOfInt .f64 (b1 % 9007199254740993)))).cell? ⟨w.heap.size + 1 + 1 + 1 + 1, 1, none⟩ = some (.int .u64 a1) ∧ (X.setCell ⟨w.heap.size + 1 + 1 + 1, 1, none⟩ (.complex .f64 (floatOfInt .f64 (b0 % 9007199254740993)) (floatOfInt .f64 (b1 % 9007199254740993)))).cell? ⟨w.heap.size + 1 + 1 + 1 + 1, 2, none⟩ = some (.int .u64 b0) ∧ (X.setCell ⟨w.heap.size + 1 + 1 + 1, 1, none⟩ (.complex .f64 (floatOfInt .f64 (b0 % 9007199254740993)) (floatOfInt .f64 (b1 % 9007199254740993)))).cell? ⟨w.heap.size + 1 + 1 + 1 + 1, 3, none⟩ = some (.int .u64 b1) ∧ (X.setCell ⟨w.heap.size + 1 + 1 + 1, 1, none⟩ (.complex .f64 (floatOfInt .f64 (b0 % 9007199254740993)) (floatOfInt .f64 (b1 % 9007199254740993)))).cell? ⟨w.heap.size + 1 + 1 + 1 + 1, 4, none⟩ = some (.int .u64 c0) ∧ (X.setCell ⟨w.heap.size + 1 + 1 + 1, 1, none⟩ (.complex .f64 (floatOfInt .f64 (b0 % 9007199254740993)) (floatOfInt .f64 (b1 % 9007199254740993)))).cell? ⟨w.heap.size + 1 + 1 + 1 + 1, 5, none⟩ = some (.int .u64 c1)) ∧ ((X.setCell ⟨w.heap.size + 1 + 1 + 1, 1, none⟩ (.complex .f64 (floatOfInt .f64 (b0 % 9007199254740993)) (floatOfInt .f64 (b1 % 9007199254740993)))).cell? ⟨w.heap.size + 1 + 1 + 1, 0, none⟩ = some (.complex .f64 (floatOfInt .f64 (a0 % 9007199254740993)) (floatOfInt .f64 (a1 % 9007199254740993))) ∧ (X.setCell ⟨w.heap.size + 1 + 1 + 1, 1, none⟩ (.complex .f64 (floatOfInt .f64 (b0 % 9007199254740993)) (floatOfInt .f64 (b1 % 9007199254740993)))).cell? ⟨w.heap.size + 1 + 1 + 1, 1, none⟩ = some (.complex .f64 (floatOfInt .f64 (b0 % 9007199254740993)) (floatOfInt .f64 (b1 % 9007199254740993))) ∧ (X.setCell ⟨w.heap.size + 1 + 1 + 1, 1, none⟩ (.complex .f64 (floatOfInt .f64 (b0 % 9007199254740993)) (floatOfInt .f64 (b1 % 9007199254740993)))).cell? ⟨w.heap.size + 1 + 1 + 1, 2, none⟩ = some (.complex .f64 0 0)) ∧ ((X.setCell ⟨w.heap.size + 1 + 1 + 1, 1, none⟩ (.complex .f64 (floatOfInt .f64 (b0 % 9007199254740993)) (floatOfInt .f64 (b1 % 9007199254740993)))).frozen? ⟨w.heap.size + 1 + 1 + 1, 0, none⟩ = false ∧ (X.setCell ⟨w.heap.size + 1 + 1 + 1, 1, none⟩ (.complex .f64 (floatOfInt .f64 (b0 % 9007199254740993)) (floatOfInt .f64 (b1 % 9007199254740993)))).frozen? ⟨w.heap.size + 1 + 1 + 1, 1, none⟩ = false ∧ (X.setCell ⟨w.heap.size + 1 + 1 + 1, 1, none⟩ (.complex .f64 (floatOfInt .f64 (b0 % 9007199254740993)) (floatOfInt .f64 (b1 % 9007199254740993)))).frozen? ⟨w.heap.size + 1 + 1 + 1, 2, none⟩ = false) ∧ w.heap.size + 1 + 1 + 1 + 1 < (X.setCell ⟨w.heap.size + 1 + 1 + 1, 1, none⟩ (.complex .f64 (floatOfInt .f64 (b0 % 9007199254740993)) (floatOfInt .f64 (b1 % 9007199254740993)))).heap.size ∧ Below w.heap.size w (X.setCell ⟨w.heap.size + 1 + 1 + 1, 1, none⟩ (.complex .f64 (floatOfInt .f64 (b0 % 9007199254740993)) (floatOfInt .f64 (b1 % 9007199254740993)))) := by
  obtain ⟨⟨i0, i1, i2, i3, i4, i5⟩, ⟨l0, l1, l2⟩, ⟨f0, f1, f2⟩, hz, hbw⟩ := h
  have ci := fun o => World.cell?_setCell_other X ⟨w.heap.size + 1 + 1 + 1, 1, none⟩ ⟨w.heap.size + 1 + 1 + 1 + 1, o, none⟩ (.complex .f64 (floatOfInt .f64 (b0 % 9007199254740993)) (floatOfInt .f64 (b1 % 9007199254740993))) (by simp)
  exact ⟨⟨(ci _).trans i0, (ci _).trans i1, (ci _).trans i2, (ci _).trans i3, (ci _).trans i4, (ci _).trans i5⟩, ⟨(World.cell?_setCell_other X _ _ _ (by simp)).trans l0, World.cell?_setCell_same X _ _ l1, (World.cell?_setCell_other X _ _ _ (by simp)).trans l2⟩, ⟨by simpa using f0, by simpa using f1, by simpa using f2⟩, by simpa [World.setCell] using hz, hbw.setCell (by show w.heap.size ≤ w.heap.size + 1 + 1 + 1; omega) _⟩

theorem back_set2 {w X : World} {a0 a1 b0 b1 c0 c1 : Int} (h : (X.cell? ⟨w.heap.size + 1 + 1 + 1 + 1, 0, none⟩ = some (.int .u64 a0) ∧ X.cell? ⟨w.heap.size + 1 + 1 + 1 + 1, 1, none⟩ = some (.int .u64 a1) ∧ X.cell? ⟨w.heap.size + 1 + 1 + 1 + 1, 2, none⟩ = some (.int .u64 b0) ∧ X.cell? ⟨w.heap.size + 1 + 1 + 1 + 1, 3, none⟩ = some (.int .u64 b1) ∧ X.cell? ⟨w.heap.size + 1 + 1 + 1 + 1, 4, none⟩ = some (.int .u64 c0) ∧ X.cell? ⟨w.heap.size + 1 + 1 + 1 + 1, 5, none⟩ = some (.int .u64 c1)) ∧ (X.cell? ⟨w.heap.size + 1 + 1 + 1, 0, none⟩ = some (.complex .f64 (floatOfInt .f64 (a0 % 9007199254740993)) (floatOfInt .f64 (a1 % 9007199254740993))) ∧ X.cell? ⟨w.heap.size + 1 + 1 + 1, 1, none⟩ = some (.complex .f64 (floatOfInt .f64 (b0 % 9007199254740993)) (floatOfInt .f64 (b1 % 9007199254740993))) ∧ X.cell? ⟨w.heap.size + 1 + 1 + 1, 2, none⟩ = some (.complex .f64 0 0)) ∧ (X.frozen? ⟨w.heap.size + 1 + 1 + 1, 0, none⟩ = false ∧ X.frozen? ⟨w.heap.size + 1 + 1 + 1, 1, none⟩ = false ∧ X.frozen? ⟨w.heap.size + 1 + 1 + 1, 2, none⟩ = false) ∧ w.heap.size + 1 + 1 + 1 + 1 < X.heap.size ∧ Below w.heap.size w X) : ((X.setCell ⟨w.heap.size + 1 + 1 + 1, 2, none⟩ (.complex .f64 (floatOfInt .f64 (c0 % 9007199254740993)) (floatOfInt .f64 (c1 % 9007199254740993)))).cell? ⟨w.heap.size + 1 + 1 + 1 + 1, 0, none⟩ = some (.int .u64 a0) ∧ (X.setCell ⟨w.heap.size + 1 + 1 + 1, 2, none⟩ (.complex .f64 (floatOfInt .f64 (c0 % 9007199254740993)) (floatOfInt .f64 (c1 % 9007199254740993)))).cell? ⟨w.heap.size + 1 + 1 + 1 + 1, 1, none⟩ = some (.int .u64 a1) ∧ (X.setCell ⟨w.heap.size + 1 + 1 + 1, 2, none⟩ (.complex .f64 (floatOfInt .f64 (c0 % 9007199254740993)) (floatOfInt .f64 (c1 % 9007199254740993)))).cell? ⟨w.heap.size + 1 + 1 + 1 + 1, 2, none⟩ = some (.int .u64 b0) ∧ (X.setCell ⟨w.heap.size + 1 + 1 + 1, 2, none⟩ (.complex .f64 (floatOfInt .f64 (c0 % 9007199254740993)) (floatOfInt .f64 (c1 % 9007199254740993)))).cell? ⟨w.heap.size + 1 + 1 + 1 + 1, 3, none⟩ = some (.int .u64 b1) ∧ (X.setCell ⟨w.heap.size + 1 + 1 + 1, 2, none⟩ (.complex .f64 (floatOfInt .f64 (c0 % 9007199254740993)) (floatOfInt .f64 (c1 % 9007199254740993)))).cell? ⟨w.heap.size + 1 + 1 + 1 + 1, 4, none⟩ = some (.int .u64 c0) ∧ (X.setCell ⟨w.heap.size + 1 + 1 + 1, 2, none⟩ (.complex .f64 (floatOfInt .f64 (c0 % 9007199254740993)) (floatOfInt .f64 (c1 % 9007199254740993)))).cell? ⟨w.heap.size + 1 + 1 + 1 + 1, 5, none⟩ = some (.int .u64 c1)) ∧ ((X.setCell ⟨w.heap.size + 1 + 1 + 1, 2, none⟩ (.complex .f64 (floatOfInt .f64 (c0 % 9007199254740993)) (floatOfInt .f64 (c1 % 9007199254740993)))).cell? ⟨w.heap.size + 1 + 1 + 1, 0, none⟩ = some (.complex .f64 (floatOfInt .f64 (a0 % 9007199254740993)) (floatOfInt .f64 (a1 % 9007199254740993))) ∧ (X.setCell ⟨w.heap.size + 1 + 1 + 1, 2, none⟩ (.complex .f64 (floatOfInt .f64 (c0 % 9007199254740993)) (floatOfInt .f64 (c1 % 9007199254740993)))).cell? ⟨w.heap.size + 1 + 1 + 1, 1, none⟩ = some (.complex .f64 (floatOfInt .f64 (b0 % 9007199254740993)) (floatOfInt .f64 (b1 % 9007199254740993))) ∧ (X.setCell ⟨w.heap.size + 1 + 1 + 1, 2, none⟩ (.complex .f64 (floatOfInt .f64 (c0 % 9007199254740993)) (floatOfInt .f64 (c1 % 9007199254740993)))).cell? ⟨w.heap.size + 1 + 1 + 1, 2, none⟩ = some (.complex .f64 (floatOfInt .f64 (c0 % 9007199254740993)) (floatOfInt .f64 (c1 % 9007199254740993)))) ∧ ((X.setCell ⟨w.heap.size + 1 + 1 + 1, 2, none⟩ (.complex .f64 (floatOfInt .f64 (c0 % 9007199254740993)) (floatOfInt .f64 (c1 % 9007199254740993)))).frozen? ⟨w.heap.size + 1 + 1 + 1, 0, none⟩ = false ∧ (X.setCell ⟨w.heap.size + 1 + 1 + 1, 2, none⟩ (.complex .f64 (floatOfInt .f64 (c0 % 9007199254740993)) (floatOfInt .f64 (c1 % 9007199254740993)))).frozen? ⟨w.heap.size + 1 + 1 + 1, 1, none⟩ = false ∧ (X.setCell ⟨w.heap.size + 1 + 1 + 1, 2, none⟩ (.complex .f64 (floatOfInt .f64 (c0 % 9007199254740993)) (floatOfInt .f64 (c1 % 9007199254740993)))).frozen? ⟨w.heap.size + 1 + 1 + 1, 2, none⟩ = false) ∧ w.heap.size + 1 + 1 + 1 + 1 < (X.setCell ⟨w.heap.size + 1 + 1 + 1, 2, none⟩ (.complex .f64 (floatOfInt .f64 (c0 % 9007199254740993)) (floatOfInt .f64 (c1 % 9007199254740993)))).heap.size ∧ Below w.heap.size w (X.setCell ⟨w.heap.size + 1 + 1 + 1, 2, none⟩ (.complex .f64 (floatOfInt .f64 (c0 % 9007199254740993)) (floatOfInt .f64 (c1 % 9007199254740993)))) := by
  obtain ⟨⟨i0, i1, i2, i3, i4, i5⟩, ⟨l0, l1, l2⟩, ⟨f0, f1, f2⟩, hz, hbw⟩ := h
  have ci := fun o => World.cell?_setCell_other X ⟨w.heap.size + 1 + 1 + 1, 2, none⟩ ⟨w.heap.size + 1 + 1 + 1 + 1, o, none⟩ (.complex .f64 (floatOfInt .f64 (c0 % 9007199254740993)) (floatOfInt .f64 (c1 % 9007199254740993))) (by simp)
  exact ⟨⟨(ci _).trans i0, (ci _).trans i1, (ci _).trans i2, (ci _).trans i3, (ci _).trans i4, (ci _).trans i5⟩, ⟨(World.cell?_setCell_other X _ _ _ (by simp)).trans l0, (World.cell?_setCell_other X _ _ _ (by simp)).trans l1, World.cell?_setCell_same X _ _ l2⟩, ⟨by simpa using f0, by simpa using f1, by simpa using f2⟩, by simpa [World.setCell] using hz, hbw.setCell (by show w.heap.size ≤ w.heap.size + 1 + 1 + 1; omega) _⟩

theorem keep3 {X Y : World} {L : Nat} {v0 v1 v2 : Value} (h : X.cell? ⟨L, 0, none⟩ = some v0 ∧ X.cell? ⟨L, 1, none⟩ = some v1 ∧ X.cell? ⟨L, 2, none⟩ = some v2) (hz : L < X.heap.size) (hb : Below X.heap.size X Y) : Y.cell? ⟨L, 0, none⟩ = some v0 ∧ Y.cell? ⟨L, 1, none⟩ = some v1 ∧ Y.cell? ⟨L, 2, none⟩ = some v2 :=
  have c := fun o => hb.cell (p := ⟨L, o, none⟩) hz
  ⟨(c _).trans h.1, (c _).trans h.2.1, (c _).trans h.2.2⟩

set_option maxRecDepth 100000 in
set_option maxHeartbeats 4000000 in
theorem back_any (a0 a1 b0 b1 c0 c1 : Int) (w : World) (ha0 : 0 ≤ a0 ∧ a0 ≤ 18446744073709551615) (ha1 : 0 ≤ a1 ∧ a1 ≤ 18446744073709551615) (hb0 : 0 ≤ b0 ∧ b0 ≤ 18446744073709551615) (hb1 : 0 ≤ b1 ∧ b1 ≤ 18446744073709551615) (hc0 : 0 ≤ c0 ∧ c0 ≤ 18446744073709551615) (hc1 : 0 ≤ c1 ∧ c1 ≤ 18446744073709551615) :
    Calls Try.prog 3 #[.agg #[.int .u64 a0, .int .u64 a1], .agg #[.int .u64 b0, .int .u64 b1], .agg #[.int .u64 c0, .int .u64 c1]] w
      fun e w' => e = .returned (.bool true) ∧ Below w.heap.size w w' := by
  obtain ⟨ha00, ha01⟩ := ha0
  obtain ⟨ha10, ha11⟩ := ha1
  obtain ⟨hb00, hb01⟩ := hb0
  obtain ⟨hb10, hb11⟩ := hb1
  obtain ⟨hc00, hc01⟩ := hc0
  obtain ⟨hc10, hc11⟩ := hc1
  go_enter Try.func3, Try.ntmps3
  go_wp2_with fail
  go_loopw [9] (fun i wr => ∃ j : Nat, j ≤ 3 ∧ i = .int .i64 j ∧ BackSt w a0 a1 b0 b1 c0 c1 wr j) (fun i _ => 3 - (intOf i).toNat)
  case atStart =>
    exact ⟨0, by omega, rfl, ⟨by simp [go_sem], by simp [go_sem], by simp [go_sem], by simp [go_sem], by simp [go_sem], by simp [go_sem]⟩, ⟨by simp [go_sem], by simp [go_sem], by simp [go_sem]⟩, ⟨by simp [go_sem], by simp [go_sem], by simp [go_sem]⟩, by simp, (((((Below.refl _ _).alloc (Nat.le_refl _) _).alloc (by simp) _).alloc (by simp; omega) _).alloc (by simp; omega) _).alloc (by simp; omega) _⟩
  case round =>
    obtain ⟨j, hj, rfl, hst⟩ := hrel
    have hj' : j = 0 ∨ j = 1 ∨ j = 2 ∨ j = 3 := by omega
    rcases hj' with rfl | rfl | rfl | rfl
    · obtain ⟨⟨i0, i1, i2, i3, i4, i5⟩, ⟨l0, l1, l2⟩, ⟨f0, f1, f2⟩, hz, hbw⟩ := hst
      have e1 : IntKind.u64.wrap (a0.tmod 9007199254740993) = a0 % 9007199254740993 := by rw [Int.tmod_eq_emod_of_nonneg (by omega)]; exact IntWalk.u64_in _ (by omega)
      have e2 : IntKind.u64.wrap (a1.tmod 9007199254740993) = a1 % 9007199254740993 := by rw [Int.tmod_eq_emod_of_nonneg (by omega)]; exact IntWalk.u64_in _ (by omega)
      have o1 := ord_self (a0 % 9007199254740993) (by omega) (by omega)
      have o2 := ord_self (a1 % 9007199254740993) (by omega) (by omega)
      go_wp2_with fail
      go_quiet (fail)
      go_wp2_with fail
      refine (of_yes _ _ _ (by omega) (by omega) (by omega) (by omega)).mono ?_
      rintro e w' ⟨rfl, rfl⟩
      go_wp2_with fail
      refine (parts_yes _ _ _ _ _ (ofInt_isZ _ (by omega) (by omega)) (ofInt_isZ _ (by omega) (by omega)) (by omega) (by omega) (by omega) (by omega)).mono ?_
      rintro e w1 ⟨rfl, hb1⟩
      have hb2 : Below wr.heap.size wr w1 := ⟨hb1.os, hb1.tape, hb1.output, hb1.size, hb1.block⟩
      have HS := Lib.hid (back_keep0 (X := wr) ⟨⟨i0, i1, i2, i3, i4, i5⟩, ⟨l0, l1, l2⟩, ⟨f0, f1, f2⟩, hz, hbw⟩ hb2)
      clear hb1 hb2 i0 i1 i2 i3 i4 i5 l0 l1 l2 f0 f1 f2 hz hbw
      obtain ⟨-, ⟨l0, l1, l2⟩, ⟨f0, f1, f2⟩, hz, -⟩ := HS.out
      go_wp2_with fail
      go_roundw
      case rel => exact ⟨1, by omega, rfl, back_set0 HS.out⟩
      case measure => simp [intOf]
    · obtain ⟨⟨i0, i1, i2, i3, i4, i5⟩, ⟨l0, l1, l2⟩, ⟨f0, f1, f2⟩, hz, hbw⟩ := hst
      have e1 : IntKind.u64.wrap (b0.tmod 9007199254740993) = b0 % 9007199254740993 := by rw [Int.tmod_eq_emod_of_nonneg (by omega)]; exact IntWalk.u64_in _ (by omega)
      have e2 : IntKind.u64.wrap (b1.tmod 9007199254740993) = b1 % 9007199254740993 := by rw [Int.tmod_eq_emod_of_nonneg (by omega)]; exact IntWalk.u64_in _ (by omega)
      have o1 := ord_self (b0 % 9007199254740993) (by omega) (by omega)
      have o2 := ord_self (b1 % 9007199254740993) (by omega) (by omega)
      go_wp2_with fail
      go_quiet (fail)
      go_wp2_with fail
      refine (of_yes _ _ _ (by omega) (by omega) (by omega) (by omega)).mono ?_
      rintro e w' ⟨rfl, rfl⟩
      go_wp2_with fail
      refine (parts_yes _ _ _ _ _ (ofInt_isZ _ (by omega) (by omega)) (ofInt_isZ _ (by omega) (by omega)) (by omega) (by omega) (by omega) (by omega)).mono ?_
      rintro e w1 ⟨rfl, hb1⟩
      have hb2 : Below wr.heap.size wr w1 := ⟨hb1.os, hb1.tape, hb1.output, hb1.size, hb1.block⟩
      have HS := Lib.hid (back_keep1 (X := wr) ⟨⟨i0, i1, i2, i3, i4, i5⟩, ⟨l0, l1, l2⟩, ⟨f0, f1, f2⟩, hz, hbw⟩ hb2)
      clear hb1 hb2 i0 i1 i2 i3 i4 i5 l0 l1 l2 f0 f1 f2 hz hbw
      obtain ⟨-, ⟨l0, l1, l2⟩, ⟨f0, f1, f2⟩, hz, -⟩ := HS.out
      go_wp2_with fail
      go_roundw
      case rel => exact ⟨2, by omega, rfl, back_set1 HS.out⟩
      case measure => simp [intOf]
    · obtain ⟨⟨i0, i1, i2, i3, i4, i5⟩, ⟨l0, l1, l2⟩, ⟨f0, f1, f2⟩, hz, hbw⟩ := hst
      have e1 : IntKind.u64.wrap (c0.tmod 9007199254740993) = c0 % 9007199254740993 := by rw [Int.tmod_eq_emod_of_nonneg (by omega)]; exact IntWalk.u64_in _ (by omega)
      have e2 : IntKind.u64.wrap (c1.tmod 9007199254740993) = c1 % 9007199254740993 := by rw [Int.tmod_eq_emod_of_nonneg (by omega)]; exact IntWalk.u64_in _ (by omega)
      have o1 := ord_self (c0 % 9007199254740993) (by omega) (by omega)
      have o2 := ord_self (c1 % 9007199254740993) (by omega) (by omega)
      go_wp2_with fail
      go_quiet (fail)
      go_wp2_with fail
      refine (of_yes _ _ _ (by omega) (by omega) (by omega) (by omega)).mono ?_
      rintro e w' ⟨rfl, rfl⟩
      go_wp2_with fail
      refine (parts_yes _ _ _ _ _ (ofInt_isZ _ (by omega) (by omega)) (ofInt_isZ _ (by omega) (by omega)) (by omega) (by omega) (by omega) (by omega)).mono ?_
      rintro e w1 ⟨rfl, hb1⟩
      have hb2 : Below wr.heap.size wr w1 := ⟨hb1.os, hb1.tape, hb1.output, hb1.size, hb1.block⟩
      have HS := Lib.hid (back_keep2 (X := wr) ⟨⟨i0, i1, i2, i3, i4, i5⟩, ⟨l0, l1, l2⟩, ⟨f0, f1, f2⟩, hz, hbw⟩ hb2)
      clear hb1 hb2 i0 i1 i2 i3 i4 i5 l0 l1 l2 f0 f1 f2 hz hbw
      obtain ⟨-, ⟨l0, l1, l2⟩, ⟨f0, f1, f2⟩, hz, -⟩ := HS.out
      go_wp2_with fail
      go_roundw
      case rel => exact ⟨3, by omega, rfl, back_set2 HS.out⟩
      case measure => simp [intOf]
    · obtain ⟨-, ⟨l0, l1, l2⟩, -, hz, hbw⟩ := hst
      have C0 := cen_of (a0 % 9007199254740993) (a1 % 9007199254740993) (by omega) (by omega) (by omega) (by omega)
      have C1 := cen_of (b0 % 9007199254740993) (b1 % 9007199254740993) (by omega) (by omega) (by omega) (by omega)
      have C2 := cen_of (c0 % 9007199254740993) (c1 % 9007199254740993) (by omega) (by omega) (by omega) (by omega)
      generalize floatOfInt .f64 (a0 % 9007199254740993) = x0 at *
      generalize floatOfInt .f64 (a1 % 9007199254740993) = y0 at *
      generalize floatOfInt .f64 (b0 % 9007199254740993) = x1 at *
      generalize floatOfInt .f64 (b1 % 9007199254740993) = y1 at *
      generalize floatOfInt .f64 (c0 % 9007199254740993) = x2 at *
      generalize floatOfInt .f64 (c1 % 9007199254740993) = y2 at *
      generalize a0 % 9007199254740993 = p0 at *
      generalize a1 % 9007199254740993 = q0 at *
      generalize b0 % 9007199254740993 = p1 at *
      generalize b1 % 9007199254740993 = q1 at *
      generalize c0 % 9007199254740993 = p2 at *
      generalize c1 % 9007199254740993 = q2 at *
      have HL := Lib.hid (show wr.cell? ⟨w.heap.size + 1 + 1 + 1, 0, none⟩ = some (.complex .f64 x0 y0) ∧ wr.cell? ⟨w.heap.size + 1 + 1 + 1, 1, none⟩ = some (.complex .f64 x1 y1) ∧ wr.cell? ⟨w.heap.size + 1 + 1 + 1, 2, none⟩ = some (.complex .f64 x2 y2) from ⟨l0, l1, l2⟩)
      have HZ : w.heap.size + 1 + 1 + 1 < wr.heap.size := by omega
      clear hz
      obtain ⟨r1, r2, r3, r4, r5, r6, r7, r8⟩ := C0
      obtain ⟨s1, s2, s3, s4, s5, s6, s7, s8⟩ := C1
      obtain ⟨t1, t2, t3, t4, t5, t6, t7, t8⟩ := C2
      obtain ⟨d1, d2⟩ := csub_isZ s1 r1 (by omega) (by omega)
      obtain ⟨d3, d4⟩ := csub_isZ s2 r2 (by omega) (by omega)
      obtain ⟨e1, e2⟩ := csub_isZ r1 s1 (by omega) (by omega)
      obtain ⟨e3, e4⟩ := csub_isZ r2 s2 (by omega) (by omega)
      obtain ⟨n1, n2⟩ := csub_isZ t1 s1 (by omega) (by omega)
      obtain ⟨n3, n4⟩ := csub_isZ t2 s2 (by omega) (by omega)
      obtain ⟨m1, m2⟩ := csub_isZ t1 r1 (by omega) (by omega)
      obtain ⟨m3, m4⟩ := csub_isZ t2 r2 (by omega) (by omega)
      obtain ⟨k1, k2⟩ := cadd_isZ r1 d1 (by omega) (by omega)
      obtain ⟨k3, k4⟩ := cadd_isZ r2 d3 (by omega) (by omega)
      obtain ⟨k5, k6⟩ := cadd_isZ s1 e1 (by omega) (by omega)
      obtain ⟨k7, k8⟩ := cadd_isZ s2 e3 (by omega) (by omega)
      obtain ⟨u1, u2, _⟩ := fadd_eq d1 e1 (by omega) (by omega)
      obtain ⟨u3, u4, _⟩ := fadd_eq d3 e3 (by omega) (by omega)
      obtain ⟨v1, v2, _⟩ := fadd_eq d1 n1 (by omega) (by omega)
      obtain ⟨v3, v4, _⟩ := fadd_eq d3 n3 (by omega) (by omega)
      have o1 := ord_eq k1 s1 (by omega)
      have o2 := ord_eq k3 s2 (by omega)
      have o3 := ord_eq k5 r1 (by omega)
      have o4 := ord_eq k7 r2 (by omega)
      have o5 := ord_eq u2 isZ_zero (by omega)
      have o6 := ord_eq u4 isZ_zero (by omega)
      have o7 := ord_eq v2 m1 (by omega)
      have o8 := ord_eq v4 m3 (by omega)
      have hs1 := run_csum u1 u3
      have hs2 := run_csum v1 v3
      clear u1 u3 v1 v3
      have HU1 := Lib.hid hs1
      have HU2 := Lib.hid hs2
      clear hs1 hs2
      go_wp2_with fail
      refine (change_any x0 y0 x1 y1 p0 q0 p1 q1 _ ⟨r1, r2, r3, r4, r5, r6, r7, r8⟩ ⟨s1, s2, s3, s4, s5, s6, s7, s8⟩).mono ?_
      rintro e w1 ⟨rfl, hb1⟩
      have HLn := Lib.hid (keep3 HL.out HZ hb1)
      have HZn := Nat.lt_of_lt_of_le HZ hb1.size
      have hbn := hbw.trans (hb1.mono hbw.size)
      clear hb1 HL HZ hbw l0 l1 l2
      have HL := HLn
      have HZ := HZn
      have hbw := hbn
      clear HLn HZn hbn
      obtain ⟨l0, l1, l2⟩ := HL.out
      go_wp2_with fail
      refine (apply_yes x0 y0 _ _ p0 q0 (p1 - p0) (q1 - q0) _ ⟨r1, r2, r3, r4, r5, r6, r7, r8⟩ ⟨d1, d3, d2, d4, by omega, by omega, by omega, by omega⟩ (by omega) (by omega) (by omega) (by omega)).mono ?_
      rintro e w1 ⟨rfl, hb1⟩
      have HLn := Lib.hid (keep3 HL.out HZ hb1)
      have HZn := Nat.lt_of_lt_of_le HZ hb1.size
      have hbn := hbw.trans (hb1.mono hbw.size)
      clear hb1 HL HZ hbw l0 l1 l2
      have HL := HLn
      have HZ := HZn
      have hbw := hbn
      clear HLn HZn hbn
      obtain ⟨l0, l1, l2⟩ := HL.out
      go_wp2_with fail
      refine (change_any x1 y1 x0 y0 p1 q1 p0 q0 _ ⟨s1, s2, s3, s4, s5, s6, s7, s8⟩ ⟨r1, r2, r3, r4, r5, r6, r7, r8⟩).mono ?_
      rintro e w1 ⟨rfl, hb1⟩
      have HLn := Lib.hid (keep3 HL.out HZ hb1)
      have HZn := Nat.lt_of_lt_of_le HZ hb1.size
      have hbn := hbw.trans (hb1.mono hbw.size)
      clear hb1 HL HZ hbw l0 l1 l2
      have HL := HLn
      have HZ := HZn
      have hbw := hbn
      clear HLn HZn hbn
      obtain ⟨l0, l1, l2⟩ := HL.out
      go_wp2_with fail
      refine (apply_yes x1 y1 _ _ p1 q1 (p0 - p1) (q0 - q1) _ ⟨s1, s2, s3, s4, s5, s6, s7, s8⟩ ⟨e1, e3, e2, e4, by omega, by omega, by omega, by omega⟩ (by omega) (by omega) (by omega) (by omega)).mono ?_
      rintro e w1 ⟨rfl, hb1⟩
      have HLn := Lib.hid (keep3 HL.out HZ hb1)
      have HZn := Nat.lt_of_lt_of_le HZ hb1.size
      have hbn := hbw.trans (hb1.mono hbw.size)
      clear hb1 HL HZ hbw l0 l1 l2
      have HL := HLn
      have HZ := HZn
      have hbw := hbn
      clear HLn HZn hbn
      obtain ⟨l0, l1, l2⟩ := HL.out
      have hs1 := HU1.out
      go_wp2_with fail
      clear hs1
      refine (change_any x1 y1 x2 y2 p1 q1 p2 q2 _ ⟨s1, s2, s3, s4, s5, s6, s7, s8⟩ ⟨t1, t2, t3, t4, t5, t6, t7, t8⟩).mono ?_
      rintro e w1 ⟨rfl, hb1⟩
      have HLn := Lib.hid (keep3 HL.out HZ hb1)
      have HZn := Nat.lt_of_lt_of_le HZ hb1.size
      have hbn := hbw.trans (hb1.mono hbw.size)
      clear hb1 HL HZ hbw l0 l1 l2
      have HL := HLn
      have HZ := HZn
      have hbw := hbn
      clear HLn HZn hbn
      obtain ⟨l0, l1, l2⟩ := HL.out
      go_wp2_with fail
      refine (change_any x0 y0 x2 y2 p0 q0 p2 q2 _ ⟨r1, r2, r3, r4, r5, r6, r7, r8⟩ ⟨t1, t2, t3, t4, t5, t6, t7, t8⟩).mono ?_
      rintro e w1 ⟨rfl, hb1⟩
      have HLn := Lib.hid (keep3 HL.out HZ hb1)
      have HZn := Nat.lt_of_lt_of_le HZ hb1.size
      have hbn := hbw.trans (hb1.mono hbw.size)
      clear hb1 HL HZ hbw l0 l1 l2
      have HL := HLn
      have HZ := HZn
      have hbw := hbn
      clear HLn HZn hbn
      obtain ⟨l0, l1, l2⟩ := HL.out
      have hs2 := HU2.out
      go_wp2_with fail
      refine (head_any _).mono ?_
      rintro e w1 ⟨rfl, hb1⟩
      have hbe := hbw.trans (hb1.mono hbw.size)
      go_wp2_with fail
      go_ret
      exact ⟨rfl, hbe⟩
end Go.Proofs.Ytknhiplhffibjaa.Cs
