/- Roots, and the contract of slot.May. -/
import Derived.Test.YtjnbpbnhkinggaaGreatDoorSDone
import Derived.Deep.DeepCutAuto
namespace Go.Proofs.YtjnbpbnhkinggaaGreatDoor.St
open Go.RowKit

/-- A root. -/
structure Rt where
  gen : Int
  size : Int
  picks : Int
  names : Int
  free : Int
  next : Int
  hint : Int
  vols : Int
def u32 (x : Int) : Prop := 0 ≤ x ∧ x ≤ 4294967295
/-- Its numbers are of their kinds. -/
structure Rt.Ok (r : Rt) : Prop where
  gen : 0 ≤ r.gen ∧ r.gen ≤ 18446744073709551615
  size : u32 r.size
  picks : u32 r.picks
  names : u32 r.names
  free : u32 r.free
  next : u32 r.next
  hint : u32 r.hint
  vols : 0 ≤ r.vols ∧ r.vols ≤ 255
def Rt.cells (r : Rt) : Array Value := #[.int .u64 r.gen, .int .u32 r.size, .int .u32 r.picks, .int .u32 r.names, .int .u32 r.free, .int .u32 r.next, .int .u32 r.hint, .int .u8 r.vols]
def Rt.szOk (r : Rt) : Bool := decide (64 ≤ r.size) && decide (r.size ≤ 1048576)
def Rt.inOk (r : Rt) : Bool := decide (r.names < r.size) && decide (r.hint < r.size) && decide (r.free ≤ r.size)
def Rt.voOk (r : Rt) : Bool := decide (r.vols ≤ 16) && (r.vols == 0) == (r.names == 0)
def Rt.may (r : Rt) : Bool := decide (0 < r.gen) && r.szOk && r.inOk && decide (r.picks < 65536) && decide (0 < r.next) && r.voOk

set_option maxRecDepth 100000 in
set_option maxHeartbeats 1000000 in
theorem may_any (r : Rt) (w : World) : Calls Tryz.prog 42 #[.agg r.cells] w fun e w' => e = .returned (.bool r.may) ∧ Below w.heap.size w w' := by
  have hb : Below w.heap.size w (w.alloc (.cells r.cells 30)) := (Below.refl _ _).alloc (Nat.le_refl _) _
  have hk := Bk.new w 30 r.cells
  have c0 : (w.alloc (.cells r.cells 30)).cell? ⟨w.heap.size, 0, none⟩ = some (.int .u64 r.gen) := hk.cell 0
  have c1 : (w.alloc (.cells r.cells 30)).cell? ⟨w.heap.size, 1, none⟩ = some (.int .u32 r.size) := hk.cell 1
  have c2 : (w.alloc (.cells r.cells 30)).cell? ⟨w.heap.size, 2, none⟩ = some (.int .u32 r.picks) := hk.cell 2
  have c3 : (w.alloc (.cells r.cells 30)).cell? ⟨w.heap.size, 3, none⟩ = some (.int .u32 r.names) := hk.cell 3
  have c4 : (w.alloc (.cells r.cells 30)).cell? ⟨w.heap.size, 4, none⟩ = some (.int .u32 r.free) := hk.cell 4
  have c5 : (w.alloc (.cells r.cells 30)).cell? ⟨w.heap.size, 5, none⟩ = some (.int .u32 r.next) := hk.cell 5
  have c6 : (w.alloc (.cells r.cells 30)).cell? ⟨w.heap.size, 6, none⟩ = some (.int .u32 r.hint) := hk.cell 6
  have c7 : (w.alloc (.cells r.cells 30)).cell? ⟨w.heap.size, 7, none⟩ = some (.int .u8 r.vols) := hk.cell 7
  clear hk
  go_enter Tryz.func42, Tryz.ntmps42
  generalize hX : w.alloc (.cells r.cells 30) = X at *
  go_upto_region 1 with fail
  go_cut [3] (fun s3 wx => s3 = .bool r.szOk ∧ wx = X)
  case first =>
    go_wp2_with fail
    all_goals (go_meet; exact ⟨by refine congrArg _ (Bool.eq_iff_iff.2 ?_); simp [Rt.szOk] <;> omega, rfl⟩)
  case rest =>
    obtain ⟨rfl, rfl⟩ := hcut
    go_upto_region 2 with fail
    go_cut [4] (fun s4 wx => s4 = .bool r.inOk ∧ wx = wc)
    case first =>
      go_wp2_with fail
      all_goals (go_meet; exact ⟨by refine congrArg _ (Bool.eq_iff_iff.2 ?_); simp [Rt.inOk] <;> omega, rfl⟩)
    case rest =>
      obtain ⟨rfl, rfl⟩ := hcut
      go_upto_region 3 with fail
      go_cut [5] (fun s5 wx => s5 = .bool r.voOk ∧ wx = wc)
      case first =>
        go_wp2_with fail
        all_goals (go_meet; exact ⟨by refine congrArg _ (Bool.eq_iff_iff.2 ?_); simp [Rt.voOk] <;> omega, rfl⟩)
      case rest =>
        obtain ⟨rfl, rfl⟩ := hcut
        go_wp2_with fail
        all_goals (go_ret; exact ⟨by refine congrArg (fun b => Ending.returned (Value.bool b)) (Bool.eq_iff_iff.2 ?_); first | (simp [Rt.may] <;> omega) | (simp [Rt.may, *] <;> omega) | simp_all [Rt.may], hb⟩)
end Go.Proofs.YtjnbpbnhkinggaaGreatDoor.St
