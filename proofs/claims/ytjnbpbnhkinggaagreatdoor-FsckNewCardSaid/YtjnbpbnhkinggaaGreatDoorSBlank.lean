/- Contracts of field.blank, of Reader.Num and Reader.End. -/
import Derived.Test.YtjnbpbnhkinggaaGreatDoorSTake
namespace Go.Proofs.YtjnbpbnhkinggaaGreatDoor.St
open Go.RowKit

set_option maxRecDepth 100000 in
set_option maxHeartbeats 1000000 in
theorem trimRight_zeros (g o n c : Nat) (hn : n ≤ 256) (hc : n ≤ c) (hc2 : c ≤ 256) (w : World) (hw : ∀ i, i < n → w.cell? ⟨g, o + i, none⟩ = some (.int .u8 0)) : Calls Tryz.prog 104 #[.slice (some ⟨g, o, none⟩) n c, .int .u8 0] w fun e w' => e = .returned (.slice (some ⟨g, o, none⟩) 0 c) ∧ w = w' := by
  have HW := Lib.hid hw
  clear hw
  go_enter Tryz.func104, Tryz.ntmps104
  go_wp2_with fail
  go_loop [0] (fun s => ∃ (j : Nat), j ≤ n ∧ s = .slice (some ⟨g, o, none⟩) j c) (fun s => match s with | .slice _ k _ => k | _ => 0)
  case atStart => exact ⟨n, Nat.le_refl _, rfl⟩
  case round =>
    obtain ⟨j, hj, rfl⟩ := hrel
    by_cases h0 : j = 0
    · subst h0
      go_wp2_with fail
      go_ret
      exact ⟨rfl, rfl⟩
    · obtain ⟨k, rfl⟩ : ∃ k, j = k + 1 := ⟨j - 1, by omega⟩
      have cj := HW.out k (by omega)
      have x1 : ((k + 1 : Nat) : Int) - 1 = (k : Int) := by omega
      clear h0
      go_wp2_with fail
      go_round
      case rel => exact ⟨k, by omega, rfl⟩
      case measure => simp

theorem trimLeft_none (p : Option Addr) (c : Nat) (w : World) : Calls Tryz.prog 103 #[.slice p 0 c, .int .u8 0] w fun e w' => e = .returned (.slice none 0 0) ∧ w = w' := by
  go_enter Tryz.func103, Tryz.ntmps103
  go_wp2_with fail
  go_loop [0] (fun s => s = .slice p 0 c) (fun _ => 0)
  case atStart => rfl
  case round =>
    subst hrel
    go_wp2_with fail
    go_ret
    exact ⟨rfl, rfl⟩

set_option maxRecDepth 100000 in
set_option maxHeartbeats 1000000 in
theorem trim_zeros (g o n c : Nat) (h1 : 1 ≤ n) (hn : n ≤ 256) (hc : n ≤ c) (hc2 : c ≤ 256) (w : World) (hw : ∀ i, i < n → w.cell? ⟨g, o + i, none⟩ = some (.int .u8 0)) : Calls Tryz.prog 98 #[.slice (some ⟨g, o, none⟩) n c, .string ⟨#[0]⟩] w fun e w' => e = .returned (.slice none 0 0) ∧ ∃ m, w' = w.drewN m := by
  have HW := Lib.hid hw
  clear hw
  have hn0 : ((n : Int) == 0) = false := beq_eq_false_iff_ne.2 (by omega)
  go_enter Tryz.func98, Tryz.ntmps98
  go_wp2_with fail
  go_quiet (first | (go_at_call 104; exact qsame (trimRight_zeros g o n c hn hc hc2 _ HW.out)) | (go_at_call 103; exact qsame (trimLeft_none _ _ _)))
  go_wp2_with fail
  go_ret
  exact ⟨rfl, _, rfl⟩

theorem blank_zeros (g o n c : Nat) (h1 : 1 ≤ n) (hn : n ≤ 256) (hc : n ≤ c) (hc2 : c ≤ 256) (w : World) (hw : ∀ i, i < n → w.cell? ⟨g, o + i, none⟩ = some (.int .u8 0)) : Calls Tryz.prog 86 #[.slice (some ⟨g, o, none⟩) n c] w fun e w' => e = .returned (.bool true) ∧ ∃ m, w' = w.drewN m := by
  have HW := Lib.hid hw
  clear hw
  go_enter Tryz.func86, Tryz.ntmps86
  go_wp2_with fail
  refine (trim_zeros g o n c h1 hn hc hc2 _ HW.out).mono ?_
  rintro e w1 ⟨rfl, m, rfl⟩
  go_wp2_with fail
  go_ret
  exact ⟨rfl, _, rfl⟩

theorem rnum_no (q g : Nat) (b : List UInt8) (at_ : Int) (n : Nat) (hn : n = 1 ∨ n = 2 ∨ n = 4 ∨ n = 8) (w : World) (h : Rd w q g b at_ false) :
    Calls Tryz.prog 72 #[.pointer (some ⟨q, 0, none⟩), .int .i64 n] w fun e w' => e = .returned (.int .u64 0) ∧ Rd w' q g b at_ false ∧ Fr (fun i => i = q) w w' := by
  have H := Lib.hid h
  clear h
  go_enter Tryz.func72, Tryz.ntmps72
  go_wp2_with fail
  refine (width_any n hn _).mono ?_
  rintro e w1 ⟨rfl, rfl⟩
  go_wp2_with fail
  refine (take_no q g b at_ _ _ _ _ H.out).mono ?_
  rintro e w1 ⟨rfl, h1, h2⟩
  go_wp2_with fail
  go_ret
  exact ⟨rfl, h1, h2⟩
theorem rnum_yes (q g : Nat) (b : List UInt8) (hl : b.length = 256) (o n : Nat) (hn : n = 1 ∨ n = 2 ∨ n = 4 ∨ n = 8) (ho : o + n ≤ 252) (w : World) (h : Rd w q g b o true) :
    Calls Tryz.prog 72 #[.pointer (some ⟨q, 0, none⟩), .int .i64 n] w fun e w' => e = .returned (.int .u64 (un ((b.drop o).take n))) ∧ Rd w' q g b (o + n : Nat) true ∧ Fr (fun i => i = q) w w' := by
  have H := Lib.hid h
  have HL := Lib.hid hl
  clear h hl
  go_enter Tryz.func72, Tryz.ntmps72
  go_wp2_with fail
  refine (width_any n hn _).mono ?_
  rintro e w1 ⟨rfl, rfl⟩
  go_wp2_with fail
  refine (take_yes q g b HL.out o n ho (by omega) (by omega) _ H.out).mono ?_
  rintro e w1 ⟨rfl, h1, h2⟩
  go_wp2_with fail
  go_ret
  exact ⟨rfl, h1, h2⟩

set_option maxRecDepth 100000 in
set_option maxHeartbeats 1000000 in
theorem end_no (q g : Nat) (b : List UInt8) (at_ : Int) (w : World) (h : Rd w q g b at_ false) :
    Calls Tryz.prog 73 #[.pointer (some ⟨q, 0, none⟩)] w fun e w' => e = .returned (.int .i64 250) ∧ ∃ m, w' = w.drewN m := by
  have H := Lib.hid h
  clear h
  go_enter Tryz.func73, Tryz.ntmps73
  go_wp2_with fail
  go_quiet ((go_at_call 85; exact qsame (fine_any q g b at_ false _ (H.out.drewN _))))
  go_wp2_with fail
  go_ret
  exact ⟨rfl, _, rfl⟩
set_option maxRecDepth 100000 in
set_option maxHeartbeats 1000000 in
theorem end_yes (q g : Nat) (b : List UInt8) (hl : b.length = 256) (o : Nat) (ho : o < 252) (hz : ∀ i, o ≤ i → i < 252 → b.getD i 0 = 0) (w : World) (h : Rd w q g b o true) :
    Calls Tryz.prog 73 #[.pointer (some ⟨q, 0, none⟩)] w fun e w' => e = .returned (.int .i64 0) ∧ ∃ m, w' = w.drewN m := by
  have c0 : w.cell? ⟨q, 0, none⟩ = some (.slice (some ⟨g, 0, none⟩) 252 256) := h.1.cell 0
  have c1 : w.cell? ⟨q, 1, none⟩ = some (.int .i64 o) := h.1.cell 1
  have hB : ∀ m i, i < 252 - o → (w.drewN m).cell? ⟨g, o + i, none⟩ = some (.int .u8 0) := by
    intro m i hi
    have h2 := hz (o + i) (by omega) (by omega)
    rw [(h.drewN m).2.cell, bA_at b (o + i) (by omega)]
    simp [List.getD, List.getElem?_eq_getElem (show o + i < b.length by omega)] at h2
    rw [h2]
    rfl
  have HB := Lib.hid hB
  have H := Lib.hid h
  have x0 : (0 : Int) ≤ (o : Int) := by omega
  have x1 : (o : Int) ≤ 252 := by omega
  have x2 : ¬ (252 : Int) < (o : Int) := by omega
  clear h hl hz hB
  go_enter Tryz.func73, Tryz.ntmps73
  go_wp2_with fail
  go_quiet (first | (go_at_call 85; exact qsame (fine_any q g b _ true _ (H.out.drewN _))) | (go_at_call 86; exact Calls.quiet_of (blank_zeros g o (252 - o) (256 - o) (by omega) (by omega) (by omega) (by omega) _ (HB.out _))))
  go_wp2_with fail
  go_ret
  exact ⟨rfl, _, rfl⟩
end Go.Proofs.YtjnbpbnhkinggaaGreatDoor.St
