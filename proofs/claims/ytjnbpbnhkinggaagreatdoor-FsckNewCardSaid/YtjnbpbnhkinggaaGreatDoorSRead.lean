/- Contracts of field.Reader: Fine, and what makes numbers of bytes. -/
import Derived.Test.YtjnbpbnhkinggaaGreatDoorSOpen
import Derived.Defers
import Derived.Deep.QuietTactic
import Derived.BigQuiet
namespace Go.Proofs.YtjnbpbnhkinggaaGreatDoor.St
open Go.RowKit

/-- The number whose bytes they are, the least first. -/
def un : List UInt8 → Int
  | [] => 0
  | x :: r => (x.toNat : Int) + 256 * un r
theorem un_snoc (l : List UInt8) (x : UInt8) : un (l ++ [x]) = un l + 256 ^ l.length * (x.toNat : Int) := by
  induction l with
  | nil => simp [un]
  | cons y r ih => simp only [List.cons_append, un, ih, List.length_cons, Int.pow_succ]; rw [Int.mul_add, Int.mul_comm ((256 : Int) ^ r.length) 256, Int.mul_assoc, Int.add_assoc]
theorem un_bd (l : List UInt8) : 0 ≤ un l ∧ un l < 256 ^ l.length := by
  induction l with
  | nil => simp [un]
  | cons y r ih =>
    simp only [un, List.length_cons, Int.pow_succ]
    have := y.toNat_lt
    omega

theorem or_step (x c : Nat) (j : Nat) (hj : j < 8) (hx : x < 256 ^ j) (hc : c < 256) : bits .or .u64 (x : Int) (IntKind.u64.wrap (IntKind.u64.wrap (c : Int) * 2 ^ (8 * j))) = (x : Int) + 256 ^ j * (c : Int) := by
  have e1 : IntKind.u64.wrap (c : Int) = c := by rw [IntKind.wrap_u64]; omega
  have e2 : (256 : Nat) ^ j = 2 ^ (8 * j) := by rw [Nat.pow_mul]
  have hb : 2 ^ (8 * j) * c < 18446744073709551616 := by
    have h1 : (2 : Nat) ^ (8 * j) ≤ 2 ^ 56 := Nat.pow_le_pow_right (by omega) (by omega)
    calc 2 ^ (8 * j) * c ≤ 2 ^ 56 * 255 := Nat.mul_le_mul h1 (by omega)
      _ < 18446744073709551616 := by decide
  have hx2 : x < 18446744073709551616 := by
    have h1 : (2 : Nat) ^ (8 * j) ≤ 2 ^ 56 := Nat.pow_le_pow_right (by omega) (by omega)
    have h2 : (2 : Nat) ^ 56 < 18446744073709551616 := by decide
    rw [e2] at hx
    omega
  have e3 : (c : Int) * 2 ^ (8 * j) = ((2 ^ (8 * j) * c : Nat) : Int) := by push_cast; rw [Int.mul_comm]
  have e4 : IntKind.u64.wrap ((2 ^ (8 * j) * c : Nat) : Int) = ((2 ^ (8 * j) * c : Nat) : Int) := by
    generalize 2 ^ (8 * j) * c = m at hb
    rw [IntKind.wrap_u64]; omega
  rw [e1, e3, e4, u64_or_nat _ _ hx2 hb, Nat.or_comm, ← Nat.two_pow_add_eq_or_of_lt (by rw [← e2]; exact hx), ← e2]
  rw [Int.natCast_add, Int.natCast_mul, Int.natCast_pow]
  exact Int.add_comm _ _

theorem fine_any (q g : Nat) (b : List UInt8) (at_ : Int) (fine : Bool) (w : World) (h : Rd w q g b at_ fine) : Calls Tryz.prog 85 #[.pointer (some ⟨q, 0, none⟩)] w fun e w' => e = .returned (.bool fine) ∧ w = w' := by
  have c2 : w.cell? ⟨q, 2, none⟩ = some (.bool fine) := h.1.cell 2
  go_enter Tryz.func85, Tryz.ntmps85
  go_wp2_with fail
  go_ret
  exact ⟨rfl, rfl⟩

set_option maxRecDepth 100000 in
set_option maxHeartbeats 1000000 in
theorem num1_any (g o c k : Nat) (l : List UInt8) (hk : l.length = k) (hl : k ≤ 8) (hc : k ≤ c) (w : World) (hw : ∀ i, i < k → w.cell? ⟨g, o + i, none⟩ = some (.int .u8 ((l.getD i 0).toNat : Int))) : Calls Tryz.prog 84 #[.slice (some ⟨g, o, none⟩) k c] w fun e w' => e = .returned (.tuple #[.int .u64 (un l), .bool true]) ∧ w = w' := by
  have HW := Lib.hid hw
  have HK := Lib.hid hk
  clear hk hw
  go_enter Tryz.func84, Tryz.ntmps84
  go_wp2_with fail
  go_loop [2, 7] (fun n i => ∃ (j : Nat), j ≤ k ∧ i = .int .i64 j ∧ n = .int .u64 (un (l.take j))) (fun _ i => k - (intOf i).toNat)
  case atStart => exact ⟨0, by omega, rfl, by simp [un]⟩
  case round =>
    obtain ⟨j, hj, rfl, rfl⟩ := hrel
    by_cases hlt : j < k
    · have cj := HW.out j hlt
      go_wp2_with fail
      go_round
      case rel => 
        refine ⟨j + 1, by omega, by go_num, ?_⟩
        have hjl : j < l.length := by rw [HK.out]; exact hlt
        have hbd := un_bd (l.take j)
        have hlj : (l.take j).length = j := by rw [List.length_take]; omega
        rw [hlj] at hbd
        rw [List.take_succ_eq_append_getElem hjl, un_snoc, hlj, List.getElem?_eq_getElem hjl, Option.getD_some]
        obtain ⟨x, hx⟩ := Int.eq_ofNat_of_zero_le hbd.1
        rw [hx] at hbd ⊢
        rw [or_step x _ j (by omega) (by have := hbd.2; exact_mod_cast this) (UInt8.toNat_lt _)]
      case measure => simp [intOf]; omega
    · go_wp2_with fail
      go_ret2
      refine ⟨?_, rfl⟩
      rw [List.take_of_length_le (by rw [HK.out]; omega)]
      rfl
end Go.Proofs.YtjnbpbnhkinggaaGreatDoor.St
