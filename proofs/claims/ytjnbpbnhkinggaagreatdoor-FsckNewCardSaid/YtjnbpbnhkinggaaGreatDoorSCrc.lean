/- Contracts of crc: the table, the sum of bytes, a block sealed. -/
import Derived.Test.YtjnbpbnhkinggaaGreatDoorSBase
import Derived.Deep.QuietTactic
import Derived.BigQuiet
namespace Go.Proofs.YtjnbpbnhkinggaaGreatDoor.St
open Go.RowKit

theorem wrap_u32_bd (x : Int) : 0 ≤ IntKind.u32.wrap x ∧ IntKind.u32.wrap x ≤ 4294967295 := by rw [IntKind.wrap_u32]; omega
theorem bits_u32_bd (op : BinOp) (x y : Int) : 0 ≤ bits op .u32 x y ∧ bits op .u32 x y ≤ 4294967295 := wrap_u32_bd _

/-- One bit of the table. -/
def cbit (v : Int) : Int := if 0 < bits .and .u32 v 2147483648 then bits .xor .u32 (v * 2 % 4294967296) 79764919 else v * 2 % 4294967296
def cbits (v : Int) : Nat → Int
  | 0 => v
  | j + 1 => cbit (cbits v j)
theorem cbit_bd (v : Int) : 0 ≤ cbit v ∧ cbit v ≤ 4294967295 := by
  unfold cbit
  split
  · exact bits_u32_bd _ _ _
  · omega
theorem cbits_bd (v : Int) (h0 : 0 ≤ v) (h1 : v ≤ 4294967295) (j : Nat) : 0 ≤ cbits v j ∧ cbits v j ≤ 4294967295 := by
  cases j with
  | zero => exact ⟨h0, h1⟩
  | succ j => exact cbit_bd _
/-- A place of the table. -/
def ctab (i : Nat) : Int := cbits ((i : Int) * 268435456) 4
def ctabA (j : Nat) : Array Value := ((List.range 16).map fun i => Value.int .u32 (if i < j then ctab i else 0)).toArray
theorem ctabA_zero : ctabA 0 = #[.int .u32 0, .int .u32 0, .int .u32 0, .int .u32 0, .int .u32 0, .int .u32 0, .int .u32 0, .int .u32 0, .int .u32 0, .int .u32 0, .int .u32 0, .int .u32 0, .int .u32 0, .int .u32 0, .int .u32 0, .int .u32 0] := rfl
theorem ctabA_at (j i : Nat) (h : i < 16) : (ctabA j)[i]? = some (.int .u32 (if i < j then ctab i else 0)) := by
  simp [ctabA, h]
theorem ctabA_set (j : Nat) (h : j < 16) : (ctabA j).setIfInBounds j (.int .u32 (ctab j)) = ctabA (j + 1) := by
  apply Array.ext_getElem?
  intro i
  by_cases hi : i < 16
  · rw [ctabA_at _ i hi]
    by_cases e : i = j
    · subst e
      rw [Array.getElem?_setIfInBounds_self_of_lt (by simp [ctabA]; exact h), if_pos (by omega)]
    · rw [Array.getElem?_setIfInBounds_ne (by omega), ctabA_at _ i hi]
      by_cases h2 : i < j
      · rw [if_pos h2, if_pos (by omega)]
      · rw [if_neg h2, if_neg (by omega)]
  · rw [Array.getElem?_eq_none (by simp [ctabA]; omega), Array.getElem?_eq_none (by simp [ctabA]; omega)]
theorem ctab_bd (i : Nat) (h : i < 16) : 0 ≤ ctab i ∧ ctab i ≤ 4294967295 := cbits_bd _ (by omega) (by omega) 4

set_option maxRecDepth 100000 in
set_option maxHeartbeats 1000000 in
theorem table_any (w : World) : Calls Tryz.prog 96 #[] w fun e w' => e = .returned (.agg (ctabA 16)) ∧ Below w.heap.size w w' := by
  go_enter Tryz.func96, Tryz.ntmps96
  go_wp2_with fail
  go_loopw [4] (fun i wr => ∃ j : Nat, j ≤ 16 ∧ i = .int .i64 j ∧ Bk wr w.heap.size 185 (ctabA j) ∧ Below w.heap.size w wr) (fun i _ => 16 - (intOf i).toNat)
  case atStart => exact ⟨0, by omega, rfl, Bk.new _ _ _, (Below.refl _ _).alloc (Nat.le_refl _) _⟩
  case round =>
    obtain ⟨j, hj, rfl, hbk, hbw⟩ := hrel
    have HBk := Lib.hid hbk
    clear hbk
    by_cases hlt : j < 16
    · have hj0 : (0 : Int) ≤ (j : Int) := by omega
      have hj1 : (j : Int) < 16 := by omega
      obtain ⟨wo, rfl⟩ : ∃ wo : World, wo = wr := ⟨_, rfl⟩
      have HST := Lib.hid (ctabA_set j hlt)
      have HTB := Lib.hid (show cbits ((j : Int) * 268435456) 4 = ctab j from rfl)
      have c1 : wo.cell? ⟨w.heap.size, j, none⟩ = some (.int .u32 0) := (HBk.out.cell j).trans ((ctabA_at j j hlt).trans (by rw [if_neg (by omega)]))
      have c2 := HBk.out.frozen j
      go_wp2_with fail
      go_loop [2, 10] (fun v k => ∃ m : Nat, m ≤ 4 ∧ k = .int .i64 m ∧ v = .int .u32 (cbits ((j : Int) * 268435456) m)) (fun _ k => 4 - (intOf k).toNat)
      case atStart => exact ⟨0, by omega, rfl, rfl⟩
      case round =>
        obtain ⟨m, hm, rfl, rfl⟩ := hrel
        by_cases hlt2 : m < 4
        · obtain ⟨b1, b2⟩ := cbits_bd ((j : Int) * 268435456) (by omega) (by omega) m
          have HS := Lib.hid (show cbits ((j : Int) * 268435456) (m + 1) = cbit (cbits ((j : Int) * 268435456) m) from rfl)
          generalize cbits ((j : Int) * 268435456) m = V at *
          have hm0 : (0 : Int) ≤ (m : Int) := by omega
          have hm1 : (m : Int) < 4 := by omega
          by_cases ht : 0 < bits .and .u32 V 2147483648
          · have HV := Lib.hid (show cbit V = bits .xor .u32 (V * 2 % 4294967296) 79764919 by unfold cbit; rw [if_pos ht])
            go_wp2_with fail
            go_round
            case rel => exact ⟨m + 1, by omega, by go_num, by rw [HS.out, HV.out]⟩
            case measure => simp [intOf]; omega
          · have HV := Lib.hid (show cbit V = V * 2 % 4294967296 by unfold cbit; rw [if_neg ht])
            go_wp2_with fail
            go_round
            case rel => exact ⟨m + 1, by omega, by go_num, by rw [HS.out, HV.out]⟩
            case measure => simp [intOf]; omega
        · obtain rfl : m = 4 := by omega
          go_wp2_with fail
          go_roundw
          case rel => exact ⟨j + 1, by omega, by go_num, by rw [← HST.out, ← HTB.out]; exact HBk.out.set j _, hbw.setCell (Nat.le_refl _) _⟩
          case measure => simp [intOf]; omega
    · obtain rfl : j = 16 := by omega
      have hi : (Tryz.prog.info? 185).map (·.size) = some (ctabA 16).size := by kernel_rfl
      have h1 : (ctabA 16).all (·.oneCell') = true := by kernel_rfl
      have hb2 := HBk.out.all (ctabA 16).toList (by simp)
      have hbw2 := below_setCells w.heap.size (Nat.le_refl _) (ctabA 16).toList hbw 0
      have HB2 := Lib.hid hb2
      clear hb2
      generalize hT : ctabA 16 = T at *
      have HT := Lib.hid hT
      clear hT
      go_wp2_with (first | (refine wpList_load_row rfl 185 _ rfl _ rfl _ T _ _ HBk.out Tryz.underlying185 rfl hi ?_) | (refine wpList_store_mid rfl 185 _ _ rfl _ 0 T rfl rfl (HBk.out.there _ (Nat.le_refl _)) hi h1 ?_))
      refine bodyPost_ret (results_cell_row rfl _ _ w.heap.size _ T _ _ rfl (by have h := HB2.out; simp only [Array.toArray_toList] at h; exact h) Tryz.underlying185 rfl hi) rfl ⟨by rw [HT.out], hbw2⟩

/-- Four bits of the sum. -/
def cfour (v four : Int) : Int := bits .xor .u32 (v * 16 % 4294967296) (ctab (bits .xor .u8 (v / 268435456) four).toNat)
/-- A byte of the sum. -/
def cbyte (v : Int) (b : UInt8) : Int := cfour (cfour v ((b.toNat : Int) / 16)) (bits .and .u8 (b.toNat : Int) 15)
def cfold : List UInt8 → Int
  | l => l.foldl cbyte 4294967295
/-- The sum of bytes. -/
def csum (l : List UInt8) : Int := bits .xor .u32 4294967295 (cfold l)
theorem cfour_bd (v four : Int) : 0 ≤ cfour v four ∧ cfour v four ≤ 4294967295 := bits_u32_bd _ _ _
theorem cfold_bd (l : List UInt8) : 0 ≤ cfold l ∧ cfold l ≤ 4294967295 := by
  unfold cfold
  have : ∀ (l : List UInt8) (v : Int), 0 ≤ v ∧ v ≤ 4294967295 → 0 ≤ l.foldl cbyte v ∧ l.foldl cbyte v ≤ 4294967295 := by
    intro l
    induction l with
    | nil => intro v h; exact h
    | cons b l ih => intro v _; exact ih _ (cfour_bd _ _)
  exact this l _ (by omega)
theorem cfold_snoc (l : List UInt8) (b : UInt8) : cfold (l ++ [b]) = cbyte (cfold l) b := by simp [cfold]

theorem xor16F : ∀ a b : Fin 16, 0 ≤ bits .xor .u8 (a.val : Int) (b.val : Int) ∧ bits .xor .u8 (a.val : Int) (b.val : Int) < 16 := by decide +kernel
theorem xor16 (a b : Int) (h0 : 0 ≤ a) (h1 : a < 16) (h2 : 0 ≤ b) (h3 : b < 16) : 0 ≤ bits .xor .u8 a b ∧ bits .xor .u8 a b < 16 := by
  have := xor16F ⟨a.toNat, by omega⟩ ⟨b.toNat, by omega⟩
  simpa [Int.toNat_of_nonneg h0, Int.toNat_of_nonneg h2] using this
theorem and15F : ∀ a : Fin 256, 0 ≤ bits .and .u8 (a.val : Int) 15 ∧ bits .and .u8 (a.val : Int) 15 < 16 := by decide +kernel
theorem and15 (x : UInt8) : 0 ≤ bits .and .u8 (x.toNat : Int) 15 ∧ bits .and .u8 (x.toNat : Int) 15 < 16 := and15F ⟨x.toNat, x.toNat_lt⟩

set_option maxRecDepth 100000 in
set_option maxHeartbeats 1000000 in
theorem sum_any (s : ByteArray) (hs : s.size ≤ 100000) (w : World) : Calls Tryz.prog 80 #[.string s] w fun e w' => e = .returned (.int .u32 (csum s.data.toList)) ∧ Below w.heap.size w w' := by
  have hi : (Tryz.prog.info? 185).map (·.size) = some (ctabA 16).size := by kernel_rfl
  have h1 : (ctabA 16).all (·.oneCell') = true := by kernel_rfl
  have hz : (ctabA 16).size = 16 := by kernel_rfl
  go_enter Tryz.func80, Tryz.ntmps80
  go_wp2_with fail
  refine (table_any _).mono ?_
  rintro e w1 ⟨rfl, hb1⟩
  have hat := fun i (h : i < 16) => ctabA_at 16 i h
  generalize ctabA 16 = T at *
  have HAt := Lib.hid hat
  clear hat
  have hth := (Bk.new w1 185 #[.int .u32 0, .int .u32 0, .int .u32 0, .int .u32 0, .int .u32 0, .int .u32 0, .int .u32 0, .int .u32 0, .int .u32 0, .int .u32 0, .int .u32 0, .int .u32 0, .int .u32 0, .int .u32 0, .int .u32 0, .int .u32 0]).there T.size (by rw [hz]; exact Nat.le_refl _)
  have hbk := (Bk.new w1 185 #[.int .u32 0, .int .u32 0, .int .u32 0, .int .u32 0, .int .u32 0, .int .u32 0, .int .u32 0, .int .u32 0, .int .u32 0, .int .u32 0, .int .u32 0, .int .u32 0, .int .u32 0, .int .u32 0, .int .u32 0, .int .u32 0]).all T.toList (by rw [Array.length_toList, hz]; rfl)
  rw [Array.toArray_toList] at hbk
  have hbw := below_setCells (a := w) w1.heap.size hb1.size T.toList (hb1.alloc hb1.size (.cells #[.int .u32 0, .int .u32 0, .int .u32 0, .int .u32 0, .int .u32 0, .int .u32 0, .int .u32 0, .int .u32 0, .int .u32 0, .int .u32 0, .int .u32 0, .int .u32 0, .int .u32 0, .int .u32 0, .int .u32 0, .int .u32 0] 185)) 0
  have HTh := Lib.hid hth
  have HBk := Lib.hid hbk
  have HBw := Lib.hid hbw
  clear hth hbk hbw
  go_wp2_with (refine wpList_store_mid rfl 185 _ _ rfl _ 0 T rfl rfl HTh.out hi h1 ?_)
  generalize (w1.alloc (.cells #[.int .u32 0, .int .u32 0, .int .u32 0, .int .u32 0, .int .u32 0, .int .u32 0, .int .u32 0, .int .u32 0, .int .u32 0, .int .u32 0, .int .u32 0, .int .u32 0, .int .u32 0, .int .u32 0, .int .u32 0, .int .u32 0] 185)).setCells w1.heap.size 0 T.toList = w2 at *
  clear hb1 hi h1 hz HTh
  generalize w1.heap.size = g at *
  go_loopw [4, 11] (fun v i wr => ∃ j : Nat, j ≤ s.size ∧ i = .int .i64 j ∧ v = .int .u32 (cfold (s.data.toList.take j)) ∧ Bk wr g 185 T ∧ Below w.heap.size w wr) (fun _ i _ => s.size - (intOf i).toNat)
  case atStart => exact ⟨0, by omega, rfl, rfl, HBk.out, HBw.out⟩
  case round =>
    obtain ⟨j, hj, rfl, rfl, hbk, hbw⟩ := hrel
    have HBk := Lib.hid hbk
    clear hbk
    obtain ⟨v1, v2⟩ := cfold_bd (s.data.toList.take j)
    by_cases hlt : j < s.size
    · have hj0 : (0 : Int) ≤ (j : Int) := by omega
      have hj1 : (j : Int) < (s.size : Int) := by omega
      go_wp2_with fail
      go_quiet (fail)
      go_wp2_with fail
      have HS := Lib.hid (show cfold (s.data.toList.take (j + 1)) = cfour (cfour (cfold (s.data.toList.take j)) ((s[j].toNat : Int) / 16)) (bits .and .u8 (s[j].toNat : Int) 15) by
        rw [List.take_succ_eq_append_getElem (by simpa using hlt), cfold_snoc]; rfl)
      have hx := s[j].toNat_lt
      obtain ⟨y1, y2⟩ := and15 s[j]
      have z1 : 0 ≤ (s[j].toNat : Int) / 16 := by omega
      have z2 : (s[j].toNat : Int) / 16 < 16 := by omega
      generalize cfold (s.data.toList.take j) = V0 at *
      generalize bits .and .u8 (s[j].toNat : Int) 15 = B at *
      generalize (s[j].toNat : Int) / 16 = A at *
      obtain ⟨v3, v4⟩ := cfour_bd V0 A
      have HF1 := Lib.hid (show cfour V0 A = bits .xor .u32 (V0 * 16 % 4294967296) (ctab (bits .xor .u8 (V0 / 268435456) A).toNat) from rfl)
      generalize cfour V0 A = V1 at *
      have HF2 := Lib.hid (show cfour V1 B = bits .xor .u32 (V1 * 16 % 4294967296) (ctab (bits .xor .u8 (V1 / 268435456) B).toNat) from rfl)
      go_loop [4, 23] (fun v k => ∃ m : Nat, m ≤ 2 ∧ k = .int .i64 m ∧ v = .int .u32 (if m = 0 then V0 else if m = 1 then V1 else cfour V1 B)) (fun _ k => 2 - (intOf k).toNat)
      case atStart => exact ⟨0, by omega, rfl, rfl⟩
      case round =>
        obtain ⟨m, hm, rfl, rfl⟩ := hrel
        have hm' : m = 0 ∨ m = 1 ∨ m = 2 := by omega
        rcases hm' with rfl | rfl | rfl
        · have i0 : ∀ w, (Instr.index 187 (.agg #[.int .u8 A, .int .u8 B]) (.int .i64 0)).run Tryz.prog w = .ok (.int .u8 A) w := fun _ => by kernel_rfl
          obtain ⟨x1, x2⟩ := xor16 (V0 / 268435456) A (by omega) (by omega) (by omega) (by omega)
          have hc : (wr.drewN nq).cell? ⟨g, (bits .xor .u8 (V0 / 268435456) A).toNat, none⟩ = some (.int .u32 (ctab (bits .xor .u8 (V0 / 268435456) A).toNat)) := (HBk.out.cell _).trans ((HAt.out _ (by omega)).trans (by rw [if_pos (by omega)]))
          go_wp2_with fail
          go_round
          case rel => exact ⟨1, by omega, rfl, by rw [← HF1.out]; rfl⟩
          case measure => simp [intOf]
        · have i0 : ∀ w, (Instr.index 187 (.agg #[.int .u8 A, .int .u8 B]) (.int .i64 1)).run Tryz.prog w = .ok (.int .u8 B) w := fun _ => by kernel_rfl
          obtain ⟨x1, x2⟩ := xor16 (V1 / 268435456) B (by omega) (by omega) (by omega) (by omega)
          have hc : (wr.drewN nq).cell? ⟨g, (bits .xor .u8 (V1 / 268435456) B).toNat, none⟩ = some (.int .u32 (ctab (bits .xor .u8 (V1 / 268435456) B).toNat)) := (HBk.out.cell _).trans ((HAt.out _ (by omega)).trans (by rw [if_pos (by omega)]))
          go_wp2_with fail
          go_round
          case rel => exact ⟨2, by omega, rfl, by rw [← HF2.out]; rfl⟩
          case measure => simp [intOf]
        · go_wp2_with fail
          go_roundw
          case rel => exact ⟨j + 1, by omega, by go_num, by rw [HS.out], HBk.out.drewN _, below_drewN hbw _⟩
          case measure => simp [intOf]; omega
    · obtain rfl : j = s.size := by omega
      have hng : ∀ v w, (Op.unary .xor (.int .u32 v)).run Tryz.prog w = .ok (.int .u32 (bits .xor .u32 4294967295 v)) w := fun _ _ => rfl
      have HE := Lib.hid (show s.data.toList.take s.size = s.data.toList from List.take_of_length_le (by simp))
      rw [HE.out]
      go_wp2_with fail
      go_ret
      exact ⟨rfl, hbw⟩
end Go.Proofs.YtjnbpbnhkinggaaGreatDoor.St
