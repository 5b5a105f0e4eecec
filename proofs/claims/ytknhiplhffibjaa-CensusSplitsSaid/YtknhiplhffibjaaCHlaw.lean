/- CensusHeads: the law's walk. -/
import Derived.Test.YtknhiplhffibjaaCHeads
namespace Go.Proofs.Ytknhiplhffibjaa.Cs
open Go.RowKit Go.Proofs.Ytknhiplhffibjaa.Fl
attribute [local go_sem] put_complex

theorem refPart_yes (x : Nat) (z : Int) (w : World) (hx : IsZ x z) (h1 : 0 ≤ z) (h2 : z ≤ 9007199254740992) :
    Calls Try.prog 22 #[.float .f64 x, .float .f64 0] w fun e w' => e = .returned (.tuple #[.int .i64 z, .bool true]) ∧ w = w' := by
  have o1 := ord_ge hx isZ_zero h1
  have o2 := ord_le hx isZ_most h2
  have o3 : FloatKind.f64.format.order (floatOfInt .f64 z) x = some .eq := ord_eq (ofInt_isZ z (by omega) h2) hx rfl
  have hcv := fun w => run_convert_float_int (P := Try.prog) w 32 2 .f64 .i64 x z (by kernel_rfl) Try.underlying2 (toVal_isZ .i64 hx (by show (-9223372036854775808 : Int) ≤ z; omega) (by show z ≤ (9223372036854775807 : Int); omega))
  rcases o1 with o1 | o1 <;> rcases o2 with o2 | o2
  all_goals
    go_enter Try.func22, Try.ntmps22
    go_wp2
    go_ret2
    exact ⟨rfl, rfl⟩
theorem refParts_in (x y : Nat) (a b : Int) (w : World) (hc : Cen x y a b) :
    Calls Try.prog 19 #[.complex .f64 x y, .float .f64 0] w fun e w' => e = .returned (.tuple #[.int .i64 a, .int .i64 b, .bool true]) ∧ w = w' := by
  obtain ⟨x1, x2, x3, x4, x5, x6, x7, x8⟩ := hc
  go_enter Try.func19, Try.ntmps19
  go_wp2_with fail
  refine (refPart_yes x a _ x1 x5 x6).mono ?_
  rintro e w' ⟨rfl, rfl⟩
  go_wp2_with fail
  refine (refPart_yes y b _ x2 x7 x8).mono ?_
  rintro e w' ⟨rfl, rfl⟩
  go_wp2_with fail
  go_ret3
  exact ⟨rfl, rfl⟩
theorem refParts_yes (x y : Nat) (a b : Int) (w : World) (hc : Cen x y a b) :
    Calls Try.prog 12 #[.complex .f64 x y] w fun e w' => e = .returned (.tuple #[.int .u64 a, .int .u64 b, .int .i64 0]) ∧ w = w' := by
  have hc' := hc
  obtain ⟨x1, x2, x3, x4, x5, x6, x7, x8⟩ := hc
  go_enter Try.func12, Try.ntmps12
  go_wp2_with fail
  refine (refParts_in x y a b _ hc').mono ?_
  rintro e w' ⟨rfl, rfl⟩
  go_wp2_with fail
  go_ret3
  exact ⟨rfl, rfl⟩

/-- Is one of the first too great? -/
def ovB (Bt : Nat → Int) : Nat → Bool
  | 0 => false
  | j + 1 => ovB Bt j || decide (9007199254740992 < Bt j)
theorem ovB_no (Bt : Nat → Int) (n : Nat) (h : ovB Bt n = false) : ∀ i, i < n → Bt i ≤ 9007199254740992 := by
  induction n with
  | zero => intro i hi; omega
  | succ n ih =>
    simp only [ovB, Bool.or_eq_false_iff, decide_eq_false_iff_not] at h
    intro i hi
    rcases Nat.lt_or_ge i n with h' | h'
    · exact ih h.1 i h'
    · obtain rfl : i = n := by omega
      omega
theorem ovB_yes (Bt : Nat → Int) (n : Nat) (h : ovB Bt n = true) : ∃ K, K < n ∧ 9007199254740992 < Bt K ∧ ∀ i, i < K → Bt i ≤ 9007199254740992 := by
  induction n with
  | zero => cases h
  | succ n ih =>
    by_cases hn : ovB Bt n = true
    · obtain ⟨K, h1, h2, h3⟩ := ih hn
      exact ⟨K, by omega, h2, h3⟩
    · have hn' : ovB Bt n = false := by simpa using hn
      simp only [ovB, hn', Bool.false_or, decide_eq_true_eq] at h
      exact ⟨n, by omega, h, ovB_no Bt n hn'⟩

theorem heads_any (hA : Array Value) (O Bt : Nat → Int) (w : World) (hI : HeadIs hA O Bt) :
    Calls Try.prog 11 #[.agg hA] w fun e w' => e = .returned (.tuple #[.agg (if ovB Bt 8 = true then #[.complex .f64 0 0, .complex .f64 0 0, .complex .f64 0 0, .complex .f64 0 0, .complex .f64 0 0, .complex .f64 0 0, .complex .f64 0 0, .complex .f64 0 0] else #[.complex .f64 (floatOfInt .f64 (O 0)) (floatOfInt .f64 (Bt 0)), .complex .f64 (floatOfInt .f64 (O 1)) (floatOfInt .f64 (Bt 1)), .complex .f64 (floatOfInt .f64 (O 2)) (floatOfInt .f64 (Bt 2)), .complex .f64 (floatOfInt .f64 (O 3)) (floatOfInt .f64 (Bt 3)), .complex .f64 (floatOfInt .f64 (O 4)) (floatOfInt .f64 (Bt 4)), .complex .f64 (floatOfInt .f64 (O 5)) (floatOfInt .f64 (Bt 5)), .complex .f64 (floatOfInt .f64 (O 6)) (floatOfInt .f64 (Bt 6)), .complex .f64 (floatOfInt .f64 (O 7)) (floatOfInt .f64 (Bt 7))]), .int .i64 (if ovB Bt 8 = true then 211 else 0)]) ∧ Below w.heap.size w w' := by
  by_cases h : ovB Bt 8 = true
  · obtain ⟨K, h1, h2, h3⟩ := ovB_yes Bt 8 h
    rw [if_pos h, if_pos h]
    exact heads_over hA O Bt w hI K h1 h3 h2
  · rw [if_neg h, if_neg h]
    exact heads_ok hA O Bt w hI (ovB_no Bt 8 (by simpa using h))

theorem full_at (O Bt : Nat → Int) (j : Nat) (hj : j < 8) : (#[.complex .f64 (floatOfInt .f64 (O 0)) (floatOfInt .f64 (Bt 0)), .complex .f64 (floatOfInt .f64 (O 1)) (floatOfInt .f64 (Bt 1)), .complex .f64 (floatOfInt .f64 (O 2)) (floatOfInt .f64 (Bt 2)), .complex .f64 (floatOfInt .f64 (O 3)) (floatOfInt .f64 (Bt 3)), .complex .f64 (floatOfInt .f64 (O 4)) (floatOfInt .f64 (Bt 4)), .complex .f64 (floatOfInt .f64 (O 5)) (floatOfInt .f64 (Bt 5)), .complex .f64 (floatOfInt .f64 (O 6)) (floatOfInt .f64 (Bt 6)), .complex .f64 (floatOfInt .f64 (O 7)) (floatOfInt .f64 (Bt 7))] : Array Value)[j]? = some (.complex .f64 (floatOfInt .f64 (O j)) (floatOfInt .f64 (Bt j))) := by
  have h : j = 0 ∨ j = 1 ∨ j = 2 ∨ j = 3 ∨ j = 4 ∨ j = 5 ∨ j = 6 ∨ j = 7 := by omega
  rcases h with rfl | rfl | rfl | rfl | rfl | rfl | rfl | rfl <;> rfl

set_option maxRecDepth 100000 in
set_option maxHeartbeats 4000000 in
theorem hlaw_over (hA : Array Value) (O Bt : Nat → Int) (w : World) (hI : HeadIs hA O Bt) (hov : ovB Bt 8 = true) :
    Calls Try.prog 4 #[.agg hA] w fun e w' => e = .returned (.bool true) ∧ Below w.heap.size w w' := by
  have HC := Lib.hid (fun w => heads_any hA O Bt w hI)
  have HV := Lib.hid hov
  have HI := Lib.hid hI
  clear hI hov
  go_enter Try.func4, Try.ntmps4
  go_wp2_with (refine wpList_load_row rfl 42 _ rfl _ rfl _ hA _ _ (Bk.new w 42 hA) Try.underlying42 rfl (by rw [HI.out.1]; kernel_rfl) ?_)
  refine (HC.out _).mono ?_
  rintro e w1 ⟨rfl, hb1⟩
  rw [if_pos HV.out, if_pos HV.out]
  have HH := Lib.hid ((Bk.new w 42 hA).below hb1 (by simp))
  have hbb : Below w.heap.size w w1 := ((Below.refl _ _).alloc (Nat.le_refl _) _).trans (hb1.mono (by simp))
  clear hb1
  go_wp2_with fail
  have HU := Lib.hid (Bk.new w1 43 #[.complex .f64 0 0, .complex .f64 0 0, .complex .f64 0 0, .complex .f64 0 0, .complex .f64 0 0, .complex .f64 0 0, .complex .f64 0 0, .complex .f64 0 0])
  have HH2 := Lib.hid (HH.out.alloc (.cells #[.complex .f64 0 0, .complex .f64 0 0, .complex .f64 0 0, .complex .f64 0 0, .complex .f64 0 0, .complex .f64 0 0, .complex .f64 0 0, .complex .f64 0 0] 43))
  have hbb2 := hbb.alloc hbb.size (.cells #[.complex .f64 0 0, .complex .f64 0 0, .complex .f64 0 0, .complex .f64 0 0, .complex .f64 0 0, .complex .f64 0 0, .complex .f64 0 0, .complex .f64 0 0] 43)
  generalize w1.alloc (.cells #[.complex .f64 0 0, .complex .f64 0 0, .complex .f64 0 0, .complex .f64 0 0, .complex .f64 0 0, .complex .f64 0 0, .complex .f64 0 0, .complex .f64 0 0] 43) = w2 at *
  go_loop [5, 6] (fun o i => ∃ j : Nat, j ≤ 8 ∧ i = .int .i64 j ∧ o = .bool (ovB Bt j)) (fun _ i => 8 - (intOf i).toNat)
  case atStart => exact ⟨0, by omega, rfl, rfl⟩
  case round =>
    obtain ⟨j, hj, rfl, rfl⟩ := hrel
    by_cases hlt : j < 8
    · have c2 : w2.cell? ⟨w.heap.size, 16 + j, none⟩ = some (.int .u64 (Bt j)) := (HH2.out.cell _).trans (HI.out.2.2 j hlt).1
      have hj0 : (0 : Int) ≤ (j : Int) := by omega
      have hj1 : (j : Int) < 8 := by omega
      by_cases ho : ovB Bt j = true
      · have HS := Lib.hid (show ovB Bt (j + 1) = true by simp [ovB, ho])
        go_wp2_with fail
        go_round
        case rel => exact ⟨j + 1, by omega, by go_num, by rw [HS.out]⟩
        case measure => simp [intOf]; omega
      · have ho' : ovB Bt j = false := by simpa using ho
        have HS := Lib.hid (show ovB Bt (j + 1) = decide (9007199254740992 < Bt j) by simp [ovB, ho'])
        clear ho
        go_wp2_with fail
        go_round
        case rel => exact ⟨j + 1, by omega, by go_num, by rw [HS.out]⟩
        case measure => simp [intOf]; omega
    · obtain rfl : j = 8 := by omega
      rw [HV.out]
      have hU := HU.out
      have u0 := hU.cell 0
      have u1 := hU.cell 1
      have u2 := hU.cell 2
      have u3 := hU.cell 3
      have u4 := hU.cell 4
      have u5 := hU.cell 5
      have u6 := hU.cell 6
      have u7 := hU.cell 7
      simp only [List.getElem?_toArray, List.getElem?_cons_zero, List.getElem?_cons_succ] at u0 u1 u2 u3 u4 u5 u6 u7
      clear hU
      have heq : ∀ w, (binOp .eql 43 (.agg #[.complex .f64 0 0, .complex .f64 0 0, .complex .f64 0 0, .complex .f64 0 0, .complex .f64 0 0, .complex .f64 0 0, .complex .f64 0 0, .complex .f64 0 0]) (.agg #[.complex .f64 0 0, .complex .f64 0 0, .complex .f64 0 0, .complex .f64 0 0, .complex .f64 0 0, .complex .f64 0 0, .complex .f64 0 0, .complex .f64 0 0])).run Try.prog w = .ok (.bool true) w := fun _ => by kernel_rfl
      go_wp2_with fail
      refine (head_any _).mono ?_
      rintro e w2 ⟨rfl, hb2⟩
      have hbe := hbb2.trans (hb2.mono hbb2.size)
      go_wp2_with fail
      go_ret
      exact ⟨rfl, hbe⟩

set_option maxRecDepth 100000 in
set_option maxHeartbeats 4000000 in
theorem hlaw_fine (hA : Array Value) (O Bt : Nat → Int) (w : World) (hI : HeadIs hA O Bt) (hov : ovB Bt 8 = false) :
    Calls Try.prog 4 #[.agg hA] w fun e w' => e = .returned (.bool true) ∧ Below w.heap.size w w' := by
  have HC := Lib.hid (fun w => heads_any hA O Bt w hI)
  have HV := Lib.hid hov
  have HI := Lib.hid hI
  have HCen := Lib.hid (show ∀ i, i < 8 → Cen (floatOfInt .f64 (O i)) (floatOfInt .f64 (Bt i)) (O i) (Bt i) from fun i hi => cen_of _ _ (hI.2.1 i hi).2.1 (by have := (hI.2.1 i hi).2.2; omega) (hI.2.2 i hi).2.1 (ovB_no Bt 8 hov i hi))
  clear hI hov
  go_enter Try.func4, Try.ntmps4
  go_wp2_with (refine wpList_load_row rfl 42 _ rfl _ rfl _ hA _ _ (Bk.new w 42 hA) Try.underlying42 rfl (by rw [HI.out.1]; kernel_rfl) ?_)
  refine (HC.out _).mono ?_
  rintro e w1 ⟨rfl, hb1⟩
  rw [if_neg (by rw [HV.out]; simp), if_neg (by rw [HV.out]; simp)]
  have HH := Lib.hid ((Bk.new w 42 hA).below hb1 (by simp))
  have hbb : Below w.heap.size w w1 := ((Below.refl _ _).alloc (Nat.le_refl _) _).trans (hb1.mono (by simp))
  clear hb1
  go_wp2_with fail
  have HU := Lib.hid (Bk.new w1 43 #[.complex .f64 (floatOfInt .f64 (O 0)) (floatOfInt .f64 (Bt 0)), .complex .f64 (floatOfInt .f64 (O 1)) (floatOfInt .f64 (Bt 1)), .complex .f64 (floatOfInt .f64 (O 2)) (floatOfInt .f64 (Bt 2)), .complex .f64 (floatOfInt .f64 (O 3)) (floatOfInt .f64 (Bt 3)), .complex .f64 (floatOfInt .f64 (O 4)) (floatOfInt .f64 (Bt 4)), .complex .f64 (floatOfInt .f64 (O 5)) (floatOfInt .f64 (Bt 5)), .complex .f64 (floatOfInt .f64 (O 6)) (floatOfInt .f64 (Bt 6)), .complex .f64 (floatOfInt .f64 (O 7)) (floatOfInt .f64 (Bt 7))])
  have HH2 := Lib.hid (HH.out.alloc (.cells #[.complex .f64 (floatOfInt .f64 (O 0)) (floatOfInt .f64 (Bt 0)), .complex .f64 (floatOfInt .f64 (O 1)) (floatOfInt .f64 (Bt 1)), .complex .f64 (floatOfInt .f64 (O 2)) (floatOfInt .f64 (Bt 2)), .complex .f64 (floatOfInt .f64 (O 3)) (floatOfInt .f64 (Bt 3)), .complex .f64 (floatOfInt .f64 (O 4)) (floatOfInt .f64 (Bt 4)), .complex .f64 (floatOfInt .f64 (O 5)) (floatOfInt .f64 (Bt 5)), .complex .f64 (floatOfInt .f64 (O 6)) (floatOfInt .f64 (Bt 6)), .complex .f64 (floatOfInt .f64 (O 7)) (floatOfInt .f64 (Bt 7))] 43))
  have hbb2 := hbb.alloc hbb.size (.cells #[.complex .f64 (floatOfInt .f64 (O 0)) (floatOfInt .f64 (Bt 0)), .complex .f64 (floatOfInt .f64 (O 1)) (floatOfInt .f64 (Bt 1)), .complex .f64 (floatOfInt .f64 (O 2)) (floatOfInt .f64 (Bt 2)), .complex .f64 (floatOfInt .f64 (O 3)) (floatOfInt .f64 (Bt 3)), .complex .f64 (floatOfInt .f64 (O 4)) (floatOfInt .f64 (Bt 4)), .complex .f64 (floatOfInt .f64 (O 5)) (floatOfInt .f64 (Bt 5)), .complex .f64 (floatOfInt .f64 (O 6)) (floatOfInt .f64 (Bt 6)), .complex .f64 (floatOfInt .f64 (O 7)) (floatOfInt .f64 (Bt 7))] 43)
  generalize w1.alloc (.cells #[.complex .f64 (floatOfInt .f64 (O 0)) (floatOfInt .f64 (Bt 0)), .complex .f64 (floatOfInt .f64 (O 1)) (floatOfInt .f64 (Bt 1)), .complex .f64 (floatOfInt .f64 (O 2)) (floatOfInt .f64 (Bt 2)), .complex .f64 (floatOfInt .f64 (O 3)) (floatOfInt .f64 (Bt 3)), .complex .f64 (floatOfInt .f64 (O 4)) (floatOfInt .f64 (Bt 4)), .complex .f64 (floatOfInt .f64 (O 5)) (floatOfInt .f64 (Bt 5)), .complex .f64 (floatOfInt .f64 (O 6)) (floatOfInt .f64 (Bt 6)), .complex .f64 (floatOfInt .f64 (O 7)) (floatOfInt .f64 (Bt 7))] 43) = w2 at *
  go_loop [5, 6] (fun o i => ∃ j : Nat, j ≤ 8 ∧ i = .int .i64 j ∧ o = .bool false) (fun _ i => 8 - (intOf i).toNat)
  case atStart => exact ⟨0, by omega, rfl, rfl⟩
  case round =>
    obtain ⟨j, hj, rfl, rfl⟩ := hrel
    by_cases hlt : j < 8
    · have c2 : w2.cell? ⟨w.heap.size, 16 + j, none⟩ = some (.int .u64 (Bt j)) := (HH2.out.cell _).trans (HI.out.2.2 j hlt).1
      have hj0 : (0 : Int) ≤ (j : Int) := by omega
      have hj1 : (j : Int) < 8 := by omega
      have hov : decide (9007199254740992 < Bt j) = false := by have := ovB_no Bt 8 HV.out j hlt; simp; omega
      go_wp2_with fail
      go_round
      case rel => exact ⟨j + 1, by omega, by go_num, rfl⟩
      case measure => simp [intOf]; omega
    · obtain rfl : j = 8 := by omega
      clear hlt hj
      go_wp2_with fail
      go_loop [7] (fun i => ∃ j : Nat, j ≤ 8 ∧ i = .int .i64 j) (fun i => 8 - (intOf i).toNat)
      case atStart => exact ⟨0, by omega, rfl⟩
      case round =>
        obtain ⟨j, hj, rfl⟩ := hrel
        by_cases hlt : j < 8
        · have c1 : w2.cell? ⟨w.heap.size, 8 + j, none⟩ = some (.int .u32 (O j)) := (HH2.out.cell _).trans (HI.out.2.1 j hlt).1
          have c2 : w2.cell? ⟨w.heap.size, 16 + j, none⟩ = some (.int .u64 (Bt j)) := (HH2.out.cell _).trans (HI.out.2.2 j hlt).1
          have c3 : w2.cell? ⟨w1.heap.size, j, none⟩ = some (.complex .f64 (floatOfInt .f64 (O j)) (floatOfInt .f64 (Bt j))) := (HU.out.cell _).trans (full_at O Bt j hlt)
          have hj0 : (0 : Int) ≤ (j : Int) := by omega
          have hj1 : (j : Int) < 8 := by omega
          have hcn := HCen.out j hlt
          obtain ⟨o1, o2⟩ := (HI.out.2.1 j hlt).2
          go_wp2_with fail
          refine (refParts_yes _ _ _ _ _ hcn).mono ?_
          rintro e w' ⟨rfl, rfl⟩
          go_wp2_with fail
          go_round
          case rel => exact ⟨j + 1, by omega, by go_num⟩
          case measure => simp [intOf]; omega
        · obtain rfl : j = 8 := by omega
          go_wp2_with fail
          refine (head_any _).mono ?_
          rintro e w3 ⟨rfl, hb2⟩
          have hbe := hbb2.trans (hb2.mono hbb2.size)
          go_wp2_with fail
          go_ret
          exact ⟨rfl, hbe⟩
end Go.Proofs.Ytknhiplhffibjaa.Cs
