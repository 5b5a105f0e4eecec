/- Contracts of the census's put, Change, Apply, Above, at numbers that stand for whole numbers. -/
import Derived.Test.YtknhiplhffibjaaCSmall
namespace Go.Proofs.Ytknhiplhffibjaa.Cs
open Go.RowKit Go.Proofs.Ytknhiplhffibjaa.Fl

theorem run_fsub {x y r : Nat} (h : Ieee.double.sub x y = some r) (t : TypeId) (w : World) : (binOp .sub t (.float .f64 x) (.float .f64 y)).run Try.prog w = .ok (.float .f64 r) w :=
  run_float_arith w .sub t .f64 x y r h

theorem fits_yes (x y : Nat) (a b : Int) (w : World) (hx : IsZ x a) (hy : IsZ y b) (hy4 : y < 18446744073709551616) (h2 : a ≤ 9007199254740992) (h3 : -9007199254740992 ≤ b) (h4 : b ≤ 9007199254740992) (h5 : 0 ≤ a + b) (h6 : a + b ≤ 9007199254740992) :
    Calls Try.prog 21 #[.float .f64 x, .float .f64 y] w fun e w' => e = .returned (.bool true) ∧ w = w' := by
  obtain ⟨V, hs, hV, e1, e2⟩ := fsub_most isZ_most hy h3 h4
  have o1 := ord_le hx hV (by by_cases h : 0 ≤ b; (have := e1 h; omega); (have := e2 (by omega); omega))
  have o2 := ord_ge hx (neg_isZ hy hy4) (by omega)
  have hr := run_fsub hs 32
  have hng : ∀ w, (Op.unary .neg (.float .f64 y)).run Try.prog w = .ok (.float .f64 (Op.negFloat .f64 y)) w := fun _ => rfl
  clear e1 e2
  rcases o1 with o1 | o1 <;> rcases o2 with o2 | o2
  all_goals
    go_enter Try.func21, Try.ntmps21
    go_wp2
    go_ret
    exact ⟨rfl, rfl⟩
theorem fits_high (x y : Nat) (a b : Int) (w : World) (hx : IsZ x a) (hy : IsZ y b) (h2 : a ≤ 9007199254740992) (h4 : b ≤ 9007199254740992) (h6 : 9007199254740992 < a + b) :
    Calls Try.prog 21 #[.float .f64 x, .float .f64 y] w fun e w' => e = .returned (.bool false) ∧ w = w' := by
  obtain ⟨V, hs, hV, e1, e2⟩ := fsub_most isZ_most hy (by omega) h4
  have o1 := ord_gt hx hV (by have := e1 (by omega); omega)
  have hr := run_fsub hs 32
  clear e1 e2
  go_enter Try.func21, Try.ntmps21
  go_wp2
  go_ret
  exact ⟨rfl, rfl⟩
theorem fits_low (x y : Nat) (a b : Int) (w : World) (hx : IsZ x a) (hy : IsZ y b) (hy4 : y < 18446744073709551616) (h2 : a ≤ 9007199254740992) (h3 : -9007199254740992 ≤ b) (h1 : 0 ≤ a) (h6 : a + b < 0) :
    Calls Try.prog 21 #[.float .f64 x, .float .f64 y] w fun e w' => e = .returned (.bool false) ∧ w = w' := by
  obtain ⟨V, hs, hV, e1, e2⟩ := fsub_most isZ_most hy h3 (by omega)
  have o1 := ord_le hx hV (by have := e2 (by omega); omega)
  have o2 := ord_lt hx (neg_isZ hy hy4) (by omega)
  have hr := run_fsub hs 32
  have hng : ∀ w, (Op.unary .neg (.float .f64 y)).run Try.prog w = .ok (.float .f64 (Op.negFloat .f64 y)) w := fun _ => rfl
  clear e1 e2
  rcases o1 with o1 | o1
  all_goals
    go_enter Try.func21, Try.ntmps21
    go_wp2
    go_ret
    exact ⟨rfl, rfl⟩

/-- A sum of two, as it is put. -/
def cadd (x c : Nat) : Nat := fadd (fadd x c) 0
def csub (x c : Nat) : Nat := fadd (fsub x c) 0
theorem cadd_isZ {x c : Nat} {a b : Int} (hx : IsZ x a) (hc : IsZ c b) (h1 : -9007199254740992 ≤ a + b) (h2 : a + b ≤ 9007199254740992) : IsZ (cadd x c) (a + b) ∧ cadd x c < 18446744073709551616 := by
  obtain ⟨_, h3, h4⟩ := fadd_eq hx hc h1 h2
  obtain ⟨_, h5, h6⟩ := fadd_eq h3 isZ_zero (by omega) (by omega)
  rw [Int.add_zero] at h5
  exact ⟨h5, h6⟩
theorem csub_isZ {x c : Nat} {a b : Int} (hx : IsZ x a) (hc : IsZ c b) (h1 : -9007199254740992 ≤ a - b) (h2 : a - b ≤ 9007199254740992) : IsZ (csub x c) (a - b) ∧ csub x c < 18446744073709551616 := by
  obtain ⟨_, h3, h4⟩ := fsub_eq hx hc h1 h2
  obtain ⟨_, h5, h6⟩ := fadd_eq h3 isZ_zero (by omega) (by omega)
  rw [Int.add_zero] at h5
  exact ⟨h5, h6⟩

theorem put_yes (x y c d : Nat) (a b p q : Int) (w : World) (hx : IsZ x a) (hy : IsZ y b) (hc : IsZ c p) (hd : IsZ d q) (hc4 : c < 18446744073709551616) (hd4 : d < 18446744073709551616)
    (h2 : a ≤ 9007199254740992) (h3 : -9007199254740992 ≤ p) (h4 : p ≤ 9007199254740992) (h5 : 0 ≤ a + p) (h6 : a + p ≤ 9007199254740992)
    (k2 : b ≤ 9007199254740992) (k3 : -9007199254740992 ≤ q) (k4 : q ≤ 9007199254740992) (k5 : 0 ≤ b + q) (k6 : b + q ≤ 9007199254740992) :
    Calls Try.prog 18 #[.complex .f64 x y, .complex .f64 c d] w fun e w' => e = .returned (.tuple #[.complex .f64 (cadd x c) (cadd y d), .int .i64 0]) ∧ w = w' := by
  have hs := fun w => run_complex_sum (P := Try.prog) w .add (.inl rfl) 24 .f64 x y c d (fadd x c) (fadd y d) (by unfold cSumBits floatBits; simp only [FloatKind.format]; rw [(fadd_eq hx hc (by omega) (by omega)).1, (fadd_eq hy hd (by omega) (by omega)).1]; rfl)
  go_enter Try.func18, Try.ntmps18
  go_wp2_with fail
  refine (fits_yes x c a p _ hx hc hc4 h2 h3 h4 h5 h6).mono ?_
  rintro e w' ⟨rfl, rfl⟩
  go_wp2_with fail
  refine (fits_yes y d b q _ hy hd hd4 k2 k3 k4 k5 k6).mono ?_
  rintro e w' ⟨rfl, rfl⟩
  go_wp2_with fail
  refine (plain_any _ _ (a + p) (b + q) _ (fadd_eq hx hc (by omega) (by omega)).2.1 (fadd_eq hy hd (by omega) (by omega)).2.1 (by omega) (by omega) (by omega) (by omega)).mono ?_
  rintro e w' ⟨rfl, rfl⟩
  go_wp2_with fail
  go_ret2
  exact ⟨rfl, rfl⟩
theorem put_high (x y c d : Nat) (a p : Int) (w : World) (hx : IsZ x a) (hc : IsZ c p) (h2 : a ≤ 9007199254740992) (h4 : p ≤ 9007199254740992) (h6 : 9007199254740992 < a + p) :
    Calls Try.prog 18 #[.complex .f64 x y, .complex .f64 c d] w fun e w' => e = .returned (.tuple #[.complex .f64 0 0, .int .i64 211]) ∧ w = w' := by
  go_enter Try.func18, Try.ntmps18
  go_wp2_with fail
  refine (fits_high x c a p _ hx hc h2 h4 h6).mono ?_
  rintro e w' ⟨rfl, rfl⟩
  go_wp2_with fail
  go_ret2
  exact ⟨rfl, rfl⟩
theorem put_low (x y c d : Nat) (a p : Int) (w : World) (hx : IsZ x a) (hc : IsZ c p) (hc4 : c < 18446744073709551616) (h1 : 0 ≤ a) (h2 : a ≤ 9007199254740992) (h4 : -9007199254740992 ≤ p) (h6 : a + p < 0) :
    Calls Try.prog 18 #[.complex .f64 x y, .complex .f64 c d] w fun e w' => e = .returned (.tuple #[.complex .f64 0 0, .int .i64 211]) ∧ w = w' := by
  go_enter Try.func18, Try.ntmps18
  go_wp2_with fail
  refine (fits_low x c a p _ hx hc hc4 h2 h4 h1 h6).mono ?_
  rintro e w' ⟨rfl, rfl⟩
  go_wp2_with fail
  go_ret2
  exact ⟨rfl, rfl⟩

/-- A census's words: both stand for whole numbers from 0 to 2^53. -/
def Cen (x y : Nat) (a b : Int) : Prop := IsZ x a ∧ IsZ y b ∧ x < 18446744073709551616 ∧ y < 18446744073709551616 ∧ 0 ≤ a ∧ a ≤ 9007199254740992 ∧ 0 ≤ b ∧ b ≤ 9007199254740992
/-- A change's: from -2^53 to 2^53. -/
def Chg (x y : Nat) (a b : Int) : Prop := IsZ x a ∧ IsZ y b ∧ x < 18446744073709551616 ∧ y < 18446744073709551616 ∧ -9007199254740992 ≤ a ∧ a ≤ 9007199254740992 ∧ -9007199254740992 ≤ b ∧ b ≤ 9007199254740992

theorem cen_of (n m : Int) (h1 : 0 ≤ n) (h2 : n ≤ 9007199254740992) (h3 : 0 ≤ m) (h4 : m ≤ 9007199254740992) : Cen (floatOfInt .f64 n) (floatOfInt .f64 m) n m :=
  ⟨ofInt_isZ n (by omega) h2, ofInt_isZ m (by omega) h4, ofInt_lt n, ofInt_lt m, h1, h2, h3, h4⟩

theorem change_any (x y c d : Nat) (a b p q : Int) (w : World) (hx : Cen x y a b) (hc : Cen c d p q) :
    Calls Try.prog 8 #[.complex .f64 x y, .complex .f64 c d] w fun e w' => e = .returned (.tuple #[.complex .f64 (csub c x) (csub d y), .int .i64 0]) ∧ Below w.heap.size w w' := by
  obtain ⟨x1, x2, x3, x4, x5, x6, x7, x8⟩ := hx
  obtain ⟨c1, c2, c3, c4, c5, c6, c7, c8⟩ := hc
  have hs := fun w => run_complex_sum (P := Try.prog) w .sub (.inr rfl) 24 .f64 c d x y (fsub c x) (fsub d y) (by unfold cSumBits floatBits; simp only [FloatKind.format]; rw [(fsub_eq c1 x1 (by omega) (by omega)).1, (fsub_eq c2 x2 (by omega) (by omega)).1]; rfl)
  go_enter Try.func8, Try.ntmps8
  go_wp2_with fail
  refine (is_yes x y a b _ x1 x2 x5 x6 x7 x8).mono ?_
  rintro e w1 ⟨rfl, hb1⟩
  go_wp2_with fail
  refine (is_yes c d p q _ c1 c2 c5 c6 c7 c8).mono ?_
  rintro e w2 ⟨rfl, hb2⟩
  have hb := hb1.trans (hb2.mono hb1.size)
  clear hb1 hb2
  go_wp2_with fail
  refine (plain_any _ _ (p - a) (q - b) _ (fsub_eq c1 x1 (by omega) (by omega)).2.1 (fsub_eq c2 x2 (by omega) (by omega)).2.1 (by omega) (by omega) (by omega) (by omega)).mono ?_
  rintro e w' ⟨rfl, rfl⟩
  go_wp2_with fail
  go_ret2
  exact ⟨rfl, hb⟩

theorem apply_yes (x y c d : Nat) (a b p q : Int) (w : World) (hx : Cen x y a b) (hc : Chg c d p q) (h5 : 0 ≤ a + p) (h6 : a + p ≤ 9007199254740992) (k5 : 0 ≤ b + q) (k6 : b + q ≤ 9007199254740992) :
    Calls Try.prog 9 #[.complex .f64 x y, .complex .f64 c d] w fun e w' => e = .returned (.tuple #[.complex .f64 (cadd x c) (cadd y d), .int .i64 0]) ∧ Below w.heap.size w w' := by
  obtain ⟨x1, x2, x3, x4, x5, x6, x7, x8⟩ := hx
  obtain ⟨c1, c2, c3, c4, c5, c6, c7, c8⟩ := hc
  go_enter Try.func9, Try.ntmps9
  go_wp2_with fail
  refine (is_yes x y a b _ x1 x2 x5 x6 x7 x8).mono ?_
  rintro e w1 ⟨rfl, hb1⟩
  go_wp2_with fail
  refine (whole_yes c d _ p q _ _ c1 c2 isZ_least c5 c6 c5 c7 c8 c7).mono ?_
  rintro e w2 ⟨rfl, hb2⟩
  have hb := hb1.trans (hb2.mono hb1.size)
  clear hb1 hb2
  go_wp2_with fail
  refine (put_yes x y c d a b p q _ x1 x2 c1 c2 c3 c4 x6 c5 c6 h5 h6 x8 c7 c8 k5 k6).mono ?_
  rintro e w' ⟨rfl, rfl⟩
  go_wp2_with fail
  go_ret2
  exact ⟨rfl, hb⟩
theorem apply_low (x y c d : Nat) (a b p q : Int) (w : World) (hx : Cen x y a b) (hc : Chg c d p q) (h5 : a + p < 0) :
    Calls Try.prog 9 #[.complex .f64 x y, .complex .f64 c d] w fun e w' => e = .returned (.tuple #[.complex .f64 0 0, .int .i64 211]) ∧ Below w.heap.size w w' := by
  obtain ⟨x1, x2, x3, x4, x5, x6, x7, x8⟩ := hx
  obtain ⟨c1, c2, c3, c4, c5, c6, c7, c8⟩ := hc
  go_enter Try.func9, Try.ntmps9
  go_wp2_with fail
  refine (is_yes x y a b _ x1 x2 x5 x6 x7 x8).mono ?_
  rintro e w1 ⟨rfl, hb1⟩
  go_wp2_with fail
  refine (whole_yes c d _ p q _ _ c1 c2 isZ_least c5 c6 c5 c7 c8 c7).mono ?_
  rintro e w2 ⟨rfl, hb2⟩
  have hb := hb1.trans (hb2.mono hb1.size)
  clear hb1 hb2
  go_wp2_with fail
  refine (put_low x y c d a p _ x1 c1 c3 x5 x6 c5 h5).mono ?_
  rintro e w' ⟨rfl, rfl⟩
  go_wp2_with fail
  go_ret2
  exact ⟨rfl, hb⟩

theorem above_yes (x y c d : Nat) (a b p q : Int) (w : World) (hx : Cen x y a b) (hc : Cen c d p q) (h1 : p ≤ a) (h2 : q ≤ b) :
    Calls Try.prog 14 #[.complex .f64 x y, .complex .f64 c d] w fun e w' => e = .returned (.bool true) ∧ Below w.heap.size w w' := by
  obtain ⟨x1, x2, x3, x4, x5, x6, x7, x8⟩ := hx
  obtain ⟨c1, c2, c3, c4, c5, c6, c7, c8⟩ := hc
  have o1 := ord_ge x1 c1 h1
  have o2 := ord_ge x2 c2 h2
  rcases o1 with o1 | o1 <;> rcases o2 with o2 | o2
  all_goals
    go_enter Try.func14, Try.ntmps14
    go_wp2_with fail
    refine (is_yes x y a b _ x1 x2 x5 x6 x7 x8).mono ?_
    rintro e w1 ⟨rfl, hb1⟩
    go_wp2_with fail
    refine (is_yes c d p q _ c1 c2 c5 c6 c7 c8).mono ?_
    rintro e w2 ⟨rfl, hb2⟩
    have hb := hb1.trans (hb2.mono hb1.size)
    clear hb1 hb2
    go_wp2_with fail
    go_ret
    exact ⟨rfl, hb⟩
theorem above_no (x y c d : Nat) (a b p q : Int) (w : World) (hx : Cen x y a b) (hc : Cen c d p q) (h1 : p ≤ a) (h2 : b < q) :
    Calls Try.prog 14 #[.complex .f64 x y, .complex .f64 c d] w fun e w' => e = .returned (.bool false) ∧ Below w.heap.size w w' := by
  obtain ⟨x1, x2, x3, x4, x5, x6, x7, x8⟩ := hx
  obtain ⟨c1, c2, c3, c4, c5, c6, c7, c8⟩ := hc
  have o1 := ord_ge x1 c1 h1
  have o2 := ord_lt x2 c2 h2
  rcases o1 with o1 | o1
  all_goals
    go_enter Try.func14, Try.ntmps14
    go_wp2_with fail
    refine (is_yes x y a b _ x1 x2 x5 x6 x7 x8).mono ?_
    rintro e w1 ⟨rfl, hb1⟩
    go_wp2_with fail
    refine (is_yes c d p q _ c1 c2 c5 c6 c7 c8).mono ?_
    rintro e w2 ⟨rfl, hb2⟩
    have hb := hb1.trans (hb2.mono hb1.size)
    clear hb1 hb2
    go_wp2_with fail
    go_ret
    exact ⟨rfl, hb⟩
end Go.Proofs.Ytknhiplhffibjaa.Cs
