/- Contracts of the census's small functions, at numbers that stand for whole numbers. -/
import Derived.Test.YtknhiplhffibjaaChecked
import Derived.Test.YtknhiplhffibjaaFloat
import Derived.WalkKit
import Derived.Below
import Derived.OwnWalk
import Derived.WalkSpells
import Derived.WalkLawsBesides
import Derived.Laws.ComplexArith
import Derived.Lib.Hide
namespace Go.Proofs.Ytknhiplhffibjaa.Cs
open Go.RowKit Go.Proofs.Ytknhiplhffibjaa.Fl

theorem ord_lt {x y : Nat} {a b : Int} (hx : IsZ x a) (hy : IsZ y b) (h : a < b) : FloatKind.f64.format.order x y = some .lt := by
  have := order_isZ hx hy
  rw [Int.compare_eq_lt.2 h] at this
  exact this
theorem ord_gt {x y : Nat} {a b : Int} (hx : IsZ x a) (hy : IsZ y b) (h : b < a) : FloatKind.f64.format.order x y = some .gt := by
  have := order_isZ hx hy
  rw [Int.compare_eq_gt.2 h] at this
  exact this
theorem ord_eq {x y : Nat} {a b : Int} (hx : IsZ x a) (hy : IsZ y b) (h : a = b) : FloatKind.f64.format.order x y = some .eq := by
  have := order_isZ hx hy
  rw [Int.compare_eq_eq.2 h] at this
  exact this
theorem ord_ge {x y : Nat} {a b : Int} (hx : IsZ x a) (hy : IsZ y b) (h : b ≤ a) : FloatKind.f64.format.order x y = some .gt ∨ FloatKind.f64.format.order x y = some .eq := by
  rcases Int.lt_or_eq_of_le h with h | h
  · exact .inl (ord_gt hx hy h)
  · exact .inr (ord_eq hx hy h.symm)
theorem ord_le {x y : Nat} {a b : Int} (hx : IsZ x a) (hy : IsZ y b) (h : a ≤ b) : FloatKind.f64.format.order x y = some .lt ∨ FloatKind.f64.format.order x y = some .eq := by
  rcases Int.lt_or_eq_of_le h with h | h
  · exact .inl (ord_lt hx hy h)
  · exact .inr (ord_eq hx hy h)

/-- A part is whole, and within its bounds. -/
theorem in_yes (x f : Nat) (z fz : Int) (ad : Addr) (w : World) (hx : IsZ x z) (hf : IsZ f fz) (h1 : fz ≤ z) (h2 : z ≤ 9007199254740992) (h3 : -9007199254740992 ≤ z) (hc : w.cell? ad = some (.float .f64 f)) :
    Calls Try.prog 20 #[.float .f64 x, .pointer (some ad)] w fun e w' => e = .returned (.bool true) ∧ w = w' := by
  have o1 := ord_ge hx hf h1
  have o2 := ord_le hx isZ_most h2
  have o3 : FloatKind.f64.format.order x (floatOfInt .f64 z) = some .eq := ord_eq hx (ofInt_isZ z h3 h2) rfl
  have hcv := fun w => run_convert_float_int (P := Try.prog) w 32 2 .f64 .i64 x z (by kernel_rfl) Try.underlying2 (toVal_isZ .i64 hx (by show (-9223372036854775808 : Int) ≤ z; omega) (by show z ≤ (9223372036854775807 : Int); omega))
  rcases o1 with o1 | o1 <;> rcases o2 with o2 | o2
  all_goals
    go_enter Try.func20, Try.ntmps20
    go_wp2
    go_ret
    exact ⟨rfl, rfl⟩

theorem in_no (x f : Nat) (z fz : Int) (ad : Addr) (w : World) (hx : IsZ x z) (hf : IsZ f fz) (h1 : z < fz) (hc : w.cell? ad = some (.float .f64 f)) :
    Calls Try.prog 20 #[.float .f64 x, .pointer (some ad)] w fun e w' => e = .returned (.bool false) ∧ w = w' := by
  have o1 := ord_lt hx hf h1
  go_enter Try.func20, Try.ntmps20
  go_wp2
  go_ret
  exact ⟨rfl, rfl⟩

/-- Both parts are. -/
theorem whole_yes (x y f : Nat) (a b fz : Int) (w : World) (hx : IsZ x a) (hy : IsZ y b) (hf : IsZ f fz) (h1 : fz ≤ a) (h2 : a ≤ 9007199254740992) (h3 : -9007199254740992 ≤ a) (h4 : fz ≤ b) (h5 : b ≤ 9007199254740992) (h6 : -9007199254740992 ≤ b) :
    Calls Try.prog 17 #[.complex .f64 x y, .float .f64 f] w fun e w' => e = .returned (.bool true) ∧ Below w.heap.size w w' := by
  go_enter Try.func17, Try.ntmps17
  go_wp2_with fail
  refine (in_yes x f a fz _ _ hx hf h1 h2 h3 (by simp [go_sem])).mono ?_
  rintro e w' ⟨rfl, rfl⟩
  go_wp2_with fail
  refine (in_yes y f b fz _ _ hy hf h4 h5 h6 (by simp [go_sem])).mono ?_
  rintro e w' ⟨rfl, rfl⟩
  go_wp2_with fail
  go_ret
  exact ⟨rfl, (Below.refl _ _).alloc (Nat.le_refl _) _⟩
theorem whole_no1 (x y f : Nat) (a fz : Int) (w : World) (hx : IsZ x a) (hf : IsZ f fz) (h1 : a < fz) :
    Calls Try.prog 17 #[.complex .f64 x y, .float .f64 f] w fun e w' => e = .returned (.bool false) ∧ Below w.heap.size w w' := by
  go_enter Try.func17, Try.ntmps17
  go_wp2_with fail
  refine (in_no x f a fz _ _ hx hf h1 (by simp [go_sem])).mono ?_
  rintro e w' ⟨rfl, rfl⟩
  go_wp2_with fail
  go_ret
  exact ⟨rfl, (Below.refl _ _).alloc (Nat.le_refl _) _⟩

/-- A census. -/
theorem is_yes (x y : Nat) (a b : Int) (w : World) (hx : IsZ x a) (hy : IsZ y b) (h1 : 0 ≤ a) (h2 : a ≤ 9007199254740992) (h4 : 0 ≤ b) (h5 : b ≤ 9007199254740992) :
    Calls Try.prog 15 #[.complex .f64 x y] w fun e w' => e = .returned (.bool true) ∧ Below w.heap.size w w' := by
  go_enter Try.func15, Try.ntmps15
  go_wp2_with fail
  refine (whole_yes x y 0 a b 0 _ hx hy isZ_zero h1 h2 (by omega) h4 h5 (by omega)).mono ?_
  rintro e w1 ⟨rfl, hb⟩
  go_wp2_with fail
  go_ret
  exact ⟨rfl, hb⟩
theorem is_no1 (x y : Nat) (a : Int) (w : World) (hx : IsZ x a) (h1 : a < 0) :
    Calls Try.prog 15 #[.complex .f64 x y] w fun e w' => e = .returned (.bool false) ∧ Below w.heap.size w w' := by
  go_enter Try.func15, Try.ntmps15
  go_wp2_with fail
  refine (whole_no1 x y 0 a 0 _ hx isZ_zero h1).mono ?_
  rintro e w1 ⟨rfl, hb⟩
  go_wp2_with fail
  go_ret
  exact ⟨rfl, hb⟩

/-- So many objects and bytes. -/
theorem of_yes (n m : Int) (w : World) (h1 : 0 ≤ n) (h2 : n ≤ 9007199254740992) (h3 : 0 ≤ m) (h4 : m ≤ 9007199254740992) :
    Calls Try.prog 6 #[.int .u64 n, .int .u64 m] w fun e w' => e = .returned (.tuple #[.complex .f64 (floatOfInt .f64 n) (floatOfInt .f64 m), .int .i64 0]) ∧ w = w' := by
  go_enter Try.func6, Try.ntmps6
  go_wp2
  go_ret2
  exact ⟨rfl, rfl⟩
theorem of_no (n m : Int) (w : World) (h1 : 0 ≤ n) (h3 : 0 ≤ m) (h : 9007199254740992 < n ∨ 9007199254740992 < m) :
    Calls Try.prog 6 #[.int .u64 n, .int .u64 m] w fun e w' => e = .returned (.tuple #[.complex .f64 0 0, .int .i64 211]) ∧ w = w' := by
  by_cases hn : 9007199254740992 < n
  · clear h
    go_enter Try.func6, Try.ntmps6
    go_wp2
    go_ret2
    exact ⟨rfl, rfl⟩
  · have hm : 9007199254740992 < m := by omega
    clear h
    go_enter Try.func6, Try.ntmps6
    go_wp2
    go_ret2
    exact ⟨rfl, rfl⟩

/-- A census's parts. -/
theorem parts_yes (x y : Nat) (a b : Int) (w : World) (hx : IsZ x a) (hy : IsZ y b) (h1 : 0 ≤ a) (h2 : a ≤ 9007199254740992) (h4 : 0 ≤ b) (h5 : b ≤ 9007199254740992) :
    Calls Try.prog 7 #[.complex .f64 x y] w fun e w' => e = .returned (.tuple #[.int .u64 a, .int .u64 b, .int .i64 0]) ∧ Below w.heap.size w w' := by
  have hcv := fun w => run_convert_float_int (P := Try.prog) w 32 22 .f64 .u64 x a (by kernel_rfl) Try.underlying22 (toVal_isZ .u64 hx (by show (0 : Int) ≤ a; omega) (by show a ≤ (18446744073709551615 : Int); omega))
  have hcw := fun w => run_convert_float_int (P := Try.prog) w 32 22 .f64 .u64 y b (by kernel_rfl) Try.underlying22 (toVal_isZ .u64 hy (by show (0 : Int) ≤ b; omega) (by show b ≤ (18446744073709551615 : Int); omega))
  go_enter Try.func7, Try.ntmps7
  go_wp2_with fail
  refine (is_yes x y a b _ hx hy h1 h2 h4 h5).mono ?_
  rintro e w1 ⟨rfl, hb⟩
  go_wp2_with fail
  go_ret3
  exact ⟨rfl, hb⟩
theorem parts_no1 (x y : Nat) (a : Int) (w : World) (hx : IsZ x a) (h1 : a < 0) :
    Calls Try.prog 7 #[.complex .f64 x y] w fun e w' => e = .returned (.tuple #[.int .u64 0, .int .u64 0, .int .i64 5]) ∧ Below w.heap.size w w' := by
  go_enter Try.func7, Try.ntmps7
  go_wp2_with fail
  refine (is_no1 x y a _ hx h1).mono ?_
  rintro e w1 ⟨rfl, hb⟩
  go_wp2_with fail
  go_ret3
  exact ⟨rfl, hb⟩

/-- Signs of noughts are struck. -/
theorem plain_any (x y : Nat) (a b : Int) (w : World) (hx : IsZ x a) (hy : IsZ y b) (h1 : -9007199254740992 ≤ a) (h2 : a ≤ 9007199254740992) (h3 : -9007199254740992 ≤ b) (h4 : b ≤ 9007199254740992) :
    Calls Try.prog 16 #[.complex .f64 x y] w fun e w' => e = .returned (.complex .f64 (fadd x 0) (fadd y 0)) ∧ w = w' := by
  have hs := fun w => run_complex_sum (P := Try.prog) w .add (.inl rfl) 24 .f64 x y 0 0 (fadd x 0) (fadd y 0) (by unfold cSumBits floatBits; simp only [FloatKind.format]; rw [(fadd_eq hx isZ_zero (by omega) (by omega)).1, (fadd_eq hy isZ_zero (by omega) (by omega)).1]; rfl)
  go_enter Try.func16, Try.ntmps16
  go_wp2
  go_ret
  exact ⟨rfl, rfl⟩
end Go.Proofs.Ytknhiplhffibjaa.Cs
