/- Layer 22's known answers: they hold. -/
import Derived.Test.YtknhiplhffibjaaCSum
namespace Go.Proofs.Ytknhiplhffibjaa.Cs
open Go.RowKit Go.Proofs.Ytknhiplhffibjaa.Fl

/-- A half is not whole. -/
theorem in_half (ad : Addr) (w : World) (hc : w.cell? ad = some (.float .f64 0)) :
    Calls Try.prog 20 #[.float .f64 4602678819172646912, .pointer (some ad)] w fun e w' => e = .returned (.bool false) ∧ w = w' := by
  have o1 : FloatKind.f64.format.order 4602678819172646912 0 = some .gt := by kernel_rfl
  have o2 : FloatKind.f64.format.order 4602678819172646912 4845873199050653696 = some .lt := by kernel_rfl
  have o3 : FloatKind.f64.format.order 4602678819172646912 (floatOfInt .f64 0) = some .gt := by kernel_rfl
  have hcv := fun w => run_convert_float_int (P := Try.prog) w 32 2 .f64 .i64 4602678819172646912 0 (by kernel_rfl) Try.underlying2 (by kernel_rfl)
  go_enter Try.func20, Try.ntmps20
  go_wp2
  go_ret
  exact ⟨rfl, rfl⟩
theorem parts_half (y : Nat) (w : World) :
    Calls Try.prog 7 #[.complex .f64 4602678819172646912 y] w fun e w' => e = .returned (.tuple #[.int .u64 0, .int .u64 0, .int .i64 5]) ∧ Below w.heap.size w w' := by
  have hw : ∀ w : World, Calls Try.prog 17 #[.complex .f64 4602678819172646912 y, .float .f64 0] w fun e w' => e = .returned (.bool false) ∧ Below w.heap.size w w' := by
    intro w
    go_enter Try.func17, Try.ntmps17
    go_wp2_with fail
    refine (in_half _ _ (by simp [go_sem])).mono ?_
    rintro e w' ⟨rfl, rfl⟩
    go_wp2_with fail
    go_ret
    exact ⟨rfl, (Below.refl _ _).alloc (Nat.le_refl _) _⟩
  have HW := Lib.hid hw
  clear hw
  have hi : ∀ w : World, Calls Try.prog 15 #[.complex .f64 4602678819172646912 y] w fun e w' => e = .returned (.bool false) ∧ Below w.heap.size w w' := by
    intro w
    go_enter Try.func15, Try.ntmps15
    go_wp2_with fail
    refine (HW.out _).mono ?_
    rintro e w1 ⟨rfl, hb⟩
    go_wp2_with fail
    go_ret
    exact ⟨rfl, hb⟩
  have HI := Lib.hid hi
  clear hi
  go_enter Try.func7, Try.ntmps7
  go_wp2_with fail
  refine (HI.out _).mono ?_
  rintro e w1 ⟨rfl, hb⟩
  go_wp2_with fail
  go_ret3
  exact ⟨rfl, hb⟩

theorem z0 : IsZ 0 0 := isZ_zero
theorem zOf (n : Int) (x : Nat) (h : floatOfInt .f64 n = x) (h1 : -9007199254740992 ≤ n) (h2 : n ≤ 9007199254740992) : IsZ x n := h ▸ ofInt_isZ n h1 h2
theorem cenOf (n m : Int) (x y : Nat) (h : floatOfInt .f64 n = x) (k : floatOfInt .f64 m = y) (h1 : 0 ≤ n) (h2 : n ≤ 9007199254740992) (h3 : 0 ≤ m) (h4 : m ≤ 9007199254740992) : Cen x y n m := h ▸ k ▸ cen_of n m h1 h2 h3 h4
theorem chgOf (n m : Int) (x y : Nat) (h : floatOfInt .f64 n = x) (k : floatOfInt .f64 m = y) (h1 : -9007199254740992 ≤ n) (h2 : n ≤ 9007199254740992) (h3 : -9007199254740992 ≤ m) (h4 : m ≤ 9007199254740992) : Chg x y n m := by
  subst h; subst k
  exact ⟨ofInt_isZ n h1 h2, ofInt_isZ m h3 h4, ofInt_lt n, ofInt_lt m, h1, h2, h3, h4⟩

/-- Rows of two. -/
def two (x0 y0 x1 y1 : Nat) (a0 b0 a1 b1 : Int) : CRow where
  re i := if i = 0 then x0 else x1
  im i := if i = 0 then y0 else y1
  a i := if i = 0 then a0 else a1
  b i := if i = 0 then b0 else b1
theorem two_at {w : World} {g x0 y0 x1 y1 : Nat} {a0 b0 a1 b1 : Int} (h0 : w.cell? ⟨g, 0, none⟩ = some (.complex .f64 x0 y0)) (h1 : w.cell? ⟨g, 1, none⟩ = some (.complex .f64 x1 y1)) : (two x0 y0 x1 y1 a0 b0 a1 b1).at w g 0 2 := by
  intro i hi
  rcases i with _ | _ | i
  · simpa [two] using h0
  · simpa [two] using h1
  · omega
theorem two_cen {x0 y0 x1 y1 : Nat} {a0 b0 a1 b1 : Int} (h0 : Cen x0 y0 a0 b0) (h1 : Cen x1 y1 a1 b1) : (two x0 y0 x1 y1 a0 b0 a1 b1).cen 2 := by
  intro i hi
  rcases i with _ | _ | i
  · exact h0
  · exact h1
  · omega

set_option maxRecDepth 100000 in
set_option maxHeartbeats 4000000 in
theorem head_any (w : World) : Calls Try.prog 10 #[] w fun e w' => e = .returned (.bool true) ∧ Below w.heap.size w w' := by
  have q1 : FloatKind.f64.format.order (floatOfInt .f64 3) 4613937818241073152 = some .eq := by kernel_rfl
  have q2 : FloatKind.f64.format.order (floatOfInt .f64 100) 4636737291354636288 = some .eq := by kernel_rfl
  go_enter Try.func10, Try.ntmps10
  go_wp2_with fail
  refine (of_yes 3 100 _ (by omega) (by omega) (by omega) (by omega)).mono ?_
  rintro e w' ⟨rfl, rfl⟩
  go_wp2_with fail
  refine (of_no 9007199254740993 0 _ (by omega) (by omega) (by omega)).mono ?_
  rintro e w' ⟨rfl, rfl⟩
  go_wp2_with fail
  refine (parts_yes _ _ 3 100 _ (zOf 3 _ (by kernel_rfl) (by omega) (by omega)) (zOf 100 _ (by kernel_rfl) (by omega) (by omega)) (by omega) (by omega) (by omega) (by omega)).mono ?_
  rintro e w1 ⟨rfl, hb1⟩
  go_wp2_with fail
  refine (parts_half _ _).mono ?_
  rintro e w2 ⟨rfl, hb2⟩
  have hb := hb1.trans (hb2.mono hb1.size)
  clear hb1 hb2
  go_wp2_with fail
  refine (parts_no1 _ _ (-1) _ (zOf (-1) _ (by kernel_rfl) (by omega) (by omega)) (by omega)).mono ?_
  rintro e w3 ⟨rfl, hb3⟩
  have hbc := hb.trans (hb3.mono hb.size)
  clear hb hb3
  go_wp2_with fail
  refine (sum_yes (two 4607182418800017408 4620693217682128896 4611686018427387904 0 1 8 2 0) _ 0 2 _ _ (by omega) (by simp) (two_at (by simp [go_sem]) (by simp [go_sem])) (two_cen (cenOf 1 8 _ _ (by kernel_rfl) (by kernel_rfl) (by omega) (by omega) (by omega) (by omega)) (cenOf 2 0 _ _ (by kernel_rfl) (by kernel_rfl) (by omega) (by omega) (by omega) (by omega))) (by decide) (by decide)).mono ?_
  rintro e w4 ⟨rfl, hb4⟩
  have hb : Below w.heap.size w w4 := (hbc.alloc hbc.size _).trans (hb4.mono (by have := hbc.size; simp; omega))
  clear hbc hb4
  have s1 : wtot (two 4607182418800017408 4620693217682128896 4611686018427387904 0 1 8 2 0).re 2 = 4613937818241073152 := by kernel_rfl
  have s2 : wtot (two 4607182418800017408 4620693217682128896 4611686018427387904 0 1 8 2 0).im 2 = 4620693217682128896 := by kernel_rfl
  rw [s1, s2]
  clear s1 s2
  go_wp2_with fail
  refine (sum_high (two 4845873199050653696 0 4607182418800017408 0 9007199254740992 0 1 0) _ 0 2 _ 1 _ (by omega) (by omega) (by simp) (two_at (by simp [go_sem]) (by simp [go_sem])) (two_cen (cenOf 9007199254740992 0 _ _ (by kernel_rfl) (by kernel_rfl) (by omega) (by omega) (by omega) (by omega)) (cenOf 1 0 _ _ (by kernel_rfl) (by kernel_rfl) (by omega) (by omega) (by omega) (by omega))) (by decide) (by decide) (by decide)).mono ?_
  rintro e w5 ⟨rfl, hb4⟩
  have hbc : Below w.heap.size w w5 := (hb.alloc hb.size _).trans (hb4.mono (by have := hb.size; simp; omega))
  clear hb hb4
  go_wp2_with fail
  refine (sum_nil _ _ _).mono ?_
  rintro e w' ⟨rfl, rfl⟩
  go_wp2_with fail
  refine (change_any _ _ _ _ 3 8 1 9 _ (cenOf 3 8 _ _ (by kernel_rfl) (by kernel_rfl) (by omega) (by omega) (by omega) (by omega)) (cenOf 1 9 _ _ (by kernel_rfl) (by kernel_rfl) (by omega) (by omega) (by omega) (by omega))).mono ?_
  rintro e w6 ⟨rfl, hb3⟩
  have hb := hbc.trans (hb3.mono hbc.size)
  clear hbc hb3
  have s1 : csub 4607182418800017408 4613937818241073152 = 13835058055282163712 := by kernel_rfl
  have s2 : csub 4621256167635550208 4620693217682128896 = 4607182418800017408 := by kernel_rfl
  rw [s1, s2]
  clear s1 s2
  go_wp2_with fail
  refine (apply_yes _ _ _ _ 3 8 (-2) 1 _ (cenOf 3 8 _ _ (by kernel_rfl) (by kernel_rfl) (by omega) (by omega) (by omega) (by omega)) (chgOf (-2) 1 _ _ (by kernel_rfl) (by kernel_rfl) (by omega) (by omega) (by omega) (by omega)) (by omega) (by omega) (by omega) (by omega)).mono ?_
  rintro e w7 ⟨rfl, hb3⟩
  have hbc := hb.trans (hb3.mono hb.size)
  clear hb hb3
  have s1 : cadd 4613937818241073152 13835058055282163712 = 4607182418800017408 := by kernel_rfl
  have s2 : cadd 4620693217682128896 4607182418800017408 = 4621256167635550208 := by kernel_rfl
  rw [s1, s2]
  clear s1 s2
  go_wp2_with fail
  refine (apply_low _ _ _ _ 1 0 (-2) 0 _ (cenOf 1 0 _ _ (by kernel_rfl) (by kernel_rfl) (by omega) (by omega) (by omega) (by omega)) (chgOf (-2) 0 _ _ (by kernel_rfl) (by kernel_rfl) (by omega) (by omega) (by omega) (by omega)) (by omega)).mono ?_
  rintro e w8 ⟨rfl, hb3⟩
  have hb := hbc.trans (hb3.mono hbc.size)
  clear hbc hb3
  have r0 : FloatKind.f64.format.order 0 0 = some .eq := by kernel_rfl
  have r1 : FloatKind.f64.format.order 4613937818241073152 4613937818241073152 = some .eq := by kernel_rfl
  have r2 : FloatKind.f64.format.order 4620693217682128896 4620693217682128896 = some .eq := by kernel_rfl
  have r3 : FloatKind.f64.format.order 13835058055282163712 13835058055282163712 = some .eq := by kernel_rfl
  have r4 : FloatKind.f64.format.order 4607182418800017408 4607182418800017408 = some .eq := by kernel_rfl
  have r5 : FloatKind.f64.format.order 4621256167635550208 4621256167635550208 = some .eq := by kernel_rfl
  go_wp2_with fail
  refine (above_yes _ _ _ _ 3 8 3 0 _ (cenOf 3 8 _ _ (by kernel_rfl) (by kernel_rfl) (by omega) (by omega) (by omega) (by omega)) (cenOf 3 0 _ _ (by kernel_rfl) (by kernel_rfl) (by omega) (by omega) (by omega) (by omega)) (by omega) (by omega)).mono ?_
  rintro e w9 ⟨rfl, hb3⟩
  have hbc := hb.trans (hb3.mono hb.size)
  clear hb hb3
  go_wp2_with fail
  refine (above_no _ _ _ _ 3 0 0 1 _ (cenOf 3 0 _ _ (by kernel_rfl) (by kernel_rfl) (by omega) (by omega) (by omega) (by omega)) (cenOf 0 1 _ _ (by kernel_rfl) (by kernel_rfl) (by omega) (by omega) (by omega) (by omega)) (by omega) (by omega)).mono ?_
  rintro e wa ⟨rfl, hb3⟩
  have hb := hbc.trans (hb3.mono hbc.size)
  clear hbc hb3
  go_wp2_with fail
  go_ret
  exact ⟨rfl, hb⟩
end Go.Proofs.Ytknhiplhffibjaa.Cs
