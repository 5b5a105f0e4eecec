/- Contract of the census's Sum, at a row of censuses that lies in memory. -/
import Derived.Test.YtknhiplhffibjaaCPut
import Derived.LoopTactic
namespace Go.Proofs.Ytknhiplhffibjaa.Cs
open Go.RowKit Go.Proofs.Ytknhiplhffibjaa.Fl

/-- A row of numbers: their words, what they stand for. -/
structure CRow where
  re : Nat → Nat
  im : Nat → Nat
  a : Nat → Int
  b : Nat → Int
/-- The row lies in memory. -/
def CRow.at (R : CRow) (w : World) (g o n : Nat) : Prop := ∀ i, i < n → w.cell? ⟨g, o + i, none⟩ = some (.complex .f64 (R.re i) (R.im i))
def CRow.cen (R : CRow) (n : Nat) : Prop := ∀ i, i < n → Cen (R.re i) (R.im i) (R.a i) (R.b i)
theorem CRow.at_below {R : CRow} {w w' : World} {g o n B : Nat} (h : R.at w g o n) (hb : Below B w w') (hg : g < B) : R.at w' g o n :=
  fun i hi => (hb.cell (p := ⟨g, o + i, none⟩) hg).trans (h i hi)

/-- Sums of the first. -/
def tot (f : Nat → Int) : Nat → Int
  | 0 => 0
  | j + 1 => tot f j + f j
/-- Their words. -/
def wtot (f : Nat → Nat) : Nat → Nat
  | 0 => 0
  | j + 1 => cadd (wtot f j) (f j)

theorem tot_mono (f : Nat → Int) (n : Nat) (h : ∀ i, i < n → 0 ≤ f i) : ∀ j, j ≤ n → 0 ≤ tot f j ∧ tot f j ≤ tot f n := by
  induction n with
  | zero => intro j hj; obtain rfl : j = 0 := by omega
            simp [tot]
  | succ n ih =>
    intro j hj
    have hn := h n (by omega)
    have ihn := ih (fun i hi => h i (by omega))
    rcases Nat.lt_or_ge n j with h1 | h1
    · obtain rfl : j = n + 1 := by omega
      have := ihn n (Nat.le_refl _)
      simp only [tot]; omega
    · have := ihn j h1
      simp only [tot]; omega

theorem wtot_isZ (re : Nat → Nat) (a : Nat → Int) (n : Nat) (h : ∀ i, i < n → IsZ (re i) (a i) ∧ 0 ≤ a i ∧ a i ≤ 9007199254740992) (hn : tot a n ≤ 9007199254740992) : ∀ j, j ≤ n → IsZ (wtot re j) (tot a j) ∧ wtot re j < 18446744073709551616 := by
  intro j
  induction j with
  | zero => intro _; exact ⟨isZ_zero, by show (0 : Nat) < 18446744073709551616; decide⟩
  | succ j ih =>
    intro hj
    obtain ⟨h1, h2⟩ := ih (by omega)
    obtain ⟨h3, h4, h5⟩ := h j (by omega)
    have m1 := tot_mono a n (fun i hi => (h i hi).2.1) j (by omega)
    have m2 := tot_mono a n (fun i hi => (h i hi).2.1) (j + 1) hj
    simp only [tot] at m2
    exact cadd_isZ h1 h3 (by omega) (by omega)

theorem wtot_cen (R : CRow) (n : Nat) (h : R.cen n) (ha : tot R.a n ≤ 9007199254740992) (hb : tot R.b n ≤ 9007199254740992) (j : Nat) (hj : j ≤ n) : Cen (wtot R.re j) (wtot R.im j) (tot R.a j) (tot R.b j) := by
  have h1 := wtot_isZ R.re R.a n (fun i hi => ⟨(h i hi).1, (h i hi).2.2.2.2.1, (h i hi).2.2.2.2.2.1⟩) ha j hj
  have h2 := wtot_isZ R.im R.b n (fun i hi => ⟨(h i hi).2.1, (h i hi).2.2.2.2.2.2.1, (h i hi).2.2.2.2.2.2.2⟩) hb j hj
  have m1 := tot_mono R.a n (fun i hi => (h i hi).2.2.2.2.1) j hj
  have m2 := tot_mono R.b n (fun i hi => (h i hi).2.2.2.2.2.2.1) j hj
  exact ⟨h1.1, h2.1, h1.2, h2.2, m1.1, by omega, m2.1, by omega⟩

set_option maxHeartbeats 1000000 in
theorem sum_yes (R : CRow) (g o n cap : Nat) (w : World) (hn : n ≤ 1000) (hg : g < w.heap.size) (hat : R.at w g o n) (hcen : R.cen n) (ha : tot R.a n ≤ 9007199254740992) (hb : tot R.b n ≤ 9007199254740992) :
    Calls Try.prog 13 #[.slice (some ⟨g, o, none⟩) n cap] w fun e w' => e = .returned (.tuple #[.complex .f64 (wtot R.re n) (wtot R.im n), .int .i64 0]) ∧ Below w.heap.size w w' := by
  have HA := Lib.hid hat
  have HC := Lib.hid hcen
  clear hat hcen
  go_enter Try.func13, Try.ntmps13
  go_wp2_with fail
  go_loopw [13] (fun i wr => ∃ j : Nat, j ≤ n ∧ i = .int .i64 j ∧ Below w.heap.size w wr) (fun i _ => n - (intOf i).toNat)
  case atStart => exact ⟨0, by omega, rfl, Below.refl _ _⟩
  case round =>
    obtain ⟨j, hj, rfl, hbw⟩ := hrel
    by_cases hlt : j < n
    · have hc := CRow.at_below HA.out hbw hg j hlt
      have hcn := HC.out j hlt
      generalize R.re j = x at *
      generalize R.im j = y at *
      obtain ⟨x1, x2, x3, x4, x5, x6, x7, x8⟩ := hcn
      have hj0 : (0 : Int) ≤ (j : Int) := by omega
      have hj1 : (j : Int) < (n : Int) := by omega
      go_wp2_with fail
      refine (is_yes x y _ _ _ x1 x2 x5 x6 x7 x8).mono ?_
      rintro e w1 ⟨rfl, hb1⟩
      have hbb : Below w.heap.size w w1 := hbw.trans (hb1.mono hbw.size)
      clear hb1 hc
      go_wp2_with fail
      go_roundw
      case rel => exact ⟨j + 1, by omega, by go_num, hbb⟩
      case measure => simp [intOf]; omega
    · obtain rfl : j = n := by omega
      obtain ⟨wo, rfl⟩ : ∃ wo : World, wo = wr := ⟨_, rfl⟩
      go_wp2_with fail
      go_loopw [6, 23] (fun s i wr => ∃ k : Nat, k ≤ j ∧ i = .int .i64 k ∧ s = .complex .f64 (wtot R.re k) (wtot R.im k) ∧ Below w.heap.size w wr) (fun _ i _ => j - (intOf i).toNat)
      case atStart => exact ⟨0, by omega, rfl, rfl, hbw⟩
      case round =>
        obtain ⟨k, hk, rfl, rfl, hbw2⟩ := hrel
        by_cases hlt2 : k < j
        · have hc := CRow.at_below HA.out hbw2 hg k hlt2
          have hcn := HC.out k hlt2
          have hw := wtot_cen R j HC.out ha hb k (by omega)
          have hm1 := tot_mono R.a j (fun i hi => (HC.out i hi).2.2.2.2.1) (k + 1) (by omega)
          have hm2 := tot_mono R.b j (fun i hi => (HC.out i hi).2.2.2.2.2.2.1) (k + 1) (by omega)
          simp only [tot] at hm1 hm2
          have e1 : wtot R.re (k + 1) = cadd (wtot R.re k) (R.re k) := rfl
          have e2 : wtot R.im (k + 1) = cadd (wtot R.im k) (R.im k) := rfl
          have E1 := Lib.hid e1
          have E2 := Lib.hid e2
          clear e1 e2
          generalize R.re k = x at *
          generalize R.im k = y at *
          generalize hre : wtot R.re k = X at *
          generalize him : wtot R.im k = Y at *
          clear hre him
          obtain ⟨x1, x2, x3, x4, x5, x6, x7, x8⟩ := hcn
          obtain ⟨y1, y2, y3, y4, y5, y6, y7, y8⟩ := hw
          have hj0 : (0 : Int) ≤ (k : Int) := by omega
          have hj1 : (k : Int) < (j : Int) := by omega
          go_wp2_with fail
          refine (put_yes X Y x y _ _ _ _ _ y1 y2 x1 x2 x3 x4 y6 (by omega) x6 (by omega) (by omega) y8 (by omega) x8 (by omega) (by omega)).mono ?_
          rintro e w' ⟨rfl, rfl⟩
          go_wp2_with fail
          go_roundw
          case rel => exact ⟨k + 1, by omega, by go_num, by rw [E1.out, E2.out], hbw2⟩
          case measure => simp [intOf]; omega
        · obtain rfl : k = j := by omega
          go_wp2_with fail
          go_ret2
          exact ⟨rfl, hbw2⟩

set_option maxHeartbeats 1000000 in
theorem sum_high (R : CRow) (g o n cap J : Nat) (w : World) (hn : n ≤ 1000) (hJ : J < n) (hg : g < w.heap.size) (hat : R.at w g o n) (hcen : R.cen n) (ha : tot R.a J ≤ 9007199254740992) (hb : tot R.b J ≤ 9007199254740992) (hov : 9007199254740992 < tot R.a J + R.a J) :
    Calls Try.prog 13 #[.slice (some ⟨g, o, none⟩) n cap] w fun e w' => e = .returned (.tuple #[.complex .f64 0 0, .int .i64 211]) ∧ Below w.heap.size w w' := by
  have HA := Lib.hid hat
  have HC := Lib.hid hcen
  clear hat hcen
  go_enter Try.func13, Try.ntmps13
  go_wp2_with fail
  go_loopw [13] (fun i wr => ∃ j : Nat, j ≤ n ∧ i = .int .i64 j ∧ Below w.heap.size w wr) (fun i _ => n - (intOf i).toNat)
  case atStart => exact ⟨0, by omega, rfl, Below.refl _ _⟩
  case round =>
    obtain ⟨j, hj, rfl, hbw⟩ := hrel
    by_cases hlt : j < n
    · have hc := CRow.at_below HA.out hbw hg j hlt
      have hcn := HC.out j hlt
      generalize R.re j = x at *
      generalize R.im j = y at *
      obtain ⟨x1, x2, x3, x4, x5, x6, x7, x8⟩ := hcn
      have hj0 : (0 : Int) ≤ (j : Int) := by omega
      have hj1 : (j : Int) < (n : Int) := by omega
      go_wp2_with fail
      refine (is_yes x y _ _ _ x1 x2 x5 x6 x7 x8).mono ?_
      rintro e w1 ⟨rfl, hb1⟩
      have hbb : Below w.heap.size w w1 := hbw.trans (hb1.mono hbw.size)
      clear hb1 hc
      go_wp2_with fail
      go_roundw
      case rel => exact ⟨j + 1, by omega, by go_num, hbb⟩
      case measure => simp [intOf]; omega
    · obtain rfl : j = n := by omega
      obtain ⟨wo, rfl⟩ : ∃ wo : World, wo = wr := ⟨_, rfl⟩
      go_wp2_with fail
      go_loopw [6, 23] (fun s i wr => ∃ k : Nat, k ≤ J ∧ i = .int .i64 k ∧ s = .complex .f64 (wtot R.re k) (wtot R.im k) ∧ Below w.heap.size w wr) (fun _ i _ => j - (intOf i).toNat)
      case atStart => exact ⟨0, by omega, rfl, rfl, hbw⟩
      case round =>
        obtain ⟨k, hk, rfl, rfl, hbw2⟩ := hrel
        by_cases hlt2 : k < J
        · have hc := CRow.at_below HA.out hbw2 hg k (by omega)
          have hcn := HC.out k (by omega)
          have hw := wtot_cen R J (fun i hi => HC.out i (by omega)) ha hb k (by omega)
          have hm1 := tot_mono R.a J (fun i hi => (HC.out i (by omega)).2.2.2.2.1) (k + 1) (by omega)
          have hm2 := tot_mono R.b J (fun i hi => (HC.out i (by omega)).2.2.2.2.2.2.1) (k + 1) (by omega)
          simp only [tot] at hm1 hm2
          have e1 : wtot R.re (k + 1) = cadd (wtot R.re k) (R.re k) := rfl
          have e2 : wtot R.im (k + 1) = cadd (wtot R.im k) (R.im k) := rfl
          have E1 := Lib.hid e1
          have E2 := Lib.hid e2
          clear e1 e2
          generalize R.re k = x at *
          generalize R.im k = y at *
          generalize hre : wtot R.re k = X at *
          generalize him : wtot R.im k = Y at *
          clear hre him
          obtain ⟨x1, x2, x3, x4, x5, x6, x7, x8⟩ := hcn
          obtain ⟨y1, y2, y3, y4, y5, y6, y7, y8⟩ := hw
          have hj0 : (0 : Int) ≤ (k : Int) := by omega
          have hj1 : (k : Int) < (j : Int) := by omega
          go_wp2_with fail
          refine (put_yes X Y x y _ _ _ _ _ y1 y2 x1 x2 x3 x4 y6 (by omega) x6 (by omega) (by omega) y8 (by omega) x8 (by omega) (by omega)).mono ?_
          rintro e w' ⟨rfl, rfl⟩
          go_wp2_with fail
          go_roundw
          case rel => exact ⟨k + 1, by omega, by go_num, by rw [E1.out, E2.out], hbw2⟩
          case measure => simp [intOf]; omega
        · obtain rfl : k = J := by omega
          have hc := CRow.at_below HA.out hbw2 hg k hJ
          have hcn := HC.out k hJ
          have hw := wtot_cen R k (fun i hi => HC.out i (by omega)) ha hb k (by omega)
          generalize R.re k = x at *
          generalize R.im k = y at *
          generalize hre : wtot R.re k = X at *
          generalize him : wtot R.im k = Y at *
          clear hre him
          obtain ⟨x1, x2, x3, x4, x5, x6, x7, x8⟩ := hcn
          obtain ⟨y1, y2, y3, y4, y5, y6, y7, y8⟩ := hw
          have hj0 : (0 : Int) ≤ (k : Int) := by omega
          have hj1 : (k : Int) < (j : Int) := by omega
          go_wp2_with fail
          refine (put_high X Y x y _ _ _ y1 x1 y6 x6 (by omega)).mono ?_
          rintro e w' ⟨rfl, rfl⟩
          go_wp2_with fail
          go_ret2
          exact ⟨rfl, hbw2⟩

theorem sum_nil (cap : Nat) (a : Option Addr) (w : World) :
    Calls Try.prog 13 #[.slice a 0 cap] w fun e w' => e = .returned (.tuple #[.complex .f64 0 0, .int .i64 0]) ∧ w = w' := by
  go_enter Try.func13, Try.ntmps13
  go_wp2_with fail
  go_loop [13] (fun i => i = .int .i64 0) (fun _ => 0)
  case atStart => rfl
  case round =>
    obtain rfl := hrel
    go_wp2_with fail
    go_loop [6, 23] (fun s i => i = .int .i64 0 ∧ s = .complex .f64 0 0) (fun _ _ => 0)
    case atStart => exact ⟨rfl, rfl⟩
    case round =>
      obtain ⟨rfl, rfl⟩ := hrel
      go_wp2_with fail
      go_ret2
      exact ⟨rfl, rfl⟩
end Go.Proofs.Ytknhiplhffibjaa.Cs
