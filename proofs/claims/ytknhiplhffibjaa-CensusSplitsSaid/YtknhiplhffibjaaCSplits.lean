/- CensusSplits: the law's walk. -/
import Derived.Test.YtknhiplhffibjaaCHlaw
import Derived.Deep.RegionHeld3
import Derived.Deep.DrawnRows
namespace Go.Proofs.Ytknhiplhffibjaa.Cs
open Go.RowKit Go.Proofs.Ytknhiplhffibjaa.Fl
attribute [local go_sem] put_complex
attribute [local go_sem ↓] Go.wp_at_zero Go.wp_at_succ

theorem run_csum2 {a b c d re im : Nat} (h1 : Ieee.double.sub a c = some re) (h2 : Ieee.double.sub b d = some im) (w : World) : (binOp .sub 24 (.complex .f64 a b) (.complex .f64 c d)).run Try.prog w = .ok (.complex .f64 re im) w :=
  run_complex_sum w .sub (.inr rfl) 24 .f64 a b c d re im (by unfold cSumBits floatBits; simp only [FloatKind.format]; rw [h1, h2]; rfl)
theorem neg_lt (x : Nat) (h : x < 18446744073709551616) : Op.negFloat .f64 x < 18446744073709551616 := by
  have e : (2 : Nat) ^ 64 = 18446744073709551616 := by decide
  have e2 : (2 : Nat) ^ (FloatKind.f64.format.exponentBits + FloatKind.f64.format.fractionBits) = 9223372036854775808 := by decide
  unfold Op.negFloat
  rw [e2, ← e]
  exact Nat.xor_lt_two_pow (by omega) (by omega)

/-- A function with one value turned. -/
def upd (f : Nat → Int) (c : Nat) (v : Int) (i : Nat) : Int := if i = c then v else f i
theorem upd_same (f : Nat → Int) (c : Nat) (v : Int) : upd f c v c = v := by simp [upd]
theorem upd_other (f : Nat → Int) (c : Nat) (v : Int) (i : Nat) (h : i ≠ c) : upd f c v i = f i := by simp [upd, h]
theorem tot_upd_ge (f : Nat → Int) (c : Nat) (v : Int) (n : Nat) (h : n ≤ c) : tot (upd f c v) n = tot f n := by
  induction n with
  | zero => rfl
  | succ n ih => simp only [tot]; rw [ih (by omega), upd_other f c v n (by omega)]
theorem tot_upd (f : Nat → Int) (c : Nat) (v : Int) (n : Nat) (h : c < n) : tot (upd f c v) n = tot f n - f c + v := by
  induction n with
  | zero => omega
  | succ n ih =>
    simp only [tot]
    by_cases hc : c = n
    · subst hc; rw [tot_upd_ge f c v c (Nat.le_refl _), upd_same]; omega
    · rw [ih (by omega), upd_other f c v n (by omega)]; omega
theorem tot_le (f : Nat → Int) (b : Int) (n : Nat) (h : ∀ i, i < n → 0 ≤ f i ∧ f i ≤ b) : 0 ≤ tot f n ∧ tot f n ≤ b * n := by
  induction n with
  | zero => simp [tot]
  | succ n ih =>
    have h1 := ih (fun i hi => h i (by omega))
    have h2 := h n (by omega)
    have e : b * ((n + 1 : Nat) : Int) = b * n + b := by rw [Int.natCast_add, Int.mul_add]; simp
    simp only [tot]
    omega

theorem HeadIs.setB {hA : Array Value} {O Bt : Nat → Int} (h : HeadIs hA O Bt) (j : Nat) (hj : j < 8) (v : Int) (h0 : 0 ≤ v) (h1 : v ≤ 18446744073709551615) : HeadIs (hA.setIfInBounds (16 + j) (.int .u64 v)) O (upd Bt j v) := by
  obtain ⟨s, a, b⟩ := h
  refine ⟨by simpa using s, fun i hi => ?_, fun i hi => ?_⟩
  · rw [Array.getElem?_setIfInBounds_ne (by omega)]; exact a i hi
  · by_cases e : i = j
    · subst e
      rw [upd_same, Array.getElem?_setIfInBounds_self_of_lt (by omega)]
      exact ⟨rfl, h0, h1⟩
    · rw [upd_other Bt j v i e, Array.getElem?_setIfInBounds_ne (by omega)]; exact b i hi
theorem HeadIs.setO {hA : Array Value} {O Bt : Nat → Int} (h : HeadIs hA O Bt) (j : Nat) (hj : j < 8) (v : Int) (h0 : 0 ≤ v) (h1 : v ≤ 4294967295) : HeadIs (hA.setIfInBounds (8 + j) (.int .u32 v)) (upd O j v) Bt := by
  obtain ⟨s, a, b⟩ := h
  refine ⟨by simpa using s, fun i hi => ?_, fun i hi => ?_⟩
  · by_cases e : i = j
    · subst e
      rw [upd_same, Array.getElem?_setIfInBounds_self_of_lt (by omega)]
      exact ⟨rfl, h0, h1⟩
    · rw [upd_other O j v i e, Array.getElem?_setIfInBounds_ne (by omega)]; exact a i hi
  · rw [Array.getElem?_setIfInBounds_ne (by omega)]; exact b i hi
theorem HeadIs.congr {hA : Array Value} {O Bt C : Nat → Int} (h : HeadIs hA O Bt) (e : ∀ i, i < 8 → Bt i = C i) : HeadIs hA O C :=
  ⟨h.1, h.2.1, fun i hi => e i hi ▸ h.2.2 i hi⟩

/-- The row of censuses of a head. -/
def rowOf (O C : Nat → Int) : CRow := ⟨fun i => floatOfInt .f64 (O i), fun i => floatOfInt .f64 (C i), O, C⟩
theorem rowOf_at {w : World} {g : Nat} {t : TypeId} (O C : Nat → Int) (h : Bk w g t #[.complex .f64 (floatOfInt .f64 (O 0)) (floatOfInt .f64 (C 0)), .complex .f64 (floatOfInt .f64 (O 1)) (floatOfInt .f64 (C 1)), .complex .f64 (floatOfInt .f64 (O 2)) (floatOfInt .f64 (C 2)), .complex .f64 (floatOfInt .f64 (O 3)) (floatOfInt .f64 (C 3)), .complex .f64 (floatOfInt .f64 (O 4)) (floatOfInt .f64 (C 4)), .complex .f64 (floatOfInt .f64 (O 5)) (floatOfInt .f64 (C 5)), .complex .f64 (floatOfInt .f64 (O 6)) (floatOfInt .f64 (C 6)), .complex .f64 (floatOfInt .f64 (O 7)) (floatOfInt .f64 (C 7))]) : (rowOf O C).at w g 0 8 := by
  intro i hi
  rw [Nat.zero_add]
  exact (h.cell i).trans (full_at O C i hi)
theorem rowOf_cen (O C : Nat → Int) (hO : ∀ i, i < 8 → 0 ≤ O i ∧ O i ≤ 4294967296) (hC : ∀ i, i < 8 → 0 ≤ C i ∧ C i ≤ 281474976776191) : (rowOf O C).cen 8 :=
  fun i hi => cen_of _ _ (hO i hi).1 (by have := (hO i hi).2; omega) (hC i hi).1 (by have := (hC i hi).2; omega)

/-- What is kept of the head's box over the rounds. -/
def SpSt (w : World) (O Bt : Nat → Int) (j : Nat) (X : World) : Prop :=
  ∃ (cur : Array Value) (B' : Nat → Int), HeadIs cur O B' ∧ (∀ i, i < j → B' i = Bt i % 281474976710656) ∧ (∀ i, j ≤ i → B' i = Bt i) ∧ Bk X w.heap.size 42 cur ∧ Below w.heap.size w X
/-- What is kept at the end. -/
def SpEnd (w : World) (L1 L2 : Nat) (X : World) : Prop := Below w.heap.size w X ∧ L1 < X.heap.size ∧ L2 < X.heap.size
theorem keepE {w X Y : World} {L1 L2 c : Nat} {u v : Value} (h : X.cell? ⟨L2, c, none⟩ = some u ∧ X.cell? ⟨L1, c, none⟩ = some v ∧ SpEnd w L1 L2 X) (hb : Below X.heap.size X Y) : Y.cell? ⟨L2, c, none⟩ = some u ∧ Y.cell? ⟨L1, c, none⟩ = some v ∧ SpEnd w L1 L2 Y := by
  obtain ⟨h1, h2, h3, h4, h5⟩ := h
  exact ⟨(hb.cell (p := ⟨L2, c, none⟩) h5).trans h1, (hb.cell (p := ⟨L1, c, none⟩) h4).trans h2, h3.trans (hb.mono h3.size), Nat.lt_of_lt_of_le h4 hb.size, Nat.lt_of_lt_of_le h5 hb.size⟩
theorem tot_congr (f g : Nat → Int) (n : Nat) (h : ∀ i, i < n → f i = g i) : tot f n = tot g n := by
  induction n with
  | zero => rfl
  | succ n ih => simp only [tot]; rw [ih (fun i hi => h i (by omega)), h n (by omega)]

set_option maxRecDepth 100000 in
set_option maxHeartbeats 8000000 in
theorem splits_any (hA : Array Value) (O Bt : Nat → Int) (k n : Int) (c : Nat) (w : World) (hI : HeadIs hA O Bt) (hk : k % 8 = (c : Int)) (hk0 : 0 ≤ k) (hk1 : k ≤ 255) (hc8 : c < 8) (hn0 : 0 ≤ n) (hn1 : n ≤ 65535) :
    Calls Try.prog 5 #[.agg hA, .int .u8 k, .int .u16 n] w fun e w' => e = .returned (.bool true) ∧ Below w.heap.size w w' := by
  have HI := Lib.hid hI
  clear hI
  go_enter Try.func5, Try.ntmps5
  go_wp2_with fail
  go_loopw [8, 9, 10] (fun o s i wr => ∃ j : Nat, j ≤ 8 ∧ i = .int .i64 j ∧ o = .int .u64 (tot O j) ∧ s = .int .u64 (tot (fun i => Bt i % 281474976710656) j) ∧ SpSt w O Bt j wr) (fun _ _ i _ => 8 - (intOf i).toNat)
  case atStart => exact ⟨0, by omega, rfl, rfl, rfl, hA, Bt, HI.out, fun i hi => absurd hi (by omega), fun _ _ => rfl, Bk.new _ _ _, (Below.refl _ _).alloc (Nat.le_refl _) _⟩
  case round =>
    obtain ⟨j, hj, rfl, rfl, rfl, cur, B', hcur, hlo, hhi, hbk, hbw⟩ := hrel
    have HCur := Lib.hid hcur
    have HLo := Lib.hid hlo
    have HHi := Lib.hid hhi
    have HBk := Lib.hid hbk
    clear hcur hlo hhi hbk
    have tO := tot_le O 4294967295 j (fun i hi => (HI.out.2.1 i (by omega)).2)
    have tB := tot_le (fun i => Bt i % 281474976710656) 281474976710655 j (fun i hi => by have := (HI.out.2.2 i (by omega)).2; omega)
    by_cases hlt : j < 8
    · have c1 : wr.cell? ⟨w.heap.size, 8 + j, none⟩ = some (.int .u32 (O j)) := (HBk.out.cell _).trans (HCur.out.2.1 j hlt).1
      have c2 : wr.cell? ⟨w.heap.size, 16 + j, none⟩ = some (.int .u64 (Bt j)) := (HBk.out.cell _).trans (by rw [(HCur.out.2.2 j hlt).1, HHi.out j (Nat.le_refl _)])
      have c4 : wr.frozen? ⟨w.heap.size, 16 + j, none⟩ = false := HBk.out.frozen _
      have hj0 : (0 : Int) ≤ (j : Int) := by omega
      have hj1 : (j : Int) < 8 := by omega
      obtain ⟨o1, o2⟩ := (HI.out.2.1 j hlt).2
      obtain ⟨b1, b2⟩ := (HI.out.2.2 j hlt).2
      have HT1 := Lib.hid (show tot O (j + 1) = tot O j + O j from rfl)
      have HT2 := Lib.hid (show tot (fun i => Bt i % 281474976710656) (j + 1) = tot (fun i => Bt i % 281474976710656) j + Bt j % 281474976710656 from rfl)
      generalize tot O j = TO at *
      generalize tot (fun i => Bt i % 281474976710656) j = TB at *
      obtain ⟨tO1, tO2⟩ := tO
      obtain ⟨tB1, tB2⟩ := tB
      have m1 : 0 ≤ Bt j % 281474976710656 := by omega
      have m2 : Bt j % 281474976710656 ≤ 281474976710655 := by omega
      go_wp2_with fail
      go_roundw
      case rel =>
        refine ⟨j + 1, by omega, by go_num, congrArg (Value.int .u64) HT1.out.symm, congrArg (Value.int .u64) HT2.out.symm, cur.setIfInBounds (16 + j) (.int .u64 (Bt j % 281474976710656)), upd B' j (Bt j % 281474976710656), HCur.out.setB j hlt _ m1 (by omega), ?_, ?_, HBk.out.set _ _, hbw.setCell (Nat.le_refl _) _⟩
        · intro i hi
          by_cases e : i = j
          · subst e; rw [upd_same]
          · rw [upd_other B' j _ i e]; exact HLo.out i (by omega)
        · intro i hi
          rw [upd_other B' j _ i (by omega)]; exact HHi.out i (by omega)
      case measure => simp [intOf]; omega
    · obtain rfl : j = 8 := by omega
      clear hlt hj
      have hC := HCur.out.congr (C := fun i => Bt i % 281474976710656) (fun i hi => HLo.out i hi)
      have hCb : ∀ i, i < 8 → 0 ≤ (fun i => Bt i % 281474976710656) i ∧ (fun i => Bt i % 281474976710656) i ≤ 281474976710655 := fun i _ => by dsimp only; omega
      generalize (fun i => Bt i % 281474976710656) = C at *
      have HC := Lib.hid hC
      have HCb := Lib.hid hCb
      clear hC hCb HCur HLo HHi HI
      go_wp2_with (refine wpList_load_row rfl 42 _ rfl _ rfl _ cur _ _ HBk.out Try.underlying42 rfl (by rw [HC.out.1]; kernel_rfl) ?_)
      refine (heads_ok cur O C _ HC.out (fun i hi => by have := (HCb.out i hi).2; omega)).mono ?_
      rintro e w1 ⟨rfl, hb1⟩
      have HB1 := Lib.hid ((HBk.out.below hb1 HBk.out.lt).alloc (.cells #[.complex .f64 (floatOfInt .f64 (O 0)) (floatOfInt .f64 (C 0)), .complex .f64 (floatOfInt .f64 (O 1)) (floatOfInt .f64 (C 1)), .complex .f64 (floatOfInt .f64 (O 2)) (floatOfInt .f64 (C 2)), .complex .f64 (floatOfInt .f64 (O 3)) (floatOfInt .f64 (C 3)), .complex .f64 (floatOfInt .f64 (O 4)) (floatOfInt .f64 (C 4)), .complex .f64 (floatOfInt .f64 (O 5)) (floatOfInt .f64 (C 5)), .complex .f64 (floatOfInt .f64 (O 6)) (floatOfInt .f64 (C 6)), .complex .f64 (floatOfInt .f64 (O 7)) (floatOfInt .f64 (C 7))] 43))
      have HL1 := Lib.hid (Bk.new w1 43 #[.complex .f64 (floatOfInt .f64 (O 0)) (floatOfInt .f64 (C 0)), .complex .f64 (floatOfInt .f64 (O 1)) (floatOfInt .f64 (C 1)), .complex .f64 (floatOfInt .f64 (O 2)) (floatOfInt .f64 (C 2)), .complex .f64 (floatOfInt .f64 (O 3)) (floatOfInt .f64 (C 3)), .complex .f64 (floatOfInt .f64 (O 4)) (floatOfInt .f64 (C 4)), .complex .f64 (floatOfInt .f64 (O 5)) (floatOfInt .f64 (C 5)), .complex .f64 (floatOfInt .f64 (O 6)) (floatOfInt .f64 (C 6)), .complex .f64 (floatOfInt .f64 (O 7)) (floatOfInt .f64 (C 7))])
      have hbx := (hbw.trans (hb1.mono hbw.size)).alloc (by have := hb1.size; have := hbw.size; omega) (.cells #[.complex .f64 (floatOfInt .f64 (O 0)) (floatOfInt .f64 (C 0)), .complex .f64 (floatOfInt .f64 (O 1)) (floatOfInt .f64 (C 1)), .complex .f64 (floatOfInt .f64 (O 2)) (floatOfInt .f64 (C 2)), .complex .f64 (floatOfInt .f64 (O 3)) (floatOfInt .f64 (C 3)), .complex .f64 (floatOfInt .f64 (O 4)) (floatOfInt .f64 (C 4)), .complex .f64 (floatOfInt .f64 (O 5)) (floatOfInt .f64 (C 5)), .complex .f64 (floatOfInt .f64 (O 6)) (floatOfInt .f64 (C 6)), .complex .f64 (floatOfInt .f64 (O 7)) (floatOfInt .f64 (C 7))] 43)
      have hw1 : w.heap.size < w1.heap.size := Nat.lt_of_lt_of_le HBk.out.lt hb1.size
      clear hb1 HBk hbw
      go_wp2_with fail
      generalize w1.alloc (.cells #[.complex .f64 (floatOfInt .f64 (O 0)) (floatOfInt .f64 (C 0)), .complex .f64 (floatOfInt .f64 (O 1)) (floatOfInt .f64 (C 1)), .complex .f64 (floatOfInt .f64 (O 2)) (floatOfInt .f64 (C 2)), .complex .f64 (floatOfInt .f64 (O 3)) (floatOfInt .f64 (C 3)), .complex .f64 (floatOfInt .f64 (O 4)) (floatOfInt .f64 (C 4)), .complex .f64 (floatOfInt .f64 (O 5)) (floatOfInt .f64 (C 5)), .complex .f64 (floatOfInt .f64 (O 6)) (floatOfInt .f64 (C 6)), .complex .f64 (floatOfInt .f64 (O 7)) (floatOfInt .f64 (C 7))] 43) = w2 at *
      have hbw := hbx
      clear hbx
      have tO := tot_le O 4294967295 8 (fun i hi => (HC.out.2.1 i hi).2)
      have tC := tot_le C 281474976710655 8 HCb.out
      have hcen := rowOf_cen O C (fun i hi => by have := (HC.out.2.1 i hi).2; omega) (fun i hi => by have := HCb.out i hi; omega)
      have hall := wtot_cen (rowOf O C) 8 hcen (by show tot O 8 ≤ _; omega) (by show tot C 8 ≤ _; omega) 8 (Nat.le_refl _)
      refine (sum_yes (rowOf O C) w1.heap.size 0 8 8 _ (by omega) HL1.out.lt (rowOf_at O C HL1.out) hcen (by show tot O 8 ≤ _; omega) (by show tot C 8 ≤ _; omega)).mono ?_
      rintro e w3 ⟨rfl, hb1⟩
      change Cen _ _ (tot O 8) (tot C 8) at hall
      generalize hXr : wtot (rowOf O C).re 8 = X at *
      generalize hYr : wtot (rowOf O C).im 8 = Y at *
      clear hXr hYr
      have HTO := Lib.hid (show ∀ v, tot (upd O c v) 8 = tot O 8 - O c + v from fun v => tot_upd O c v 8 hc8)
      have HTC := Lib.hid (show ∀ v, tot (upd C c v) 8 = tot C 8 - C c + v from fun v => tot_upd C c v 8 hc8)
      obtain ⟨tO1, tO2⟩ := tO
      obtain ⟨tC1, tC2⟩ := tC
      generalize tot O 8 = TO at *
      generalize tot C 8 = TC at *
      have HB2 := Lib.hid (HB1.out.below hb1 HB1.out.lt)
      have HL2 := Lib.hid (HL1.out.below hb1 HL1.out.lt)
      have hbx := hbw.trans (hb1.mono hbw.size)
      clear hb1 HB1 HL1 hbw hcen
      have hbw := hbx
      clear hbx
      have HAll := Lib.hid hall
      obtain ⟨a1, a2, a3, a4, a5, a6, a7, a8⟩ := hall
      go_wp2_with fail
      refine (parts_yes X Y TO TC _ a1 a2 a5 a6 a7 a8).mono ?_
      rintro e w4 ⟨rfl, hb1⟩
      have HB3 := Lib.hid (HB2.out.below hb1 HB2.out.lt)
      have HL3 := Lib.hid (HL2.out.below hb1 HL2.out.lt)
      have hbx := hbw.trans (hb1.mono hbw.size)
      clear hb1 HB2 HL2 hbw
      have hbw := hbx
      clear hbx
      have hc0 : (0 : Int) ≤ (c : Int) := by omega
      have hc1 : (c : Int) < 8 := by omega
      have q1 : w4.cell? ⟨w.heap.size, 8 + c, none⟩ = some (.int .u32 (O c)) := (HB3.out.cell _).trans (HC.out.2.1 c hc8).1
      have q2 : w4.frozen? ⟨w.heap.size, 8 + c, none⟩ = false := HB3.out.frozen _
      have q3 : w4.cell? ⟨w.heap.size, 16 + c, none⟩ = some (.int .u64 (C c)) := (HB3.out.cell _).trans (HC.out.2.2 c hc8).1
      have q4 : w4.frozen? ⟨w.heap.size, 16 + c, none⟩ = false := HB3.out.frozen _
      obtain ⟨o1, o2⟩ := (HC.out.2.1 c hc8).2
      obtain ⟨d1, d2⟩ := HCb.out c hc8
      by_cases hmax : O c = 4294967295
      · have hmx : (O c == 4294967295) = true := by simpa using hmax
        clear hmax
        go_wp2_with fail
        refine (head_any _).mono ?_
        rintro e w5 ⟨rfl, hb1⟩
        have hbe := hbw.trans (hb1.mono hbw.size)
        go_wp2_with fail
        go_ret
        exact ⟨rfl, hbe⟩
      have hmx : (O c == 4294967295) = false := by simpa using hmax
      have o3 : O c ≤ 4294967294 := by omega
      clear hmax
      have HD2 := Lib.hid ((HC.out.setO c hc8 (O c + 1) (by omega) (by omega)).setB c hc8 (C c + n) (by omega) (by omega))
      have HO2 := Lib.hid (show ∀ i, i < 8 → 0 ≤ upd O c (O c + 1) i ∧ upd O c (O c + 1) i ≤ 4294967295 from fun i hi => (HD2.out.2.1 i hi).2)
      have HC2 := Lib.hid (show ∀ i, i < 8 → 0 ≤ upd C c (C c + n) i ∧ upd C c (C c + n) i ≤ 281474976776190 from fun i hi => by
        by_cases e : i = c
        · subst e; rw [upd_same]; omega
        · rw [upd_other C c _ i e]; have := HCb.out i hi; omega)
      have HTO2 := Lib.hid (show tot (upd O c (O c + 1)) 8 = TO + 1 from by rw [HTO.out]; omega)
      have HTC2 := Lib.hid (show tot (upd C c (C c + n)) 8 = TC + n from by rw [HTC.out]; omega)
      have HSO := Lib.hid (upd_same O c (O c + 1))
      have HSC := Lib.hid (upd_same C c (C c + n))
      have HB4 := Lib.hid ((HB3.out.set (8 + c) (.int .u32 (O c + 1))).set (16 + c) (.int .u64 (C c + n)))
      have HL4 := Lib.hid ((HL3.out.far ⟨w.heap.size, 8 + c, none⟩ (by show w1.heap.size ≠ w.heap.size; omega) (.int .u32 (O c + 1))).far ⟨w.heap.size, 16 + c, none⟩ (by show w1.heap.size ≠ w.heap.size; omega) (.int .u64 (C c + n)))
      have hbx := (hbw.setCell (p := ⟨w.heap.size, 8 + c, none⟩) (Nat.le_refl _) (.int .u32 (O c + 1))).setCell (p := ⟨w.heap.size, 16 + c, none⟩) (Nat.le_refl _) (.int .u64 (C c + n))
      generalize upd O c (O c + 1) = O2 at *
      generalize upd C c (C c + n) = C2 at *
      generalize hc2 : (cur.setIfInBounds (8 + c) (.int .u32 (O c + 1))).setIfInBounds (16 + c) (.int .u64 (C c + n)) = cur2 at *
      clear hc2
      go_wp2_with (refine wpList_load_row rfl 42 _ rfl _ rfl _ cur2 _ _ HB4.out Try.underlying42 rfl (by rw [HD2.out.1]; kernel_rfl) ?_)
      generalize (w4.setCell ⟨w.heap.size, 8 + c, none⟩ (.int .u32 (O c + 1))).setCell ⟨w.heap.size, 16 + c, none⟩ (.int .u64 (C c + n)) = w5 at *
      clear HB3 HL3 hbw q1 q2 q3 q4
      have hbw := hbx
      clear hbx
      refine (heads_ok cur2 O2 C2 _ HD2.out (fun i hi => by have := (HC2.out i hi).2; omega)).mono ?_
      rintro e w6 ⟨rfl, hb1⟩
      have HL5 := Lib.hid ((HL4.out.below hb1 HL4.out.lt).alloc (.cells #[.complex .f64 (floatOfInt .f64 (O2 0)) (floatOfInt .f64 (C2 0)), .complex .f64 (floatOfInt .f64 (O2 1)) (floatOfInt .f64 (C2 1)), .complex .f64 (floatOfInt .f64 (O2 2)) (floatOfInt .f64 (C2 2)), .complex .f64 (floatOfInt .f64 (O2 3)) (floatOfInt .f64 (C2 3)), .complex .f64 (floatOfInt .f64 (O2 4)) (floatOfInt .f64 (C2 4)), .complex .f64 (floatOfInt .f64 (O2 5)) (floatOfInt .f64 (C2 5)), .complex .f64 (floatOfInt .f64 (O2 6)) (floatOfInt .f64 (C2 6)), .complex .f64 (floatOfInt .f64 (O2 7)) (floatOfInt .f64 (C2 7))] 43))
      have HM5 := Lib.hid (Bk.new w6 43 #[.complex .f64 (floatOfInt .f64 (O2 0)) (floatOfInt .f64 (C2 0)), .complex .f64 (floatOfInt .f64 (O2 1)) (floatOfInt .f64 (C2 1)), .complex .f64 (floatOfInt .f64 (O2 2)) (floatOfInt .f64 (C2 2)), .complex .f64 (floatOfInt .f64 (O2 3)) (floatOfInt .f64 (C2 3)), .complex .f64 (floatOfInt .f64 (O2 4)) (floatOfInt .f64 (C2 4)), .complex .f64 (floatOfInt .f64 (O2 5)) (floatOfInt .f64 (C2 5)), .complex .f64 (floatOfInt .f64 (O2 6)) (floatOfInt .f64 (C2 6)), .complex .f64 (floatOfInt .f64 (O2 7)) (floatOfInt .f64 (C2 7))])
      have hbx := (hbw.trans (hb1.mono hbw.size)).alloc (by have := hb1.size; have := hbw.size; omega) (.cells #[.complex .f64 (floatOfInt .f64 (O2 0)) (floatOfInt .f64 (C2 0)), .complex .f64 (floatOfInt .f64 (O2 1)) (floatOfInt .f64 (C2 1)), .complex .f64 (floatOfInt .f64 (O2 2)) (floatOfInt .f64 (C2 2)), .complex .f64 (floatOfInt .f64 (O2 3)) (floatOfInt .f64 (C2 3)), .complex .f64 (floatOfInt .f64 (O2 4)) (floatOfInt .f64 (C2 4)), .complex .f64 (floatOfInt .f64 (O2 5)) (floatOfInt .f64 (C2 5)), .complex .f64 (floatOfInt .f64 (O2 6)) (floatOfInt .f64 (C2 6)), .complex .f64 (floatOfInt .f64 (O2 7)) (floatOfInt .f64 (C2 7))] 43)
      have hw6 : w1.heap.size < w6.heap.size := Nat.lt_of_lt_of_le HL4.out.lt hb1.size
      clear hb1 HL4 HB4 hbw
      go_wp2_with fail
      generalize w6.alloc (.cells #[.complex .f64 (floatOfInt .f64 (O2 0)) (floatOfInt .f64 (C2 0)), .complex .f64 (floatOfInt .f64 (O2 1)) (floatOfInt .f64 (C2 1)), .complex .f64 (floatOfInt .f64 (O2 2)) (floatOfInt .f64 (C2 2)), .complex .f64 (floatOfInt .f64 (O2 3)) (floatOfInt .f64 (C2 3)), .complex .f64 (floatOfInt .f64 (O2 4)) (floatOfInt .f64 (C2 4)), .complex .f64 (floatOfInt .f64 (O2 5)) (floatOfInt .f64 (C2 5)), .complex .f64 (floatOfInt .f64 (O2 6)) (floatOfInt .f64 (C2 6)), .complex .f64 (floatOfInt .f64 (O2 7)) (floatOfInt .f64 (C2 7))] 43) = w7 at *
      have hbw := hbx
      clear hbx
      have hcen := rowOf_cen O2 C2 (fun i hi => by have := HO2.out i hi; omega) (fun i hi => by have := HC2.out i hi; omega)
      have hnow := wtot_cen (rowOf O2 C2) 8 hcen (by show tot O2 8 ≤ _; rw [HTO2.out]; omega) (by show tot C2 8 ≤ _; rw [HTC2.out]; omega) 8 (Nat.le_refl _)
      refine (sum_yes (rowOf O2 C2) w6.heap.size 0 8 8 _ (by omega) HM5.out.lt (rowOf_at O2 C2 HM5.out) hcen (by show tot O2 8 ≤ _; rw [HTO2.out]; omega) (by show tot C2 8 ≤ _; rw [HTC2.out]; omega)).mono ?_
      rintro e w8 ⟨rfl, hb1⟩
      change Cen _ _ (tot O2 8) (tot C2 8) at hnow
      rw [HTO2.out, HTC2.out] at hnow
      generalize hXr : wtot (rowOf O2 C2).re 8 = X2 at *
      generalize hYr : wtot (rowOf O2 C2).im 8 = Y2 at *
      clear hXr hYr
      have HL6 := Lib.hid (HL5.out.below hb1 HL5.out.lt)
      have HM6 := Lib.hid (HM5.out.below hb1 HM5.out.lt)
      have hbx := hbw.trans (hb1.mono hbw.size)
      clear hb1 HL5 HM5 hbw hcen
      have hbw := hbx
      clear hbx
      have HNow := Lib.hid hnow
      obtain ⟨n1, n2, n3, n4, n5, n6, n7, n8⟩ := hnow
      go_wp2_with fail
      refine (change_any X Y X2 Y2 TO TC (TO + 1) (TC + n) _ HAll.out HNow.out).mono ?_
      rintro e w9 ⟨rfl, hb1⟩
      obtain ⟨g1, g2⟩ := csub_isZ n1 a1 (by omega) (by omega)
      obtain ⟨g3, g4⟩ := csub_isZ n2 a2 (by omega) (by omega)
      have HL7 := Lib.hid (HL6.out.below hb1 HL6.out.lt)
      have HM7 := Lib.hid (HM6.out.below hb1 HM6.out.lt)
      have hbx := hbw.trans (hb1.mono hbw.size)
      clear hb1 HL6 HM6 hbw
      have hbw := hbx
      clear hbx
      generalize csub X2 X = D at *
      generalize csub Y2 Y = E at *
      go_wp2_with fail
      refine (of_yes 1 n _ (by omega) (by omega) (by omega) (by omega)).mono ?_
      rintro e w' ⟨rfl, rfl⟩
      have hng : ∀ w, (Op.unary .neg (.complex .f64 D E)).run Try.prog w = .ok (.complex .f64 (Op.negFloat .f64 D) (Op.negFloat .f64 E)) w := fun _ => rfl
      have z1 := neg_isZ g1 g2
      have z2 := neg_isZ g3 g4
      have z3 := neg_lt D g2
      have z4 := neg_lt E g4
      generalize Op.negFloat .f64 D = ND at *
      generalize Op.negFloat .f64 E = NE at *
      go_wp2_with fail
      refine (apply_yes X2 Y2 ND NE (TO + 1) (TC + n) (-(TO + 1 - TO)) (-(TC + n - TC)) _ HNow.out ⟨z1, z2, z3, z4, by omega, by omega, by omega, by omega⟩ (by omega) (by omega) (by omega) (by omega)).mono ?_
      rintro e wA ⟨rfl, hb1⟩
      obtain ⟨k1, k2⟩ := cadd_isZ n1 z1 (by omega) (by omega)
      obtain ⟨k3, k4⟩ := cadd_isZ n2 z2 (by omega) (by omega)
      generalize cadd X2 ND = KX at *
      generalize cadd Y2 NE = KY at *
      have HL8 := Lib.hid (HL7.out.below hb1 HL7.out.lt)
      have HM8 := Lib.hid (HM7.out.below hb1 HM7.out.lt)
      have hbx := hbw.trans (hb1.mono hbw.size)
      clear hb1 HL7 HM7 hbw hng
      have hbw := hbx
      clear hbx
      have y1 := ofInt_isZ 1 (by omega) (by omega)
      have y2 := ofInt_isZ n (by omega) (by omega)
      have u1 := ofInt_isZ (O c) (by omega) (by omega)
      have u2 := ofInt_isZ (C c) (by omega) (by omega)
      have u3 := ofInt_isZ (O c + 1) (by omega) (by omega)
      have u4 := ofInt_isZ (C c + n) (by omega) (by omega)
      have HCm : Hid (wA.cell? ⟨w6.heap.size, c, none⟩ = some (.complex .f64 (floatOfInt .f64 (O c + 1)) (floatOfInt .f64 (C c + n)))) := by
        show wA.cell? _ = _
        rw [HM8.out.cell, full_at O2 C2 c hc8, HSO.out, HSC.out]
      have HCl : Hid (wA.cell? ⟨w1.heap.size, c, none⟩ = some (.complex .f64 (floatOfInt .f64 (O c)) (floatOfInt .f64 (C c)))) := by
        show wA.cell? _ = _
        rw [HL8.out.cell, full_at O C c hc8]
      generalize floatOfInt .f64 1 = W1 at *
      generalize floatOfInt .f64 n = Wn at *
      generalize floatOfInt .f64 (O c + 1) = P1 at *
      generalize floatOfInt .f64 (C c + n) = P2 at *
      generalize floatOfInt .f64 (O c) = Q1 at *
      generalize floatOfInt .f64 (C c) = Q2 at *
      obtain ⟨f1, f2, _⟩ := fsub_eq u3 u1 (by omega) (by omega)
      obtain ⟨f3, f4, _⟩ := fsub_eq u4 u2 (by omega) (by omega)
      have hdf := run_csum2 f1 f3
      clear f1 f3
      have v1 := ord_eq g1 y1 (by omega)
      have v2 := ord_eq g3 y2 (by omega)
      have v3 := ord_eq k1 a1 (by omega)
      have v4 := ord_eq k3 a2 (by omega)
      have v5 := ord_eq f2 y1 (by omega)
      have v6 := ord_eq f4 y2 (by omega)
      have HS := Lib.hid (show wA.cell? ⟨w6.heap.size, c, none⟩ = some (.complex .f64 P1 P2) ∧ wA.cell? ⟨w1.heap.size, c, none⟩ = some (.complex .f64 Q1 Q2) ∧ SpEnd w w1.heap.size w6.heap.size wA from ⟨HCm.out, HCl.out, hbw, HL8.out.lt, HM8.out.lt⟩)
      clear HCm HCl HL8 HM8
      go_wp2_with fail
      go_region_held3 (fun w' => w'.cell? ⟨w6.heap.size, c, none⟩ = some (.complex .f64 P1 P2) ∧ w'.cell? ⟨w1.heap.size, c, none⟩ = some (.complex .f64 Q1 Q2) ∧ SpEnd w w1.heap.size w6.heap.size w')
        (first | assumption | exact keepE HS.out ⟨rfl, rfl, rfl, Nat.le_refl _, fun _ _ => rfl⟩ | exact keepE (by assumption) hbX)
        (first | (go_at_call 14; refine (above_yes X2 Y2 X Y (TO + 1) (TC + n) TO TC _ HNow.out HAll.out (by omega) (by omega)).mono ?_; rintro e w' ⟨rfl, hbX⟩) | (go_at_call 10; refine (head_any _).mono ?_; rintro e w' ⟨rfl, hbX⟩))
      all_goals
        have hfin : Below w.heap.size w w' := (show w'.cell? ⟨w6.heap.size, c, none⟩ = some (.complex .f64 P1 P2) ∧ w'.cell? ⟨w1.heap.size, c, none⟩ = some (.complex .f64 Q1 Q2) ∧ SpEnd w w1.heap.size w6.heap.size w' by assumption).2.2.1
        go_wp2_with fail
        go_ret
        exact ⟨rfl, hfin⟩
end Go.Proofs.Ytknhiplhffibjaa.Cs
