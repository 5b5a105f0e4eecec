/- Plain facts on float64 words that stand for whole numbers of at most 2^53: order, sum, difference, negation, conversion. No program in sight. -/
import GoSem.Core.Float
import Derived.Laws.FloatArith
namespace Go.Proofs.Ytknhiplhffibjaa.Fl
open Ieee

/-- A magnitude with its sign, as an integer. -/
def sg (s : Bool) (m : Nat) : Int := if s then -(m : Int) else m

/-- A datum stands for a whole number. -/
def Stands (d : Datum) (z : Int) : Prop := ∃ s m p, d = .number s m p ∧ sg s m * 2 ^ p.toNat = z * 2 ^ (-p).toNat

/-- A word stands for a whole number. -/
def IsZ (x : Nat) (z : Int) : Prop := Stands (double.read x) z

theorem signed_eq (s : Bool) (m u : Nat) : signed s m u = sg s m * 2 ^ u := by
  have h2 : ((2 ^ u : Nat) : Int) = (2 : Int) ^ u := by simp
  unfold signed sg
  cases s <;> simp [Nat.shiftLeft_eq, Int.neg_mul]

theorem two_pos (k : Nat) : (0 : Int) < 2 ^ k := Int.pow_pos (by decide)

theorem pow_split (a b c : Nat) (h : c = a + b) : (2 : Int) ^ c = 2 ^ a * 2 ^ b := by rw [h, Int.pow_add]

/-- The mantissa brought to a lower place. -/
theorem lowered {s : Bool} {m : Nat} {i base : Int} {z : Int} (hb : base ≤ i) (h : sg s m * 2 ^ i.toNat = z * 2 ^ (-i).toNat) :
    signed s m (i - base).toNat * 2 ^ base.toNat = z * 2 ^ (-base).toNat := by
  rw [signed_eq]
  by_cases h0 : 0 ≤ base
  · have e1 : (-i).toNat = 0 := by omega
    have e2 : (-base).toNat = 0 := by omega
    rw [e1] at h
    rw [e2, Int.mul_assoc, ← pow_split (i - base).toNat base.toNat i.toNat (by omega)]
    exact h
  · have e3 : base.toNat = 0 := by omega
    by_cases h1 : 0 ≤ i
    · have e1 : (-i).toNat = 0 := by omega
      rw [e1] at h
      rw [e3, pow_split i.toNat (-base).toNat (i - base).toNat (by omega), ← Int.mul_assoc, h]
      simp
    · have e1 : i.toNat = 0 := by omega
      rw [e1] at h
      simp only [Int.pow_zero, Int.mul_one] at h
      rw [e3, h, Int.pow_zero, Int.mul_one, Int.mul_assoc, ← pow_split (-i).toNat (i - base).toNat (-base).toNat (by omega)]

theorem stands_common {d e : Datum} {a b : Int} (hd : Stands d a) (he : Stands e b) :
    ∃ s m i t n j, d = .number s m i ∧ e = .number t n j ∧
      signed s m (i - min i j).toNat * 2 ^ (min i j).toNat = a * 2 ^ (-(min i j)).toNat ∧
      signed t n (j - min i j).toNat * 2 ^ (min i j).toNat = b * 2 ^ (-(min i j)).toNat := by
  obtain ⟨s, m, i, rfl, hi⟩ := hd
  obtain ⟨t, n, j, rfl, hj⟩ := he
  exact ⟨s, m, i, t, n, j, rfl, rfl, lowered (by omega) hi, lowered (by omega) hj⟩

theorem compare_scale (x y a b P Q : Int) (hP : 0 < P) (hQ : 0 < Q) (h1 : x * P = a * Q) (h2 : y * P = b * Q) : compare x y = compare a b := by
  have key : ∀ {x y a b P Q : Int}, 0 < P → 0 < Q → x * P = a * Q → y * P = b * Q → x < y → a < b := by
    intro x y a b P Q hP hQ h1 h2 h
    have h3 : x * P < y * P := Int.mul_lt_mul_of_pos_right h hP
    rw [h1, h2] at h3
    exact Int.lt_of_mul_lt_mul_right h3 (Int.le_of_lt hQ)
  rcases Int.lt_trichotomy x y with h | h | h
  · have h' := key hP hQ h1 h2 h
    rw [Int.compare_eq_lt.2 h, Int.compare_eq_lt.2 h']
  · subst h
    have h' : a = b := by
      have h3 : a * Q = b * Q := by rw [← h1, ← h2]
      exact Int.eq_of_mul_eq_mul_right (by omega) h3
    rw [Int.compare_eq_eq.2 rfl, Int.compare_eq_eq.2 h']
  · have h' := key hP hQ h2 h1 h
    rw [Int.compare_eq_gt.2 h, Int.compare_eq_gt.2 h']

theorem order_stands {d e : Datum} {a b : Int} (hd : Stands d a) (he : Stands e b) : d.order e = some (compare a b) := by
  obtain ⟨s, m, i, t, n, j, rfl, rfl, h1, h2⟩ := stands_common hd he
  simp only [Datum.order]
  rw [compare_scale _ _ a b _ _ (two_pos _) (two_pos _) h1 h2]

theorem order_isZ {x y : Nat} {a b : Int} (hx : IsZ x a) (hy : IsZ y b) : double.order x y = some (compare a b) := order_stands hx hy

theorem stands_unique {d : Datum} {a b : Int} (h : Stands d a) (h' : Stands d b) : a = b := by
  have e := order_stands h h'
  have e' := order_stands h h
  rw [e] at e'
  rw [Int.compare_eq_eq.2 (rfl : a = a)] at e'
  injection e' with e'
  exact Int.compare_eq_eq.1 e'

/-- The sum, ahead of its writing. -/
theorem sum_stands {d e : Datum} {a b : Int} (hd : Stands d a) (he : Stands e b) :
    ∃ s m p, d.sum e = some (.number s m p) ∧ sg s m * 2 ^ p.toNat = (a + b) * 2 ^ (-p).toNat := by
  obtain ⟨s, m, i, t, n, j, rfl, rfl, h1, h2⟩ := stands_common hd he
  refine ⟨_, _, _, rfl, ?_⟩
  have h3 : (signed s m (i - min i j).toNat + signed t n (j - min i j).toNat) * 2 ^ (min i j).toNat = (a + b) * 2 ^ (-(min i j)).toNat := by
    rw [Int.add_mul, Int.add_mul, h1, h2]
  rw [← h3]
  congr 1
  generalize signed s m (i - min i j).toNat + signed t n (j - min i j).toNat = T
  unfold sg
  by_cases h0 : T = 0
  · subst h0; simp
  · rw [if_neg h0]
    by_cases hn : T < 0
    · simp [hn]; omega
    · simp [hn]; omega

theorem opposite_stands {d : Datum} {a : Int} (hd : Stands d a) : Stands d.opposite (-a) := by
  obtain ⟨s, m, p, rfl, h⟩ := hd
  refine ⟨!s, m, p, rfl, ?_⟩
  have e : sg (!s) m = - sg s m := by cases s <;> simp [sg]
  rw [e, Int.neg_mul, Int.neg_mul, h]

theorem stands_nat {s : Bool} {m P Q : Nat} {z : Int} (h : sg s m * 2 ^ P = z * 2 ^ Q) : m * 2 ^ P = z.natAbs * 2 ^ Q ∧ sg s z.natAbs = z := by
  have hP := two_pos P
  have hQ := two_pos Q
  have hPn : ((2 ^ P : Nat) : Int) = (2 : Int) ^ P := by simp
  have hQn : ((2 ^ Q : Nat) : Int) = (2 : Int) ^ Q := by simp
  have hm : (0 : Int) ≤ (m : Int) * 2 ^ P := Int.mul_nonneg (by omega) (by omega)
  cases s
  · simp only [sg, Bool.false_eq_true, if_false] at h ⊢
    have hz : 0 ≤ z := by
      rw [h] at hm
      exact Int.nonneg_of_mul_nonneg_left hm hQ
    refine ⟨?_, by omega⟩
    have : ((m * 2 ^ P : Nat) : Int) = ((z.natAbs * 2 ^ Q : Nat) : Int) := by
      rw [Int.natCast_mul, Int.natCast_mul, hPn, hQn, h]
      congr 1; omega
    exact_mod_cast this
  · simp only [sg, if_true] at h ⊢
    rw [Int.neg_mul] at h
    have hz : 0 ≤ -z := by
      have h4 : (m : Int) * 2 ^ P = (-z) * 2 ^ Q := by rw [Int.neg_mul, ← h]; omega
      rw [h4] at hm
      exact Int.nonneg_of_mul_nonneg_left hm hQ
    refine ⟨?_, by omega⟩
    have : ((m * 2 ^ P : Nat) : Int) = ((z.natAbs * 2 ^ Q : Nat) : Int) := by
      rw [Int.natCast_mul, Int.natCast_mul, hPn, hQn]
      have h4 : (m : Int) * 2 ^ P = (-z) * 2 ^ Q := by rw [Int.neg_mul, ← h]; omega
      rw [h4]
      congr 1; omega
    exact_mod_cast this

theorem nat_stands {s : Bool} {m N P Q : Nat} (h : m * 2 ^ P = N * 2 ^ Q) : sg s m * 2 ^ P = sg s N * 2 ^ Q := by
  have hP : ((2 ^ P : Nat) : Int) = (2 : Int) ^ P := by simp
  have hQ : ((2 ^ Q : Nat) : Int) = (2 : Int) ^ Q := by simp
  have h' : (m : Int) * 2 ^ P = (N : Int) * 2 ^ Q := by rw [← hP, ← hQ]; exact_mod_cast h
  cases s
  · simpa [sg] using h'
  · simp only [sg, if_true, Int.neg_mul, h']

theorem cut_exact (way : Toward) (neg : Bool) (K drop : Nat) : way.cut neg (K * 2 ^ drop) drop = K := by
  unfold Toward.cut
  simp only [Nat.shiftLeft_eq, Nat.one_mul]
  by_cases hK : K = 0
  · subst hK
    have hp : 0 < 2 ^ min drop (Nat.log2 0 + 2) := Nat.two_pow_pos _
    simp only [Nat.zero_mul, Nat.zero_div, Nat.zero_mod, Nat.mul_zero]
    cases way <;> simp
  · have hle : drop ≤ (K * 2 ^ drop).log2 + 2 := by
      have : 2 ^ drop ≤ K * 2 ^ drop := Nat.le_mul_of_pos_left _ (by omega)
      have h0 : K * 2 ^ drop ≠ 0 := Nat.mul_ne_zero hK (by have := Nat.two_pow_pos drop; omega)
      have := (Nat.le_log2 h0).2 this
      omega
    rw [Nat.min_eq_left hle]
    have hp : 0 < 2 ^ drop := Nat.two_pow_pos _
    rw [Nat.mul_div_cancel _ hp, Nat.mul_mod_left]
    cases way <;> simp

theorem log2_mul_pow (m k : Nat) (hm : m ≠ 0) : (m * 2 ^ k).log2 = m.log2 + k := by
  induction k with
  | zero => simp
  | succ k ih =>
    have h0 : m * 2 ^ k ≠ 0 := Nat.mul_ne_zero hm (by have := Nat.two_pow_pos k; omega)
    rw [Nat.pow_succ, ← Nat.mul_assoc, Nat.mul_comm _ 2, Nat.log2_two_mul h0, ih]
    omega

theorem read_word (neg : Bool) (q K : Nat) (hq : q ≤ 2000) (h1 : 4503599627370496 ≤ K) (h2 : K < 9007199254740992) :
    double.read (double.word neg (min (q * double.binade + K) double.infRung)) = .number neg K (-1074 + (q : Int)) := by
  have hb : double.binade = 4503599627370496 := by decide
  have hs : double.signWeight = 9223372036854775808 := by decide
  have hi : double.infRung = 9218868437227405312 := by decide
  have hl : double.leastPlace = -1074 := by decide
  unfold Format.read Format.word
  rw [hb, hs, hi, hl]
  rw [Nat.min_eq_left (by omega)]
  have e1 : (if neg = true then 9223372036854775808 + (q * 4503599627370496 + K) else q * 4503599627370496 + K) % 9223372036854775808 = q * 4503599627370496 + K := by
    cases neg
    · simp only [Bool.false_eq_true, if_false]; omega
    · simp only [if_true]; omega
  have e2 : ((if neg = true then 9223372036854775808 + (q * 4503599627370496 + K) else q * 4503599627370496 + K) / 9223372036854775808 % 2 == 1) = neg := by
    cases neg
    · simp only [Bool.false_eq_true, if_false]
      have : (q * 4503599627370496 + K) / 9223372036854775808 = 0 := by omega
      rw [this]; rfl
    · simp only [if_true]
      have : (9223372036854775808 + (q * 4503599627370496 + K)) / 9223372036854775808 = 1 := by omega
      rw [this]; rfl
  simp only [e1, e2]
  rw [if_neg (by omega), if_pos (by omega)]
  have e3 : (q * 4503599627370496 + K) % 4503599627370496 = K - 4503599627370496 := by omega
  have e4 : (q * 4503599627370496 + K) / 4503599627370496 = q + 1 := by omega
  have e5 : 4503599627370496 + (K - 4503599627370496) = K := by omega
  have e6 : (-1074 + ((q + 1 - 1 : Nat) : Int)) = -1074 + (q : Int) := by omega
  rw [e3, e4, e5, e6]

theorem read_zero (neg : Bool) : double.read (double.word neg 0) = .number neg 0 (-1074) := by cases neg <;> decide

/-- Whole numbers of at most 2^53 are written exactly. -/
theorem nearest_exact (neg : Bool) (mag : Nat) (place : Int) (N : Nat) (hN : N ≤ 9007199254740992) (h : mag * 2 ^ place.toNat = N * 2 ^ (-place).toNat) :
    ∃ m p, double.read (double.nearest neg mag place) = .number neg m p ∧ m * 2 ^ p.toNat = N * 2 ^ (-p).toNat := by
  by_cases hm : mag = 0
  · subst hm
    have hN0 : N = 0 := by
      rw [Nat.zero_mul] at h
      rcases Nat.mul_eq_zero.1 h.symm with h | h
      · exact h
      · have := Nat.two_pow_pos (-place).toNat; omega
    subst hN0
    refine ⟨0, -1074, ?_, by rw [Nat.zero_mul, Nat.zero_mul]⟩
    unfold Format.nearest
    rw [if_pos rfl]
    exact read_zero neg
  have hN0 : N ≠ 0 := by
    rintro rfl
    rw [Nat.zero_mul] at h
    rcases Nat.mul_eq_zero.1 h with h | h
    · exact hm h
    · have := Nat.two_pow_pos place.toNat; omega
  have hL : place + (mag.log2 : Int) = (N.log2 : Int) := by
    by_cases hp : 0 ≤ place
    · have e : (-place).toNat = 0 := by omega
      rw [e, Nat.pow_zero, Nat.mul_one] at h
      have := log2_mul_pow mag place.toNat hm
      rw [h] at this
      omega
    · have e : place.toNat = 0 := by omega
      rw [e, Nat.pow_zero, Nat.mul_one] at h
      have := log2_mul_pow N (-place).toNat hN0
      rw [← h] at this
      omega
  have hlo : 2 ^ N.log2 ≤ N := Nat.log2_self_le hN0
  have hhi : N < 2 ^ (N.log2 + 1) := Nat.lt_log2_self
  have hl : double.leastPlace = -1074 := by decide
  have hf : double.fractionBits = 52 := rfl
  have hL53 : N.log2 ≤ 53 := by
    rcases Nat.lt_or_ge 53 N.log2 with hc | hc
    · have : 2 ^ 54 ≤ 2 ^ N.log2 := Nat.pow_le_pow_right (by decide) hc
      omega
    · exact hc
  unfold Format.nearest
  rw [if_neg hm, hl, hf]
  simp only []
  have elast : max (place + (mag.log2 : Int) - ((52 : Nat) : Int)) (-1074) = (N.log2 : Int) - 52 := by omega
  rw [elast]
  generalize hlog : N.log2 = L at *
  -- the mantissa
  obtain ⟨K, hK1, hK2, hKN, hA⟩ : ∃ K, 4503599627370496 ≤ K ∧ K < 9007199254740992 ∧ K * 2 ^ ((L : Int) - 52).toNat = N * 2 ^ (-((L : Int) - 52)).toNat ∧
      mag <<< (place - ((L : Int) - 52)).toNat = K * 2 ^ (((L : Int) - 52) - place).toNat := by
    by_cases h53 : L = 53
    · subst h53
      have hN' : N = 9007199254740992 := by have : (2 : Nat) ^ 53 = 9007199254740992 := by decide
                                            omega
      refine ⟨4503599627370496, by omega, by omega, ?_, ?_⟩
      · rw [hN']; decide
      · rw [Nat.shiftLeft_eq]
        by_cases hp : 1 ≤ place
        · have e1 : (-place).toNat = 0 := by omega
          have e2 : (((53 : Nat) : Int) - 52 - place).toNat = 0 := by omega
          have e3 : place.toNat = (place - (((53 : Nat) : Int) - 52)).toNat + 1 := by omega
          rw [e1, e3, Nat.pow_succ, ← Nat.mul_assoc] at h
          rw [e2]
          omega
        · have e1 : place.toNat = 0 := by omega
          have e2 : (place - (((53 : Nat) : Int) - 52)).toNat = 0 := by omega
          have e3 : (((53 : Nat) : Int) - 52 - place).toNat = (-place).toNat + 1 := by omega
          rw [e1, hN'] at h
          rw [e2, e3, Nat.pow_succ]
          omega
    · have e0 : ((L : Int) - 52).toNat = 0 := by omega
      have e00 : (-((L : Int) - 52)).toNat = 52 - L := by omega
      have hp52 : 2 ^ L * 2 ^ (52 - L) = 4503599627370496 := by
        rw [← Nat.pow_add, show L + (52 - L) = 52 by omega]
      have hp53 : 2 ^ (L + 1) * 2 ^ (52 - L) = 9007199254740992 := by
        rw [← Nat.pow_add, show L + 1 + (52 - L) = 53 by omega]
      refine ⟨N * 2 ^ (52 - L), ?_, ?_, ?_, ?_⟩
      · rw [← hp52]; exact Nat.mul_le_mul_right _ hlo
      · rw [← hp53]; exact Nat.mul_lt_mul_of_pos_right hhi (Nat.two_pow_pos _)
      · rw [e0, e00]; simp
      · rw [Nat.shiftLeft_eq]
        by_cases hp : ((L : Int) - 52) ≤ place
        · have e1 : (((L : Int) - 52) - place).toNat = 0 := by omega
          rw [e1, Nat.pow_zero, Nat.mul_one]
          by_cases hp0 : 0 ≤ place
          · have e2 : (-place).toNat = 0 := by omega
            rw [e2, Nat.pow_zero, Nat.mul_one] at h
            rw [← h, Nat.mul_assoc, ← Nat.pow_add]
            congr 2; omega
          · have e2 : place.toNat = 0 := by omega
            rw [e2, Nat.pow_zero, Nat.mul_one] at h
            rw [h, Nat.mul_assoc, ← Nat.pow_add]
            congr 2; omega
        · have e1 : (place - ((L : Int) - 52)).toNat = 0 := by omega
          have e2 : place.toNat = 0 := by omega
          rw [e2, Nat.pow_zero, Nat.mul_one] at h
          rw [e1, Nat.pow_zero, Nat.mul_one, h, Nat.mul_assoc, ← Nat.pow_add]
          congr 2; omega
  rw [hA, cut_exact]
  refine ⟨K, (L : Int) - 52, ?_, hKN⟩
  have e5 : ((L : Int) - 52 - -1074).toNat = L + 1022 := by omega
  have e6 : (-1074 + ((L + 1022 : Nat) : Int)) = (L : Int) - 52 := by omega
  rw [e5, read_word neg (L + 1022) K (by omega) hK1 hK2, e6]

theorem write_stands {s : Bool} {m : Nat} {p z : Int} (h : sg s m * 2 ^ p.toNat = z * 2 ^ (-p).toNat) (h1 : -9007199254740992 ≤ z) (h2 : z ≤ 9007199254740992) :
    IsZ (double.write (.number s m p)) z := by
  obtain ⟨h3, h4⟩ := stands_nat h
  obtain ⟨m', p', hr, h5⟩ := nearest_exact s m p z.natAbs (by omega) h3
  refine ⟨s, m', p', hr, ?_⟩
  rw [nat_stands (s := s) h5, h4]

theorem add_isZ {x y : Nat} {a b : Int} (hx : IsZ x a) (hy : IsZ y b) (h1 : -9007199254740992 ≤ a + b) (h2 : a + b ≤ 9007199254740992) : ∃ r, double.add x y = some r ∧ IsZ r (a + b) := by
  obtain ⟨s, m, p, hs, hv⟩ := sum_stands hx hy
  exact ⟨double.write (.number s m p), by unfold Format.add; rw [hs]; rfl, write_stands hv h1 h2⟩

theorem sub_isZ {x y : Nat} {a b : Int} (hx : IsZ x a) (hy : IsZ y b) (h1 : -9007199254740992 ≤ a - b) (h2 : a - b ≤ 9007199254740992) : ∃ r, double.sub x y = some r ∧ IsZ r (a - b) := by
  obtain ⟨s, m, p, hs, hv⟩ := sum_stands hx (opposite_stands hy)
  rw [show a + -b = a - b by omega] at hv
  exact ⟨double.write (.number s m p), by unfold Format.sub; rw [hs]; rfl, write_stands hv h1 h2⟩

theorem ofInt_isZ (n : Int) (h1 : -9007199254740992 ≤ n) (h2 : n ≤ 9007199254740992) : IsZ (floatOfInt .f64 n) n := by
  refine write_stands ?_ h1 h2
  simp only [Int.toNat_zero, Int.neg_zero, Int.pow_zero, Int.mul_one, sg]
  by_cases hn : n < 0
  · simp [hn]; omega
  · simp [hn]; omega

theorem toInt_stands {d : Datum} {z : Int} (h : Stands d z) : d.toInt .zero = some z := by
  obtain ⟨s, m, p, rfl, h⟩ := h
  obtain ⟨h3, h4⟩ := stands_nat h
  have hc : Toward.zero.cut s (m <<< p.toNat) (-p).toNat = z.natAbs := by
    rw [Nat.shiftLeft_eq, h3, cut_exact]
  simp only [Datum.toInt, Datum.integral, hc, signed_eq, Int.pow_zero, Int.mul_one, h4]

theorem toVal_isZ {x : Nat} {z : Int} (k : IntKind) (h : IsZ x z) (h1 : k.min ≤ z) (h2 : z ≤ k.max) : floatToIntVal .f64 x k = some z := by
  unfold floatToIntVal
  have : (FloatKind.f64.decode x).toInt .zero = some z := toInt_stands h
  rw [this]
  simp [h1, h2]

theorem xor_top (x : Nat) (h : x < 9223372036854775808) : x ^^^ 9223372036854775808 = 9223372036854775808 + x := by
  have e : (9223372036854775808 : Nat) = 2 ^ 63 := by decide
  rw [e] at h ⊢
  have h1 := Nat.two_pow_add_eq_or_of_lt h 1
  rw [Nat.mul_one] at h1
  rw [h1]
  apply Nat.eq_of_testBit_eq
  intro i
  rw [Nat.testBit_xor, Nat.testBit_or, Nat.testBit_two_pow]
  by_cases hi : 63 = i
  · subst hi
    rw [Nat.testBit_lt_two_pow h]; simp
  · simp [hi]

theorem neg_isZ {x : Nat} {z : Int} (h : IsZ x z) (hx : x < 18446744073709551616) : IsZ (Op.negFloat .f64 x) (-z) := by
  have key : double.read (Op.negFloat .f64 x) = (double.read x).opposite := by
    have hs : double.signWeight = 9223372036854775808 := by decide
    have hw : (2 : Nat) ^ (FloatKind.f64.format.exponentBits + FloatKind.f64.format.fractionBits) = 9223372036854775808 := by decide
    unfold Op.negFloat
    rw [hw]
    unfold Format.read
    rw [hs]
    rcases Nat.lt_or_ge x 9223372036854775808 with hlt | hge
    · rw [xor_top x hlt]
      have e1 : (9223372036854775808 + x) % 9223372036854775808 = x := by omega
      have e2 : x % 9223372036854775808 = x := by omega
      have e3 : (9223372036854775808 + x) / 9223372036854775808 = 1 := by omega
      have e4 : x / 9223372036854775808 = 0 := by omega
      simp only [e1, e2, e3, e4]
      split
      · rfl
      · split
        · rfl
        · split <;> rfl
    · obtain ⟨r, rfl⟩ : ∃ r, x = 9223372036854775808 + r := ⟨x - 9223372036854775808, by omega⟩
      rw [← xor_top r (by omega), Nat.xor_assoc, Nat.xor_self, Nat.xor_zero, xor_top r (by omega)]
      have e1 : (9223372036854775808 + r) % 9223372036854775808 = r := by omega
      have e2 : r % 9223372036854775808 = r := by omega
      have e3 : (9223372036854775808 + r) / 9223372036854775808 = 1 := by omega
      have e4 : r / 9223372036854775808 = 0 := by omega
      simp only [e1, e2, e3, e4]
      split
      · rfl
      · split
        · rfl
        · split <;> rfl
  unfold IsZ
  rw [key]
  exact opposite_stands h

theorem cut_half (neg : Bool) (N p : Nat) (hN : 2 ≤ N) : ∃ K, Toward.even.cut neg (N * 2 ^ p) (p + 1) = K ∧ N / 2 ≤ K ∧ K ≤ N / 2 + N % 2 := by
  refine ⟨_, rfl, ?_⟩
  unfold Toward.cut
  simp only [Nat.shiftLeft_eq, Nat.one_mul]
  have hp : 0 < 2 ^ p := Nat.two_pow_pos _
  have hp1 : 2 ^ (p + 1) = 2 ^ p * 2 := Nat.pow_succ 2 p
  have hle : p + 1 ≤ (N * 2 ^ p).log2 + 2 := by
    have h0 : N * 2 ^ p ≠ 0 := Nat.mul_ne_zero (by omega) (by omega)
    have h1 : 2 ^ (p + 1) ≤ N * 2 ^ p := by rw [hp1, Nat.mul_comm]; exact Nat.mul_le_mul_right _ hN
    have := (Nat.le_log2 h0).2 h1
    omega
  rw [Nat.min_eq_left hle, hp1]
  have e1 : N * 2 ^ p / (2 ^ p * 2) = N / 2 := by
    rw [← Nat.div_div_eq_div_mul, Nat.mul_div_cancel _ hp]
  have e2 : N * 2 ^ p % (2 ^ p * 2) = N % 2 * 2 ^ p := by
    rw [Nat.mul_comm N, Nat.mul_mod_mul_left, Nat.mul_comm]
  rw [e1, e2]
  have hm : N % 2 = 0 ∨ N % 2 = 1 := by omega
  have d1 : decide (2 ^ p * 2 < 2 * (N % 2 * 2 ^ p)) = false := by
    rcases hm with h | h <;> rw [h] <;> simp <;> omega
  rw [d1]
  rcases hm with h | h
  · have d2 : (2 ^ p * 2 == 2 * (N % 2 * 2 ^ p)) = false := by rw [h]; simp; omega
    rw [d2]; simp
  · rw [h]
    cases (N / 2 % 2 == 1) <;> cases (2 ^ p * 2 == 2 * (1 * 2 ^ p)) <;> simp

/-- Whole numbers from 2^53 to 2^54 are written as one of at least 2^53. -/
theorem nearest_great (neg : Bool) (mag : Nat) (place : Int) (N : Nat) (hN0 : 9007199254740992 ≤ N) (hN1 : N ≤ 18014398509481984) (h : mag * 2 ^ place.toNat = N * 2 ^ (-place).toNat) :
    ∃ m p V, double.read (double.nearest neg mag place) = .number neg m p ∧ m * 2 ^ p.toNat = V * 2 ^ (-p).toNat ∧ 9007199254740992 ≤ V := by
  have hm : mag ≠ 0 := by
    rintro rfl
    rw [Nat.zero_mul] at h
    rcases Nat.mul_eq_zero.1 h.symm with h | h
    · omega
    · have := Nat.two_pow_pos (-place).toNat; omega
  have hL : place + (mag.log2 : Int) = (N.log2 : Int) := by
    by_cases hp : 0 ≤ place
    · have e : (-place).toNat = 0 := by omega
      rw [e, Nat.pow_zero, Nat.mul_one] at h
      have := log2_mul_pow mag place.toNat hm
      rw [h] at this
      omega
    · have e : place.toNat = 0 := by omega
      rw [e, Nat.pow_zero, Nat.mul_one] at h
      have := log2_mul_pow N (-place).toNat (by omega)
      rw [← h] at this
      omega
  have hl : double.leastPlace = -1074 := by decide
  have hf : double.fractionBits = 52 := rfl
  have p53 : (2 : Nat) ^ 53 = 9007199254740992 := by decide
  have p54 : (2 : Nat) ^ 54 = 18014398509481984 := by decide
  by_cases hT : N = 18014398509481984
  · -- 2^54 itself
    have hlog : N.log2 = 54 := by rw [hT]; decide
    unfold Format.nearest
    rw [if_neg hm, hl, hf]
    simp only []
    have elast : max (place + (mag.log2 : Int) - ((52 : Nat) : Int)) (-1074) = 2 := by omega
    rw [elast]
    have hA : mag <<< (place - 2).toNat = 4503599627370496 * 2 ^ (2 - place).toNat := by
      rw [Nat.shiftLeft_eq]
      by_cases hp : 2 ≤ place
      · have e1 : (-place).toNat = 0 := by omega
        have e2 : (2 - place).toNat = 0 := by omega
        have e3 : place.toNat = (place - 2).toNat + 2 := by omega
        rw [e1, e3, Nat.pow_add, ← Nat.mul_assoc] at h
        rw [e2]
        omega
      · have e2 : (place - 2).toNat = 0 := by omega
        rw [e2, Nat.pow_zero, Nat.mul_one]
        by_cases hp1 : place = 1
        · subst hp1
          have e4 : ((1 : Int)).toNat = 1 := by decide
          have e5 : (-(1 : Int)).toNat = 0 := by decide
          have e6 : ((2 : Int) - 1).toNat = 1 := by decide
          rw [e4, e5] at h
          rw [e6]
          omega
        · have e1 : place.toNat = 0 := by omega
          have e3 : (2 - place).toNat = (-place).toNat + 2 := by omega
          rw [e1, hT] at h
          rw [e3, Nat.pow_add]
          omega
    rw [hA, cut_exact]
    refine ⟨4503599627370496, 2, 18014398509481984, ?_, by decide, by omega⟩
    have e5 : ((2 : Int) - -1074).toNat = 1076 := by decide
    rw [e5, read_word neg 1076 4503599627370496 (by omega) (by omega) (by omega)]
    rfl
  · have hlog : N.log2 = 53 := by
      have h1 := (Nat.le_log2 (n := N) (k := 53) (by omega)).2 (by omega)
      have h2 : N.log2 < 54 := (Nat.log2_lt (by omega)).2 (by omega)
      omega
    unfold Format.nearest
    rw [if_neg hm, hl, hf]
    simp only []
    have elast : max (place + (mag.log2 : Int) - ((52 : Nat) : Int)) (-1074) = 1 := by omega
    rw [elast]
    obtain ⟨K, hK, hK1, hK2⟩ : ∃ K, Toward.even.cut neg (mag <<< (place - 1).toNat) (1 - place).toNat = K ∧ N / 2 ≤ K ∧ K ≤ N / 2 + N % 2 := by
      by_cases hp : 1 ≤ place
      · have e1 : (-place).toNat = 0 := by omega
        have e2 : (1 - place).toNat = 0 := by omega
        have e3 : place.toNat = (place - 1).toNat + 1 := by omega
        rw [e1, e3, Nat.pow_succ, ← Nat.mul_assoc] at h
        rw [e2, Nat.shiftLeft_eq]
        have := cut_exact .even neg (mag * 2 ^ (place - 1).toNat) 0
        rw [Nat.pow_zero, Nat.mul_one] at this
        exact ⟨_, this, by omega, by omega⟩
      · have e1 : place.toNat = 0 := by omega
        have e2 : (place - 1).toNat = 0 := by omega
        have e3 : (1 - place).toNat = (-place).toNat + 1 := by omega
        rw [e1, Nat.pow_zero, Nat.mul_one] at h
        rw [e2, e3, Nat.shiftLeft_eq, Nat.pow_zero, Nat.mul_one, h]
        exact cut_half neg N _ (by omega)
    rw [hK]
    have e5 : ((1 : Int) - -1074).toNat = 1075 := by decide
    rw [e5]
    by_cases hKT : K = 9007199254740992
    · subst hKT
      refine ⟨4503599627370496, 2, 18014398509481984, ?_, by decide, by omega⟩
      have e6 : 1075 * double.binade + 9007199254740992 = 1076 * double.binade + 4503599627370496 := by decide
      rw [e6, read_word neg 1076 4503599627370496 (by omega) (by omega) (by omega)]
      rfl
    · refine ⟨K, 1, 2 * K, ?_, ?_, by omega⟩
      · rw [read_word neg 1075 K (by omega) (by omega) (by omega)]
        rfl
      · have e4 : ((1 : Int)).toNat = 1 := by decide
        have e7 : (-(1 : Int)).toNat = 0 := by decide
        rw [e4, e7]; omega

/-- 2^53 less a number that may be negative: a census is not above it, if it is not above the true difference. -/
theorem sub_most {m y : Nat} {b : Int} (hm : IsZ m 9007199254740992) (hy : IsZ y b) (h1 : -9007199254740992 ≤ b) (h2 : b < 0) : ∃ r V, double.sub m y = some r ∧ IsZ r V ∧ 9007199254740992 ≤ V := by
  obtain ⟨s, g, p, hs, hv⟩ := sum_stands hm (opposite_stands hy)
  obtain ⟨h3, h4⟩ := stands_nat hv
  obtain ⟨m', p', V, hr, h5, h6⟩ := nearest_great s g p ((9007199254740992 : Int) + -b).natAbs (by omega) (by omega) h3
  have hs' : s = false := by
    cases s
    · rfl
    · simp only [sg, if_true] at h4; omega
  subst hs'
  refine ⟨double.write (.number false g p), V, by unfold Format.sub; rw [hs]; rfl, ⟨false, m', p', hr, ?_⟩, by omega⟩
  rw [nat_stands (s := false) h5]
  simp [sg]

/-- The sum, the difference, as words. -/
def fadd (x y : Nat) : Nat := (double.add x y).getD 0
def fsub (x y : Nat) : Nat := (double.sub x y).getD 0
theorem fadd_eq {x y : Nat} {a b : Int} (hx : IsZ x a) (hy : IsZ y b) (h1 : -9007199254740992 ≤ a + b) (h2 : a + b ≤ 9007199254740992) : double.add x y = some (fadd x y) ∧ IsZ (fadd x y) (a + b) ∧ fadd x y < 18446744073709551616 := by
  obtain ⟨r, hr, hz⟩ := add_isZ hx hy h1 h2
  have hlt := double.add_lt hr
  have e : fadd x y = r := by unfold fadd; rw [hr]; rfl
  rw [e]
  exact ⟨hr, hz, hlt⟩
theorem fsub_eq {x y : Nat} {a b : Int} (hx : IsZ x a) (hy : IsZ y b) (h1 : -9007199254740992 ≤ a - b) (h2 : a - b ≤ 9007199254740992) : double.sub x y = some (fsub x y) ∧ IsZ (fsub x y) (a - b) ∧ fsub x y < 18446744073709551616 := by
  obtain ⟨r, hr, hz⟩ := sub_isZ hx hy h1 h2
  have hlt := double.sub_lt hr
  have e : fsub x y = r := by unfold fsub; rw [hr]; rfl
  rw [e]
  exact ⟨hr, hz, hlt⟩
theorem fsub_most {m y : Nat} {b : Int} (hm : IsZ m 9007199254740992) (hy : IsZ y b) (h1 : -9007199254740992 ≤ b) (h2 : b ≤ 9007199254740992) :
    ∃ V, double.sub m y = some (fsub m y) ∧ IsZ (fsub m y) V ∧ (0 ≤ b → V = 9007199254740992 - b) ∧ (b < 0 → 9007199254740992 ≤ V) := by
  by_cases hb : 0 ≤ b
  · obtain ⟨hr, hz, _⟩ := fsub_eq hm hy (by omega) (by omega)
    exact ⟨_, hr, hz, fun _ => rfl, fun h => absurd h (by omega)⟩
  · obtain ⟨r, V, hr, hz, hV⟩ := sub_most hm hy h1 (by omega)
    have e : fsub m y = r := by unfold fsub; rw [hr]; rfl
    rw [e]
    exact ⟨V, hr, hz, fun h => absurd h hb, fun _ => hV⟩
theorem ofInt_lt (n : Int) : floatOfInt .f64 n < 18446744073709551616 := double.write_lt (.number (n < 0) n.natAbs 0)
theorem isZ_zero : IsZ 0 0 := ⟨false, 0, -1074, by decide, by rw [show sg false 0 = 0 from rfl, Int.zero_mul, Int.zero_mul]⟩
theorem ofInt_zero : floatOfInt .f64 0 = 0 := by decide
theorem isZ_most : IsZ 4845873199050653696 9007199254740992 := by
  have h := ofInt_isZ 9007199254740992 (by omega) (by omega)
  have e : floatOfInt .f64 9007199254740992 = 4845873199050653696 := by decide
  rwa [e] at h
theorem isZ_least : IsZ 14069245235905429504 (-9007199254740992) := by
  have h := ofInt_isZ (-9007199254740992) (by omega) (by omega)
  have e : floatOfInt .f64 (-9007199254740992) = 14069245235905429504 := by decide
  rwa [e] at h

end Go.Proofs.Ytknhiplhffibjaa.Fl
