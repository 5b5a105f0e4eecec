/- A root's block tells that root. -/
import Derived.Test.YtjnbpbnhkinggaaGreatDoorRFormat
namespace Go.Proofs.YtjnbpbnhkinggaaGreatDoor.St
open Go.RowKit

theorem mod_mul (n p : Int) (h : 0 ≤ n) (hp : 0 ≤ p) : n % (p * 256) = n % p + p * (n / p % 256) := by
  obtain ⟨m, rfl⟩ := Int.eq_ofNat_of_zero_le h
  obtain ⟨q, rfl⟩ := Int.eq_ofNat_of_zero_le hp
  have h2 : ((m % (q * 256) : Nat) : Int) = ((m % q + q * (m / q % 256) : Nat) : Int) := by rw [Nat.mod_mul]
  rw [Int.natCast_emod, Int.natCast_mul, Int.natCast_add, Int.natCast_mul, Int.natCast_emod, Int.natCast_emod, Int.natCast_ediv] at h2
  exact h2
theorem un_le (n : Int) (h : 0 ≤ n) (k : Nat) : un (le n k) = n % 256 ^ k := by
  induction k with
  | zero => simp [le, un]
  | succ k ih =>
    have hp : (0 : Int) < 256 ^ k := Int.pow_pos (by decide)
    have e : ((UInt8.ofNat (n / 256 ^ k % 256).toNat).toNat : Int) = n / 256 ^ k % 256 := by
      rw [UInt8.toNat_ofNat']
      omega
    simp only [le]
    rw [un_snoc, ih, le_length, e, Int.pow_succ]
    exact (mod_mul n (256 ^ k) h (Int.le_of_lt hp)).symm
theorem un_le_of (n : Int) (h : 0 ≤ n) (k : Nat) (hk : n < 256 ^ k) : un (le n k) = n := by
  rw [un_le n h k, Int.emod_eq_of_lt h hk]
theorem seg (A B C : List UInt8) (o k : Nat) (hA : A.length = o) (hB : B.length = k) : ((A ++ B ++ C).drop o).take k = B := by
  subst hA hB
  rw [List.append_assoc, List.drop_left, List.take_left]
theorem rblk_seg (r : Rt) (A B C : List UInt8) (o k : Nat) (hA : A.length = o) (hB : B.length = k) (h : o + k ≤ 252) (e : filled 82 r.bytes = A ++ B ++ C) : ((rblk r).drop o).take k = B := by
  have hF : (filled 82 r.bytes).length = 256 := filled_length _ _ (by rw [Rt.bytes_length]; omega)
  have h1 : (rblk r).take 252 = (filled 82 r.bytes).take 252 := sld_take _ hF
  have h2 : ((rblk r).drop o).take k = (((rblk r).take 252).drop o).take k := by
    rw [List.drop_take, List.take_take, Nat.min_eq_left (by omega)]
  rw [h2, h1, List.drop_take, List.take_take, Nat.min_eq_left (by omega), e]
  exact seg A B C o k hA hB
theorem filled_eq (r : Rt) : filled 82 r.bytes = [82] ++ le r.gen 8 ++ le r.size 4 ++ le r.picks 4 ++ le r.names 4 ++ le r.free 4 ++ le r.next 4 ++ le r.hint 4 ++ le r.vols 1 ++ List.replicate 222 0 := by
  unfold filled
  rw [Rt.bytes_length]
  simp [Rt.bytes, Rt.to, Rt.word]
theorem rv_root (r : Rt) (A C : List UInt8) (x : Int) (o k : Nat) (h0 : 0 ≤ x) (h1 : x < 256 ^ k) (hA : A.length = o) (h : o + k ≤ 252) (e : filled 82 r.bytes = A ++ le x k ++ C) : rv true (rblk r) o k = x := by
  unfold rv
  rw [if_pos rfl, rblk_seg r A (le x k) C o k hA (le_length x k) h e, un_le_of x h0 k h1]
theorem Rt.same {a b : Rt} (h1 : a.gen = b.gen) (h2 : a.size = b.size) (h3 : a.picks = b.picks) (h4 : a.names = b.names) (h5 : a.free = b.free) (h6 : a.next = b.next) (h7 : a.hint = b.hint) (h8 : a.vols = b.vols) : a = b := by
  cases a; cases b; simp only at h1 h2 h3 h4 h5 h6 h7 h8; subst h1 h2 h3 h4 h5 h6 h7 h8; rfl
theorem got_eq (b : List UInt8) : got true b 7 = ⟨rv true b 1 8, rv true b 9 4, rv true b 13 4, rv true b 17 4, rv true b 21 4, rv true b 25 4, rv true b 29 4, rv true b 33 1⟩ := by
  simp [got, rp]
theorem got_root (r : Rt) (h : r.Ok) : got true (rblk r) 7 = r := by
  have e := filled_eq r
  have hl := le_length
  have hg := h.gen; have hs := h.size; have hp := h.picks; have hn := h.names; have hf := h.free; have hx := h.next; have hh := h.hint; have hv := h.vols
  simp only [u32] at hs hp hn hf hx hh
  rw [got_eq]
  apply Rt.same <;> dsimp only
  · exact rv_root r [82] _ r.gen 1 8 hg.1 (by omega) rfl (by omega) (by rw [e]; simp only [List.append_assoc]; rfl)
  · exact rv_root r ([82] ++ le r.gen 8) _ r.size 9 4 hs.1 (by omega) (by simp [hl]) (by omega) (by rw [e]; simp only [List.append_assoc]; rfl)
  · exact rv_root r ([82] ++ le r.gen 8 ++ le r.size 4) _ r.picks 13 4 hp.1 (by omega) (by simp [hl]) (by omega) (by rw [e]; simp only [List.append_assoc]; rfl)
  · exact rv_root r ([82] ++ le r.gen 8 ++ le r.size 4 ++ le r.picks 4) _ r.names 17 4 hn.1 (by omega) (by simp [hl]) (by omega) (by rw [e]; simp only [List.append_assoc]; rfl)
  · exact rv_root r ([82] ++ le r.gen 8 ++ le r.size 4 ++ le r.picks 4 ++ le r.names 4) _ r.free 21 4 hf.1 (by omega) (by simp [hl]) (by omega) (by rw [e]; simp only [List.append_assoc]; rfl)
  · exact rv_root r ([82] ++ le r.gen 8 ++ le r.size 4 ++ le r.picks 4 ++ le r.names 4 ++ le r.free 4) _ r.next 25 4 hx.1 (by omega) (by simp [hl]) (by omega) (by rw [e]; simp only [List.append_assoc]; rfl)
  · exact rv_root r ([82] ++ le r.gen 8 ++ le r.size 4 ++ le r.picks 4 ++ le r.names 4 ++ le r.free 4 ++ le r.next 4) _ r.hint 29 4 hh.1 (by omega) (by simp [hl]) (by omega) (by rw [e]; simp only [List.append_assoc]; rfl)
  · exact rv_root r ([82] ++ le r.gen 8 ++ le r.size 4 ++ le r.picks 4 ++ le r.names 4 ++ le r.free 4 ++ le r.next 4 ++ le r.hint 4) (List.replicate 222 0) r.vols 33 1 hv.1 (by omega) (by simp [hl]) (by omega) (by rw [e])
theorem rblk_at (r : Rt) (i : Nat) (h : i < 252) : (rblk r).getD i 0 = (filled 82 r.bytes).getD i 0 := by
  have hF : (filled 82 r.bytes).length = 256 := filled_length _ _ (by rw [Rt.bytes_length]; omega)
  have h1 : (rblk r).take 252 = (filled 82 r.bytes).take 252 := sld_take _ hF
  have h2 := congrArg (fun l => l.getD i 0) h1
  simpa [List.getD, List.getElem?_take, h] using h2
theorem gets_root (r : Rt) (h : r.Ok) (hm : r.may = true) : Gets (rblk r) r 0 := by
  intro w
  have hl := rblk_length r
  have hF : (filled 82 r.bytes).length = 256 := filled_length _ _ (by rw [Rt.bytes_length]; omega)
  have h0 : (rblk r).getD 0 0 = 82 := by rw [rblk_at r 0 (by omega)]; rfl
  have h0' : (rblk r)[0]'(by omega) = 82 := by
    rw [List.getD_eq_getElem?_getD, List.getElem?_eq_getElem (by omega)] at h0
    exact h0
  have hs : sld (rblk r) = rblk r := sld_sld _ hF
  have hf : ((sld (rblk r) == rblk r) && (((rblk r)[0]'(by omega)).toNat : Int) == 82) = true := by
    rw [h0', hs, beq_self_eq_true]; rfl
  have hz : ∀ i, 34 ≤ i → i < 252 → (rblk r).getD i 0 = 0 := by
    intro i hi hi2
    rw [rblk_at r i hi2, filled_eq]
    rw [List.getD_eq_getElem?_getD, List.getElem?_append_right (by simp [le_length]; omega), List.getElem?_replicate]
    split <;> rfl
  have := get_any (rblk r) hl true hf (fun _ => hz) w
  rw [gotV_may (by rw [got_root r h]; exact hm), got_root r h] at this
  exact this
end Go.Proofs.YtjnbpbnhkinggaaGreatDoor.St
