/- The contract of field.Writer.Num. -/
import Derived.Test.YtjnbpbnhkinggaaGreatDoorSField
namespace Go.Proofs.YtjnbpbnhkinggaaGreatDoor.St
open Go.RowKit
theorem info_u8 : (Tryz.prog.info? 5).map (fun i => (i.zero, i.size, i.bytes)) = some (some (.int .u8 0), 1, 1) := by kernel_rfl
theorem bA_snoc (l : List UInt8) (c : UInt8) : (bA (l ++ [c])).toList = (bA l).toList ++ [.int .u8 (c.toNat : Int)] := by simp [bA, Extern.Stop.cell]

theorem own_slice {w : World} {b : Nat} {e : TypeId} {size : Nat} {v : Value} {n : Nat} {xs : List Value} (h : w.ownsRow b e size v (n + 1) xs) : ∃ g cap, v = .slice (some ⟨g, 0, none⟩) (n + 1) cap := by
  obtain ⟨_, h2⟩ := h
  rcases h2 with ⟨_, h2⟩ | ⟨g, cap, _, rfl, _⟩
  · omega
  · exact ⟨g, cap, rfl⟩
theorem byte_eq (n : Int) (j : Nat) (h : 0 ≤ n) : n / 256 ^ j % 256 = ((UInt8.ofNat (n / 256 ^ j % 256).toNat).toNat : Int) := by
  have h1 : 0 ≤ n / 256 ^ j := Int.ediv_nonneg h (Int.le_of_lt (Int.pow_pos (by decide)))
  rw [UInt8.toNat_ofNat']
  omega
theorem byte_eq0 (n : Int) : n % 256 = ((UInt8.ofNat (n % 256).toNat).toNat : Int) := by
  rw [UInt8.toNat_ofNat']
  omega
theorem le_one (l : List UInt8) (n : Int) : l ++ le n 0 ++ [UInt8.ofNat (n % 256).toNat] = l ++ le n 1 := by simp [le]
theorem le_succ (l : List UInt8) (n : Int) (j : Nat) : l ++ le n j ++ [UInt8.ofNat (n / 256 ^ j % 256).toNat] = l ++ le n (j + 1) := by simp [le]
theorem div_succ (n : Int) (j : Nat) : n / 256 ^ j / 256 = n / 256 ^ (j + 1) := by rw [Int.ediv_ediv_of_nonneg (Int.le_of_lt (Int.pow_pos (by decide))), Int.pow_succ]
theorem wr_append {w w1 : World} {p : Nat} {v v1 : Value} {l : List UInt8} {x : Int} (h : Wr w p v l) (o : Obj) (hown : w1.ownsRow 0 5 1 v1 (l.length + 1) ((bA l).toList ++ [.int .u8 x])) (hg : (w.alloc o).grownBy w1 v.ownBlock) (hloc : v1.ownBlock = v.ownBlock ∨ v1.ownBlock = some (w.alloc o).heap.size) :
    Bk w1 p 144 #[v, .bool true, .bool false] ∧ ∀ c : UInt8, x = (c.toNat : Int) → WrTo w p v (l ++ [c]) v1 (w1.setCell ⟨p, 0, none⟩ v1) := by
  have hne : ∀ g, v.ownBlock = some g → g ≠ p := fun g hg e => own_ne h.2 h.1 (by decide) (by rw [hg, e])
  have hb1 : Bk w1 p 144 #[v, .bool true, .bool false] := (h.1.alloc o).fr (Fr.of_grown hg) (fun e => hne p e.symm rfl)
  refine ⟨hb1, fun c hc => ?_⟩
  subst hc
  have hn1 : ∀ g, v1.ownBlock = some g → g ≠ p := fun g hg e => own_ne hown hb1 (by decide) (by rw [hg, e])
  have hs := hb1.set 0 v1
  refine ⟨⟨hs, ?_⟩, ?_, ?_⟩
  · rw [bA_snoc]
    simp only [List.length_append, List.length_singleton]
    exact own_fr hown (Fr.setCell (S := fun i => i = p) (Fr.refl _ _) (p := ⟨p, 0, none⟩) (fun _ => rfl) v1) (fun g hg e => hn1 g hg e)
  · rcases hloc with hloc | hloc
    · exact .inl hloc
    · exact .inr ⟨_, hloc, by simp⟩
  · refine Fr.setCell ?_ (fun _ => .inl rfl) _
    exact ((Fr.refl _ w).alloc o).trans (Fr.of_grown hg) (fun i _ e => .inr e)

set_option maxRecDepth 100000 in
set_option maxHeartbeats 1000000 in
theorem wnum_any (p : Nat) (v : Value) (l : List UInt8) (n : Int) (k : Nat) (hk : k = 1 ∨ k = 2 ∨ k = 4 ∨ k = 8) (h0 : 0 ≤ n) (h1 : n ≤ 18446744073709551615) (hl : l.length ≤ 1000000) (w : World) (h : Wr w p v l) :
    Calls Tryz.prog 44 #[.pointer (some ⟨p, 0, none⟩), .int .u64 n, .int .i64 k] w fun e w' => e = .returned (.tuple #[]) ∧ ∃ v', WrTo w p v (l ++ le n k) v' w' := by
  have hk8 : 1 ≤ k ∧ k ≤ 8 := by omega
  have HN := Lib.hid (wnone_any p v l w h)
  have HW := Lib.hid (width_any k hk)
  have HH := Lib.hid (show WrTo w p v (l ++ le n 0) v w by simpa [le] using WrTo.refl h)
  obtain ⟨i0, hi, hz0, hz1, hz2⟩ := info_parts info_u8
  clear h hk
  go_enter Tryz.func44, Tryz.ntmps44
  go_wp2_with fail
  refine wp_scope_jumps 0 (fun a' w' => ∃ (j : Nat) (v' : Value) (u3 u4 u5 u6 u7 u8 u9 u10 u11 u12 u13 u14 u15 u16 u17 u18 u19 u20 u21 u22 u23 u24 u25 u26 u27 u28 u29 u30 : Value), a' = { tmps := #[.pointer (some ⟨p, 0, none⟩), .int .u64 (n / 256 ^ j), .int .i64 ((k - j : Nat) : Int), u3, u4, u5, u6, u7, u8, u9, u10, u11, u12, u13, u14, u15, u16, u17, u18, u19, u20, u21, u22, u23, u24, u25, u26, u27, u28, u29, u30], defers := [] } ∧ 1 ≤ j ∧ j < k ∧ WrTo w p v (l ++ le n j) v' w') (fun a' _ => (intOf (a'.tmps.getD 2 undef)).toNat) rfl ?_ ?_
  · go_wp2_with fail
    refine (HN.out).mono ?_
    rintro e w1 ⟨rfl, rfl⟩
    go_wp2_with fail
    refine (HW.out _).mono ?_
    rintro e w1 ⟨rfl, rfl⟩
    go_wp2_with fail
    go_step3
    have c0 : w.cell? ⟨p, 0, none⟩ = some v := HH.out.1.1.cell 0
    have HO := Lib.hid HH.out.1.2
    have hlen : (l ++ le n 0).length ≤ 1000008 := by rw [List.length_append, le_length]; omega
    go_wp2_with (first | (at_builtin; refine wpList_append_own_at _ rfl _ _ 142 rfl 0 5 i0 (.int .u8 0) 1 1 Tryz.underlying142 hi hz0 hz1 hz2 rfl (by decide) _ _ _ rfl (HO.out.alloc _) ⟨_, 0, none⟩ 1 1 [.int .u8 _] rfl rfl (cell_one_new _ _ _) (by simp [Value.oneCell']) (by unfold maxLen; omega) (by omega) (Nat.zero_le _) ?_; intro v1 w1 hown1 hgrow1 hnil1 hloc1; obtain ⟨g1, cp1, rfl⟩ := own_slice hown1; obtain ⟨b1, t1⟩ := wr_append HH.out.1 _ hown1 hgrow1 hloc1; have f1 : w1.frozen? ⟨p, 0, none⟩ = false := b1.frozen 0; have c1 : w1.cell? ⟨p, 0, none⟩ = some v := b1.cell 0; have T1 := Lib.hid (HH.out.trans (t1 _ (byte_eq0 n))); clear t1 b1 hown1 hgrow1 hnil1 hloc1 HO c0) | fail)
    all_goals
      have t := T1.out
      rw [List.length_append, le_one] at t
    · go_step3
      rw [show n / 256 = n / 256 ^ 1 by simp, show (k : Int) - 1 = ((k - 1 : Nat) : Int) by omega]
      refine ⟨rfl, 1, _, _, _, _, _, _, _, _, _, _, _, _, _, _, _, _, _, _, _, _, _, _, _, _, _, _, _, _, _, rfl, by omega, by omega, t⟩
    · simp only [Exit.jump]
      obtain rfl : k = 1 := by omega
      exact ⟨rfl, _, results_none rfl _ _ _, rfl, _, t⟩
  · clear HH HN
    rintro a' W ⟨j, V, u3, u4, u5, u6, u7, u8, u9, u10, u11, u12, u13, u14, u15, u16, u17, u18, u19, u20, u21, u22, u23, u24, u25, u26, u27, u28, u29, u30, rfl, hj1, hjk, hH⟩
    have HH := Lib.hid hH
    clear hH
    have c0 : W.cell? ⟨p, 0, none⟩ = some V := HH.out.1.1.cell 0
    have HO := Lib.hid HH.out.1.2
    have hlen : (l ++ le n j).length ≤ 1000008 := by rw [List.length_append, le_length]; omega
    go_wp2_with (first | (at_builtin; refine wpList_append_own_at _ rfl _ _ 142 rfl 0 5 i0 (.int .u8 0) 1 1 Tryz.underlying142 hi hz0 hz1 hz2 rfl (by decide) _ _ _ rfl (HO.out.alloc _) ⟨_, 0, none⟩ 1 1 [.int .u8 _] rfl rfl (cell_one_new _ _ _) (by simp [Value.oneCell']) (by unfold maxLen; omega) (by omega) (Nat.zero_le _) ?_; intro v1 w1 hown1 hgrow1 hnil1 hloc1; obtain ⟨g1, cp1, rfl⟩ := own_slice hown1; obtain ⟨b1, t1⟩ := wr_append HH.out.1 _ hown1 hgrow1 hloc1; have f1 : w1.frozen? ⟨p, 0, none⟩ = false := b1.frozen 0; have c1 : w1.cell? ⟨p, 0, none⟩ = some V := b1.cell 0; have T1 := Lib.hid (HH.out.trans (t1 _ (byte_eq n j h0))); clear t1 b1 hown1 hgrow1 hnil1 hloc1 HO c0) | fail)
    all_goals
      have t := T1.out
      rw [List.length_append, le_succ] at t
    · go_step3
      rw [div_succ, show (((k - j : Nat) : Int) - 1) = ((k - (j + 1) : Nat) : Int) by omega]
      refine ⟨rfl, ⟨j + 1, _, _, _, _, _, _, _, _, _, _, _, _, _, _, _, _, _, _, _, _, _, _, _, _, _, _, _, _, _, rfl, by omega, by omega, t⟩, ?_⟩
      simp [intOf]
      omega
    · simp only [Exit.jump]
      obtain rfl : k = j + 1 := by omega
      exact ⟨rfl, _, results_none rfl _ _ _, rfl, _, t⟩
end Go.Proofs.YtjnbpbnhkinggaaGreatDoor.St
