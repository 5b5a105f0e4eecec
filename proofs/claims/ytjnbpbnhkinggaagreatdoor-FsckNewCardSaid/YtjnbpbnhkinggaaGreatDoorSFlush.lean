/- The contract of dev.Dev.Flush. -/
import Derived.Test.YtjnbpbnhkinggaaGreatDoorSDput
namespace Go.Proofs.YtjnbpbnhkinggaaGreatDoor.St
open Go.RowKit

/-- g, with writes. -/
def gputs (g : Int → List UInt8) : List (Int × List UInt8) → Int → List UInt8
  | [] => g
  | p :: r => gputs (gset g p.1 p.2) r
theorem gputs_snoc (ps : List (Int × List UInt8)) : ∀ (g : Int → List UInt8) (p : Int × List UInt8), gputs g (ps ++ [p]) = gset (gputs g ps) p.1 p.2 := by
  induction ps with
  | nil => intro g p; rfl
  | cons q r ih => intro g p; exact ih _ p
theorem gputs_len (ps : List (Int × List UInt8)) : ∀ (g : Int → List UInt8), (∀ a, (g a).length = 256) → (∀ p ∈ ps, p.2.length = 256) → ∀ a, (gputs g ps a).length = 256 := by
  induction ps with
  | nil => intro g h _; exact h
  | cons q r ih => intro g h hp; exact ih _ (gset_len h q.1 q.2 (hp q List.mem_cons_self)) (fun p h' => hp p (List.mem_cons_of_mem _ h'))
theorem putC_at (ps : List (Int × List UInt8)) : ∀ (h : ∀ p ∈ ps, p.2.length = 256) (j : Nat) (p : Int × List UInt8) (_ : ps[j]? = some p) (i : Nat) (_ : i < 257), (putC ps)[j * 257 + i]? = (#[Value.int .u32 p.1] ++ bA p.2).toList[i]? := by
  induction ps with
  | nil => intro _ j p hp; simp at hp
  | cons q r ih =>
    intro h j p hp i hi
    have hq : (Value.int .u32 q.1 :: (bA q.2).toList).length = 257 := by rw [List.length_cons, bA_toList_length, h q List.mem_cons_self]
    have e : putC (q :: r) = (Value.int .u32 q.1 :: (bA q.2).toList) ++ putC r := by simp [putC]
    rw [e]
    cases j with
    | zero =>
      simp at hp; subst hp
      rw [List.getElem?_append_left (by omega)]
      simp
    | succ j =>
      rw [List.getElem?_append_right (by omega), hq, ← ih (fun p h' => h p (List.mem_cons_of_mem _ h')) j p (by simpa using hp) i hi, show (j + 1) * 257 + i - 257 = j * 257 + i by omega]
theorem own_form {w : World} {base size n : Nat} {e : TypeId} {v : Value} {xs : List Value} (h : w.ownsRow base e size v n xs) : ∃ s c, v = .slice s n c ∧ n ≤ c ∧ (0 < n → ∃ g, s = some ⟨g, 0, none⟩) := by
  obtain ⟨h1, h2⟩ := h
  rcases h2 with ⟨rfl, rfl⟩ | ⟨g, cap, cur, rfl, _, _, h, _⟩
  · exact ⟨none, 0, rfl, Nat.le_refl _, fun h => absurd h (by omega)⟩
  · exact ⟨_, cap, rfl, h, fun _ => ⟨g, rfl⟩⟩
theorem Dp.range {w : World} {d m k gp c : Nat} {n wr : Int} {g : Int → List UInt8} {ps : List (Int × List UInt8)} (h : Dp w d m k n wr g (.slice (some ⟨gp, 0, none⟩) ps.length c) ps) {j : Nat} {p : Int × List UInt8} (hp : ps[j]? = some p) : w.rangeAt gp (j * 257) (#[Value.int .u32 p.1] ++ bA p.2).toList := by
  have hl : ∀ p ∈ ps, p.2.length = 256 := fun p hp => (h.pl p hp).1
  intro i v hv
  have hi : i < 257 := by
    have := (List.getElem?_eq_some_iff.1 hv).1
    simp [bA_size, hl p (List.mem_of_getElem? hp)] at this
    omega
  rw [h.own.cellAt _ (by have := (List.getElem?_eq_some_iff.1 hp).1; omega), putC_at ps hl j p hp i hi]
  exact hv

theorem Dp.mapped {w w' : World} {d m k k' : Nat} {n wr : Int} {g : Int → List UInt8} {pv : Value} {ps : List (Int × List UInt8)} {a : Int} {b : List UInt8} (h : Dp w d m k n wr g pv ps) (hm : Mp w' m k' (gf (gset g a b))) (hf : Fr (fun i => i = m) w w') (hl : b.length = 256) : Dp w' d m k' n wr (gset g a b) pv ps :=
  ⟨h.b.fr hf (fun e => h.ne e.symm), hm, gset_len h.len a b hl, h.lo, h.hi, own_fr h.own hf (fun x hx e => own_nm h.own h.m (e ▸ hx)), h.pl⟩
set_option maxRecDepth 100000 in
set_option maxHeartbeats 1000000 in
theorem flush_any (d m k : Nat) (n wr : Int) (g : Int → List UInt8) (pv : Value) (ps : List (Int × List UInt8)) (hk : k + ps.length < 1000000000) (w : World) (h : Dp w d m k n wr g pv ps) :
    Calls Tryz.prog 28 #[.pointer (some ⟨d, 0, none⟩)] w fun e w' => e = .returned (.int .i64 0) ∧ Dv w' d m (k + ps.length) n (IntKind.u64.wrap (wr + 1)) (gputs g ps) ∧ Fr (fun i => i = d ∨ i = m) w w' := by
  have HD0 := Lib.hid h
  obtain ⟨s, c, hpv, hlc, hs⟩ := own_form h.own
  subst hpv
  have HS := Lib.hid hs
  clear h hs
  go_enter Tryz.func28, Tryz.ntmps28
  go_wp2_with fail
  refine (up0 d m n wr _ _ HD0.out.b).mono ?_
  rintro e w1 ⟨rfl, hb1⟩
  have HD1 := Lib.hid (HD0.out.below hb1)
  have HF1 := Lib.hid (Fr.of_all hb1 (fun i => i = d ∨ i = m))
  clear hb1 HD0
  go_wp2_with fail
  refine (burn_b d m n wr _ _ HD1.out.b).mono ?_
  rintro e w2 ⟨rfl, hd2, hf2⟩
  have HD2 := Lib.hid (HD1.out.turn hd2 hf2)
  have HF2 := Lib.hid (HF1.out.trans hf2 (fun _ _ h => Or.inl h))
  clear hd2 hf2 HD1 HF1
  generalize hw2 : IntKind.u64.wrap (wr + 1) = wr2 at *
  have HW2 := Lib.hid hw2
  clear hw2
  have c2 : w2.cell? ⟨d, 2, none⟩ = some (.slice s ps.length c) := HD2.out.b.cell 2
  go_wp2_with fail
  clear c2
  go_loopw [22] (fun i wr => ∃ (j : Nat), j ≤ ps.length ∧ i = .int .i64 j ∧ Dp wr d m (k + j) n wr2 (gputs g (ps.take j)) (.slice s ps.length c) ps ∧ Fr (fun i => i = d ∨ i = m) w wr) (fun i _ => ps.length - (intOf i).toNat)
  case atStart => exact ⟨0, by omega, rfl, HD2.out, HF2.out⟩
  case round =>
    obtain ⟨j, hj, rfl, hD, hF⟩ := hrel
    have HD := Lib.hid hD
    have HF := Lib.hid hF
    clear hD hF
    by_cases hlt : j < ps.length
    · obtain ⟨gp, rfl⟩ := HS.out (by omega)
      obtain ⟨p, hp⟩ : ∃ p, ps[j]? = some p := ⟨ps[j], List.getElem?_eq_getElem hlt⟩
      have hpl := HD.out.pl p (List.mem_of_getElem? hp)
      have hsz : (#[Value.int .u32 p.1] ++ bA p.2).size = 257 := by rw [Array.size_append, bA_size, hpl.1]; rfl
      have h1V : (#[Value.int .u32 p.1] ++ bA p.2).all (·.oneCell') = true := by
        apply Array.all_eq_true_iff_forall_mem.2
        intro u hu
        exact putC_one p.1 (bA p.2) (bA_one p.2) u (by simpa using hu)
      have hszV : (Tryz.prog.info? 58).map (·.size) = some (#[Value.int .u32 p.1] ++ bA p.2).size := by rw [hsz]; kernel_rfl
      have hszL : (Tryz.prog.info? 58).map (·.size) = some (#[Value.int .u32 p.1] ++ bA p.2).toList.length := by rw [Array.length_toList]; exact hszV
      have HR := Lib.hid (HD.out.range hp)
      have hB : Below wr.heap.size wr (wr.alloc (.cells Tryz.zeroCells58 58)) := (Below.refl _ _).alloc (Nat.le_refl _) _
      have hN0 := Bk.new wr 58 Tryz.zeroCells58
      have HT := Lib.hid (hN0.there (#[Value.int .u32 p.1] ++ bA p.2).size (by rw [hsz, zeroPut_size]; exact Nat.le_refl _))
      have hN1 := hN0.all (#[Value.int .u32 p.1] ++ bA p.2).toList (by rw [Array.length_toList, hsz, zeroPut_size])
      rw [Array.toArray_toList] at hN1
      have hB1 := below_setCells wr.heap.size (Nat.le_refl _) (#[Value.int .u32 p.1] ++ bA p.2).toList hB 0
      have HK1 := Lib.hid hN1
      have HD1 := Lib.hid (HD.out.below hB1)
      have HF1 := Lib.hid (HF.out.trans (Fr.of_all hB1 (fun i => i = d ∨ i = m)) (fun _ _ h => h))
      clear hN0 hN1 hB hB1 hsz
      have HG := Lib.hid (show gset (gputs g (ps.take j)) p.1 p.2 = gputs g (ps.take (j + 1)) by
        rw [List.take_add_one, hp]; exact (gputs_snoc _ _ _).symm)
      have HP := Lib.hid (dput_any d m (k + j) n wr2 (gputs g (ps.take j)) (.slice (some ⟨gp, 0, none⟩) ps.length c) p.1 p.2 hpl.1 hpl.2.1 (by have := HD.out.hi; have := hpl.2.2; omega) (by omega))
      generalize #[Value.int .u32 p.1] ++ bA p.2 = NV at *
      have HPL := Lib.hid hpl.1
      clear hp hpl HF HD
      go_wp2_with (first | (refine wpList_load_arr rfl 58 _ rfl gp (j * 257) rfl NV _ HR.out Tryz.underlying58 rfl hszL ?_) | (refine wpList_store_mid rfl 58 _ _ rfl _ 0 NV rfl rfl HT.out hszV h1V ?_) | (refine wpList_load_row rfl 58 _ rfl _ rfl _ NV _ _ HK1.out Tryz.underlying58 rfl hszV ?_))
      refine (HP.out _ HD1.out.b HD1.out.m).mono ?_
      rintro e w5 ⟨rfl, hm5, hf5⟩
      have hD5 := HD1.out.mapped hm5 hf5 HPL.out
      have hF5 := HF1.out.trans hf5 (fun _ _ h => Or.inr h)
      rw [HG.out] at hD5
      have HE := Lib.hid (And.intro hD5 hF5)
      clear hm5 hf5 hD5 hF5 HD1 HF1
      go_wp2_with fail
      go_roundw
      case rel => exact ⟨j + 1, by omega, by go_num, HE.out.1, HE.out.2⟩
      case measure => simp [intOf]; omega
    · have hjl : j = ps.length := by omega
      subst hjl
      have c2 : wr.cell? ⟨d, 2, none⟩ = some (.slice s ps.length c) := HD.out.b.cell 2
      have f2 : wr.frozen? ⟨d, 2, none⟩ = false := HD.out.b.frozen 2
      have HE := Lib.hid (show Dv (wr.setCell ⟨d, 2, none⟩ (.slice none 0 0)) d m (k + ps.length) n wr2 (gputs g ps) from by
        have := HD.out
        rw [List.take_length] at this
        exact ⟨this.b.set 2 _, this.m.setCell (a := ⟨d, 2, none⟩) this.ne _, this.len, this.lo, this.hi⟩)
      have HF' := Lib.hid (HF.out.setCell (p := ⟨d, 2, none⟩) (fun _ => Or.inl rfl) (.slice none 0 0))
      clear HD HF
      go_wp2_with fail
      go_ret
      exact ⟨rfl, by rw [HW2.out]; exact HE.out, HF'.out⟩
end Go.Proofs.YtjnbpbnhkinggaaGreatDoor.St
