/- Contracts of count.Table, whose pages are of zeros: tallyAt, tally, Old, Get. -/
import Derived.Test.YtjnbpbnhkinggaaGreatDoorNTab
namespace Go.Proofs.YtjnbpbnhkinggaaGreatDoor.St
open Go.RowKit

section
variable {w w' : World} {t d m k mp mt ms np nt ns : Nat} {r : Rt} {n wt : Int} {c : Int → Int} {g : Int → List UInt8}
theorem Dz.went (h : Dz w d m k n wt g mp mt ms) (hf : Fr (fun i => i = mp) w w') (hT : Tb w t d mp mt ms np nt ns r n c) : Dz w' d m k n wt g mp mt ms := h.fr hf (fun e => by obtain ⟨f, a, _⟩ := hT.p; exact mp_ne a h.v.b e.symm) h.e1
end
set_option maxRecDepth 100000 in
set_option maxHeartbeats 1000000 in
theorem tallyAt_b (t d m k mp mt ms np nt ns : Nat) (r : Rt) (n wt : Int) (g : Int → List UInt8) (c : Int → Int) (hr : r.picks = 0) (hnp : np < 100000000) (p : Int) (h0 : 0 ≤ p) (h1 : p < tal n) (w : World) (h : Tb w t d mp mt ms np nt ns r n c) (hD : Dz w d m k n wt g mp mt ms) :
    Calls Tryz.prog 100 #[.pointer (some ⟨t, 0, none⟩), .int .u32 p] w fun e w' => e = .returned (.tuple #[.int .u32 (2 + 2 * pic n + 2 * p), .int .i64 0]) ∧ Tb w' t d mp mt ms (np + 1) nt ns r n c ∧ Fr (fun i => i = mp) w w' := by
  obtain ⟨q0, q1⟩ := pic_bd n hD.v.lo hD.v.hi
  obtain ⟨u0, u1⟩ := tal_bd n hD.v.lo hD.v.hi
  have hlt : p / 1024 < pic n := by unfold pic; omega
  have HT0 := Lib.hid h
  have HD0 := Lib.hid hD
  have hmlt : mp < w.heap.size := let ⟨_, a, _⟩ := h.p; a.lt
  clear h hD
  go_enter Tryz.func100, Tryz.ntmps100
  go_wp2_with fail
  refine (pick_b t d m k mp mt ms np nt ns r n wt g c hr hnp (p / 1024) (by omega) hlt _ HT0.out HD0.out).mono ?_
  rintro e w1 ⟨rfl, hT1, hF1⟩
  have hA := below_setCells w1.heap.size (Nat.le_refl _) (pkC (p / 1024)).toList ((Below.refl w1.heap.size w1).alloc (Nat.le_refl _) (.cells #[.int .u32 0, .int .u64 0, .int .u64 0, .int .u64 0, .int .u64 0, .int .u64 0, .int .u64 0, .int .u64 0, .int .u64 0, .int .u64 0, .int .u64 0, .int .u64 0, .int .u64 0, .int .u64 0, .int .u64 0, .int .u64 0, .int .u64 0] 204)) 0
  have hN0 := Bk.new w1 204 #[.int .u32 0, .int .u64 0, .int .u64 0, .int .u64 0, .int .u64 0, .int .u64 0, .int .u64 0, .int .u64 0, .int .u64 0, .int .u64 0, .int .u64 0, .int .u64 0, .int .u64 0, .int .u64 0, .int .u64 0, .int .u64 0, .int .u64 0]
  have hth := hN0.there (pkC (p / 1024)).size (Nat.le_refl 17)
  have hN1 := hN0.all (pkC (p / 1024)).toList rfl
  rw [Array.toArray_toList] at hN1
  have HT2 := Lib.hid (hT1.below hA)
  have HF2 := Lib.hid (hF1.trans (Fr.of_all hA (fun i => i = mp)) (fun _ _ h => h))
  have HBit := Lib.hid (fun X => bit_pk (p / 1024) (p % 1024) (by omega) (by omega) X)
  have hs := pkC_info (p / 1024)
  have hs1 := pkC_one (p / 1024)
  have HK2 := Lib.hid hN1
  clear hT1 hF1 hA HT0 HD0 hN0 hN1
  generalize pkC (p / 1024) = CV at *
  go_wp2_with (first | (refine wpList_store_mid rfl 204 _ _ rfl w1.heap.size 0 CV rfl rfl hth hs hs1 ?_; generalize (w1.alloc (.cells #[.int .u32 0, .int .u64 0, .int .u64 0, .int .u64 0, .int .u64 0, .int .u64 0, .int .u64 0, .int .u64 0, .int .u64 0, .int .u64 0, .int .u64 0, .int .u64 0, .int .u64 0, .int .u64 0, .int .u64 0, .int .u64 0, .int .u64 0] 204)).setCells w1.heap.size 0 CV.toList = w2 at *) | (refine wpList_load_row rfl 204 _ rfl _ rfl _ CV _ _ HK2.out Tryz.underlying204 rfl hs ?_))
  refine (HBit.out _).mono ?_
  rintro e w3 ⟨rfl, hb3⟩
  have HT3 := Lib.hid (HT2.out.below hb3)
  have HF3 := Lib.hid (HF2.out.trans (Fr.of_all hb3 (fun i => i = mp)) (fun _ _ h => h))
  have c10 : w3.cell? ⟨t, 10, none⟩ = some (.int .u32 (pic n)) := HT3.out.b.cell 10
  clear hb3 HT2 HF2 HK2
  go_wp2_with fail
  go_ret2
  exact ⟨by simp, HT3.out, HF3.out⟩
set_option maxRecDepth 100000 in
set_option maxHeartbeats 1000000 in
theorem tally_b (t d m k mp mt ms np nt ns : Nat) (r : Rt) (n wt : Int) (g : Int → List UInt8) (c : Int → Int) (hr : r.picks = 0) (hnp : np < 100000000) (hnt : nt < 100000000) (p : Int) (h0 : 0 ≤ p) (h1 : p < tal n) (w : World) (h : Tb w t d mp mt ms np nt ns r n c) (hD : Dz w d m k n wt g mp mt ms) :
    Calls Tryz.prog 95 #[.pointer (some ⟨t, 0, none⟩), .int .u32 p] w fun e w' => e = .returned (.tuple #[.agg (tyC p), .int .i64 0]) ∧ Tb w' t d mp mt ms (np + 1) (nt + 1) ns r n c ∧ Fr (fun i => i = mp ∨ i = mt) w w' := by
  obtain ⟨q0, q1⟩ := pic_bd n hD.v.lo hD.v.hi
  obtain ⟨u0, u1⟩ := tal_bd n hD.v.lo hD.v.hi
  obtain ⟨f0, f1⟩ := fst_bd n hD.v.lo hD.v.hi
  have hat : 2 + 2 * pic n + 2 * p < fst n := by unfold fst; omega
  have hgz := Lib.hid (hD.z (2 + 2 * pic n + 2 * p) (by omega) hat)
  have hs := tyC_info p
  have hs1 := tyC_one p
  have HSZ := Lib.hid (show (tyC p).size = Tryz.zeroCells182.size by rw [ty_zero, tyC_size, tyC_size])
  have hB0 := (Below.refl w.heap.size w).alloc (Nat.le_refl _) (.cells Tryz.zeroCells182 182)
  have HT0 := Lib.hid (h.below hB0)
  have HD0 := Lib.hid (hD.below hB0)
  have HR0 := Lib.hid (Bk.new w 182 Tryz.zeroCells182)
  have HB0 := Lib.hid hB0
  have hmlt : mp < w.heap.size := let ⟨_, a, _⟩ := h.p; a.lt
  have hmtlt : mt < w.heap.size := let ⟨_, a, _⟩ := h.q; a.lt
  have hslt := h.s.lt
  have htlt := h.b.lt
  clear h hD hB0
  go_enter Tryz.func95, Tryz.ntmps95
  go_wp2_with fail
  refine (tallyAt_b t d m k mp mt ms np nt ns r n wt g c hr hnp p h0 h1 _ HT0.out HD0.out).mono ?_
  rintro e w1 ⟨rfl, hT1, hF1⟩
  have HT1 := Lib.hid hT1
  have HD1 := Lib.hid (HD0.out.went hF1 HT0.out)
  have HF1 := Lib.hid ((Fr.of_all HB0.out (fun i => i = mp)).trans hF1 (fun _ _ h => h))
  have HR1 := Lib.hid (HR0.out.fr hF1 (show ¬ w.heap.size = mp by omega))
  have c13 : w1.cell? ⟨t, 13, none⟩ = some (.map (some mt)) := hT1.b.cell 13
  clear hT1 hF1 HT0 HD0 HB0 HR0
  go_wp2_with fail
  obtain ⟨f, hf1, hf2⟩ := HT1.out.q
  refine (page_ty t d m k mt nt n wt g (2 + 2 * pic n + 2 * p) p h0 (by omega) (by omega) (by omega) hgz.out hnt f hf2 _ (HT1.out.b.cell 0) HT1.out.b.lt HD1.out.v hf1).mono ?_
  rintro e w2 ⟨rfl, ⟨f', hf3, hf4⟩, hfX⟩
  have hT2 : Tb w2 t d mp mt ms (np + 1) (nt + 1) ns r n c := ⟨HT1.out.b.fr hfX HT1.out.tmt, let ⟨f, a, b⟩ := HT1.out.p; ⟨f, a.fr hfX HT1.out.d1, b⟩, ⟨f', hf3, hf4⟩, HT1.out.s.fr hfX (fun e => HT1.out.d3 e.symm), HT1.out.d1, HT1.out.d2, HT1.out.d3⟩
  have hR2 := HR1.out.fr hfX (show ¬ w.heap.size = mt by omega)
  have hF2 : Fr (fun i => i = mp ∨ i = mt) w w2 := (HF1.out.mono (fun _ _ h => Or.inl h)).trans hfX (fun _ _ h => Or.inr h)
  have hth := hR2.there (tyC p).size (by rw [HSZ.out]; exact Nat.le_refl _)
  have kR := hR2.all (tyC p).toList (by rw [Array.length_toList]; exact HSZ.out)
  rw [Array.toArray_toList] at kR
  have HE := Lib.hid (And.intro kR (And.intro (show Tb (w2.setCells w.heap.size 0 (tyC p).toList) t d mp mt ms (np + 1) (nt + 1) ns r n c from hT2.fr (fr_setCells (S := fun i => i = w.heap.size) w.heap.size (fun _ => rfl) _ (Fr.refl _ w2) 0) (by omega) (by omega) (by omega) (by omega)) (fr_setCells w.heap.size (fun h => absurd h (by omega)) (tyC p).toList hF2 0)))
  clear hf1 hf2 hf3 hf4 hfX HT1 HD1 HR1 HF1 hT2 hR2 hF2 kR c13
  generalize hCV : tyC p = CV at *
  have HCV := Lib.hid hCV
  clear hCV
  go_wp2_with (refine wpList_store_mid rfl 182 _ _ rfl w.heap.size 0 CV rfl rfl hth hs hs1 ?_; generalize w2.setCells w.heap.size 0 CV.toList = w3 at *)
  refine bodyPost_ret (results_row_tmp rfl _ _ w.heap.size _ CV _ rfl HE.out.1 Tryz.underlying182 rfl hs) rfl ⟨by rw [HCV.out]; rfl, HE.out.2.1, HE.out.2.2⟩
theorem ty_cell {w : World} {g : Nat} {t : TypeId} {p : Int} (h : Bk w g t (tyC p)) (a : Nat) (ha : a < 64) : w.cell? ⟨g, 1 + a, none⟩ = some (.int .u16 0) := by
  rw [h.cell, tyC, List.getElem?_toArray, Nat.add_comm 1 a, List.getElem?_cons_succ, List.getElem?_replicate, if_pos ha]
set_option maxRecDepth 100000 in
set_option maxHeartbeats 1000000 in
theorem old_b (t d m k mp mt ms np nt ns : Nat) (r : Rt) (n wt : Int) (g : Int → List UInt8) (c : Int → Int) (hr : r.picks = 0) (hrs : r.size = n) (hnp : np < 100000000) (hnt : nt < 100000000) (a : Int) (h0 : fst n ≤ a) (h1 : a < n) (w : World) (h : Tb w t d mp mt ms np nt ns r n c) (hD : Dz w d m k n wt g mp mt ms) :
    Calls Tryz.prog 79 #[.pointer (some ⟨t, 0, none⟩), .int .u32 a] w fun e w' => e = .returned (.tuple #[.int .u16 0, .int .i64 0]) ∧ Tb w' t d mp mt ms (np + 1) (nt + 1) ns r n c ∧ Fr (fun i => i = mp ∨ i = mt) w w' := by
  have hlo := hD.v.lo
  have hhi := hD.v.hi
  obtain ⟨f0, f1⟩ := fst_bd n hlo hhi
  have hp : a / 64 < tal n := by unfold tal; omega
  obtain ⟨j, hj⟩ := Int.eq_ofNat_of_zero_le (show 0 ≤ a by omega)
  subst hj
  have HSZ := Lib.hid (show (tyC ((j : Int) / 64)).size = Tryz.zeroCells182.size by rw [ty_zero, tyC_size, tyC_size])
  have HT0 := Lib.hid h
  have HD0 := Lib.hid hD
  have c2 : w.cell? ⟨t, 2, none⟩ = some (.int .u32 n) := by rw [h.b.cell, ← hrs]; rfl
  have c11 : w.cell? ⟨t, 11, none⟩ = some (.int .u32 (fst n)) := h.b.cell 11
  have hs := tyC_info ((j : Int) / 64)
  have hs1 := tyC_one ((j : Int) / 64)
  clear h hD hrs
  go_enter Tryz.func79, Tryz.ntmps79
  go_wp2_with fail
  refine (tnone_b t d mp mt ms np nt ns r n c _ HT0.out).mono ?_
  rintro e w1 ⟨rfl, rfl⟩
  go_wp2_with fail
  refine (tally_b t d m k mp mt ms np nt ns r n wt g c hr hnp hnt ((j : Int) / 64) (by omega) hp _ HT0.out HD0.out).mono ?_
  rintro e w1 ⟨rfl, hT1, hF1⟩
  have hA := below_setCells w1.heap.size (Nat.le_refl _) (tyC ((j : Int) / 64)).toList ((Below.refl w1.heap.size w1).alloc (Nat.le_refl _) (.cells Tryz.zeroCells182 182)) 0
  have hN0 := Bk.new w1 182 Tryz.zeroCells182
  have hth := hN0.there (tyC ((j : Int) / 64)).size (by rw [HSZ.out]; exact Nat.le_refl _)
  have hN1 := hN0.all (tyC ((j : Int) / 64)).toList (by rw [Array.length_toList]; exact HSZ.out)
  rw [Array.toArray_toList] at hN1
  have hcl := ty_cell hN1 (j % 64) (by omega)
  have HE := Lib.hid (And.intro (hT1.below hA) (hF1.trans (Fr.of_all hA (fun i => i = mp ∨ i = mt)) (fun _ _ h => h)))
  clear hT1 hF1 hA HT0 HD0 hN0 hN1 c2 c11
  generalize tyC ((j : Int) / 64) = CV at *
  go_wp2_with (refine wpList_store_mid rfl 182 _ _ rfl w1.heap.size 0 CV rfl rfl hth hs hs1 ?_; generalize (w1.alloc (.cells Tryz.zeroCells182 182)).setCells w1.heap.size 0 CV.toList = w2 at *)
  go_ret2
  exact ⟨rfl, HE.out.1, HE.out.2⟩
theorem cf_getD (c : Int → Int) (a : Int) : (cf c a).getD (.int .u16 0) = .int .u16 (c a) := by
  unfold cf
  by_cases h : c a = 0
  · rw [if_pos h, h]; rfl
  · rw [if_neg h]; rfl
theorem zeroU16 (w : World) : (zeroValue 69).run Tryz.prog w = .ok (.int .u16 0) w := by kernel_rfl
set_option maxRecDepth 100000 in
set_option maxHeartbeats 1000000 in
theorem tget_b (t d m k mp mt ms np nt ns : Nat) (r : Rt) (n wt : Int) (g : Int → List UInt8) (c : Int → Int) (hr : r.picks = 0) (hrs : r.size = n) (hnp : np < 100000000) (hnt : nt < 100000000) (a : Int) (h0 : fst n ≤ a) (h1 : a < n) (w : World) (h : Tb w t d mp mt ms np nt ns r n c) (hD : Dz w d m k n wt g mp mt ms) :
    Calls Tryz.prog 61 #[.pointer (some ⟨t, 0, none⟩), .int .u32 a] w fun e w' => e = .returned (.tuple #[.int .u16 (c a), .int .i64 0]) ∧ Tb w' t d mp mt ms (np + 1) (nt + 1) ns r n c ∧ Fr (fun i => i = mp ∨ i = mt) w w' := by
  have hlo := hD.v.lo
  have hhi := hD.v.hi
  obtain ⟨f0, f1⟩ := fst_bd n hlo hhi
  have HT0 := Lib.hid h
  have HD0 := Lib.hid hD
  clear h hD
  go_enter Tryz.func61, Tryz.ntmps61
  go_wp2_with fail
  refine (old_b t d m k mp mt ms np nt ns r n wt g c hr hrs hnp hnt a h0 h1 _ HT0.out HD0.out).mono ?_
  rintro e w1 ⟨rfl, hT1, hF1⟩
  have c14 : w1.cell? ⟨t, 14, none⟩ = some (.map (some ms)) := hT1.b.cell 14
  have hlk := hT1.s.look_ok (t := 153) Tryz.underlying153 (zeroU16 _) (show 0 ≤ a by omega) (by omega)
  rw [cf_getD] at hlk
  have HE := Lib.hid (And.intro hT1 hF1)
  clear hT1 hF1 HT0 HD0
  by_cases hc : c a = 0
  · have hcf : (cf c a).isSome = false := by unfold cf; rw [if_pos hc]; rfl
    rw [hcf] at hlk
    rw [hc] at hlk
    have HC := Lib.hid hc
    clear hcf hc
    go_wp2_with fail
    go_ret2
    exact ⟨by rw [HC.out]; rfl, HE.out.1, HE.out.2⟩
  · have hcf : (cf c a).isSome = true := by unfold cf; rw [if_neg hc]; rfl
    rw [hcf] at hlk
    generalize hca : c a = ca at *
    have HC := Lib.hid hca
    clear hca
    clear hcf hc
    go_wp2_with fail
    go_ret2
    exact ⟨by rw [HC.out]; rfl, HE.out.1, HE.out.2⟩
end Go.Proofs.YtjnbpbnhkinggaaGreatDoor.St
