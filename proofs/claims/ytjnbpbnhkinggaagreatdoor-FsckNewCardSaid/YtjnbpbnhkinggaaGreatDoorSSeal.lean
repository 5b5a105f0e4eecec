/- Contracts of crc.Seal, crc.Good. -/
import Derived.Test.YtjnbpbnhkinggaaGreatDoorSCrc
import Derived.Laws.IdiomStrings
import Derived.Deep.RegionHeld3
import Derived.Deep.DrawnRows
namespace Go.Proofs.YtjnbpbnhkinggaaGreatDoor.St
open Go.RowKit

/-- Byte number i of a sum, the greatest first. -/
def sdiv : Nat → Int
  | 0 => 16777216 | 1 => 65536 | 2 => 256 | _ => 1
def sbyte (v : Int) (i : Nat) : UInt8 := UInt8.ofNat (v / sdiv i).toNat
theorem sbyte_nat (v : Int) (i : Nat) (h : 0 ≤ v) : ((sbyte v i).toNat : Int) = v / sdiv i % 256 := by
  have hd : 0 < sdiv i := by unfold sdiv; split <;> omega
  have h1 : 0 ≤ v / sdiv i := Int.ediv_nonneg h (Int.le_of_lt hd)
  unfold sbyte
  rw [UInt8.toNat_ofNat']
  omega
/-- A block sealed. -/
def sld (b : List UInt8) : List UInt8 := b.take 252 ++ [sbyte (csum (b.take 252)) 0, sbyte (csum (b.take 252)) 1, sbyte (csum (b.take 252)) 2, sbyte (csum (b.take 252)) 3]
theorem sld_length (b : List UInt8) (h : b.length = 256) : (sld b).length = 256 := by simp [sld, h]
theorem sld_take (b : List UInt8) (h : b.length = 256) : (sld b).take 252 = b.take 252 := by
  unfold sld
  rw [List.take_append_of_le_length (by simp [h]), List.take_of_length_le (by simp [h])]
/-- A sealed block is sealed. -/
theorem sld_sld (b : List UInt8) (h : b.length = 256) : sld (sld b) = sld b := by
  have e : sld (sld b) = (sld b).take 252 ++ [sbyte (csum ((sld b).take 252)) 0, sbyte (csum ((sld b).take 252)) 1, sbyte (csum ((sld b).take 252)) 2, sbyte (csum ((sld b).take 252)) 3] := rfl
  rw [e, sld_take b h]
  rfl
/-- What is laid ahead of round j. -/
def sldTo (b : List UInt8) (v : Int) : Nat → List UInt8
  | 0 => b
  | j + 1 => (sldTo b v j).set (252 + j) (sbyte v j)
theorem sldTo_length (b : List UInt8) (v : Int) (j : Nat) : (sldTo b v j).length = b.length := by
  induction j with
  | zero => rfl
  | succ j ih => simp [sldTo, ih]
theorem sldTo_four (b : List UInt8) (h : b.length = 256) : sldTo b (csum (b.take 252)) 4 = sld b := by
  simp only [sldTo, sld]
  apply List.ext_getElem?
  intro i
  simp only [List.getElem?_set, List.length_set, h]
  by_cases h0 : i < 252
  · rw [List.getElem?_append_left (by simp [h]; omega)]
    simp only [List.getElem?_take, h0, if_true]
    rw [if_neg (by omega), if_neg (by omega), if_neg (by omega), if_neg (by omega)]
  · rw [List.getElem?_append_right (by simp [h]; omega)]
    have hl : (b.take 252).length = 252 := by simp [h]
    rw [hl]
    have hc : i = 252 ∨ i = 253 ∨ i = 254 ∨ i = 255 ∨ 256 ≤ i := by omega
    rcases hc with rfl | rfl | rfl | rfl | hc
    · simp
    · simp
    · simp
    · simp
    · rw [if_neg (by omega), if_neg (by omega), if_neg (by omega), if_neg (by omega), List.getElem?_eq_none (by omega), List.getElem?_eq_none (by simp; omega)]

theorem csum_bd (l : List UInt8) : 0 ≤ csum l ∧ csum l ≤ 4294967295 := bits_u32_bd _ _ _
theorem bA_toList_length (b : List UInt8) : (bA b).toList.length = b.length := by simp [bA]

set_option maxRecDepth 100000 in
set_option maxHeartbeats 1000000 in
theorem sld_any (b : List UInt8) (hl : b.length = 256) (w : World) : Calls Tryz.prog 67 #[.agg (bA b)] w fun e w' => e = .returned (.agg (bA (sld b))) ∧ Below w.heap.size w w' := by
  have h252 : (b.take 252).length = 252 := by simp [hl]
  have hk1 := (Bk.new w 53 (bA b)).alloc (.cells Tryz.zeroCells53 53)
  have hk2 := Bk.new (w.alloc (.cells (bA b) 53)) 53 Tryz.zeroCells53
  have hcv := run_convert_bytes_back (P := Tryz.prog) ((w.alloc (.cells (bA b) 53)).alloc (.cells Tryz.zeroCells53 53)) 142 9 5 ⟨w.heap.size, 0, none⟩ 256 (b.take 252) Tryz.underlying142 Tryz.underlying5 Tryz.underlying9 (fun j hj => by
    rw [Addr.add_mid, Nat.zero_add, hk1.cell, bA_at b j (by omega)]
    simp)
  rw [h252] at hcv
  have hss : (⟨(b.take 252).toArray⟩ : ByteArray).size = 252 := by simp [ByteArray.size, hl]
  have HSum := Lib.hid (show ∀ w : World, Calls Tryz.prog 80 #[.string ⟨(b.take 252).toArray⟩] w fun e w' => e = .returned (.int .u32 (csum (b.take 252))) ∧ Below w.heap.size w w' from sum_any ⟨(b.take 252).toArray⟩ (by omega))
  have HK1 := Lib.hid hk1
  have HK2 := Lib.hid (show Bk ((w.alloc (.cells (bA b) 53)).alloc (.cells Tryz.zeroCells53 53)) (w.heap.size + 1) 53 Tryz.zeroCells53 from by simpa using hk2)
  clear hk1 hk2 h252 hss
  go_enter Tryz.func67, Tryz.ntmps67
  go_wp2_with fail
  refine (HSum.out _).mono ?_
  rintro e w1 ⟨rfl, hb1⟩
  have HB1 := Lib.hid (HK1.out.below hb1 HK1.out.lt)
  have HZ1 := Lib.hid (HK2.out.below hb1 HK2.out.lt)
  have hbw : Below w.heap.size w w1 := (((Below.refl _ _).alloc (Nat.le_refl _) _).alloc (by simp) _).trans (hb1.mono (by simp; omega))
  clear hb1 HK1 HK2 HSum hcv
  obtain ⟨v0, v1⟩ := csum_bd (b.take 252)
  have HF := Lib.hid (sldTo_four b hl)
  generalize csum (b.take 252) = V at *
  go_wp2_with fail
  go_loopw [8] (fun i wr => ∃ j : Nat, j ≤ 4 ∧ i = .int .i64 j ∧ Bk wr w.heap.size 53 (bA (sldTo b V j)) ∧ Bk wr (w.heap.size + 1) 53 Tryz.zeroCells53 ∧ Below w.heap.size w wr) (fun i _ => 4 - (intOf i).toNat)
  case atStart => exact ⟨0, by omega, rfl, HB1.out, HZ1.out, hbw⟩
  case round =>
    obtain ⟨j, hj, rfl, hB, hZ, hbw⟩ := hrel
    have HB := Lib.hid hB
    have HZ := Lib.hid hZ
    clear hB hZ
    have hj' : j = 0 ∨ j = 1 ∨ j = 2 ∨ j = 3 ∨ j = 4 := by omega
    rcases hj' with rfl | rfl | rfl | rfl | rfl
    · have c1 : wr.cell? ⟨w.heap.size, 252, none⟩ = some (.int .u8 (((sldTo b V 0)[252]'(by rw [sldTo_length, hl]; decide)).toNat : Int)) := (HB.out.cell _).trans (bA_at _ _ _)
      have c2 := HB.out.frozen 252
      have HE := Lib.hid (show (.int .u8 (V / 16777216) : Value) = .int .u8 ((sbyte V 0).toNat : Int) by rw [sbyte_nat V 0 v0]; simp only [sdiv]; congr 1; omega)
      go_wp2_with fail
      go_roundw
      case rel => exact ⟨1, by omega, rfl, by rw [HE.out]; have h := HB.out.set 252 (.int .u8 ((sbyte V 0).toNat : Int)); rw [bA_set] at h; exact h, HZ.out.far _ (by simp) _, hbw.setCell (Nat.le_refl _) _⟩
      case measure => simp [intOf]
    · have c1 : wr.cell? ⟨w.heap.size, 253, none⟩ = some (.int .u8 (((sldTo b V 1)[253]'(by rw [sldTo_length, hl]; decide)).toNat : Int)) := (HB.out.cell _).trans (bA_at _ _ _)
      have c2 := HB.out.frozen 253
      have HE := Lib.hid (show (.int .u8 (V / 65536 % 256) : Value) = .int .u8 ((sbyte V 1).toNat : Int) by rw [sbyte_nat V 1 v0]; first | rfl | (simp [sdiv]))
      go_wp2_with fail
      go_roundw
      case rel => exact ⟨2, by omega, rfl, by rw [HE.out]; have h := HB.out.set 253 (.int .u8 ((sbyte V 1).toNat : Int)); rw [bA_set] at h; exact h, HZ.out.far _ (by simp) _, hbw.setCell (Nat.le_refl _) _⟩
      case measure => simp [intOf]
    · have c1 : wr.cell? ⟨w.heap.size, 254, none⟩ = some (.int .u8 (((sldTo b V 2)[254]'(by rw [sldTo_length, hl]; decide)).toNat : Int)) := (HB.out.cell _).trans (bA_at _ _ _)
      have c2 := HB.out.frozen 254
      have HE := Lib.hid (show (.int .u8 (V / 256 % 256) : Value) = .int .u8 ((sbyte V 2).toNat : Int) by rw [sbyte_nat V 2 v0]; first | rfl | (simp [sdiv]))
      go_wp2_with fail
      go_roundw
      case rel => exact ⟨3, by omega, rfl, by rw [HE.out]; have h := HB.out.set 254 (.int .u8 ((sbyte V 2).toNat : Int)); rw [bA_set] at h; exact h, HZ.out.far _ (by simp) _, hbw.setCell (Nat.le_refl _) _⟩
      case measure => simp [intOf]
    · have c1 : wr.cell? ⟨w.heap.size, 255, none⟩ = some (.int .u8 (((sldTo b V 3)[255]'(by rw [sldTo_length, hl]; decide)).toNat : Int)) := (HB.out.cell _).trans (bA_at _ _ _)
      have c2 := HB.out.frozen 255
      have HE := Lib.hid (show (.int .u8 (V % 256) : Value) = .int .u8 ((sbyte V 3).toNat : Int) by rw [sbyte_nat V 3 v0]; first | rfl | (simp [sdiv]))
      go_wp2_with fail
      go_roundw
      case rel => exact ⟨4, by omega, rfl, by rw [HE.out]; have h := HB.out.set 255 (.int .u8 ((sbyte V 3).toNat : Int)); rw [bA_set] at h; exact h, HZ.out.far _ (by simp) _, hbw.setCell (Nat.le_refl _) _⟩
      case measure => simp [intOf]
    · have hsz : (Tryz.prog.info? 53).map (·.size) = some (bA (sldTo b V 4)).size := by rw [bA_size, sldTo_length, hl]; exact infoBlock
      have h1 := bA_one (sldTo b V 4)
      have hzs : Tryz.zeroCells53.size = 256 := by kernel_rfl
      have hth := HZ.out.there (bA (sldTo b V 4)).size (by rw [bA_size, sldTo_length, hl, hzs]; exact Nat.le_refl _)
      have hall := HZ.out.all (bA (sldTo b V 4)).toList (by rw [bA_toList_length, sldTo_length, hl, hzs])
      rw [Array.toArray_toList] at hall
      have hbx := below_setCells (w.heap.size + 1) (by omega) (bA (sldTo b V 4)).toList hbw 0
      have HTh := Lib.hid hth
      have HAll := Lib.hid hall
      clear hth hall hbw hzs
      rw [HF.out] at HTh HAll HB hsz h1 hbx
      generalize hT : bA (sld b) = T at *
      have HT := Lib.hid hT
      clear hT
      go_wp2_with (first | (refine wpList_load_row rfl 53 _ rfl _ rfl _ T _ _ HB.out Tryz.underlying53 rfl hsz ?_) | (refine wpList_store_mid rfl 53 _ _ rfl _ 0 T rfl rfl HTh.out hsz h1 ?_))
      refine bodyPost_ret (results_cell_row rfl _ _ (w.heap.size + 1) _ T _ _ rfl HAll.out Tryz.underlying53 rfl hsz) rfl ⟨by rw [HT.out], hbx⟩

theorem Bk.range {w : World} {g : Nat} {t : TypeId} {cs : Array Value} (h : Bk w g t cs) : w.rangeAt g 0 cs.toList := by
  intro j v hv
  rw [Nat.zero_add, h.cell]
  simpa using hv
/-- What a drawn region keeps: one block, and all that was there. -/
def Kp (w : World) (g : Nat) (X : World) : Prop := Below w.heap.size w X ∧ g < X.heap.size
theorem keepG {w X Y : World} {g : Nat} {l : List Value} (h : X.rangeAt g 0 l ∧ Kp w g X) (hb : Below X.heap.size X Y) : Y.rangeAt g 0 l ∧ Kp w g Y :=
  ⟨fun j v hv => (hb.cell (p := ⟨g, 0 + j, none⟩) h.2.2).trans (h.1 j v hv), h.2.1.trans (hb.mono h.2.1.size), Nat.lt_of_lt_of_le h.2.2 hb.size⟩

attribute [local go_sem ↓] Go.wp_at_zero Go.wp_at_succ
set_option maxRecDepth 100000 in
set_option maxHeartbeats 1000000 in
/-- Is a block sealed? -/
theorem good_any (b : List UInt8) (hl : b.length = 256) (w : World) : Calls Tryz.prog 82 #[.agg (bA b)] w fun e w' => e = .returned (.bool (sld b == b)) ∧ Below w.heap.size w w' := by
  have hS : (w.alloc (.cells (bA b) 53)).rangeAt w.heap.size 0 (bA b).toList ∧ Kp w w.heap.size (w.alloc (.cells (bA b) 53)) := ⟨(Bk.new w 53 (bA b)).range, (Below.refl _ _).alloc (Nat.le_refl _) _, by simp⟩
  have HS := Lib.hid hS
  have HC := Lib.hid (sld_any b hl)
  have he := equalIn_block (sld b) b (sld_length b hl) hl
  have hu := Tryz.underlying53
  have hlen : (bA b).toList.length = 256 := by rw [bA_toList_length, hl]
  have hi : (Tryz.prog.info? 53).map (·.size) = some (bA b).toList.length := by rw [hlen]; exact infoBlock
  have h1 : ∀ v ∈ (bA b).toList, v.oneCell' = true := by
    intro v hv
    simp only [bA, List.mem_map] at hv
    obtain ⟨x, _, rfl⟩ := hv
    rfl
  clear hS
  go_enter Tryz.func82, Tryz.ntmps82
  go_wp2_with fail
  refine wp_region_held_drew (S := fun w' => w'.rangeAt w.heap.size 0 (bA b).toList ∧ Kp w w.heap.size w') (by kernel_rfl) (keepG HS.out ⟨rfl, rfl, rfl, Nat.le_refl _, fun _ _ => rfl⟩) ?_
  intro hHeld
  have hy : ∀ (ops : Array Oper) (op : Oper) (a : Act) (x : Operand), op.op = .load 53 x → Region.wanted op (yielded ops a.tmps) = true → a.eval x = .pointer (some ⟨w.heap.size, 0, none⟩) → YieldsIf Tryz.prog ops (fun w' => w'.rangeAt w.heap.size 0 (bA b).toList ∧ Kp w w.heap.size w') op (.agg (bA b)) a := by
    intro ops op a x ho hw hx
    have h := yieldsIf_load_mid (P := Tryz.prog) (ops := ops) (S := fun w' => w'.rangeAt w.heap.size 0 (bA b).toList ∧ Kp w w.heap.size w') hw 53 x ho w.heap.size 0 hx (bA b).toList _ (fun w h => h.1) hu rfl hi
    rwa [Array.toArray_toList] at h
  have HY := Lib.hid hy
  clear hy
  refine wpAnyH_take (i := 0) (v := .agg (bA b)) rfl (by kernel_rfl) (by kernel_rfl) (by kernel_rfl) (fun _ _ _ h => h) (HY.out _ _ _ _ rfl (by rfl) rfl) hHeld ?_
  try simp only [Act.put, List.getElem_toArray, List.getElem_cons_zero, List.setIfInBounds_toArray, List.set_cons_zero, List.set_cons_succ]
  refine wpAnyH_take (i := 2) (v := .agg (bA b)) rfl (by kernel_rfl) (by kernel_rfl) (by kernel_rfl) (fun _ _ _ h => h) (HY.out _ _ _ _ rfl (by rfl) rfl) hHeld ?_
  try simp only [Act.put, List.getElem_toArray, List.getElem_cons_zero, List.getElem_cons_succ, List.setIfInBounds_toArray, List.set_cons_zero, List.set_cons_succ]
  refine wpAnyH_ready (rs := [1]) (by kernel_rfl) (by simp) ?_
  refine AllReadyH.cons rfl (fun K hK => ?_) AllReadyH.nil
  go_simp
  refine (HC.out _).mono ?_
  rintro e wv ⟨rfl, hbX⟩
  go_wp2_with fail
  refine hK.out _ _ (keepG hHeld hbX) (fun hHeld2 => ?_)
  clear hK K hHeld
  refine wpAnyH_take (i := 3) (v := .bool (sld b == b)) rfl (by kernel_rfl) (by kernel_rfl) (by kernel_rfl) (fun _ _ _ h => h) (Or.inl ⟨by rfl, ?_⟩) hHeld2 ?_
  · intro X hX
    go_simp
  try simp only [Act.put, List.getElem_toArray, List.getElem_cons_zero, List.getElem_cons_succ, List.setIfInBounds_toArray, List.set_cons_zero, List.set_cons_succ]
  refine wpAnyH_take (i := 4) (v := .bool (sld b == b)) rfl (by kernel_rfl) (by kernel_rfl) (by kernel_rfl) (fun _ _ _ h => h) (Or.inl ⟨by rfl, ?_⟩) hHeld2 ?_
  · intro X hX
    go_simp
  try simp only [Act.put, List.getElem_toArray, List.getElem_cons_zero, List.getElem_cons_succ, List.setIfInBounds_toArray, List.set_cons_zero, List.set_cons_succ]
  refine wpAnyH_done (by kernel_rfl) ?_ _
  go_wp2_with fail
  exact ⟨rfl, _, results_tmp rfl _ _ _, rfl, hHeld2.2.1⟩
end Go.Proofs.YtjnbpbnhkinggaaGreatDoor.St
