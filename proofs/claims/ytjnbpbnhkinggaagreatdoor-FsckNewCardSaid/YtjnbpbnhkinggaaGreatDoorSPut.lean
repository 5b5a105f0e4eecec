/- The contract of slot.Put. -/
import Derived.Test.YtjnbpbnhkinggaaGreatDoorSOf
namespace Go.Proofs.YtjnbpbnhkinggaaGreatDoor.St
open Go.RowKit
/-- A root's words. -/
def Rt.word (r : Rt) : Nat → Int
  | 0 => r.size | 1 => r.picks | 2 => r.names | 3 => r.free | 4 => r.next | _ => r.hint
/-- A root's bytes, up to word j. -/
def Rt.to (r : Rt) : Nat → List UInt8
  | 0 => le r.gen 8
  | j + 1 => Rt.to r j ++ le (r.word j) 4
def Rt.bytes (r : Rt) : List UInt8 := Rt.to r 6 ++ le r.vols 1
theorem Rt.to_length (r : Rt) (j : Nat) : (Rt.to r j).length = 8 + 4 * j := by
  induction j with
  | zero => simp [Rt.to, le_length]
  | succ j ih => simp [Rt.to, le_length, ih]; omega
theorem Rt.bytes_length (r : Rt) : r.bytes.length = 33 := by simp [Rt.bytes, le_length, Rt.to_length]
theorem Rt.word_ok (r : Rt) (h : r.Ok) (j : Nat) : 0 ≤ r.word j ∧ r.word j ≤ 4294967295 := by
  unfold Rt.word
  split
  · exact h.size
  · exact h.picks
  · exact h.names
  · exact h.free
  · exact h.next
  · exact h.hint

theorem WrTo.bk {X X' : World} {p g : Nat} {v v' : Value} {l0 l : List UInt8} {t : TypeId} {cs : Array Value} (h : WrTo X p v l v' X') (hw : Wr X p v l0) (hb : Bk X g t cs) (ht : t ≠ 5) (hg : g ≠ p) : Bk X' g t cs :=
  hb.fr h.2.2 (by
    rintro (e | e)
    · exact hg e
    · exact own_ne hw.2 hb ht e.symm)
theorem WrTo.below {w X X' : World} {B p : Nat} {v v' : Value} {l : List UInt8} (h : WrTo X p v l v' X') (hB : Below B w X) (hs : B ≤ X.heap.size) (hp : B ≤ p) (ho : ∀ g, v.ownBlock = some g → B ≤ g) : Below B w X' ∧ B ≤ X'.heap.size ∧ ∀ g, v'.ownBlock = some g → B ≤ g := by
  refine ⟨hB.trans (h.2.2.below hs ?_), Nat.le_trans hs h.2.2.size, ?_⟩
  · rintro i hi (e | e)
    · omega
    · have := ho i e.symm
      omega
  · intro g hg
    rcases h.2.1 with e | ⟨x, e, hx⟩
    · exact ho g (by rw [← e]; exact hg)
    · rw [e] at hg
      injection hg with hg
      omega

set_option maxRecDepth 100000 in
set_option maxHeartbeats 1000000 in
theorem put_any (r : Rt) (hr : r.Ok) (hm : r.may = true) (w : World) : Calls Tryz.prog 26 #[.agg r.cells] w fun e w' => e = .returned (.tuple #[.agg (bA (sld (filled 82 r.bytes))), .int .i64 0]) ∧ Below w.heap.size w w' := by
  have HM := Lib.hid (fun X : World => hm ▸ may_any r X)
  have HK1 := Lib.hid ((Bk.new w 30 r.cells).alloc (.cells Tryz.zeroCells53 53))
  have HK2 := Lib.hid (show Bk ((w.alloc (.cells r.cells 30)).alloc (.cells Tryz.zeroCells53 53)) (w.heap.size + 1) 53 Tryz.zeroCells53 from by simpa using Bk.new (w.alloc (.cells r.cells 30)) 53 Tryz.zeroCells53)
  have HB := Lib.hid (((Below.refl w.heap.size w).alloc (Nat.le_refl _) (.cells r.cells 30)).alloc (by simp) (.cells Tryz.zeroCells53 53))
  have hi : (Tryz.prog.info? 30).map (·.size) = some r.cells.size := by kernel_rfl
  go_enter Tryz.func26, Tryz.ntmps26
  go_wp2_with (refine wpList_load_row rfl 30 _ rfl _ rfl _ r.cells _ _ HK1.out Tryz.underlying30 rfl hi ?_)
  refine (HM.out _).mono ?_
  rintro e w1 ⟨rfl, hb1⟩
  have HR1 := Lib.hid (HK1.out.below hb1 HK1.out.lt)
  have HZ1 := Lib.hid (HK2.out.below hb1 HK2.out.lt)
  have HB1 := Lib.hid (HB.out.trans (hb1.mono HB.out.size))
  clear HK1 HK2 HB hb1 HM
  go_wp2_with fail
  refine (new_any _).mono ?_
  rintro e w2 ⟨rfl, hw2⟩
  have HR2 := Lib.hid (HR1.out.alloc (.cells #[.slice none 0 0, .bool true, .bool false] 144))
  have HZ2 := Lib.hid (HZ1.out.alloc (.cells #[.slice none 0 0, .bool true, .bool false] 144))
  have HB2 := Lib.hid (HB1.out.alloc HB1.out.size (.cells #[.slice none 0 0, .bool true, .bool false] 144))
  have HW2 := Lib.hid (Wr.new w1)
  have hlt : w.heap.size + 1 < w1.heap.size := HZ1.out.lt
  rw [← hw2] at HR2 HZ2 HB2 HW2
  clear HR1 HZ1 HB1 hw2
  generalize w1.heap.size = p at *
  have c0 : w2.cell? ⟨w.heap.size, 0, none⟩ = some (.int .u64 r.gen) := HR2.out.cell 0
  go_wp2_with fail
  refine (wnum_any p _ [] r.gen 8 (by omega) hr.gen.1 hr.gen.2 (by simp) w2 HW2.out).mono ?_
  rintro e w3 ⟨rfl, v3, h3⟩
  have HR3 := Lib.hid (h3.bk HW2.out HR2.out (by decide) (by omega))
  have HZ3 := Lib.hid (h3.bk HW2.out HZ2.out (by decide) (by omega))
  obtain ⟨hB3, hS3, hO3⟩ := h3.below HB2.out HB2.out.size (show w.heap.size ≤ p by omega) (by simp [Value.ownBlock])
  have HW3 := Lib.hid (show Wr w3 p v3 (Rt.to r 0) from h3.1)
  clear HR2 HZ2 HB2 HW2 h3 c0
  go_wp2_with fail
  refine (of_any _ _).mono ?_
  rintro e w4 ⟨b, rfl, hb4, hof, hb⟩
  have HR4 := Lib.hid (HR3.out.below hb HR3.out.lt)
  have HZ4 := Lib.hid (HZ3.out.below hb HZ3.out.lt)
  have HB4 := Lib.hid (hB3.trans (hb.mono hS3))
  have HW4 := Lib.hid (show Wr w4 p v3 (Rt.to r 0) from ⟨HW3.out.1.below hb HW3.out.1.lt, own_fr HW3.out.2 (Fr.of_all hb (fun _ => False)) (fun _ _ h => h)⟩)
  have hS4 : w.heap.size ≤ w4.heap.size := Nat.le_trans hS3 hb.size
  have HOF := Lib.hid hof
  have hbp : b ≠ p := by have := HW3.out.1.lt; omega
  clear HR3 HZ3 hB3 hS3 HW3 hof hb hb4
  go_wp2_with fail
  go_loopw [21] (fun i wr => ∃ (j : Nat) (v : Value), j ≤ 6 ∧ i = .int .i64 j ∧ Wr wr p v (Rt.to r j) ∧ Bk wr w.heap.size 30 r.cells ∧ Bk wr (w.heap.size + 1) 53 Tryz.zeroCells53 ∧ Bk wr b 106 (ofC w.heap.size) ∧ Below w.heap.size w wr ∧ w.heap.size ≤ wr.heap.size ∧ ∀ g, v.ownBlock = some g → w.heap.size ≤ g) (fun i _ => 6 - (intOf i).toNat)
  case atStart => exact ⟨0, v3, by omega, rfl, HW4.out, HR4.out, HZ4.out, HOF.out, HB4.out, hS4, hO3⟩
  case round =>
    obtain ⟨j, v, hj, rfl, hW, hR, hZ, hO, hB, hS, hOw⟩ := hrel
    have HW := Lib.hid hW
    have HR := Lib.hid hR
    have HZ := Lib.hid hZ
    have HO := Lib.hid hO
    have HB := Lib.hid hB
    clear hW hR hZ hO hB HW4 HR4 HZ4 HOF HB4
    have hj' : j = 0 ∨ j = 1 ∨ j = 2 ∨ j = 3 ∨ j = 4 ∨ j = 5 ∨ j = 6 := by omega
    rcases hj' with rfl | rfl | rfl | rfl | rfl | rfl | rfl
    · have cw : wr.cell? ⟨b, 0, none⟩ = some (.pointer (some ⟨w.heap.size, 1, none⟩)) := HO.out.cell 0
      have cr : wr.cell? ⟨w.heap.size, 1, none⟩ = some (.int .u32 r.size) := HR.out.cell 1
      have hw := hr.size
      obtain ⟨q0, q1⟩ := hw
      go_wp2_with fail
      refine (wnum_any p v (Rt.to r 0) r.size 4 (by omega) q0 (by omega) (by rw [Rt.to_length]; omega) wr HW.out).mono ?_
      rintro e w5 ⟨rfl, v5, h5⟩
      have k1 := h5.bk HW.out HR.out (by decide) (by omega)
      have k2 := h5.bk HW.out HZ.out (by decide) (by omega)
      have k3 := h5.bk HW.out HO.out (by decide) hbp
      obtain ⟨k4, k5, k6⟩ := h5.below HB.out hS (show w.heap.size ≤ p by omega) hOw
      have k0 : Wr w5 p v5 (Rt.to r 1) := h5.1
      clear h5 cw cr
      have HKK := Lib.hid (And.intro k0 (And.intro k1 (And.intro k2 (And.intro k3 (And.intro k4 (And.intro k5 k6))))))
      clear k0 k1 k2 k3 k4 k5 k6
      go_wp2_with fail
      go_roundw
      case rel => exact ⟨1, v5, by omega, rfl, HKK.out⟩
      case measure => simp [intOf]
    · have cw : wr.cell? ⟨b, 1, none⟩ = some (.pointer (some ⟨w.heap.size, 2, none⟩)) := HO.out.cell 1
      have cr : wr.cell? ⟨w.heap.size, 2, none⟩ = some (.int .u32 r.picks) := HR.out.cell 2
      have hw := hr.picks
      obtain ⟨q0, q1⟩ := hw
      go_wp2_with fail
      refine (wnum_any p v (Rt.to r 1) r.picks 4 (by omega) q0 (by omega) (by rw [Rt.to_length]; omega) wr HW.out).mono ?_
      rintro e w5 ⟨rfl, v5, h5⟩
      have k1 := h5.bk HW.out HR.out (by decide) (by omega)
      have k2 := h5.bk HW.out HZ.out (by decide) (by omega)
      have k3 := h5.bk HW.out HO.out (by decide) hbp
      obtain ⟨k4, k5, k6⟩ := h5.below HB.out hS (show w.heap.size ≤ p by omega) hOw
      have k0 : Wr w5 p v5 (Rt.to r 2) := h5.1
      clear h5 cw cr
      have HKK := Lib.hid (And.intro k0 (And.intro k1 (And.intro k2 (And.intro k3 (And.intro k4 (And.intro k5 k6))))))
      clear k0 k1 k2 k3 k4 k5 k6
      go_wp2_with fail
      go_roundw
      case rel => exact ⟨2, v5, by omega, rfl, HKK.out⟩
      case measure => simp [intOf]
    · have cw : wr.cell? ⟨b, 2, none⟩ = some (.pointer (some ⟨w.heap.size, 3, none⟩)) := HO.out.cell 2
      have cr : wr.cell? ⟨w.heap.size, 3, none⟩ = some (.int .u32 r.names) := HR.out.cell 3
      have hw := hr.names
      obtain ⟨q0, q1⟩ := hw
      go_wp2_with fail
      refine (wnum_any p v (Rt.to r 2) r.names 4 (by omega) q0 (by omega) (by rw [Rt.to_length]; omega) wr HW.out).mono ?_
      rintro e w5 ⟨rfl, v5, h5⟩
      have k1 := h5.bk HW.out HR.out (by decide) (by omega)
      have k2 := h5.bk HW.out HZ.out (by decide) (by omega)
      have k3 := h5.bk HW.out HO.out (by decide) hbp
      obtain ⟨k4, k5, k6⟩ := h5.below HB.out hS (show w.heap.size ≤ p by omega) hOw
      have k0 : Wr w5 p v5 (Rt.to r 3) := h5.1
      clear h5 cw cr
      have HKK := Lib.hid (And.intro k0 (And.intro k1 (And.intro k2 (And.intro k3 (And.intro k4 (And.intro k5 k6))))))
      clear k0 k1 k2 k3 k4 k5 k6
      go_wp2_with fail
      go_roundw
      case rel => exact ⟨3, v5, by omega, rfl, HKK.out⟩
      case measure => simp [intOf]
    · have cw : wr.cell? ⟨b, 3, none⟩ = some (.pointer (some ⟨w.heap.size, 4, none⟩)) := HO.out.cell 3
      have cr : wr.cell? ⟨w.heap.size, 4, none⟩ = some (.int .u32 r.free) := HR.out.cell 4
      have hw := hr.free
      obtain ⟨q0, q1⟩ := hw
      go_wp2_with fail
      refine (wnum_any p v (Rt.to r 3) r.free 4 (by omega) q0 (by omega) (by rw [Rt.to_length]; omega) wr HW.out).mono ?_
      rintro e w5 ⟨rfl, v5, h5⟩
      have k1 := h5.bk HW.out HR.out (by decide) (by omega)
      have k2 := h5.bk HW.out HZ.out (by decide) (by omega)
      have k3 := h5.bk HW.out HO.out (by decide) hbp
      obtain ⟨k4, k5, k6⟩ := h5.below HB.out hS (show w.heap.size ≤ p by omega) hOw
      have k0 : Wr w5 p v5 (Rt.to r 4) := h5.1
      clear h5 cw cr
      have HKK := Lib.hid (And.intro k0 (And.intro k1 (And.intro k2 (And.intro k3 (And.intro k4 (And.intro k5 k6))))))
      clear k0 k1 k2 k3 k4 k5 k6
      go_wp2_with fail
      go_roundw
      case rel => exact ⟨4, v5, by omega, rfl, HKK.out⟩
      case measure => simp [intOf]
    · have cw : wr.cell? ⟨b, 4, none⟩ = some (.pointer (some ⟨w.heap.size, 5, none⟩)) := HO.out.cell 4
      have cr : wr.cell? ⟨w.heap.size, 5, none⟩ = some (.int .u32 r.next) := HR.out.cell 5
      have hw := hr.next
      obtain ⟨q0, q1⟩ := hw
      go_wp2_with fail
      refine (wnum_any p v (Rt.to r 4) r.next 4 (by omega) q0 (by omega) (by rw [Rt.to_length]; omega) wr HW.out).mono ?_
      rintro e w5 ⟨rfl, v5, h5⟩
      have k1 := h5.bk HW.out HR.out (by decide) (by omega)
      have k2 := h5.bk HW.out HZ.out (by decide) (by omega)
      have k3 := h5.bk HW.out HO.out (by decide) hbp
      obtain ⟨k4, k5, k6⟩ := h5.below HB.out hS (show w.heap.size ≤ p by omega) hOw
      have k0 : Wr w5 p v5 (Rt.to r 5) := h5.1
      clear h5 cw cr
      have HKK := Lib.hid (And.intro k0 (And.intro k1 (And.intro k2 (And.intro k3 (And.intro k4 (And.intro k5 k6))))))
      clear k0 k1 k2 k3 k4 k5 k6
      go_wp2_with fail
      go_roundw
      case rel => exact ⟨5, v5, by omega, rfl, HKK.out⟩
      case measure => simp [intOf]
    · have cw : wr.cell? ⟨b, 5, none⟩ = some (.pointer (some ⟨w.heap.size, 6, none⟩)) := HO.out.cell 5
      have cr : wr.cell? ⟨w.heap.size, 6, none⟩ = some (.int .u32 r.hint) := HR.out.cell 6
      have hw := hr.hint
      obtain ⟨q0, q1⟩ := hw
      go_wp2_with fail
      refine (wnum_any p v (Rt.to r 5) r.hint 4 (by omega) q0 (by omega) (by rw [Rt.to_length]; omega) wr HW.out).mono ?_
      rintro e w5 ⟨rfl, v5, h5⟩
      have k1 := h5.bk HW.out HR.out (by decide) (by omega)
      have k2 := h5.bk HW.out HZ.out (by decide) (by omega)
      have k3 := h5.bk HW.out HO.out (by decide) hbp
      obtain ⟨k4, k5, k6⟩ := h5.below HB.out hS (show w.heap.size ≤ p by omega) hOw
      have k0 : Wr w5 p v5 (Rt.to r 6) := h5.1
      clear h5 cw cr
      have HKK := Lib.hid (And.intro k0 (And.intro k1 (And.intro k2 (And.intro k3 (And.intro k4 (And.intro k5 k6))))))
      clear k0 k1 k2 k3 k4 k5 k6
      go_wp2_with fail
      go_roundw
      case rel => exact ⟨6, v5, by omega, rfl, HKK.out⟩
      case measure => simp [intOf]
    · have c7 : wr.cell? ⟨w.heap.size, 7, none⟩ = some (.int .u8 r.vols) := HR.out.cell 7
      obtain ⟨q0, q1⟩ := hr.vols
      go_wp2_with fail
      refine (wnum_any p v (Rt.to r 6) r.vols 1 (by omega) q0 (by omega) (by rw [Rt.to_length]; omega) wr HW.out).mono ?_
      rintro e w5 ⟨rfl, v5, h5⟩
      have HZ5 := Lib.hid (h5.bk HW.out HZ.out (by decide) (by omega))
      obtain ⟨k4, k5, k6⟩ := h5.below HB.out hS (show w.heap.size ≤ p by omega) hOw
      have HW5 := Lib.hid (show Wr w5 p v5 r.bytes from h5.1)
      clear h5 c7 HW HZ HB HR HO k6
      go_wp2_with fail
      refine (done_any p v5 r.bytes 82 (by rw [Rt.bytes_length]; omega) w5 HW5.out).mono ?_
      rintro e w6 ⟨rfl, hb6⟩
      have hZ6 := HZ5.out.below hb6 HZ5.out.lt
      rw [zb_cells] at hZ6
      have hB6 := k4.trans (hb6.mono k5)
      have hls := sld_length (filled 82 r.bytes) (filled_length 82 r.bytes (by rw [Rt.bytes_length]; omega))
      generalize hU : sld (filled 82 r.bytes) = U at *
      have hthere := hZ6.there (bA U).size (by rw [bA_size, hls, bA_size, zb_length]; exact Nat.le_refl _)
      have hall := hZ6.all (bA U).toList (by rw [bA_toList_length, hls, bA_size, zb_length])
      rw [Array.toArray_toList] at hall
      have hbx := below_setCells (w.heap.size + 1) (Nat.le_succ _) (bA U).toList hB6 0
      have hszU : (Tryz.prog.info? 53).map (·.size) = some (bA U).size := by rw [bA_size, hls]; exact infoBlock
      have h1U := bA_one U
      have HT := Lib.hid hthere
      have HA := Lib.hid hall
      clear hthere hall hb6 hZ6 hB6 HZ5 HW5
      generalize hV : bA U = V at *
      go_wp2_with (refine wpList_store_mid rfl 53 _ _ rfl _ 0 V rfl rfl HT.out hszU h1U ?_)
      refine bodyPost_ret (results_row_tmp rfl _ _ _ _ _ _ rfl HA.out Tryz.underlying53 rfl hszU) rfl ⟨by rw [hU, hV]; rfl, hbx⟩
end Go.Proofs.YtjnbpbnhkinggaaGreatDoor.St
