/- The contract of dev.Read, of what is there, nothing pending. -/
import Derived.Test.YtjnbpbnhkinggaaGreatDoorSDev
import Derived.Shelf.Abstract
namespace Go.Proofs.YtjnbpbnhkinggaaGreatDoor.St
open Go.RowKit

attribute [local go_sem] put_func
theorem zeroBlock (w : World) : (zeroValue 53).run Tryz.prog w = .ok (.agg (bA zb)) w := by rw [← zb_cells]; kernel_rfl
theorem gf_getD (g : Int → List UInt8) (a : Int) : (gf g a).getD (.agg (bA zb)) = .agg (bA (g a)) := by
  unfold gf
  by_cases h : g a = zb
  · rw [if_pos h, h]; rfl
  · rw [if_neg h]; rfl
theorem Dv.look {w : World} {d m k : Nat} {n wr : Int} {g : Int → List UInt8} (h : Dv w d m k n wr g) {a : Int} (h0 : 0 ≤ a) (h1 : a < n) : (Instr.lookup 42 (.map (some m)) (.int .u32 a) false).run Tryz.prog w = .ok (.agg (bA (g a))) w := by
  have := h.hi
  have h2 := h.m.look (t := 42) Tryz.underlying42 (zeroBlock w) h0 (by omega)
  rw [gf_getD] at h2
  exact h2

/-- The questions of a read. -/
def readAsk (d pa pd : Nat) : List Ask := [⟨1, 20, #[.pointer (some ⟨d, 0, none⟩)], #[]⟩, ⟨2, 39, #[], #[.pointer (some ⟨pa, 0, none⟩), .pointer (some ⟨pd, 0, none⟩)]⟩]
theorem drew_below {w w' : World} (h : ∃ m, w' = w.drewN m) : Below w.heap.size w w' := by obtain ⟨m, rfl⟩ := h; exact ⟨rfl, rfl, rfl, Nat.le_refl _, fun _ _ => rfl⟩
theorem same_below {w w' : World} (h : w = w') : Below w.heap.size w w' := h ▸ Below.refl _ _
theorem readCheck (d m b pa pd : Nat) (n wr a : Int) (pv : Value) (w : World) (h : DvB w d m n wr pv) (hb : w.ownsRow 0 75 2 (.slice (some ⟨b, 0, none⟩) 2 2) 2 (Ask.cells (readAsk d pa pd)).toList) (ha : Bk w pa 22 #[.int .u32 a]) (hd : Bk w pd 23 #[.pointer (some ⟨d, 0, none⟩)]) (hlt : a < n) :
    Calls Tryz.prog 21 #[.slice (some ⟨b, 0, none⟩) 2 2] w fun e w' => e = .returned (.int .i64 0) ∧ Below w.heap.size w w' := by
  refine check_ok b (readAsk d pa pd) 2 (by simp [readAsk]) w hb ?_ ?_
  · intro i x hx
    match i with
    | 0 => simp [readAsk] at hx; subst hx; exact Go.Proofs.enters_of Tryz.func20 (by kernel_rfl) rfl
    | 1 => simp [readAsk] at hx; subst hx; exact Go.Proofs.enters_of Tryz.func39 (by kernel_rfl) rfl
    | k + 2 => simp [readAsk] at hx
  · intro i x hx X hX
    match i with
    | 0 => simp [readAsk] at hx; subst hx; exact (dnone_b d m n wr pv X (Bk.below h hX h.lt)).mono fun e w' ⟨h1, h2⟩ => ⟨h1, same_below h2⟩
    | 1 => simp [readAsk] at hx; subst hx; exact (far1_any pa pd d m a n wr pv X (Bk.below h hX h.lt) ((ha.below hX ha.lt).cell 0) ((hd.below hX hd.lt).cell 0) hlt).mono fun e w' ⟨h1, h2⟩ => ⟨h1, drew_below h2⟩
    | k + 2 => simp [readAsk] at hx

set_option maxRecDepth 100000 in
set_option maxHeartbeats 1000000 in
theorem read_any (d m k : Nat) (n wr : Int) (g : Int → List UInt8) (a : Int) (h0 : 0 ≤ a) (h1 : a < n) (w : World) (h : Dv w d m k n wr g) :
    Calls Tryz.prog 13 #[.pointer (some ⟨d, 0, none⟩), .int .u32 a] w fun e w' => e = .returned (.tuple #[.agg (bA (g a)), .int .i64 0]) ∧ Below w.heap.size w w' := by
  have hmf : ∀ (fn : Fn) (first cap : Array Value) (w : World), (Instr.makeFunc fn first cap).run Tryz.prog w = .ok (.func fn first cap) w := fun _ _ _ _ => rfl
  have HD0 := Lib.hid (h.below ((Below.refl w.heap.size w).alloc (Nat.le_refl _) (.cells Tryz.zeroCells53 53)))
  have HR0 := Lib.hid (Bk.new w 53 Tryz.zeroCells53)
  have HB0 := Lib.hid ((Below.refl w.heap.size w).alloc (Nat.le_refl _) (.cells Tryz.zeroCells53 53))
  clear h
  go_enter Tryz.func13, Tryz.ntmps13
  go_wp2_with fail
  refine wp_scope_straight ?_
  go_wp2_with fail
  refine (far_any d a _).mono ?_
  rintro e w1 ⟨rfl, ha1, hd1, hb1⟩
  have HD1 := Lib.hid (HD0.out.below hb1)
  have HR1 := Lib.hid (HR0.out.below hb1 HR0.out.lt)
  have HB1 := Lib.hid (HB0.out.trans (hb1.mono HB0.out.size))
  clear HD0 HR0 HB0 hb1
  generalize (w.alloc _).heap.size = z at *
  go_wp2_with fail
  have HD2 := Lib.hid (HD1.out.below ((Below.refl _ _).alloc (Nat.le_refl _) (.cells (Ask.cells (readAsk d (z + 1) z)) 75)))
  refine (readCheck d m w1.heap.size (z + 1) z n wr a _ _ HD2.out.b (World.ownsRow_lit w1 (Ask.cells (readAsk d (z + 1) z)) 2 (Nat.zero_le _) (by decide) rfl) (ha1.alloc _) (hd1.alloc _) h1).mono ?_
  rintro e w3 ⟨rfl, hb3⟩
  change Below (w1.alloc (.cells (Ask.cells (readAsk d (z + 1) z)) 75)).heap.size (w1.alloc (.cells (Ask.cells (readAsk d (z + 1) z)) 75)) w3 at hb3
  have HD3 := Lib.hid (HD2.out.below hb3)
  have hR2 := HR1.out.alloc (.cells (Ask.cells (readAsk d (z + 1) z)) 75)
  have hB2 := HB1.out.alloc HB1.out.size (.cells (Ask.cells (readAsk d (z + 1) z)) 75)
  have HR3 := Lib.hid (hR2.below hb3 hR2.lt)
  have hB3 := hB2.trans (hb3.mono hB2.size)
  clear HD1 HD2 HR1 hR2 hB2 hb3 ha1 hd1 HB1
  have hlook := HD3.out.look h0 h1
  have hl := HD3.out.len a
  have hszV : (Tryz.prog.info? 53).map (·.size) = some (bA (g a)).size := by rw [bA_size, hl]; exact infoBlock
  have h1V := bA_one (g a)
  have hls : (bA (g a)).toList.length = 256 := by rw [bA_toList_length, hl]
  have hsz2 : (bA (g a)).size = 256 := by rw [bA_size, hl]
  have c1 : w3.cell? ⟨d, 1, none⟩ = some (.map (some m)) := HD3.out.b.cell 1
  generalize hV : bA (g a) = V at *
  have HV := Lib.hid hV
  clear hV
  have HLS := Lib.hid hls
  have HSZ := Lib.hid hsz2
  clear hl hls hsz2
  have hN0 := Bk.new w3 53 Tryz.zeroCells53
  rw [zb_cells] at HR3
  have HN := Lib.hid (hN0.there V.size (by rw [HSZ.out, zb_cells, bA_size, zb_length]; exact Nat.le_refl _))
  have hNA := hN0.all V.toList (by rw [HLS.out, zb_cells, bA_size, zb_length])
  rw [Array.toArray_toList] at hNA
  have HNA := Lib.hid hNA
  have hBX := (hB3.alloc hB3.size (.cells Tryz.zeroCells53 53))
  have hRX := Bk.farCells w3.heap.size (by have := HR3.out.lt; omega) V.toList (HR3.out.alloc (.cells Tryz.zeroCells53 53)) 0
  have hDX := Bk.farCells w3.heap.size (by have := HD3.out.b.lt; omega) V.toList (Bk.alloc HD3.out.b (.cells Tryz.zeroCells53 53)) 0
  have hBX2 := below_setCells w3.heap.size hB3.size V.toList hBX 0
  have HBX := Lib.hid hBX2
  have HRX := Lib.hid hRX
  have cX : ((w3.alloc (.cells Tryz.zeroCells53 53)).setCells w3.heap.size 0 V.toList).cell? ⟨d, 2, none⟩ = some (.slice none 0 0) := hDX.cell 2
  clear hN0 hNA hRX hDX hBX hBX2 HR3 HD3 hB3
  go_wp2_with (refine wpList_store_mid rfl 53 _ _ rfl _ 0 V rfl rfl HN.out hszV h1V ?_)
  generalize ((w3.alloc (.cells Tryz.zeroCells53 53)).setCells w3.heap.size 0 V.toList) = w4 at *
  simp only [Act.put]
  go_step3
  go_wp2_with fail
  go_loop [33] (fun i => i = .int .i64 0) (fun _ => 0)
  case atStart => rfl
  case round =>
    subst hrel
    have hthere := HRX.out.there V.size (by rw [HSZ.out, bA_size, zb_length]; exact Nat.le_refl _)
    have hall := HRX.out.all V.toList (by rw [HLS.out, bA_size, zb_length])
    rw [Array.toArray_toList] at hall
    have hbx := below_setCells w.heap.size (Nat.le_refl _) V.toList HBX.out 0
    have HT := Lib.hid hthere
    have HA := Lib.hid hall
    clear hthere hall
    go_wp2_with (first | (refine wpList_load_row rfl 53 _ rfl _ rfl _ V _ _ HNA.out Tryz.underlying53 rfl hszV ?_) | (refine wpList_store_mid rfl 53 _ _ rfl _ 0 V rfl rfl HT.out hszV h1V ?_))
    refine bodyPost_ret (results_row_tmp rfl _ _ _ _ _ _ rfl HA.out Tryz.underlying53 rfl hszV) rfl ⟨by rw [HV.out]; rfl, hbx⟩
end Go.Proofs.YtjnbpbnhkinggaaGreatDoor.St
