/- The contract of root.turn. -/
import Derived.Test.YtjnbpbnhkinggaaGreatDoorRSteps
namespace Go.Proofs.YtjnbpbnhkinggaaGreatDoor.St
open Go.RowKit

theorem size_alloc (w : World) (o : Obj) : (w.alloc o).heap.size = w.heap.size + 1 := by simp
/-- A root's block. -/
def rblk (r : Rt) : List UInt8 := sld (filled 82 r.bytes)
theorem rblk_length (r : Rt) : (rblk r).length = 256 := sld_length _ (filled_length _ _ (by rw [Rt.bytes_length]; omega))
set_option maxRecDepth 100000 in
set_option maxHeartbeats 1000000 in
theorem last_any (pr pd d m k : Nat) (n wt : Int) (g : Int → List UInt8) (r : Rt) (hr : r.Ok) (hm : r.may = true) (w : World) (h : Dv w d m k n wt g) (hl : Bk w pr 30 r.cells) (hd : Bk w pd 23 #[.pointer (some ⟨d, 0, none⟩)]) :
    Calls Tryz.prog 25 #[.pointer (some ⟨pr, 0, none⟩), .pointer (some ⟨pd, 0, none⟩)] w fun e w' => e = .returned (.int .i64 0) ∧ BlkRel w 0 pd d m k n g (.slice none 0 0) [(r.gen % 2, rblk r)] 1 w' := by
  have HD := Lib.hid h
  have HL := Lib.hid hl
  have HP := Lib.hid hd
  have hlo := h.lo
  obtain ⟨g0, g1⟩ := hr.gen
  have hB : (rblk r).length = 256 := rblk_length r
  have hszV : (Tryz.prog.info? 53).map (·.size) = some (bA (rblk r)).size := by rw [bA_size, hB]; exact infoBlock
  have h1V := bA_one (rblk r)
  have HSZ := Lib.hid (show (bA (rblk r)).size = 256 by rw [bA_size, hB])
  have HPut := Lib.hid (fun X => put_any r hr hm X)
  have HW := Lib.hid (fun X hX => write_any d m k n wt g (.slice none 0 0) [] (r.gen % 2) (rblk r) hB (by omega) (by omega) (by decide) X hX)
  obtain ⟨c0, c1, c2, c3, c4, c5, c6, c7⟩ := hl.rt
  clear h hl hd hr hm hB
  go_enter Tryz.func25, Tryz.ntmps25
  go_wp2_with fail
  refine (HPut.out _).mono ?_
  rintro e w1 ⟨rfl, hb1⟩
  have HD1 := Lib.hid (HD.out.below hb1)
  have HL1 := Lib.hid (HL.out.below hb1 HL.out.lt)
  have HP1 := Lib.hid (HP.out.below hb1 HP.out.lt)
  have HB1 := Lib.hid hb1
  clear HD HL HP hb1 c0 c1 c2 c3 c4 c5 c6 c7
  change Hid _ at HW
  have hv : bA (sld (filled 82 r.bytes)) = bA (rblk r) := rfl
  simp only [hv]
  clear hv
  have hN0 := Bk.new w1 53 Tryz.zeroCells53
  have hth := hN0.there (bA (rblk r)).size (by rw [HSZ.out, zb_cells, bA_size, zb_length]; exact Nat.le_refl _)
  have hN1 := hN0.all (bA (rblk r)).toList (by rw [Array.length_toList, HSZ.out, zb_cells, bA_size, zb_length])
  rw [Array.toArray_toList] at hN1
  have hB1 := below_setCells w1.heap.size (Nat.le_refl _) (bA (rblk r)).toList ((Below.refl w1.heap.size w1).alloc (Nat.le_refl _) (.cells Tryz.zeroCells53 53)) 0
  have HD2 := Lib.hid (HD1.out.below hB1)
  have HB2 := Lib.hid (HB1.out.trans (hB1.mono HB1.out.size))
  have hL2 := HL1.out.below hB1 HL1.out.lt
  have hP2 := HP1.out.below hB1 HP1.out.lt
  have cp := hP2.cell 0
  have c0 := hL2.rt.1
  have HN1 := Lib.hid hN1
  clear hN0 hN1 hB1 hL2 hP2 HD1 HL1 HP1 HB1
  generalize bA (rblk r) = BV at *
  go_wp2_with (first | (refine wpList_store_mid rfl 53 _ _ rfl w1.heap.size 0 BV rfl rfl hth hszV h1V ?_; generalize (w1.alloc (.cells Tryz.zeroCells53 53)).setCells w1.heap.size 0 BV.toList = w3 at *) | (refine wpList_load_row rfl 53 _ rfl _ rfl _ BV _ _ HN1.out Tryz.underlying53 rfl hszV ?_))
  refine (HW.out _ HD2.out.pend).mono ?_
  rintro e w5 ⟨pv2, rfl, hd5, hat5, hf5⟩
  have hF5 : Fr (fun i => i = d) w w5 := (Fr.of_all HB2.out (fun i => i = d)).trans hf5 (fun i hi h => h.elim id (fun e => by cases e))
  have hL5 : Later w pv2 := by
    intro x hx
    rcases hat5 with e | ⟨y, e1, e2⟩
    · rw [e] at hx; cases hx
    · have : x = y := Option.some.inj (hx.symm.trans e1)
      have := HB2.out.size
      omega
  have HE := Lib.hid (show BlkRel w 0 pd d m k n g (.slice none 0 0) [(r.gen % 2, rblk r)] 1 w5 from ⟨⟨_, pv2, hd5, hL5⟩, hF5⟩)
  clear hd5 hat5 hf5 hF5 hL5 HD2 HB2
  go_wp2_with fail
  go_ret
  exact ⟨rfl, HE.out⟩

/-- What stays through root.turn. -/
structure Fx (w : World) (d m pd pr b : Nat) (r : Rt) (fs : List Stp) (X : World) : Prop where
  bd : Bk X pd 23 #[.pointer (some ⟨d, 0, none⟩)]
  br : Bk X pr 30 r.cells
  row : X.ownsRow 0 78 1 (.slice (some ⟨b, 0, none⟩) fs.length fs.length) fs.length (Stp.cells fs).toList
  fr : Fr (fun i => i = d ∨ i = m) w X
theorem Fx.go {w : World} {d m pd pr b k : Nat} {r : Rt} {fs : List Stp} {X Y : World} {cs : Array Value} {f : Int → Option Value} (h : Fx w d m pd pr b r fs X) (hd : Bk X d 46 cs) (hm : Mp X m k f) (hf : Fr (fun i => i = d ∨ i = m) X Y) : Fx w d m pd pr b r fs Y :=
  ⟨h.bd.fr hf (fun e => e.elim (bk_ne h.bd hd (by decide)) (fun e => mp_ne hm h.bd e.symm)), h.br.fr hf (fun e => e.elim (bk_ne h.br hd (by decide)) (fun e => mp_ne hm h.br e.symm)), own_fr h.row hf (fun x hx e => e.elim (fun e => own_ne h.row hd (by decide) (e ▸ hx)) (fun e => own_nm h.row hm (e ▸ hx))), h.fr.trans hf (fun _ _ h => h)⟩
/-- The steps of root.turn. -/
def turnS (d pd pl pr : Nat) : List Stp := [⟨23, #[], #[.pointer (some ⟨pl, 0, none⟩), .pointer (some ⟨pd, 0, none⟩)]⟩, ⟨28, #[.pointer (some ⟨d, 0, none⟩)], #[]⟩, ⟨25, #[], #[.pointer (some ⟨pr, 0, none⟩), .pointer (some ⟨pd, 0, none⟩)]⟩, ⟨28, #[.pointer (some ⟨d, 0, none⟩)], #[]⟩]
/-- What holds behind each step. -/
def turnI (w : World) (d m pd pl pr b k : Nat) (n : Int) (g : Int → List UInt8) (r : Rt) (lv : Value) (ps : List (Int × List UInt8)) (i : Nat) (X : World) : Prop :=
  Fx w d m pd pr b r (turnS d pd pl pr) X ∧
  match i with
  | 0 => (∃ wt, Dv X d m k n wt g) ∧ Bk X pl 43 #[lv] ∧ X.ownsRow 0 58 257 lv ps.length (putC ps)
  | 1 => ∃ wt pv, Dp X d m k n wt g pv ps
  | 2 => ∃ wt, Dv X d m (k + ps.length) n wt (gputs g ps)
  | 3 => ∃ wt pv, Dp X d m (k + ps.length) n wt (gputs g ps) pv [(r.gen % 2, rblk r)]
  | _ => ∃ wt, Dv X d m (k + ps.length + 1) n wt (gset (gputs g ps) (r.gen % 2) (rblk r))
theorem turnSteps (w W : World) (d m pd pl pr b k : Nat) (n : Int) (g : Int → List UInt8) (r : Rt) (hr : r.Ok) (hm : r.may = true) (lv : Value) (ps : List (Int × List UInt8)) (hlen : ps.length ≤ 1000000) (hk : k + ps.length < 1000000) (hpl : ∀ p ∈ ps, p.2.length = 256 ∧ 0 ≤ p.1 ∧ p.1 < n) (h : turnI w d m pd pl pr b k n g r lv ps 0 W) :
    Calls Tryz.prog 27 #[.slice (some ⟨b, 0, none⟩) 4 4] W fun e w' => e = .returned (.int .i64 0) ∧ turnI w d m pd pl pr b k n g r lv ps 4 w' := by
  refine steps_ok b 4 (turnS d pd pl pr) (by simp [turnS]) (turnI w d m pd pl pr b k n g r lv ps) W h (fun i X hX => hX.1.row) ?_ ?_
  · intro i x hx
    match i with
    | 0 => simp [turnS] at hx; subst hx; exact Go.Proofs.enters_of Tryz.func23 (by kernel_rfl) rfl
    | 1 => simp [turnS] at hx; subst hx; exact Go.Proofs.enters_of Tryz.func28 (by kernel_rfl) rfl
    | 2 => simp [turnS] at hx; subst hx; exact Go.Proofs.enters_of Tryz.func25 (by kernel_rfl) rfl
    | 3 => simp [turnS] at hx; subst hx; exact Go.Proofs.enters_of Tryz.func28 (by kernel_rfl) rfl
    | k + 4 => simp [turnS] at hx
  · intro i x hx X hX
    match i with
    | 0 =>
      simp [turnS] at hx; subst hx
      obtain ⟨hF, ⟨wt, hD⟩, hL, hO⟩ := hX
      refine (blocks_any pl pd d m k n wt g lv ps hlen hpl X hD hL hF.bd hO).mono ?_
      rintro e w' ⟨rfl, hR⟩
      obtain ⟨wt1, pv, hdp, _⟩ := hR.dp
      rw [List.take_length] at hdp
      exact ⟨rfl, hF.go hD.b hD.m (hR.fr.mono (fun _ _ h => Or.inl h)), wt1, pv, hdp⟩
    | 1 =>
      simp [turnS] at hx; subst hx
      obtain ⟨hF, wt, pv, hD⟩ := hX
      refine (flush_any d m k n wt g pv ps (by omega) X hD).mono ?_
      rintro e w' ⟨rfl, hD2, hf⟩
      exact ⟨rfl, hF.go hD.b hD.m hf, _, hD2⟩
    | 2 =>
      simp [turnS] at hx; subst hx
      obtain ⟨hF, wt, hD⟩ := hX
      refine (last_any pr pd d m (k + ps.length) n wt (gputs g ps) r hr hm X hD hF.br hF.bd).mono ?_
      rintro e w' ⟨rfl, hR⟩
      obtain ⟨wt1, pv, hdp, _⟩ := hR.dp
      exact ⟨rfl, hF.go hD.b hD.m (hR.fr.mono (fun _ _ h => Or.inl h)), wt1, pv, hdp⟩
    | 3 =>
      simp [turnS] at hx; subst hx
      obtain ⟨hF, wt, pv, hD⟩ := hX
      refine (flush_any d m _ n wt _ pv _ (by simp; omega) X hD).mono ?_
      rintro e w' ⟨rfl, hD2, hf⟩
      exact ⟨rfl, hF.go hD.b hD.m hf, _, hD2⟩
    | k + 4 => simp [turnS] at hx

attribute [local go_sem] put_func
set_option maxRecDepth 100000 in
set_option maxHeartbeats 1000000 in
theorem turn_any (d m k : Nat) (n wt : Int) (g : Int → List UInt8) (r : Rt) (hr : r.Ok) (hm : r.may = true) (lv : Value) (ps : List (Int × List UInt8)) (hlen : ps.length ≤ 1000000) (hk : k + ps.length < 1000000) (hpl : ∀ p ∈ ps, p.2.length = 256 ∧ 0 ≤ p.1 ∧ p.1 < n) (w : World) (h : Dv w d m k n wt g) (ho : w.ownsRow 0 58 257 lv ps.length (putC ps)) :
    Calls Tryz.prog 15 #[.pointer (some ⟨d, 0, none⟩), lv, .agg r.cells] w fun e w' => e = .returned (.int .i64 0) ∧ (∃ wt, Dv w' d m (k + ps.length + 1) n wt (gset (gputs g ps) (r.gen % 2) (rblk r))) ∧ Fr (fun i => i = d ∨ i = m) w w' := by
  have hmf : ∀ (fn : Fn) (first cap : Array Value) (w : World), (Instr.makeFunc fn first cap).run Tryz.prog w = .ok (.func fn first cap) w := fun _ _ _ _ => rfl
  obtain ⟨s, c, hpv, _, _⟩ := own_form ho
  subst hpv
  have HH := Lib.hid (And.intro h ho)
  have HT := Lib.hid (fun W pd pl pr b h => turnSteps w W d m pd pl pr b k n g r hr hm (.slice s ps.length c) ps hlen hk hpl h)
  clear h ho hr hm hpl
  go_enter Tryz.func15, Tryz.ntmps15
  simp only [Rt.cells]
  go_wp2_with fail
  refine (HT.out _ w.heap.size (w.heap.size + 1) (w.heap.size + 1 + 1) (w.heap.size + 1 + 1 + 1) ?_).mono ?_
  · have hB1 := (Below.refl w.heap.size w).alloc (Nat.le_refl _) (.cells #[.pointer (some ⟨d, 0, none⟩)] 23)
    have hB2 := hB1.alloc hB1.size (.cells #[.slice s ps.length c] 43)
    have hB3 := hB2.alloc hB2.size (.cells #[.int .u64 r.gen, .int .u32 r.size, .int .u32 r.picks, .int .u32 r.names, .int .u32 r.free, .int .u32 r.next, .int .u32 r.hint, .int .u8 r.vols] 30)
    have hB4 := hB3.alloc hB3.size (.cells (Stp.cells (turnS d w.heap.size (w.heap.size + 1) (w.heap.size + 1 + 1))) 78)
    have k1 := Bk.new w 23 #[.pointer (some ⟨d, 0, none⟩)]
    have k2 := Bk.new (w.alloc (.cells #[.pointer (some ⟨d, 0, none⟩)] 23)) 43 #[.slice s ps.length c]
    have k3 := Bk.new ((w.alloc (.cells #[.pointer (some ⟨d, 0, none⟩)] 23)).alloc (.cells #[.slice s ps.length c] 43)) 30 #[.int .u64 r.gen, .int .u32 r.size, .int .u32 r.picks, .int .u32 r.names, .int .u32 r.free, .int .u32 r.next, .int .u32 r.hint, .int .u8 r.vols]
    have k4 := World.ownsRow_lit (base := 0) (e := 78) (size := 1) (((w.alloc (.cells #[.pointer (some ⟨d, 0, none⟩)] 23)).alloc (.cells #[.slice s ps.length c] 43)).alloc (.cells #[.int .u64 r.gen, .int .u32 r.size, .int .u32 r.picks, .int .u32 r.names, .int .u32 r.free, .int .u32 r.next, .int .u32 r.hint, .int .u8 r.vols] 30)) (Stp.cells (turnS d w.heap.size (w.heap.size + 1) (w.heap.size + 1 + 1))) 4 (Nat.zero_le _) (by decide) rfl
    simp only [size_alloc] at k2 k3 k4
    exact ⟨⟨((k1.alloc _).alloc _).alloc _, k3.alloc _, k4, Fr.of_all hB4 _⟩, ⟨wt, HH.out.1.below hB4⟩, (k2.alloc _).alloc _, own_fr HH.out.2 (Fr.of_all hB4 (fun _ => False)) (fun _ _ h => h)⟩
  rintro e w5 ⟨rfl, hI⟩
  have HI := Lib.hid hI
  clear hI
  go_wp2_with fail
  go_ret
  exact ⟨rfl, HI.out.2, HI.out.1.fr⟩
end Go.Proofs.YtjnbpbnhkinggaaGreatDoor.St
