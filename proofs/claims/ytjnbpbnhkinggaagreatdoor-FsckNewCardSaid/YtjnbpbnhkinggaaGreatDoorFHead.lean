/- The contract of pantilelaw26.head. -/
import Derived.Test.YtjnbpbnhkinggaaGreatDoorFAll
namespace Go.Proofs.YtjnbpbnhkinggaaGreatDoor.St
open Go.RowKit

theorem built_zput : Tryz.prog.built 58 [(0, .int .u32 9)] = some (#[.int .u32 9] ++ bA zb) := by
  kernel_rfl
theorem wpList_build_one {P : Program} {ops : Array Oper} {rest : List Oper} {o : Oper} {a : Act} {w : World} {Q : Exit → Act → World → Prop} (hgd : o.guard = none) (t e : TypeId) (x : Operand) (ho : o.op = .buildSlice t 1 #[(0, x)])
    (ie : TypeInfo) (z : Value) (hu : P.underlying t = some (.slice e)) (hie : P.info? e = some ie) (hz : ie.zero = some z) (s : Nat) (hsz : ie.size = s) (h0 : 0 < s) (h1 : s ≤ 16777216) (cs : Array Value) (hx : a.eval x = .agg cs) (hs : cs.size = s) (N : Nat) (hN : w.heap.size = N)
    (h : wpList P ops Q rest (a.put o.dst (.slice (some ⟨N, 0, none⟩) 1 1)) (w.alloc (.cells cs e))) : wpList P ops Q (o :: rest) a w := by
  subst hN
  refine wpList_buildSlice hgd t e 1 #[(0, x)] ho cs ie z hu hie hz (by omega) (by omega) ?_ h
  have e : (#[(0, x)].map fun ((i, x) : Nat × Operand) => (i, a.eval x)).toList = [(0, .agg cs)] := by simp [hx]
  rw [e, hsz]
  exact fill_one _ cs s hs (by simp)
set_option maxRecDepth 100000 in
set_option maxHeartbeats 4000000 in
theorem head_any (w : World) : Calls Tryz.prog 9 #[] w fun e w' => e = .returned (.bool true) ∧ Below w.heap.size w w' := by
  go_enter Tryz.func9, Tryz.ntmps9
  go_wp2_with fail
  refine (dev_new 64 (by decide) (by decide) w).mono ?_
  rintro e w1 ⟨d, m, rfl, hd0, hm0, hD, hb⟩
  have HD1 := Lib.hid (show Dv w1 d m 0 64 0 gz from hD)
  have HB1 := Lib.hid hb
  clear hD hb
  go_wp2_with fail
  refine (check_new d m 0 64 0 _ HD1.out).mono ?_
  rintro e w2 ⟨rfl, hb2⟩
  have hA := hb2.alloc hb2.size (.cells #[.int .u32 0, .int .u32 0, .int .u32 0, .int .u32 0, .int .u32 0, .int .u32 0, .bool false] 34)
  have HD2 := Lib.hid (HD1.out.below hA)
  have HB2 := Lib.hid (HB1.out.trans (hA.mono HB1.out.size))
  clear hb2 hA HD1 HB1
  simp only [repC]
  go_wp2_with fail
  generalize w2.alloc (.cells #[.int .u32 0, .int .u32 0, .int .u32 0, .int .u32 0, .int .u32 0, .int .u32 0, .bool false] 34) = X2 at *
  refine (format_any d m 0 64 0 gz (fun _ => rfl) (by decide) _ HD2.out).mono ?_
  rintro e w3 ⟨rfl, ⟨wt3, hD3⟩, hF3⟩
  have HD3 := Lib.hid (show Dv w3 d m 1 64 wt3 (gfm 64) from hD3)
  have HB3 := Lib.hid (HB2.out.trans (hF3.below HB2.out.size (fun i hi e => by omega)))
  clear hD3 hF3 HD2 HB2
  have hfr : (froot 64).cells = #[.int .u64 1, .int .u32 64, .int .u32 0, .int .u32 0, .int .u32 58, .int .u32 1, .int .u32 6, .int .u8 0] := by kernel_rfl
  rw [hfr]
  clear hfr
  have hA3 := (Below.refl w3.heap.size w3).alloc (Nat.le_refl _) (.cells #[.int .u64 1, .int .u32 64, .int .u32 0, .int .u32 0, .int .u32 58, .int .u32 1, .int .u32 6, .int .u8 0] 30)
  have HD4 := Lib.hid (HD3.out.below hA3)
  have HB4 := Lib.hid (HB3.out.trans (hA3.mono HB3.out.size))
  have HK4 := Lib.hid (Bk.new w3 30 #[.int .u64 1, .int .u32 64, .int .u32 0, .int .u32 0, .int .u32 58, .int .u32 1, .int .u32 6, .int .u8 0])
  have HB3S := Lib.hid HB3.out.size
  clear hA3 HD3 HB3
  go_wp2_with fail
  generalize w3.alloc (.cells #[.int .u64 1, .int .u32 64, .int .u32 0, .int .u32 0, .int .u32 58, .int .u32 1, .int .u32 6, .int .u8 0] 30) = X4 at *
  have HP5' := Lib.hid (show w.heap.size ≤ w3.heap.size from HB3S.out)
  generalize w3.heap.size = p5 at *
  refine (check_fmt d m 1 64 wt3 (by decide) (by decide) _ HD4.out).mono ?_
  rintro e w5 ⟨rfl, hb5⟩
  have hA5 := hb5.alloc hb5.size (.cells #[.int .u32 58, .int .u32 0, .int .u32 0, .int .u32 0, .int .u32 0, .int .u32 0, .bool false] 34)
  have HD5 := Lib.hid (HD4.out.below hA5)
  have HB5 := Lib.hid (HB4.out.trans (hA5.mono HB4.out.size))
  have HK5 := Lib.hid (HK4.out.below hA5 HK4.out.lt)
  have HP5 := Lib.hid (Bk.new w5 34 #[.int .u32 58, .int .u32 0, .int .u32 0, .int .u32 0, .int .u32 0, .int .u32 0, .bool false])
  have hrc : repC (64 - fst 64) = #[.int .u32 58, .int .u32 0, .int .u32 0, .int .u32 0, .int .u32 0, .int .u32 0, .bool false] := by kernel_rfl
  rw [hrc]
  clear hb5 hA5 HD4 HB4 HK4 hrc
  go_wp2_with fail
  generalize w5.alloc (.cells #[.int .u32 58, .int .u32 0, .int .u32 0, .int .u32 0, .int .u32 0, .int .u32 0, .bool false] 34) = X5 at *
  generalize w5.heap.size = p7 at *
  refine (clean_yes _ _ _ (check_fmt d m 1 64 wt3 (by decide) (by decide) _ HD5.out)).mono ?_
  rintro e w6 ⟨rfl, hb6⟩
  have HD6 := Lib.hid (HD5.out.below hb6)
  have HB6 := Lib.hid (HB5.out.trans (hb6.mono HB5.out.size))
  have HK6 := Lib.hid (HK5.out.below hb6 HK5.out.lt)
  have HP6 := Lib.hid (HP5.out.below hb6 HP5.out.lt)
  clear hb6 HD5 HB5 HK5 HP5
  have r0 : w6.cell? ⟨p5, 0, none⟩ = some (.int .u64 1) := HK6.out.cell 0
  have r3 : w6.cell? ⟨p5, 3, none⟩ = some (.int .u32 0) := HK6.out.cell 3
  have r7 : w6.cell? ⟨p5, 7, none⟩ = some (.int .u8 0) := HK6.out.cell 7
  have s0 : w6.frozen? ⟨p5, 0, none⟩ = false := HK6.out.frozen 0
  have s3 : w6.frozen? ⟨p5, 3, none⟩ = false := HK6.out.frozen 3
  have s7 : w6.frozen? ⟨p5, 7, none⟩ = false := HK6.out.frozen 7
  have hk7 : Bk (((w6.setCell ⟨p5, 0, none⟩ (.int .u64 2)).setCell ⟨p5, 3, none⟩ (.int .u32 9)).setCell ⟨p5, 7, none⟩ (.int .u8 1)) p5 30 hroot.cells := ((HK6.out.set 0 _).set 3 _).set 7 _
  have hf7 : Fr (fun i => i = p5) w6 (((w6.setCell ⟨p5, 0, none⟩ (.int .u64 2)).setCell ⟨p5, 3, none⟩ (.int .u32 9)).setCell ⟨p5, 7, none⟩ (.int .u8 1)) := (((Fr.refl (fun i => i = p5) w6).setCell (p := ⟨p5, 0, none⟩) (fun _ => rfl) _).setCell (p := ⟨p5, 3, none⟩) (fun _ => rfl) _).setCell (p := ⟨p5, 7, none⟩) (fun _ => rfl) _
  have hd7 := HD6.out.fr hf7 (bk_ne HD6.out.b HK6.out (by decide)) (mp_ne HD6.out.m HK6.out)
  have hp7 := HP6.out.fr hf7 (bk_ne HP6.out HK6.out (by decide))
  have hb7 := HB6.out.trans (hf7.below HB6.out.size (fun i hi e => by have := HP5'.out; omega))
  have HBU := Lib.hid built_zput
  have hNS : (#[Value.int .u32 9] ++ bA zb).size = 257 := by rw [Array.size_append, bA_size, zb_length]; rfl
  obtain ⟨i0, hi, hz0, hz1, hz2⟩ := info_parts infoPut
  have HOW := Lib.hid (fun X => World.ownsRow_lit (base := 0) (e := 58) (size := 257) X (#[Value.int .u32 9] ++ bA zb) 1 (Nat.zero_le _) (by decide) (by rw [hNS]))
  have HPC := Lib.hid (show (#[Value.int .u32 9] ++ bA zb).toList = putC [(9, zb)] by simp [putC])
  have HNS := Lib.hid hNS
  have HK7 := Lib.hid hk7
  have HD7 := Lib.hid hd7
  have HP7 := Lib.hid hp7
  have HB7 := Lib.hid hb7
  clear hNS hk7 hd7 hp7 hb7 hf7 HD6 HB6 HK6 HP6
  generalize #[Value.int .u32 9] ++ bA zb = NV at *
  have hA8 := (Below.refl (((w6.setCell ⟨p5, 0, none⟩ (.int .u64 2)).setCell ⟨p5, 3, none⟩ (.int .u32 9)).setCell ⟨p5, 7, none⟩ (.int .u8 1)).heap.size (((w6.setCell ⟨p5, 0, none⟩ (.int .u64 2)).setCell ⟨p5, 3, none⟩ (.int .u32 9)).setCell ⟨p5, 7, none⟩ (.int .u8 1))).alloc (Nat.le_refl _) (.cells NV 58)
  have HK8 := Lib.hid (HK7.out.below hA8 HK7.out.lt)
  have HD8 := Lib.hid (HD7.out.below hA8)
  have HP8 := Lib.hid (HP7.out.below hA8 HP7.out.lt)
  have HB8 := Lib.hid (HB7.out.trans (hA8.mono HB7.out.size))
  have HO8 := Lib.hid (HOW.out (((w6.setCell ⟨p5, 0, none⟩ (.int .u64 2)).setCell ⟨p5, 3, none⟩ (.int .u32 9)).setCell ⟨p5, 7, none⟩ (.int .u8 1)))
  have HSZ8 := Lib.hid (show (((w6.setCell ⟨p5, 0, none⟩ (.int .u64 2)).setCell ⟨p5, 3, none⟩ (.int .u32 9)).setCell ⟨p5, 7, none⟩ (.int .u8 1)).heap.size = w6.heap.size by simp [World.setCell])
  clear hA8 HK7 HD7 HP7 HB7 HOW
  go_wp2_with (first | (refine wpList_built rfl 58 _ rfl [(0, .int .u32 9)] rfl NV HBU.out ?_) | (refine wpList_build_one rfl 43 58 _ rfl i0 _ Tryz.underlying43 hi hz0 257 hz1 (by decide) (by decide) NV rfl HNS.out w6.heap.size HSZ8.out ?_; generalize (((w6.setCell ⟨p5, 0, none⟩ (.int .u64 2)).setCell ⟨p5, 3, none⟩ (.int .u32 9)).setCell ⟨p5, 7, none⟩ (.int .u8 1)).alloc (.cells NV 58) = X8 at *) | (refine wpList_load_row rfl 30 _ rfl _ rfl _ hroot.cells _ _ HK8.out Tryz.underlying30 rfl (by kernel_rfl) ?_))
  clear r0 r3 r7 s0 s3 s7
  refine (commit_any d m 1 64 wt3 (gfm 64) hroot hroot_fits _ [(9, zb)] (by decide) (by decide) (fun p hp => by rw [List.mem_singleton] at hp; subst hp; exact ⟨zb_length, by decide, by decide⟩) X8 HD8.out (by rw [← HPC.out, ← HSZ8.out]; exact HO8.out)).mono ?_
  rintro e w9 ⟨rfl, ⟨wt9, hD9⟩, hF9⟩
  have HD9 := Lib.hid (show Dv w9 d m 3 64 wt9 ghd from hD9)
  have HP9 := Lib.hid (HP8.out.fr hF9 (fun e => e.elim (bk_ne HP8.out HD8.out.b (by decide)) (fun e => mp_ne HD8.out.m HP8.out e.symm)))
  have HB9 := Lib.hid (HB8.out.trans (hF9.below HB8.out.size (fun i hi e => by omega)))
  clear hD9 hF9 HD8 HP8 HB8 HK8 HO8 HPC HNS HSZ8
  go_wp2_with fail
  refine (check_hd d m 3 wt9 _ HD9.out).mono ?_
  rintro e w10 ⟨rfl, hb10⟩
  have hA10 := hb10.alloc hb10.size (.cells #[.int .u32 0, .int .u32 0, .int .u32 0, .int .u32 0, .int .u32 0, .int .u32 0, .bool false] 34)
  have HD10 := Lib.hid (HD9.out.below hA10)
  have HP10 := Lib.hid (HP9.out.below hA10 HP9.out.lt)
  have HB10 := Lib.hid (HB9.out.trans (hA10.mono HB9.out.size))
  clear hb10 hA10 HD9 HP9 HB9
  simp only [repC]
  go_wp2_with fail
  generalize w10.alloc (.cells #[.int .u32 0, .int .u32 0, .int .u32 0, .int .u32 0, .int .u32 0, .int .u32 0, .bool false] 34) = X10 at *
  refine (check_nil _).mono ?_
  rintro e w11 ⟨rfl, hb11⟩
  have hA11 := hb11.alloc hb11.size (.cells #[.int .u32 0, .int .u32 0, .int .u32 0, .int .u32 0, .int .u32 0, .int .u32 0, .bool false] 34)
  have HD11 := Lib.hid (HD10.out.below hA11)
  have hP11 := HP10.out.below hA11 HP10.out.lt
  have HB11 := Lib.hid (HB10.out.trans (hA11.mono HB10.out.size))
  have HP11 := Lib.hid hP11
  clear hb11 hA11 HD10 HP10 HB10 hP11
  have heq : ∀ X, (Op.equalIn 10000 34 (.agg #[.int .u32 58, .int .u32 0, .int .u32 0, .int .u32 0, .int .u32 0, .int .u32 0, .bool false]) (.agg #[.int .u32 58, .int .u32 0, .int .u32 0, .int .u32 0, .int .u32 0, .int .u32 0, .bool false])).run Tryz.prog X = .ok true X := fun X => by kernel_rfl
  simp only [repC]
  have q0 : (w11.alloc (.cells #[.int .u32 0, .int .u32 0, .int .u32 0, .int .u32 0, .int .u32 0, .int .u32 0, .bool false] 34)).cell? ⟨p7, 0, none⟩ = some (.int .u32 58) := HP11.out.cell 0
  have q1 : (w11.alloc (.cells #[.int .u32 0, .int .u32 0, .int .u32 0, .int .u32 0, .int .u32 0, .int .u32 0, .bool false] 34)).cell? ⟨p7, 1, none⟩ = some (.int .u32 0) := HP11.out.cell 1
  have q2 : (w11.alloc (.cells #[.int .u32 0, .int .u32 0, .int .u32 0, .int .u32 0, .int .u32 0, .int .u32 0, .bool false] 34)).cell? ⟨p7, 2, none⟩ = some (.int .u32 0) := HP11.out.cell 2
  have q3 : (w11.alloc (.cells #[.int .u32 0, .int .u32 0, .int .u32 0, .int .u32 0, .int .u32 0, .int .u32 0, .bool false] 34)).cell? ⟨p7, 3, none⟩ = some (.int .u32 0) := HP11.out.cell 3
  have q4 : (w11.alloc (.cells #[.int .u32 0, .int .u32 0, .int .u32 0, .int .u32 0, .int .u32 0, .int .u32 0, .bool false] 34)).cell? ⟨p7, 4, none⟩ = some (.int .u32 0) := HP11.out.cell 4
  have q5 : (w11.alloc (.cells #[.int .u32 0, .int .u32 0, .int .u32 0, .int .u32 0, .int .u32 0, .int .u32 0, .bool false] 34)).cell? ⟨p7, 5, none⟩ = some (.int .u32 0) := HP11.out.cell 5
  have q6 : (w11.alloc (.cells #[.int .u32 0, .int .u32 0, .int .u32 0, .int .u32 0, .int .u32 0, .int .u32 0, .bool false] 34)).cell? ⟨p7, 6, none⟩ = some (.bool false) := HP11.out.cell 6
  go_wp2_with fail
  generalize w11.alloc (.cells #[.int .u32 0, .int .u32 0, .int .u32 0, .int .u32 0, .int .u32 0, .int .u32 0, .bool false] 34) = X11 at *
  refine (clean_no _ _ 250 (by decide) _ (check_hd d m 3 wt9 _ HD11.out)).mono ?_
  rintro e w12 ⟨rfl, hb12⟩
  have HE := Lib.hid (HB11.out.trans (hb12.mono HB11.out.size))
  clear hb12 HB11 HD11 HP11 q0 q1 q2 q3 q4 q5 q6
  go_wp2_with fail
  go_ret
  exact ⟨rfl, HE.out⟩
end Go.Proofs.YtjnbpbnhkinggaaGreatDoor.St
