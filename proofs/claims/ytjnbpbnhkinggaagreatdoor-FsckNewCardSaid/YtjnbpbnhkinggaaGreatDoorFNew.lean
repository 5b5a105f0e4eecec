/- The contract of pantilelaw26.FsckNew. -/
import Derived.Test.YtjnbpbnhkinggaaGreatDoorFHead
namespace Go.Proofs.YtjnbpbnhkinggaaGreatDoor.St
open Go.RowKit

set_option maxRecDepth 100000 in
set_option maxHeartbeats 4000000 in
theorem fscknew_any (n : Int) (h0 : 0 ≤ n) (h1 : n ≤ 4294967295) (w : World) : Calls Tryz.prog 3 #[.int .u32 n] w fun e w' => e = .returned (.bool true) ∧ Below w.heap.size w w' := by
  have hb0 : 64 ≤ 64 + n % 4937 := by omega
  have hb1 : 64 + n % 4937 ≤ 5000 := by omega
  go_enter Tryz.func3, Tryz.ntmps3
  go_wp2_with fail
  generalize hN : 64 + n % 4937 = N at *
  clear hN
  refine (dev_new N hb0 (by omega) w).mono ?_
  rintro e w1 ⟨d, m, rfl, hd0, hm0, hD, hb⟩
  have HD1 := Lib.hid (show Dv w1 d m 0 N 0 gz from hD)
  have HB1 := Lib.hid hb
  clear hD hb
  go_wp2_with fail
  refine (clean_no _ _ 80 (by decide) _ (check_new d m 0 N 0 _ HD1.out)).mono ?_
  rintro e w2 ⟨rfl, hb2⟩
  have HD2 := Lib.hid (HD1.out.below hb2)
  have HB2 := Lib.hid (HB1.out.trans (hb2.mono HB1.out.size))
  clear hb2 HD1 HB1
  go_wp2_with fail
  refine (clean_no _ _ 1 (by decide) _ (check_nil _)).mono ?_
  rintro e w3 ⟨rfl, hb3⟩
  have HD3 := Lib.hid (HD2.out.below hb3)
  have HB3 := Lib.hid (HB2.out.trans (hb3.mono HB2.out.size))
  clear hb3 HD2 HB2
  go_wp2_with fail
  refine (format_any d m 0 N 0 gz (fun _ => rfl) (by decide) _ HD3.out).mono ?_
  rintro e w4 ⟨rfl, ⟨wt, hD4⟩, hF4⟩
  have HD4 := Lib.hid (show Dv w4 d m 1 N wt (gfm N) from hD4)
  have HB4 := Lib.hid (HB3.out.trans (hF4.below HB3.out.size (fun i hi e => by omega)))
  clear hD4 hF4 HD3 HB3
  have hA4 := (Below.refl w4.heap.size w4).alloc (Nat.le_refl _) (.cells (froot N).cells 30)
  have HD5 := Lib.hid (HD4.out.below hA4)
  have HB5 := Lib.hid (HB4.out.trans (hA4.mono HB4.out.size))
  have HK5 := Lib.hid (Bk.new w4 30 (froot N).cells)
  clear hA4 HD4 HB4
  simp only [Rt.cells, froot] at HD5 HB5 HK5 ⊢
  go_wp2_with fail
  generalize w4.alloc (.cells #[.int .u64 1, .int .u32 N, .int .u32 0, .int .u32 0, .int .u32 (N - fst N), .int .u32 1, .int .u32 (fst N), .int .u8 0] 30) = X5 at *
  generalize w4.heap.size = p5 at *
  refine (check_fmt d m 1 N wt hb0 (by omega) _ HD5.out).mono ?_
  rintro e w6 ⟨rfl, hb6⟩
  have hA6 := hb6.alloc hb6.size (.cells (repC (N - fst N)) 34)
  have HD6 := Lib.hid (HD5.out.below hA6)
  have HB6 := Lib.hid (HB5.out.trans (hA6.mono HB5.out.size))
  have HK6 := Lib.hid (HK5.out.below hA6 HK5.out.lt)
  have HP6 := Lib.hid (Bk.new w6 34 (repC (N - fst N)))
  clear hb6 hA6 HD5 HB5 HK5
  simp only [repC] at HD6 HB6 HK6 HP6 ⊢
  go_wp2_with fail
  generalize w6.alloc (.cells #[.int .u32 (N - fst N), .int .u32 0, .int .u32 0, .int .u32 0, .int .u32 0, .int .u32 0, .bool false] 34) = X6 at *
  generalize w6.heap.size = p7 at *
  refine (counts_ok d m 1 N wt (gfm N) (froot N) _ (look_fmt d m 1 N wt hb0 (by omega) _ HD6.out)).mono ?_
  rintro e w7 ⟨mn, rfl, hM7, hb7⟩
  have HD7 := Lib.hid (HD6.out.below hb7)
  have HB7 := Lib.hid (HB6.out.trans (hb7.mono HB6.out.size))
  have hK7 := HK6.out.below hb7 HK6.out.lt
  have hP7 := HP6.out.below hb7 HP6.out.lt
  have r4 : w7.cell? ⟨p5, 4, none⟩ = some (.int .u32 (N - fst N)) := hK7.cell 4
  have q0 : w7.cell? ⟨p7, 0, none⟩ = some (.int .u32 (N - fst N)) := hP7.cell 0
  have q1 : w7.cell? ⟨p7, 1, none⟩ = some (.int .u32 0) := hP7.cell 1
  have q2 : w7.cell? ⟨p7, 2, none⟩ = some (.int .u32 0) := hP7.cell 2
  have q3 : w7.cell? ⟨p7, 3, none⟩ = some (.int .u32 0) := hP7.cell 3
  have q4 : w7.cell? ⟨p7, 4, none⟩ = some (.int .u32 0) := hP7.cell 4
  have q5 : w7.cell? ⟨p7, 5, none⟩ = some (.int .u32 0) := hP7.cell 5
  have q6 : w7.cell? ⟨p7, 6, none⟩ = some (.bool false) := hP7.cell 6
  have hlen : ∀ ty, _ := fun ty => hM7.len0 (t := 37) Tryz.underlying37 ty
  clear hM7 hb7 hK7 hP7 HD6 HB6 HK6 HP6
  go_wp2_with fail
  refine (clean_yes _ _ _ (check_fmt d m 1 N wt hb0 (by omega) _ HD7.out)).mono ?_
  rintro e w8 ⟨rfl, hb8⟩
  have HB8 := Lib.hid (HB7.out.trans (hb8.mono HB7.out.size))
  clear hb8 HD7 HB7 r4 q0 q1 q2 q3 q4 q5 q6 hlen
  go_wp2_with fail
  refine (head_any _).mono ?_
  rintro e w9 ⟨rfl, hb9⟩
  have HB9 := Lib.hid (HB8.out.trans (hb9.mono HB8.out.size))
  clear hb9 HB8
  go_wp2_with fail
  go_ret
  exact ⟨rfl, HB9.out⟩
end Go.Proofs.YtjnbpbnhkinggaaGreatDoor.St
