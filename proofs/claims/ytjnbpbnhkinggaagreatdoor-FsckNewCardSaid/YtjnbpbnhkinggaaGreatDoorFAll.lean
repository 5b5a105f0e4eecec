/- What fsck tells of devices that are new, that are formatted, and of one whose names are none. -/
import Derived.Test.YtjnbpbnhkinggaaGreatDoorKBad
import Derived.Test.YtjnbpbnhkinggaaGreatDoorRBack
namespace Go.Proofs.YtjnbpbnhkinggaaGreatDoor.St
open Go.RowKit

/-- A device of zeros. -/
def gz : Int → List UInt8 := fun _ => zb
/-- A formatted device. -/
def gfm (n : Int) : Int → List UInt8 := gset gz 1 (rblk (froot n))
section
variable (d m k : Nat) (n wt : Int)
theorem mount_new (w : World) (h : Dv w d m k n wt gz) : Calls Tryz.prog 29 #[.pointer (some ⟨d, 0, none⟩)] w fun e w' => e = .returned (.tuple #[.agg rz.cells, .int .i64 80]) ∧ Below w.heap.size w w' :=
  mount_any d m k n wt gz rz rz rz false false false (fun X hX => look_no d m k n wt gz 0 (by decide) (by decide) gets_zb X hX) (fun X hX => look_no d m k n wt gz 1 (by decide) (by decide) gets_zb X hX) (Or.inr ⟨by decide, rfl, rfl⟩) rz.cells 80 (Or.inr ⟨rfl, rfl, rfl⟩) w h
theorem look_new (w : World) (h : Dv w d m k n wt gz) : Calls Tryz.prog 16 #[.pointer (some ⟨d, 0, none⟩)] w fun e w' => e = .returned (.tuple #[.pointer none, .agg rz.cells, .int .i64 80]) ∧ Below w.heap.size w w' :=
  look_err _ 80 (by decide) w (fun X hX => mount_new d m k n wt X (h.below hX))
theorem check_new (w : World) (h : Dv w d m k n wt gz) : Calls Tryz.prog 7 #[.pointer (some ⟨d, 0, none⟩)] w fun e w' => e = .returned (.tuple #[.agg (repC 0), .int .i64 80]) ∧ Below w.heap.size w w' :=
  check_err _ rz 80 (by decide) w (fun X hX => look_new d m k n wt X (h.below hX))
theorem check_nil (w : World) : Calls Tryz.prog 7 #[.pointer none] w fun e w' => e = .returned (.tuple #[.agg (repC 0), .int .i64 1]) ∧ Below w.heap.size w w' :=
  check_err _ rz 1 (by decide) w (fun X _ => look_err _ 1 (by decide) X (fun Y _ => mount_nil Y))
theorem gfm_0 : gfm n 0 = zb := rfl
theorem gfm_1 : gfm n 1 = rblk (froot n) := rfl
theorem gfm_2 (a : Int) (h : 2 ≤ a) : gfm n a = zb := by unfold gfm gset; rw [if_neg (by omega)]; rfl
theorem mount_fmt (h0 : 64 ≤ n) (h1 : n ≤ 1048576) (w : World) (h : Dv w d m k n wt (gfm n)) : Calls Tryz.prog 29 #[.pointer (some ⟨d, 0, none⟩)] w fun e w' => e = .returned (.tuple #[.agg (froot n).cells, .int .i64 0]) ∧ Below w.heap.size w w' :=
  mount_any d m k n wt (gfm n) rz (froot n) (froot n) false true true (fun X hX => look_no d m k n wt (gfm n) 0 (by decide) (by decide) (by rw [gfm_0]; exact gets_zb) X hX)
    (fun X hX => look_yes d m k n wt (gfm n) 1 (by decide) (by decide) (froot n) (by rw [gfm_1]; exact gets_root _ (froot_fits n h0 h1).ok (froot_fits n h0 h1).may) rfl (froot_fits n h0 h1) X hX)
    (Or.inl ⟨(by show (0 : Int) < 1; decide), rfl, rfl⟩) (froot n).cells 0 (Or.inl ⟨rfl, rfl, rfl⟩) w h
theorem look_fmt (h0 : 64 ≤ n) (h1 : n ≤ 1048576) (w : World) (h : Dv w d m k n wt (gfm n)) : Calls Tryz.prog 16 #[.pointer (some ⟨d, 0, none⟩)] w fun e w' => ∃ wk s sp t mp mt ms mf me mn, e = .returned (.tuple #[.pointer (some ⟨wk, 0, none⟩), .agg (froot n).cells, .int .i64 0]) ∧ Wk w' wk s sp t d m k mp mt ms mf me mn 0 0 (froot n) n wt (gfm n) ∧ (w.heap.size ≤ mp ∧ w.heap.size ≤ mt) ∧ Below w.heap.size w w' :=
  look_ok d m k n wt (gfm n) (fun a ha _ => gfm_2 n a ha) (froot n) rfl rfl (Int.le_refl _) (fst_bd n h0 h1).2 (fun X hX => mount_fmt d m k n wt h0 h1 X hX) w h
theorem check_fmt (h0 : 64 ≤ n) (h1 : n ≤ 1048576) (w : World) (h : Dv w d m k n wt (gfm n)) : Calls Tryz.prog 7 #[.pointer (some ⟨d, 0, none⟩)] w fun e w' => e = .returned (.tuple #[.agg (repC (n - fst n)), .int .i64 0]) ∧ Below w.heap.size w w' :=
  check_ok2 d m k n wt (gfm n) (froot n) rfl rfl rfl rfl w h (fun X hX => look_fmt d m k n wt h0 h1 X hX)
/-- The root of the head's last commit, and its device. -/
def hroot : Rt := ⟨2, 64, 0, 9, 58, 1, 6, 1⟩
def ghd : Int → List UInt8 := gset (gputs (gfm 64) [(9, zb)]) 0 (rblk hroot)
theorem hroot_fits : hroot.Fits 64 := by
  refine ⟨⟨?_, ?_, ?_, ?_, ?_, ?_, ?_, ?_⟩, ?_, rfl, ?_, ?_, ?_⟩ <;> (try unfold u32) <;> decide
theorem ghd_0 : ghd 0 = rblk hroot := rfl
theorem ghd_1 : ghd 1 = rblk (froot 64) := rfl
theorem ghd_2 (a : Int) (h : 2 ≤ a) : ghd a = zb := by
  unfold ghd gset
  rw [if_neg (by omega)]
  show gset (gfm 64) 9 zb a = zb
  unfold gset
  by_cases e : a = 9
  · rw [if_pos e]
  · rw [if_neg e]; exact gfm_2 64 a h
theorem mount_hd (w : World) (h : Dv w d m k 64 wt ghd) : Calls Tryz.prog 29 #[.pointer (some ⟨d, 0, none⟩)] w fun e w' => e = .returned (.tuple #[.agg hroot.cells, .int .i64 0]) ∧ Below w.heap.size w w' :=
  mount_any d m k 64 wt ghd hroot (froot 64) hroot true true true (fun X hX => look_yes d m k 64 wt ghd 0 (by decide) (by decide) hroot (by rw [ghd_0]; exact gets_root _ hroot_fits.ok hroot_fits.may) rfl hroot_fits X hX)
    (fun X hX => look_yes d m k 64 wt ghd 1 (by decide) (by decide) (froot 64) (by rw [ghd_1]; exact gets_root _ (froot_fits 64 (by decide) (by decide)).ok (froot_fits 64 (by decide) (by decide)).may) rfl (froot_fits 64 (by decide) (by decide)) X hX)
    (Or.inr ⟨by decide, rfl, rfl⟩) hroot.cells 0 (Or.inl ⟨rfl, rfl, rfl⟩) w h
theorem check_hd (w : World) (h : Dv w d m k 64 wt ghd) : Calls Tryz.prog 7 #[.pointer (some ⟨d, 0, none⟩)] w fun e w' => e = .returned (.tuple #[.agg (repC 0), .int .i64 250]) ∧ Below w.heap.size w w' :=
  check_err _ hroot 250 (by decide) w (fun X hX => look_bad d m k 64 wt ghd (fun a ha _ => ghd_2 a ha) hroot rfl rfl (ghd_2 9 (by decide)) (by decide) (by decide) (by decide) (by decide) (fun Y hY => mount_hd d m k wt Y hY) X (h.below hX))
end
end Go.Proofs.YtjnbpbnhkinggaaGreatDoor.St
