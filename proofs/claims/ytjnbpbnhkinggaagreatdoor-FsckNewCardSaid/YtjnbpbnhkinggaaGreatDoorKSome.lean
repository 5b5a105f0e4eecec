/- The contract of fsck.some, of one pointer. -/
import Derived.Test.YtjnbpbnhkinggaaGreatDoorKSeen
import Derived.Deep.AppendLies
namespace Go.Proofs.YtjnbpbnhkinggaaGreatDoor.St
open Go.RowKit

theorem info_ref : (Tryz.prog.info? 68).map (fun i => (i.zero, i.size, i.bytes)) = some (some (.agg #[.int .u32 0, .int .u8 0]), 2, 8) := by kernel_rfl
set_option maxRecDepth 100000 in
set_option maxHeartbeats 1000000 in
theorem some_nine (x : Nat) (w : World) (h : Bk w x 22 #[.int .u32 9]) : Calls Tryz.prog 31 #[.int .u8 4, .slice (some ⟨x, 0, none⟩) 1 1] w fun e w' => ∃ b c, e = .returned (.slice (some ⟨b, 0, none⟩) 1 c) ∧ w'.ownsRow 0 68 2 (.slice (some ⟨b, 0, none⟩) 1 c) 1 [.int .u32 9, .int .u8 4] ∧ Below w.heap.size w w' := by
  have c0 : w.cell? ⟨x, 0, none⟩ = some (.int .u32 9) := h.cell 0
  obtain ⟨i0, hi, hz0, hz1, hz2⟩ := info_parts info_ref
  clear h
  go_enter Tryz.func31, Tryz.ntmps31
  go_wp2_with fail
  go_loopw [5, 10] (fun v i wr => (i = .int .i64 0 ∧ v = .slice none 0 0 ∧ wr = w) ∨ (i = .int .i64 1 ∧ ∃ b c, v = .slice (some ⟨b, 0, none⟩) 1 c ∧ wr.ownsRow 0 68 2 v 1 [.int .u32 9, .int .u8 4] ∧ Below w.heap.size w wr)) (fun _ i _ => 1 - (intOf i).toNat)
  case atStart => exact Or.inl ⟨rfl, rfl, rfl⟩
  case round =>
    rcases hrel with ⟨rfl, rfl, rfl⟩ | ⟨rfl, b, c, rfl, hO, hB⟩
    · have hnw := (Bk.new wr 68 #[.int .u32 9, .int .u8 4])
      have hown0 := World.ownsRow_nil (wr.alloc (.cells #[.int .u32 9, .int .u8 4] 68)) 0 68 2
      go_wp2_with (at_builtin; refine wpList_append_lies _ rfl _ _ 83 rfl 0 68 i0 _ 2 8 Tryz.underlying83 hi hz0 hz1 hz2 rfl (by decide) _ 0 _ rfl hown0 ⟨wr.heap.size, 0, none⟩ 1 1 [.int .u32 9, .int .u8 4] rfl rfl (bk_cells hnw) (by simp [Value.oneCell']) (by decide) (by decide) (by decide) (Nat.zero_le _) (wr.heap.size + 1) (size_alloc _ _) ?_; intro gP capP Y3 hown hgrow hat hlt)
      have hB3 := ((Below.refl wr.heap.size wr).alloc (Nat.le_refl _) (.cells #[.int .u32 9, .int .u8 4] 68)).trans ((Fr.of_grown hgrow).below (by rw [size_alloc]; omega) (fun i _ e => by cases e))
      simp only [Nat.zero_add, List.nil_append] at hown
      have HE := Lib.hid (And.intro hown hB3)
      clear hown hB3 hgrow hat hlt hnw hown0
      go_wp2_with fail
      go_roundw
      case rel => exact Or.inr ⟨rfl, gP, capP, rfl, HE.out.1, HE.out.2⟩
      case measure => simp [intOf]
    · have HE := Lib.hid (And.intro hO hB)
      clear hO hB
      go_wp2_with fail
      go_ret
      exact ⟨b, c, rfl, HE.out.1, HE.out.2⟩
end Go.Proofs.YtjnbpbnhkinggaaGreatDoor.St
