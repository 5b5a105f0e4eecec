/- Contracts of field.Writer. -/
import Derived.Test.YtjnbpbnhkinggaaGreatDoorSFr
import Derived.WalkMore
import Derived.ScopeJumps
namespace Go.Proofs.YtjnbpbnhkinggaaGreatDoor.St
open Go.RowKit

/-- A number's bytes, the least first. -/
def le (n : Int) : Nat → List UInt8
  | 0 => []
  | j + 1 => le n j ++ [UInt8.ofNat (n / 256 ^ j % 256).toNat]
theorem le_length (n : Int) (k : Nat) : (le n k).length = k := by
  induction k with
  | zero => rfl
  | succ k ih => simp [le, ih]

/-- Block p is a writer that has l, in a slice v. -/
def Wr (w : World) (p : Nat) (v : Value) (l : List UInt8) : Prop :=
  Bk w p 144 #[v, .bool true, .bool false] ∧ w.ownsRow 0 5 1 v l.length (bA l).toList
/-- What puts leave. -/
def WrTo (w : World) (p : Nat) (v : Value) (l : List UInt8) (v' : Value) (w' : World) : Prop :=
  Wr w' p v' l ∧ (v'.ownBlock = v.ownBlock ∨ ∃ x, v'.ownBlock = some x ∧ w.heap.size ≤ x) ∧ Fr (fun i => i = p ∨ some i = v.ownBlock) w w'
theorem WrTo.refl {w : World} {p : Nat} {v : Value} {l : List UInt8} (h : Wr w p v l) : WrTo w p v l v w := ⟨h, .inl rfl, Fr.refl _ _⟩
theorem WrTo.trans {w w1 w2 : World} {p : Nat} {v v1 v2 : Value} {l l' : List UInt8} (h : WrTo w p v l v1 w1) (k : WrTo w1 p v1 l' v2 w2) : WrTo w p v l' v2 w2 := by
  obtain ⟨h1, h2, h3⟩ := h
  obtain ⟨k1, k2, k3⟩ := k
  refine ⟨k1, ?_, h3.trans k3 ?_⟩
  · rcases k2 with k2 | ⟨x, k2, hx⟩
    · rw [k2]; exact h2
    · exact .inr ⟨x, k2, Nat.le_trans h3.size hx⟩
  · rintro i hi (e | e)
    · exact .inl e
    · rcases h2 with h2 | ⟨x, h2, hx⟩
      · exact .inr (by rw [e, h2])
      · rw [h2] at e
        injection e with e
        omega

theorem wnone_any (p : Nat) (v : Value) (l : List UInt8) (w : World) (h : Wr w p v l) : Calls Tryz.prog 64 #[.pointer (some ⟨p, 0, none⟩)] w fun e w' => e = .returned (.bool false) ∧ w = w' := by
  have c1 : w.cell? ⟨p, 1, none⟩ = some (.bool true) := h.1.cell 1
  go_enter Tryz.func64, Tryz.ntmps64
  go_wp2_with fail
  go_ret
  exact ⟨rfl, rfl⟩
theorem width_any (k : Nat) (hk : k = 1 ∨ k = 2 ∨ k = 4 ∨ k = 8) (w : World) : Calls Tryz.prog 65 #[.int .i64 k] w fun e w' => e = .returned (.bool true) ∧ w = w' := by
  rcases hk with rfl | rfl | rfl | rfl
  all_goals
    go_enter Tryz.func65, Tryz.ntmps65
    go_wp2_with fail
    go_ret
    exact ⟨rfl, rfl⟩

theorem new_any (w : World) : Calls Tryz.prog 43 #[] w fun e w' => e = .returned (.pointer (some ⟨w.heap.size, 0, none⟩)) ∧ w' = w.alloc (.cells #[.slice none 0 0, .bool true, .bool false] 144) := by
  go_enter Tryz.func43, Tryz.ntmps43
  go_wp2_with fail
  go_ret
  exact ⟨rfl, rfl⟩
theorem Wr.new (w : World) : Wr (w.alloc (.cells #[.slice none 0 0, .bool true, .bool false] 144)) w.heap.size (.slice none 0 0) [] :=
  ⟨Bk.new w _ _, World.ownsRow_nil _ _ _ _⟩
end Go.Proofs.YtjnbpbnhkinggaaGreatDoor.St
