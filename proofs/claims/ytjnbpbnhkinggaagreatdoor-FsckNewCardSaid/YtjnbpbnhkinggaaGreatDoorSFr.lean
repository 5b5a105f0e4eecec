/- What stays where a call writes some blocks. -/
import Derived.Test.YtjnbpbnhkinggaaGreatDoorSMap
import Derived.Maps.AppendAt
namespace Go.Proofs.YtjnbpbnhkinggaaGreatDoor.St
open Go.RowKit

/-- All blocks stay, but for those of S, and new ones. -/
structure Fr (S : Nat → Prop) (w w' : World) : Prop where
  os : w'.os = w.os
  tape : w'.tape = w.tape
  output : w'.output = w.output
  size : w.heap.size ≤ w'.heap.size
  block : ∀ k, k < w.heap.size → ¬ S k → w'.heap[k]? = w.heap[k]?
section
variable {S T : Nat → Prop} {a b c w w' : World}
theorem Fr.refl (S : Nat → Prop) (w : World) : Fr S w w := ⟨rfl, rfl, rfl, Nat.le_refl _, fun _ _ _ => rfl⟩
theorem Fr.trans (h : Fr S a b) (k : Fr T b c) (hT : ∀ i, i < a.heap.size → T i → S i) : Fr S a c :=
  ⟨k.os.trans h.os, k.tape.trans h.tape, k.output.trans h.output, Nat.le_trans h.size k.size, fun i hi hn => (k.block i (Nat.lt_of_lt_of_le hi h.size) (fun ht => hn (hT i hi ht))).trans (h.block i hi hn)⟩
theorem Fr.mono (h : Fr S a b) (hT : ∀ i, i < a.heap.size → S i → T i) : Fr T a b :=
  ⟨h.os, h.tape, h.output, h.size, fun i hi hn => h.block i hi (fun hs => hn (hT i hi hs))⟩
theorem Fr.of_below {B : Nat} (h : Below B a b) : Fr (fun i => B ≤ i) a b := ⟨h.os, h.tape, h.output, h.size, fun i _ hn => h.block i (Nat.lt_of_not_le hn)⟩
theorem Fr.of_all (h : Below a.heap.size a b) (S : Nat → Prop) : Fr S a b := (Fr.of_below h).mono (fun _ hi hs => absurd hi (Nat.not_lt.2 hs))
theorem Fr.below {B : Nat} (h : Fr S a b) (hB : B ≤ a.heap.size) (hS : ∀ i, i < B → ¬ S i) : Below B a b := ⟨h.os, h.tape, h.output, h.size, fun i hi => h.block i (Nat.lt_of_lt_of_le hi hB) (hS i hi)⟩
theorem Fr.of_grown {row : Option Nat} (h : a.grownBy b row) : Fr (fun i => some i = row) a b := ⟨h.os, h.tape, h.output, h.size, fun i hi hn => h.block i hi hn⟩
theorem Fr.of_turned {m : Nat} (h : a.mapTurned b m) : Fr (fun i => i = m) a b := (Fr.of_grown h.grown).mono (fun i _ hs => by simpa using hs)
theorem Fr.alloc (h : Fr S a b) (o : Obj) : Fr S a (b.alloc o) := h.trans (Fr.of_all ((Below.refl _ _).alloc (Nat.le_refl _) o) S) (fun _ _ h => h)
theorem Fr.drew (h : Fr S a b) : Fr S a b.drew := ⟨h.os, h.tape, h.output, h.size, h.block⟩
theorem Fr.drewN (h : Fr S a b) (n : Nat) : Fr S a (b.drewN n) := ⟨h.os, h.tape, h.output, h.size, h.block⟩
theorem Fr.setCell (h : Fr S a b) {p : Addr} (hp : p.block < a.heap.size → S p.block) (u : Value) : Fr S a (b.setCell p u) := by
  have hs : (b.setCell p u).heap.size = b.heap.size := by simp [World.setCell]
  refine ⟨h.os, h.tape, h.output, by rw [hs]; exact h.size, fun i hi hn => ?_⟩
  by_cases e : i = p.block
  · subst e; exact absurd (hp hi) hn
  · rw [Below.heap_setCell b p u i e]; exact h.block i hi hn
theorem Bk.fr {g : Nat} {t : TypeId} {cs : Array Value} (h : Bk w g t cs) (hf : Fr S w w') (hg : ¬ S g) : Bk w' g t cs := (hf.block g h.lt hg).trans h
theorem Mp.fr {g n : Nat} {f : Int → Option Value} (h : Mp w g n f) (hf : Fr S w w') (hg : ¬ S g) : Mp w' g n f := h.same (hf.block g h.lt hg)
theorem own_fr {e : TypeId} {size n base : Nat} {v : Value} {xs : List Value} (h : w.ownsRow base e size v n xs) (hf : Fr S w w') (hg : ∀ g, v.ownBlock = some g → ¬ S g) : w'.ownsRow base e size v n xs := by
  obtain ⟨h1, h2⟩ := h
  refine ⟨h1, ?_⟩
  rcases h2 with h2 | ⟨g, cap, cur, hv, hb, hk, r⟩
  · exact .inl h2
  · subst hv
    have hlt : g < w.heap.size := Bk.lt (t := e) (cs := cur) hk
    exact .inr ⟨g, cap, cur, rfl, hb, (hf.block g hlt (hg g rfl)).trans hk, r⟩
/-- A row's block is of its element's type: no block of another type is one. -/
theorem own_ne {e t : TypeId} {size n base g : Nat} {v : Value} {xs : List Value} {cs : Array Value} (h : w.ownsRow base e size v n xs) (hb : Bk w g t cs) (ht : t ≠ e) : v.ownBlock ≠ some g := by
  obtain ⟨_, h2⟩ := h
  rcases h2 with ⟨rfl, _⟩ | ⟨g', cap, cur, rfl, _, hk, _⟩
  · simp [Value.ownBlock]
  · intro he
    have : g' = g := by simpa [Value.ownBlock] using he
    subst this
    unfold Bk at hb
    rw [hk] at hb
    simp at hb
    exact ht hb.2.symm
theorem mp_ne {t : TypeId} {g b n : Nat} {f : Int → Option Value} {cs : Array Value} (h : Mp w b n f) (hb : Bk w g t cs) : b ≠ g := by
  rintro rfl
  obtain ⟨D, ⟨es, c, h1, _⟩, _⟩ := h
  unfold Bk at hb
  rw [hb] at h1
  cases h1
theorem bk_ne {t u : TypeId} {g b : Nat} {cs ds : Array Value} (h : Bk w b u ds) (hb : Bk w g t cs) (htu : t ≠ u) : b ≠ g := by
  rintro rfl
  unfold Bk at h hb
  rw [hb] at h
  simp at h
  exact htu h.2
end
end Go.Proofs.YtjnbpbnhkinggaaGreatDoor.St
