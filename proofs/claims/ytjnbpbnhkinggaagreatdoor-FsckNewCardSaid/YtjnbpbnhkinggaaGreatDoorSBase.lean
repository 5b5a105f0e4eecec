/- Words for memory: blocks known whole; a device's block as bytes. -/
import Derived.Test.YtjnbpbnhkinggaaGreatDoorChecked
import Derived.WalkKit
import Derived.Below
import Derived.OwnWalk
import Derived.WalkSpells
import Derived.WalkLawsBesides
import Derived.Lib.Hide
import Derived.Laws.Rows
import Derived.Stop.BytesEq
import Derived.IntWalk
import Derived.LoopTactic
import Derived.Deep.Draws
import Derived.Deep.MidRow
import Derived.Laws.ResultCell
namespace Go.Proofs.YtjnbpbnhkinggaaGreatDoor.St
open Go.RowKit

theorem bcell {W w1 : World} {B : Nat} (hb : Below B W w1) : (∀ b o, b < B → w1.cell? ⟨b, o, none⟩ = W.cell? ⟨b, o, none⟩) ∧ (∀ b o, b < B → w1.frozen? ⟨b, o, none⟩ = W.frozen? ⟨b, o, none⟩) :=
  ⟨fun b o h => hb.cell (p := ⟨b, o, none⟩) h, fun b o h => hb.frozen (p := ⟨b, o, none⟩) h⟩

/-- A block that is known whole. -/
def Bk (w : World) (g : Nat) (t : TypeId) (cs : Array Value) : Prop := w.heap[g]? = some (.cells cs t (0, 0))
section
variable {w w' : World} {g : Nat} {t : TypeId} {cs : Array Value}
theorem Bk.lt (h : Bk w g t cs) : g < w.heap.size := by
  rcases Nat.lt_or_ge g w.heap.size with hlt | hge
  · exact hlt
  · unfold Bk at h; rw [Array.getElem?_eq_none hge] at h; cases h
theorem Bk.cell (h : Bk w g t cs) (i : Nat) : w.cell? ⟨g, i, none⟩ = cs[i]? := by
  unfold Bk at h
  simp [World.cell?, h]
theorem Bk.frozen (h : Bk w g t cs) (i : Nat) : w.frozen? ⟨g, i, none⟩ = false := by
  unfold Bk at h
  simp [World.frozen?, h]
theorem Bk.below {B : Nat} (h : Bk w g t cs) (hb : Below B w w') (hg : g < B) : Bk w' g t cs := (hb.block g hg).trans h
theorem Bk.set (h : Bk w g t cs) (i : Nat) (u : Value) : Bk (w.setCell ⟨g, i, none⟩ u) g t (cs.setIfInBounds i u) := by
  unfold Bk at h ⊢
  simp [World.setCell, Array.getElem?_modify, h]
theorem Bk.far (h : Bk w g t cs) (p : Addr) (hp : g ≠ p.block) (u : Value) : Bk (w.setCell p u) g t cs := by
  unfold Bk at h ⊢
  rw [Below.heap_setCell w p u g hp]; exact h
theorem Bk.drewN (h : Bk w g t cs) (n : Nat) : Bk (w.drewN n) g t cs := h
theorem Bk.drew (h : Bk w g t cs) : Bk w.drew g t cs := h
theorem Bk.new (w : World) (t : TypeId) (cs : Array Value) : Bk (w.alloc (.cells cs t)) w.heap.size t cs := heap_alloc_new w _
theorem Bk.alloc (h : Bk w g t cs) (o : Obj) : Bk (w.alloc o) g t cs := (Below.heap_alloc w o g h.lt).trans h
end

theorem below_drewN {B : Nat} {a w : World} (h : Below B a w) (n : Nat) : Below B a (w.drewN n) := ⟨h.os, h.tape, h.output, h.size, h.block⟩

/-- Cells laid over others. -/
def over (cs : Array Value) : Nat → List Value → Array Value
  | _, [] => cs
  | o, v :: r => over (cs.setIfInBounds o v) (o + 1) r
theorem over_size (vs : List Value) : ∀ (cs : Array Value) (o : Nat), (over cs o vs).size = cs.size := by
  induction vs with
  | nil => intro cs o; rfl
  | cons v r ih => intro cs o; simp only [over]; rw [ih]; simp
theorem over_at (vs : List Value) : ∀ (cs : Array Value) (o i : Nat), o + vs.length ≤ cs.size → (over cs o vs)[i]? = if o ≤ i ∧ i < o + vs.length then vs[i - o]? else cs[i]? := by
  induction vs with
  | nil => intro cs o i _; rw [if_neg (by simp)]; rfl
  | cons v r ih =>
    intro cs o i h
    simp only [List.length_cons] at h
    simp only [over]
    rw [ih _ _ _ (by simp; omega)]
    by_cases h1 : i = o
    · subst h1
      rw [if_neg (by omega), if_pos (by simp), Array.getElem?_setIfInBounds_self_of_lt (by omega)]
      simp
    · rw [Array.getElem?_setIfInBounds_ne (by omega)]
      by_cases h2 : o + 1 ≤ i ∧ i < o + 1 + r.length
      · rw [if_pos h2, if_pos (by simp only [List.length_cons]; omega)]
        have : i - o = (i - (o + 1)) + 1 := by omega
        rw [this, List.getElem?_cons_succ]
      · rw [if_neg h2, if_neg (by simp only [List.length_cons]; omega)]
theorem over_all (cs : Array Value) (vs : List Value) (h : vs.length = cs.size) : over cs 0 vs = vs.toArray := by
  apply Array.ext_getElem?
  intro i
  rw [over_at vs cs 0 i (by omega)]
  by_cases hi : i < vs.length
  · rw [if_pos (by omega)]; simp
  · rw [if_neg (by omega), Array.getElem?_eq_none (by omega), Array.getElem?_eq_none (by simp; omega)]
theorem Bk.cells {g : Nat} {t : TypeId} (vs : List Value) : ∀ {w : World} {cs : Array Value} (_ : Bk w g t cs) (o : Nat), Bk (w.setCells g o vs) g t (over cs o vs) := by
  induction vs with
  | nil => intro w cs h o; exact h
  | cons v r ih => intro w cs h o; exact ih (h.set o v) (o + 1)
theorem Bk.all {w : World} {g : Nat} {t : TypeId} {cs : Array Value} (h : Bk w g t cs) (vs : List Value) (hl : vs.length = cs.size) : Bk (w.setCells g 0 vs) g t vs.toArray := by
  have := Bk.cells vs h 0
  rwa [over_all cs vs hl] at this
theorem Bk.farCells {g : Nat} {t : TypeId} {cs : Array Value} (b : Nat) (hne : g ≠ b) (vs : List Value) : ∀ {w : World} (_ : Bk w g t cs) (o : Nat), Bk (w.setCells b o vs) g t cs := by
  induction vs with
  | nil => intro w h o; exact h
  | cons v r ih => intro w h o; exact ih (h.far ⟨b, o, none⟩ hne v) (o + 1)
theorem below_setCells {B : Nat} {a : World} (b : Nat) (hb : B ≤ b) (vs : List Value) : ∀ {w : World} (_ : Below B a w) (o : Nat), Below B a (w.setCells b o vs) := by
  induction vs with
  | nil => intro w h o; exact h
  | cons v r ih => intro w h o; exact ih (h.setCell (p := ⟨b, o, none⟩) hb v) (o + 1)
theorem size_setCells (b : Nat) (vs : List Value) : ∀ (w : World) (o : Nat), (w.setCells b o vs).heap.size = w.heap.size := by
  induction vs with
  | nil => intro w o; rfl
  | cons v r ih => intro w o; simp only [World.setCells]; rw [ih]; simp [World.setCell]
theorem Bk.there {w : World} {g : Nat} {t : TypeId} {cs : Array Value} (h : Bk w g t cs) (n : Nat) (hn : n ≤ cs.size) : w.there g 0 n := by
  intro j hj
  rw [Nat.zero_add, h.cell, h.frozen]
  exact ⟨by rw [Array.getElem?_eq_getElem (by omega)]; rfl, rfl⟩

/-- A row of bytes, as cells. -/
def bA (b : List UInt8) : Array Value := (b.map Extern.Stop.cell).toArray
theorem bA_size (b : List UInt8) : (bA b).size = b.length := by simp [bA]
theorem bA_at (b : List UInt8) (i : Nat) (h : i < b.length) : (bA b)[i]? = some (.int .u8 (b[i].toNat : Int)) := by
  simp [bA, Extern.Stop.cell, List.getElem?_eq_getElem h]
theorem bA_set (b : List UInt8) (i : Nat) (x : UInt8) : (bA b).setIfInBounds i (.int .u8 (x.toNat : Int)) = bA (b.set i x) := by
  simp [bA, Extern.Stop.cell, List.map_set]
/-- The block of zeros. -/
def zb : List UInt8 := List.replicate 256 0
theorem zb_cells : Tryz.zeroCells53 = bA zb := by kernel_rfl
theorem zb_length : zb.length = 256 := List.length_replicate
theorem bA_inj {a b : List UInt8} (h : bA a = bA b) : a = b := by
  have h1 : a.map Extern.Stop.cell = b.map Extern.Stop.cell := by
    have := congrArg Array.toList h
    simpa [bA] using this
  refine List.map_inj_right (f := Extern.Stop.cell) ?_ |>.1 h1
  intro x y hxy
  unfold Extern.Stop.cell at hxy
  injection hxy with _ h2
  exact UInt8.toNat_inj.1 (Int.ofNat.inj h2)

theorem sizeByte (w : World) : (sizeOf 5).run Tryz.prog w = .ok 1 w := by kernel_rfl
/-- Two blocks are held against each other. -/
theorem eql_block (a b : List UInt8) (ha : a.length = 256) (hb : b.length = 256) (w : World) : (binOp .eql 53 (.agg (bA a)) (.agg (bA b))).run Tryz.prog w = .ok (.bool (a == b)) w :=
  run_eql_bytes w 53 5 256 Tryz.underlying53 Tryz.underlying5 sizeByte a b ha hb
theorem equalIn_block (a b : List UInt8) (ha : a.length = 256) (hb : b.length = 256) (w : World) : (Op.equalIn 10000 53 (.agg (bA a)) (.agg (bA b))).run Tryz.prog w = .ok (a == b) w :=
  run_equalIn_bytes w 9998 53 5 256 Tryz.underlying53 Tryz.underlying5 sizeByte a b ha hb
theorem bA_one (b : List UInt8) : (bA b).all (·.oneCell') = true := by
  apply Array.all_eq_true_iff_forall_mem.2
  intro v hv
  simp only [bA, List.mem_toArray, List.mem_map] at hv
  obtain ⟨x, _, rfl⟩ := hv
  rfl
theorem infoBlock : (Tryz.prog.info? 53).map (·.size) = some 256 := by kernel_rfl

/-- Is a block one of zeros? -/
theorem zero_any (b : List UInt8) (hs : b.length = 256) (w : World) :
    Calls Tryz.prog 14 #[.agg (bA b)] w fun e w' => e = .returned (.bool (b == zb)) ∧ Below w.heap.size w w' := by
  have he := equalIn_block b zb hs zb_length
  have hz := Lib.hid zb_cells
  have hsz := Lib.hid (show (bA b).size = 256 by rw [bA_size]; exact hs)
  clear hs
  generalize bA b = bs at *
  go_enter Tryz.func14, Tryz.ntmps14
  rw [← hz.out] at he
  go_wp2_with (refine wpList_load_row rfl 53 _ rfl _ rfl _ bs _ _ (heap_alloc_new w _) Tryz.underlying53 rfl (by rw [hsz.out]; exact infoBlock) ?_)
  go_ret
  exact ⟨rfl, (Below.refl _ _).alloc (Nat.le_refl _) _⟩
end Go.Proofs.YtjnbpbnhkinggaaGreatDoor.St
