/- The contract of root.Mount. -/
import Derived.Test.YtjnbpbnhkinggaaGreatDoorRMax
namespace Go.Proofs.YtjnbpbnhkinggaaGreatDoor.St
open Go.RowKit

/-- What root.look tells of a slot. -/
def Looks (d m k : Nat) (n wr : Int) (g : Int → List UInt8) (at_ : Int) (r : Rt) (b : Bool) : Prop := ∀ w, Dv w d m k n wr g → Calls Tryz.prog 48 #[.pointer (some ⟨d, 0, none⟩), .int .u32 at_] w fun e w' => e = .returned (.agg (fdC r b)) ∧ Below w.heap.size w w'
/-- Of two that were found, this is the younger one. -/
def Younger (r : Rt) (a : Bool) (s : Rt) (b : Bool) (x : Rt) (c : Bool) : Prop := (0 < fdCmp s b r a ∧ x = s ∧ c = b) ∨ (fdCmp s b r a ≤ 0 ∧ x = r ∧ c = a)
theorem wpList_built {P : Program} {ops : Array Oper} {rest : List Oper} {o : Oper} {a : Act} {w : World} {Q : Exit → Act → World → Prop} (hg : o.guard = none) (t : TypeId) (parts : Array (Nat × Operand)) (ho : o.op = .build t parts)
    (vs : List (Nat × Value)) (hv : parts.toList.map (fun (i, x) => (i, a.eval x)) = vs) (cells : Array Value) (hb : P.built t vs = some cells) (h : wpList P ops Q rest (a.put o.dst (.agg cells)) w) : wpList P ops Q (o :: rest) a w := by
  have e : P.built t (parts.map fun (i, x) => (i, a.eval x)).toList = some cells := by rw [Array.toList_map, hv]; exact hb
  exact wpList_build hg t parts ho (by rw [e]; rfl) (by rw [e]; exact h)
theorem fd2_sz (r s : Rt) (a b : Bool) : (fd2 r a s b).size = 18 := by simp [fd2, fdC]
theorem fd2_one (r s : Rt) (a b : Bool) : (fd2 r a s b).all (·.oneCell') = true := by cases a <;> cases b <;> kernel_rfl
theorem fd2_size (r s : Rt) (a b : Bool) : (Tryz.prog.info? 113).map (·.size) = some (fd2 r a s b).size := by kernel_rfl
theorem built_fd2 (r s : Rt) (a b : Bool) : Tryz.prog.built 113 [(0, .agg (fdC r a)), (1, .agg (fdC s b))] = some (fd2 r a s b) := by kernel_rfl
theorem zero_root : Tryz.prog.built 30 [] = some rz.cells := by kernel_rfl
set_option maxRecDepth 100000 in
set_option maxHeartbeats 1000000 in
theorem mount_any (d m k : Nat) (n wr : Int) (g : Int → List UInt8) (r s x : Rt) (a b c : Bool) (h0 : Looks d m k n wr g 0 r a) (h1 : Looks d m k n wr g 1 s b) (hy : Younger r a s b x c) (v : Array Value) (er : Int) (hc : c = true ∧ v = x.cells ∧ er = 0 ∨ c = false ∧ v = rz.cells ∧ er = 80) (w : World) (h : Dv w d m k n wr g) :
    Calls Tryz.prog 29 #[.pointer (some ⟨d, 0, none⟩)] w fun e w' => e = .returned (.tuple #[.agg v, .int .i64 er]) ∧ Below w.heap.size w w' := by
  have hB0 : Below w.heap.size w (w.alloc (.cells rz.cells 30)) := (Below.refl _ _).alloc (Nat.le_refl _) _
  have hlo := h.lo
  have HD0 := Lib.hid (h.below hB0)
  have HR0 := Lib.hid (Bk.new w 30 rz.cells)
  have HB0 := Lib.hid hB0
  have HC := Lib.hid hc
  have HY := Lib.hid hy
  have HL0 := Lib.hid h0
  have HL1 := Lib.hid h1
  clear h hB0 hc hy h0 h1
  go_enter Tryz.func29, Tryz.ntmps29
  go_wp2_with fail
  refine (rnone_b d m n wr _ hlo _ HD0.out.b).mono ?_
  rintro e w1 ⟨rfl, rfl⟩
  go_wp2_with fail
  refine (HL0.out _ HD0.out).mono ?_
  rintro e w1 ⟨rfl, hb1⟩
  have HD1 := Lib.hid (HD0.out.below hb1)
  have HR1 := Lib.hid (HR0.out.below hb1 HR0.out.lt)
  have HB1 := Lib.hid (HB0.out.trans (hb1.mono HB0.out.size))
  clear hb1 HD0 HR0 HB0
  go_wp2_with fail
  refine (HL1.out _ HD1.out).mono ?_
  rintro e w2 ⟨rfl, hb2⟩
  have HR2 := Lib.hid (HR1.out.below hb2 HR1.out.lt)
  have HB2 := Lib.hid (HB1.out.trans (hb2.mono HB1.out.size))
  clear hb2 HD1 HR1 HB1
  have hN0 := Bk.new w2 113 (fd2 rz false rz false)
  have hth := hN0.there (fd2 r a s b).size (by rw [fd2_sz, fd2_sz]; exact Nat.le_refl _)
  have hNA := hN0.all (fd2 r a s b).toList (by rw [Array.length_toList, fd2_sz, fd2_sz])
  rw [Array.toArray_toList] at hNA
  have hBX := below_setCells w2.heap.size (Nat.le_refl _) (fd2 r a s b).toList ((Below.refl w2.heap.size w2).alloc (Nat.le_refl _) (.cells (fd2 rz false rz false) 113)) 0
  have HR3 := Lib.hid (HR2.out.below hBX HR2.out.lt)
  have HB3 := Lib.hid (HB2.out.trans (hBX.mono HB2.out.size))
  have HNA := Lib.hid hNA
  clear hN0 hNA hBX HR2 HB2
  have hz := fd2_at rz rz false false
  simp only [rz] at hz
  change fd2 rz false rz false = _ at hz
  rw [hz] at hth HNA HR3 HB3
  have hb2 := built_fd2 r s a b
  have hs2 := fd2_size r s a b
  have h12 := fd2_one r s a b
  have HM := Lib.hid (fun (p : Nat) (t : TypeId) (X : World) => max_any p t r s x a b c HY.out X)
  generalize fd2 r a s b = F at *
  clear hz
  have HB2 := Lib.hid hb2
  clear hb2
  go_wp2_with (first | (refine wpList_built rfl 113 _ rfl [(0, .agg (fdC r a)), (1, .agg (fdC s b))] rfl F HB2.out ?_) | (refine wpList_store_mid rfl 113 _ _ rfl w2.heap.size 0 F rfl rfl hth hs2 h12 ?_; generalize (w2.alloc (.cells #[.int .u64 0, .int .u32 0, .int .u32 0, .int .u32 0, .int .u32 0, .int .u32 0, .int .u32 0, .int .u8 0, .bool false, .int .u64 0, .int .u32 0, .int .u32 0, .int .u32 0, .int .u32 0, .int .u32 0, .int .u32 0, .int .u8 0, .bool false] 113)).setCells w2.heap.size 0 F.toList = w3 at *))
  refine (HM.out w2.heap.size _ w3 HNA.out).mono ?_
  rintro e w4 ⟨rfl, hb4⟩
  have HR4 := Lib.hid (HR3.out.below hb4 HR3.out.lt)
  have HB4 := Lib.hid (HB3.out.trans (hb4.mono HB3.out.size))
  clear hb4 HR3 HB3 HNA
  clear hth
  rcases HC.out with ⟨rfl, rfl, rfl⟩ | ⟨rfl, rfl, rfl⟩
  · simp only [fdC]
    have hA := (Below.refl w4.heap.size w4).alloc (Nat.le_refl _) (.cells #[.int .u64 x.gen, .int .u32 x.size, .int .u32 x.picks, .int .u32 x.names, .int .u32 x.free, .int .u32 x.next, .int .u32 x.hint, .int .u8 x.vols, .bool true] 111)
    have hR5 := HR4.out.below hA HR4.out.lt
    have hB5 := HB4.out.trans (hA.mono HB4.out.size)
    have hth := hR5.there (x.cells).size (Nat.le_refl 8)
    have hRA := hR5.all (x.cells).toList rfl
    rw [Array.toArray_toList] at hRA
    have HE := Lib.hid (And.intro hRA (below_setCells w.heap.size (Nat.le_refl _) (x.cells).toList hB5 0))
    clear hA hR5 hB5 hRA HR4 HB4
    go_wp2_with (refine wpList_store_mid rfl 30 _ _ rfl w.heap.size 0 (x.cells) rfl rfl hth (by kernel_rfl) (by kernel_rfl) ?_; generalize (w4.alloc (.cells #[.int .u64 x.gen, .int .u32 x.size, .int .u32 x.picks, .int .u32 x.names, .int .u32 x.free, .int .u32 x.next, .int .u32 x.hint, .int .u8 x.vols, .bool true] 111)).setCells w.heap.size 0 (x.cells).toList = w5 at *)
    refine bodyPost_ret (results_row_tmp rfl _ _ w.heap.size _ (x.cells) _ rfl HE.out.1 Tryz.underlying30 rfl (by kernel_rfl)) rfl ⟨rfl, HE.out.2⟩
  · simp only [fdC]
    have hA := (Below.refl w4.heap.size w4).alloc (Nat.le_refl _) (.cells #[.int .u64 x.gen, .int .u32 x.size, .int .u32 x.picks, .int .u32 x.names, .int .u32 x.free, .int .u32 x.next, .int .u32 x.hint, .int .u8 x.vols, .bool false] 111)
    have hR5 := HR4.out.below hA HR4.out.lt
    have hB5 := HB4.out.trans (hA.mono HB4.out.size)
    have hth := hR5.there (rz.cells).size (Nat.le_refl 8)
    have hRA := hR5.all (rz.cells).toList rfl
    rw [Array.toArray_toList] at hRA
    have HE := Lib.hid (And.intro hRA (below_setCells w.heap.size (Nat.le_refl _) (rz.cells).toList hB5 0))
    clear hA hR5 hB5 hRA HR4 HB4
    go_wp2_with (refine wpList_store_mid rfl 30 _ _ rfl w.heap.size 0 (rz.cells) rfl rfl hth (by kernel_rfl) (by kernel_rfl) ?_; generalize (w4.alloc (.cells #[.int .u64 x.gen, .int .u32 x.size, .int .u32 x.picks, .int .u32 x.names, .int .u32 x.free, .int .u32 x.next, .int .u32 x.hint, .int .u8 x.vols, .bool false] 111)).setCells w.heap.size 0 (rz.cells).toList = w5 at *)
    refine bodyPost_ret (results_row_tmp rfl _ _ w.heap.size _ (rz.cells) _ rfl HE.out.1 Tryz.underlying30 rfl (by kernel_rfl)) rfl ⟨rfl, HE.out.2⟩
end Go.Proofs.YtjnbpbnhkinggaaGreatDoor.St
