/- Contracts of dev.Dev: burn, Write. -/
import Derived.Test.YtjnbpbnhkinggaaGreatDoorSUp
import Derived.Test.YtjnbpbnhkinggaaGreatDoorSBuild
import Derived.Deep.RegionLaw
namespace Go.Proofs.YtjnbpbnhkinggaaGreatDoor.St
open Go.RowKit

/-- Writes that are pending, as cells. -/
def putC (ps : List (Int × List UInt8)) : List Value := ps.flatMap fun p => .int .u32 p.1 :: (bA p.2).toList
theorem putC_length (ps : List (Int × List UInt8)) (h : ∀ p ∈ ps, p.2.length = 256) : (putC ps).length = ps.length * 257 := by
  induction ps with
  | nil => rfl
  | cons p r ih =>
    have h1 := h p List.mem_cons_self
    have h2 := ih (fun q hq => h q (List.mem_cons_of_mem _ hq))
    simp only [putC, List.flatMap_cons, List.length_append, List.length_cons, bA_toList_length, h1] at h2 ⊢
    rw [h2]; omega
theorem putC_snoc (ps : List (Int × List UInt8)) (a : Int) (b : List UInt8) : putC (ps ++ [(a, b)]) = putC ps ++ (.int .u32 a :: (bA b).toList) := by simp [putC]
theorem putC_one (a : Int) (V : Array Value) (h : V.all (·.oneCell') = true) : ∀ u ∈ (#[Value.int .u32 a] ++ V).toList, u.oneCell' = true := by
  intro u hu
  simp only [Array.toList_append, List.mem_append, List.mem_cons, List.not_mem_nil, or_false] at hu
  rcases hu with rfl | hu
  · rfl
  · exact Array.all_eq_true_iff_forall_mem.1 h u (by simpa using hu)
/-- Block d is a device that has g; ps is pending, in a slice pv. -/
structure Dp (w : World) (d m k : Nat) (n wr : Int) (g : Int → List UInt8) (pv : Value) (ps : List (Int × List UInt8)) : Prop where
  b : DvB w d m n wr pv
  m : Mp w m k (gf g)
  len : ∀ a, (g a).length = 256
  lo : 64 ≤ n
  hi : n ≤ 1048576
  own : w.ownsRow 0 58 257 pv ps.length (putC ps)
  pl : ∀ p ∈ ps, p.2.length = 256 ∧ 0 ≤ p.1 ∧ p.1 < n
theorem Dv.pend {w : World} {d m k : Nat} {n wr : Int} {g : Int → List UInt8} (h : Dv w d m k n wr g) : Dp w d m k n wr g (.slice none 0 0) [] := ⟨h.b, h.m, h.len, h.lo, h.hi, World.ownsRow_nil _ _ _ _, fun _ hp => by cases hp⟩
theorem Dp.still {w : World} {d m k : Nat} {n wr : Int} {g : Int → List UInt8} (h : Dp w d m k n wr g (.slice none 0 0) []) : Dv w d m k n wr g := ⟨h.b, h.m, h.len, h.lo, h.hi⟩
theorem Dp.fr {S : Nat → Prop} {w w' : World} {d m k : Nat} {n wr : Int} {g : Int → List UInt8} {pv : Value} {ps : List (Int × List UInt8)} (h : Dp w d m k n wr g pv ps) (hf : Fr S w w') (h1 : ¬ S d) (h2 : ¬ S m) (h3 : ∀ x, pv.ownBlock = some x → ¬ S x) : Dp w' d m k n wr g pv ps :=
  ⟨h.b.fr hf h1, h.m.fr hf h2, h.len, h.lo, h.hi, own_fr h.own hf h3, h.pl⟩
theorem Dp.below {w w' : World} {d m k : Nat} {n wr : Int} {g : Int → List UInt8} {pv : Value} {ps : List (Int × List UInt8)} (h : Dp w d m k n wr g pv ps) (hb : Below w.heap.size w w') : Dp w' d m k n wr g pv ps :=
  h.fr (Fr.of_all hb (fun _ => False)) (fun h => h) (fun h => h) (fun _ _ h => h)
theorem Dp.ne {w : World} {d m k : Nat} {n wr : Int} {g : Int → List UInt8} {pv : Value} {ps : List (Int × List UInt8)} (h : Dp w d m k n wr g pv ps) : m ≠ d := mp_ne h.m h.b

theorem Fr.size' {S : Nat → Prop} {a b : World} (h : Fr S a b) : a.heap.size ≤ b.heap.size := h.size
section
variable {Y Y3 : World} {d m k gP c : Nat} {n wr : Int} {g : Int → List UInt8} {pv : Value} {ps : List (Int × List UInt8)}
theorem Dp.snoc (h : Dp Y d m k n wr g pv ps) (hgrow : Y.grownBy Y3 pv.ownBlock) {news : List Value} (hown : Y3.ownsRow 0 58 257 (.slice (some ⟨gP, 0, none⟩) (ps.length + 1) c) (ps.length + 1) (putC ps ++ news)) (a : Int) (b : List UInt8) (hN : news = .int .u32 a :: (bA b).toList) (hl : b.length = 256) (h0 : 0 ≤ a) (h1 : a < n) :
    DvB Y3 d m n wr pv ∧ Dp (Y3.setCell ⟨d, 2, none⟩ (.slice (some ⟨gP, 0, none⟩) (ps.length + 1) c)) d m k n wr g (.slice (some ⟨gP, 0, none⟩) (ps.length + 1) c) (ps ++ [(a, b)]) ∧ Fr (fun i => i = d ∨ some i = pv.ownBlock) Y (Y3.setCell ⟨d, 2, none⟩ (.slice (some ⟨gP, 0, none⟩) (ps.length + 1) c)) := by
  have hf := Fr.of_grown hgrow
  have hbd : DvB Y3 d m n wr pv := h.b.fr hf (fun e => own_ne h.own h.b (by decide) e.symm)
  have hmm : Mp Y3 m k (gf g) := h.m.fr hf (fun e => own_nm h.own h.m e.symm)
  have hne := own_ne hown hbd (by decide)
  have hgd : gP ≠ d := fun e => hne (by rw [e]; rfl)
  refine ⟨hbd, ⟨hbd.set 2 _, hmm.setCell (a := ⟨d, 2, none⟩) h.ne _, h.len, h.lo, h.hi, ?_, ?_⟩, ?_⟩
  · rw [putC_snoc, ← hN, List.length_append]
    exact own_fr hown ((Fr.refl (fun i => i = d) Y3).setCell (fun _ => rfl) _) (fun x hx e => hgd (by rw [← e]; exact Option.some.inj hx))
  · intro p hp
    rcases List.mem_append.1 hp with hp | hp
    · exact h.pl p hp
    · rw [List.mem_singleton] at hp; subst hp; exact ⟨hl, h0, h1⟩
  · exact (hf.mono (T := fun i => i = d ∨ some i = pv.ownBlock) (fun i _ e => Or.inr e)).setCell (p := ⟨d, 2, none⟩) (fun _ => Or.inl rfl) _
theorem Dp.turn {w w' : World} {wr' : Int} (h : Dp w d m k n wr g pv ps) (hb : DvB w' d m n wr' pv) (hf : Fr (fun i => i = d) w w') : Dp w' d m k n wr' g pv ps :=
  ⟨hb, h.m.fr hf h.ne, h.len, h.lo, h.hi, own_fr h.own hf (fun x hx e => own_ne h.own h.b (by decide) (e ▸ hx)), h.pl⟩
end
theorem burn_b (d m : Nat) (n wr : Int) (pv : Value) (w : World) (h : DvB w d m n wr pv) : Calls Tryz.prog 41 #[.pointer (some ⟨d, 0, none⟩)] w fun e w' => e = .returned (.int .i64 0) ∧ DvB w' d m n (IntKind.u64.wrap (wr + 1)) pv ∧ Fr (fun i => i = d) w w' := by
  have c3 : w.cell? ⟨d, 3, none⟩ = some (.pointer none) := h.cell 3
  have c5 : w.cell? ⟨d, 5, none⟩ = some (.int .u64 wr) := h.cell 5
  have f5 : w.frozen? ⟨d, 5, none⟩ = false := h.frozen 5
  have H := Lib.hid h
  clear h
  go_enter Tryz.func41, Tryz.ntmps41
  go_wp2_with fail
  go_ret
  exact ⟨rfl, H.out.set 5 _, (Fr.refl (fun i => i = d) w).setCell (fun _ => rfl) _⟩

theorem infoPut : (Tryz.prog.info? 58).map (fun i => (i.zero, i.size, i.bytes)) = some (some (.agg (#[.int .u32 0] ++ bA zb)), 257, 260) := by rw [← zb_cells]; kernel_rfl

attribute [local go_sem] put_func
set_option maxRecDepth 100000 in
set_option maxHeartbeats 1000000 in
theorem write_any (d m k : Nat) (n wr : Int) (g : Int → List UInt8) (pv : Value) (ps : List (Int × List UInt8)) (a : Int) (b : List UInt8) (hl : b.length = 256) (h0 : 0 ≤ a) (h1 : a < n) (hps : ps.length ≤ 1000000) (w : World) (h : Dp w d m k n wr g pv ps) :
    Calls Tryz.prog 24 #[.pointer (some ⟨d, 0, none⟩), .int .u32 a, .agg (bA b)] w fun e w' => ∃ pv', e = .returned (.int .i64 0) ∧ Dp w' d m k n (IntKind.u64.wrap (wr + 1)) g pv' (ps ++ [(a, b)]) ∧ (pv'.ownBlock = pv.ownBlock ∨ ∃ x, pv'.ownBlock = some x ∧ w.heap.size ≤ x) ∧ Fr (fun i => i = d ∨ some i = pv.ownBlock) w w' := by
  have hmf : ∀ (fn : Fn) (first cap : Array Value) (w : World), (Instr.makeFunc fn first cap).run Tryz.prog w = .ok (.func fn first cap) w := fun _ _ _ _ => rfl
  have hB0 : Below w.heap.size w (w.alloc (.cells (bA b) 53)) := (Below.refl _ _).alloc (Nat.le_refl _) _
  have HB0 := Lib.hid hB0
  have HD0 := Lib.hid (h.below hB0)
  have HK0 := Lib.hid (Bk.new w 53 (bA b))
  have hszV : (Tryz.prog.info? 53).map (·.size) = some (bA b).toList.length := by rw [bA_toList_length, hl]; exact infoBlock
  have hls : (bA b).toList.length = 256 := by rw [bA_toList_length, hl]
  have HLS := Lib.hid hls
  have HNL := Lib.hid (show (#[Value.int .u32 a] ++ bA b).toList = .int .u32 a :: (bA b).toList by simp)
  have HSZ := Lib.hid (show (bA b).size = 256 by rw [bA_size, hl])
  have h1V := bA_one b
  clear h hB0 hls
  generalize hV : bA b = V at *
  have HV := Lib.hid hV
  clear hV
  go_enter Tryz.func24, Tryz.ntmps24
  go_wp2_with fail
  refine (far_any d a _).mono ?_
  rintro e w1 ⟨rfl, ha1, hd1, hb1⟩
  have HD1 := Lib.hid (HD0.out.below hb1)
  have HK1 := Lib.hid (HK0.out.below hb1 HK0.out.lt)
  have HB1 := Lib.hid (HB0.out.trans (hb1.mono HB0.out.size))
  clear HD0 HK0 HB0 hb1
  generalize (w.alloc _).heap.size = z at *
  go_wp2_with fail
  have hK2 := Bk.new w1 75 #[.int .i64 2, .func (.func 39) #[] #[.pointer (some ⟨z + 1, 0, none⟩), .pointer (some ⟨z, 0, none⟩)]]
  have hB2 := HB1.out.alloc HB1.out.size (.cells #[.int .i64 2, .func (.func 39) #[] #[.pointer (some ⟨z + 1, 0, none⟩), .pointer (some ⟨z, 0, none⟩)]] 75)
  have hD2 := HD1.out.below ((Below.refl _ _).alloc (Nat.le_refl _) (.cells #[.int .i64 2, .func (.func 39) #[] #[.pointer (some ⟨z + 1, 0, none⟩), .pointer (some ⟨z, 0, none⟩)]] 75))
  have ha2 := ha1.alloc (.cells #[.int .i64 2, .func (.func 39) #[] #[.pointer (some ⟨z + 1, 0, none⟩), .pointer (some ⟨z, 0, none⟩)]] 75)
  have hd2 := hd1.alloc (.cells #[.int .i64 2, .func (.func 39) #[] #[.pointer (some ⟨z + 1, 0, none⟩), .pointer (some ⟨z, 0, none⟩)]] 75)
  have hV2 := HK1.out.alloc (.cells #[.int .i64 2, .func (.func 39) #[] #[.pointer (some ⟨z + 1, 0, none⟩), .pointer (some ⟨z, 0, none⟩)]] 75)
  clear HD1 HK1 HB1 ha1 hd1
  generalize w1.alloc _ = w2 at *
  refine (up1 d m n wr pv ⟨2, 39, #[], #[.pointer (some ⟨z + 1, 0, none⟩), .pointer (some ⟨z, 0, none⟩)]⟩ w1.heap.size w2 hD2.b hK2 (Go.Proofs.enters_of Tryz.func39 (by kernel_rfl) rfl)
    (fun X hX => (far1_any (z + 1) z d m a n wr pv X (Bk.below hD2.b hX (Bk.lt hD2.b)) ((ha2.below hX ha2.lt).cell 0) ((hd2.below hX hd2.lt).cell 0) h1).mono fun e w' ⟨h1, h2⟩ => ⟨h1, drew_below h2⟩)).mono ?_
  rintro e w3 ⟨rfl, hb3⟩
  have HD3 := Lib.hid (hD2.below hb3)
  have HV3 := Lib.hid (hV2.below hb3 hV2.lt)
  have HB3 := Lib.hid (hB2.trans (hb3.mono hB2.size))
  clear hD2 hV2 hB2 ha2 hd2 hK2 hb3
  have c2 : w3.cell? ⟨d, 2, none⟩ = some pv := HD3.out.b.cell 2
  -- region
  clear c2
  go_wp2_with fail
  refine wp_region_held_drew (S := fun Y => Bk Y w.heap.size 53 V) (by kernel_rfl) HV3.out ?_
  intro hHeld
  have hy : ∀ (ops : Array Oper) (op : Oper) (a : Act) (x : Operand), op.op = .load 53 x → Region.wanted op (yielded ops a.tmps) = true → a.eval x = .pointer (some ⟨w.heap.size, 0, none⟩) → YieldsIf Tryz.prog ops (fun Y => Bk Y w.heap.size 53 V) op (.agg V) a := by
    intro ops op a x ho hw hx
    have h := yieldsIf_load_mid (P := Tryz.prog) (ops := ops) (S := fun Y => Bk Y w.heap.size 53 V) hw 53 x ho w.heap.size 0 hx V.toList _ (fun w h => h.range) Tryz.underlying53 rfl hszV
    rwa [Array.toArray_toList] at h
  have HY := Lib.hid hy
  clear hy
  refine wpAnyH_take (i := 0) (v := ?_) rfl (by kernel_rfl) (by kernel_rfl) (by kernel_rfl) (fun _ _ _ h => h) (Or.inl ⟨by rfl, ?_⟩) hHeld ?_
  rotate_left
  · (intro w hSw; (try dsimp only at hSw); go_simp)
    try with_reducible rfl
  try simp only [Act.put, List.getElem_toArray, List.getElem_cons_zero, List.getElem_cons_succ, List.setIfInBounds_toArray, List.set_cons_zero, List.set_cons_succ]
  refine wpAnyH_take (i := 1) (v := ?_) rfl (by kernel_rfl) (by kernel_rfl) (by kernel_rfl) (fun _ _ _ h => h) (Or.inl ⟨by rfl, ?_⟩) hHeld ?_
  rotate_left
  · (intro w hSw; (try dsimp only at hSw); go_simp)
    try with_reducible rfl
  try simp only [Act.put, List.getElem_toArray, List.getElem_cons_zero, List.getElem_cons_succ, List.setIfInBounds_toArray, List.set_cons_zero, List.set_cons_succ]
  refine wpAnyH_take (i := 2) (v := ?_) rfl (by kernel_rfl) (by kernel_rfl) (by kernel_rfl) (fun _ _ _ h => h) (Or.inl ⟨by rfl, ?_⟩) hHeld ?_
  rotate_left
  · (intro w hSw; (try dsimp only at hSw); go_simp)
    try with_reducible rfl
  try simp only [Act.put, List.getElem_toArray, List.getElem_cons_zero, List.getElem_cons_succ, List.setIfInBounds_toArray, List.set_cons_zero, List.set_cons_succ]
  refine wpAnyH_take (i := 3) (v := ?_) rfl (by kernel_rfl) (by kernel_rfl) (by kernel_rfl) (fun _ _ _ h => h) (Or.inl ⟨by rfl, ?_⟩) hHeld ?_
  rotate_left
  · (intro w hSw; (try dsimp only at hSw); go_simp)
    try with_reducible rfl
  try simp only [Act.put, List.getElem_toArray, List.getElem_cons_zero, List.getElem_cons_succ, List.setIfInBounds_toArray, List.set_cons_zero, List.set_cons_succ]
  refine wpAnyH_take (i := 5) (v := ?_) rfl (by kernel_rfl) (by kernel_rfl) (by kernel_rfl) (fun _ _ _ h => h) (Or.inl ⟨by rfl, ?_⟩) hHeld ?_
  rotate_left
  · (intro w hSw; (try dsimp only at hSw); go_simp)
    try with_reducible rfl
  try simp only [Act.put, List.getElem_toArray, List.getElem_cons_zero, List.getElem_cons_succ, List.setIfInBounds_toArray, List.set_cons_zero, List.set_cons_succ]
  refine wpAnyH_take (i := 6) (v := .agg V) rfl (by kernel_rfl) (by kernel_rfl) (by kernel_rfl) (fun _ _ _ h => h) (HY.out _ _ _ _ rfl (by rfl) rfl) hHeld ?_
  try simp only [Act.put, List.getElem_toArray, List.getElem_cons_zero, List.getElem_cons_succ, List.setIfInBounds_toArray, List.set_cons_zero, List.set_cons_succ]
  refine wpAnyH_take (i := 7) (v := .agg (#[.int .u32 a] ++ V)) rfl (by kernel_rfl) (by kernel_rfl) (by kernel_rfl) (fun _ _ _ h => h) (yieldsIf_build (by rfl) 58 _ rfl [(0, .int .u32 a), (1, .agg V)] rfl _ (built_put a V HSZ.out)) hHeld ?_
  try simp only [Act.put, List.getElem_toArray, List.getElem_cons_zero, List.getElem_cons_succ, List.setIfInBounds_toArray, List.set_cons_zero, List.set_cons_succ]
  have HD := Lib.hid (show Dp w3.drew d m k n wr g pv ps from HD3.out.fr ((Fr.refl (fun _ => False) w3).drew) (fun h => h) (fun h => h) (fun _ _ h => h))
  have HB := Lib.hid (show Below w.heap.size w w3.drew from below_drewN HB3.out 1)
  clear HD3 HV3 HB3
  have hnews : (#[Value.int .u32 a] ++ V).size = 257 := by rw [Array.size_append, HSZ.out]; rfl
  have HNS := Lib.hid hnews
  have HN1 := Lib.hid (show ∀ u ∈ (#[Value.int .u32 a] ++ V).toList, u.oneCell' = true from putC_one a V h1V)
  clear hnews
  obtain ⟨i0, hi, hz0, hz1, hz2⟩ := info_parts infoPut
  generalize w3.drew = Y0 at *
  generalize hNV : #[Value.int .u32 a] ++ V = NV at *
  have HNV := Lib.hid hNV
  clear hNV
  refine wpAnyH_ready (rs := [4, 8]) (by kernel_rfl) (by simp) ?_
  refine (AllReadyH.cons rfl (fun K hK => ?_) (AllReadyH.cons rfl (fun K hK => ?_) AllReadyH.nil))
  · skip
    have c2 : Y0.cell? ⟨d, 2, none⟩ = some pv := HD.out.b.cell 2
    go_simp
    refine hK.out _ _ hHeld (fun _ => ?_)
    clear hK K c2
    try simp only [Act.put, List.getElem_toArray, List.getElem_cons_zero, List.getElem_cons_succ, List.setIfInBounds_toArray, List.set_cons_zero, List.set_cons_succ]
    refine wpAnyH_ready (rs := [8]) (by kernel_rfl) (by simp) ?_
    refine (AllReadyH.cons rfl (fun K hK => ?_) AllReadyH.nil)
    refine step_build_one (by rfl) 43 58 (.tmp 24) (by rfl) i0 _ Tryz.underlying43 hi hz0 257 hz1 (by decide) (by decide) NV (by rfl) HNS.out ?_
    have hA := (Below.refl Y0.heap.size Y0).alloc (Nat.le_refl _) (.cells NV 58)
    have HD1 := Lib.hid (HD.out.below hA)
    have HB1 := Lib.hid (HB.out.trans (hA.mono HB.out.size))
    have HN := Lib.hid (Bk.new Y0 58 NV)
    have hH := hHeld.below hA hHeld.lt
    refine hK.out _ _ hH (fun _ => ?_)
    clear hK K hHeld HD HB hA
    have hHeld := hH
    have HD := HD1
    have HB := HB1
    clear hH HD1 HB1
    try simp only [Act.put, List.getElem_toArray, List.getElem_cons_zero, List.getElem_cons_succ, List.setIfInBounds_toArray, List.set_cons_zero, List.set_cons_succ]
    generalize Y0.alloc (.cells NV 58) = Y1 at *
    generalize Y0.heap.size = gN at *
    refine wpAnyH_ready (rs := [9]) (by kernel_rfl) (by simp) ?_
    refine (AllReadyH.cons rfl (fun K hK => ?_) AllReadyH.nil)
    refine step_append_lies _ (by rfl) (.tmp 21) (.tmp 25) 43 (by rfl) 0 58 i0 _ 257 260 Tryz.underlying43 hi hz0 hz1 hz2 rfl (by decide) _ ps.length _ (by rfl) HD.out.own ⟨gN, 0, none⟩ 1 1 NV.toList (by rfl) (by rw [Array.length_toList, HNS.out]) (bk_cells HN.out) HN1.out (by decide) (by unfold maxLen; omega) (by omega) (Nat.zero_le _) Y1.heap.size rfl ?_
    intro gP capP Y3 hown hgrow hat hlt
    obtain ⟨hb3, hD4, hF4⟩ := HD.out.snoc hgrow hown a b (by rw [HV.out]; exact HNL.out) hl h0 h1
    have hat2 : pv.ownBlock = some gP ∨ w.heap.size ≤ gP := hat.imp id (fun e => by rw [e]; exact HB.out.size)
    have hH := hHeld.fr (Fr.of_grown hgrow) (fun e => own_ne HD.out.own hHeld (by decide) e.symm)
    have c2 : Y3.cell? ⟨d, 2, none⟩ = some pv := hb3.cell 2
    have f2 : Y3.frozen? ⟨d, 2, none⟩ = false := hb3.frozen 2
    have hne : w.heap.size ≠ d := bk_ne hH hb3 (by decide)
    refine hK.out _ _ hH (fun _ => ?_)
    clear hK K hHeld HN hgrow hat hlt hown hb3
    have hHeld := hH
    clear hH
    try simp only [Act.put, List.getElem_toArray, List.getElem_cons_zero, List.getElem_cons_succ, List.setIfInBounds_toArray, List.set_cons_zero, List.set_cons_succ]
    refine wpAnyH_take (i := 10) (v := ?_) rfl (by kernel_rfl) (by kernel_rfl) (by kernel_rfl) (fun _ _ _ h => h) (Or.inl ⟨by rfl, ?_⟩) hHeld ?_
    rotate_left
    · (intro w hSw; (try dsimp only at hSw); go_simp)
      try with_reducible rfl
    try simp only [Act.put, List.getElem_toArray, List.getElem_cons_zero, List.getElem_cons_succ, List.setIfInBounds_toArray, List.set_cons_zero, List.set_cons_succ]
    refine wpAnyH_take (i := 11) (v := ?_) rfl (by kernel_rfl) (by kernel_rfl) (by kernel_rfl) (fun _ _ _ h => h) (Or.inl ⟨by rfl, ?_⟩) hHeld ?_
    rotate_left
    · (intro w hSw; (try dsimp only at hSw); go_simp)
      try with_reducible rfl
    try simp only [Act.put, List.getElem_toArray, List.getElem_cons_zero, List.getElem_cons_succ, List.setIfInBounds_toArray, List.set_cons_zero, List.set_cons_succ]
    refine wpAnyH_ready (rs := [12]) (by kernel_rfl) (by simp) ?_
    refine (AllReadyH.cons rfl (fun K hK => ?_) AllReadyH.nil)
    go_simp
    refine hK.out _ _ (hHeld.far ⟨d, 2, none⟩ hne _) (fun _ => ?_)
    clear hK K hHeld
    refine wpAnyH_done (by kernel_rfl) ?_ _
    try simp only [Act.put, List.getElem_toArray, List.getElem_cons_zero, List.getElem_cons_succ, List.setIfInBounds_toArray, List.set_cons_zero, List.set_cons_succ]
    have HF := Lib.hid (And.intro hD4 (And.intro hF4 (HB.out)))
    clear hD4 hF4 HD HB c2 f2
    go_wp2_with fail
    refine (burn_b d m n wr _ _ HF.out.1.b).mono ?_
    rintro e w5 ⟨rfl, hd5, hf5⟩
    obtain ⟨hD4, hF4, hB4⟩ := HF.out
    have hD5 := hD4.turn hd5 hf5
    have hF5 : Fr (fun i => i = d ∨ some i = pv.ownBlock) w w5 := ((Fr.of_all hB4 (fun i => i = d ∨ some i = pv.ownBlock)).trans hF4 (fun _ _ h => h)).trans hf5 (fun _ _ h => Or.inl h)
    have HE := Lib.hid (And.intro hD5 (And.intro hat2 hF5))
    clear hD4 hF4 hB4 hD5 hF5 hd5 hf5 HF hat2
    go_wp2_with fail
    go_ret
    exact ⟨_, rfl, HE.out.1, HE.out.2.1.imp (fun e => e.symm) (fun e => ⟨_, rfl, e⟩), HE.out.2.2⟩
  · skip
    refine step_build_one (by rfl) 43 58 (.tmp 24) (by rfl) i0 _ Tryz.underlying43 hi hz0 257 hz1 (by decide) (by decide) NV (by rfl) HNS.out ?_
    have hA := (Below.refl Y0.heap.size Y0).alloc (Nat.le_refl _) (.cells NV 58)
    have HD1 := Lib.hid (HD.out.below hA)
    have HB1 := Lib.hid (HB.out.trans (hA.mono HB.out.size))
    have HN := Lib.hid (Bk.new Y0 58 NV)
    have hH := hHeld.below hA hHeld.lt
    refine hK.out _ _ hH (fun _ => ?_)
    clear hK K hHeld HD HB hA
    have hHeld := hH
    have HD := HD1
    have HB := HB1
    clear hH HD1 HB1
    try simp only [Act.put, List.getElem_toArray, List.getElem_cons_zero, List.getElem_cons_succ, List.setIfInBounds_toArray, List.set_cons_zero, List.set_cons_succ]
    generalize Y0.alloc (.cells NV 58) = Y1 at *
    generalize Y0.heap.size = gN at *
    refine wpAnyH_ready (rs := [4]) (by kernel_rfl) (by simp) ?_
    refine (AllReadyH.cons rfl (fun K hK => ?_) AllReadyH.nil)
    have c2 : Y1.cell? ⟨d, 2, none⟩ = some pv := HD.out.b.cell 2
    go_simp
    refine hK.out _ _ hHeld (fun _ => ?_)
    clear hK K c2
    try simp only [Act.put, List.getElem_toArray, List.getElem_cons_zero, List.getElem_cons_succ, List.setIfInBounds_toArray, List.set_cons_zero, List.set_cons_succ]
    refine wpAnyH_ready (rs := [9]) (by kernel_rfl) (by simp) ?_
    refine (AllReadyH.cons rfl (fun K hK => ?_) AllReadyH.nil)
    refine step_append_lies _ (by rfl) (.tmp 21) (.tmp 25) 43 (by rfl) 0 58 i0 _ 257 260 Tryz.underlying43 hi hz0 hz1 hz2 rfl (by decide) _ ps.length _ (by rfl) HD.out.own ⟨gN, 0, none⟩ 1 1 NV.toList (by rfl) (by rw [Array.length_toList, HNS.out]) (bk_cells HN.out) HN1.out (by decide) (by unfold maxLen; omega) (by omega) (Nat.zero_le _) Y1.heap.size rfl ?_
    intro gP capP Y3 hown hgrow hat hlt
    obtain ⟨hb3, hD4, hF4⟩ := HD.out.snoc hgrow hown a b (by rw [HV.out]; exact HNL.out) hl h0 h1
    have hat2 : pv.ownBlock = some gP ∨ w.heap.size ≤ gP := hat.imp id (fun e => by rw [e]; exact HB.out.size)
    have hH := hHeld.fr (Fr.of_grown hgrow) (fun e => own_ne HD.out.own hHeld (by decide) e.symm)
    have c2 : Y3.cell? ⟨d, 2, none⟩ = some pv := hb3.cell 2
    have f2 : Y3.frozen? ⟨d, 2, none⟩ = false := hb3.frozen 2
    have hne : w.heap.size ≠ d := bk_ne hH hb3 (by decide)
    refine hK.out _ _ hH (fun _ => ?_)
    clear hK K hHeld HN hgrow hat hlt hown hb3
    have hHeld := hH
    clear hH
    try simp only [Act.put, List.getElem_toArray, List.getElem_cons_zero, List.getElem_cons_succ, List.setIfInBounds_toArray, List.set_cons_zero, List.set_cons_succ]
    refine wpAnyH_take (i := 10) (v := ?_) rfl (by kernel_rfl) (by kernel_rfl) (by kernel_rfl) (fun _ _ _ h => h) (Or.inl ⟨by rfl, ?_⟩) hHeld ?_
    rotate_left
    · (intro w hSw; (try dsimp only at hSw); go_simp)
      try with_reducible rfl
    try simp only [Act.put, List.getElem_toArray, List.getElem_cons_zero, List.getElem_cons_succ, List.setIfInBounds_toArray, List.set_cons_zero, List.set_cons_succ]
    refine wpAnyH_take (i := 11) (v := ?_) rfl (by kernel_rfl) (by kernel_rfl) (by kernel_rfl) (fun _ _ _ h => h) (Or.inl ⟨by rfl, ?_⟩) hHeld ?_
    rotate_left
    · (intro w hSw; (try dsimp only at hSw); go_simp)
      try with_reducible rfl
    try simp only [Act.put, List.getElem_toArray, List.getElem_cons_zero, List.getElem_cons_succ, List.setIfInBounds_toArray, List.set_cons_zero, List.set_cons_succ]
    refine wpAnyH_ready (rs := [12]) (by kernel_rfl) (by simp) ?_
    refine (AllReadyH.cons rfl (fun K hK => ?_) AllReadyH.nil)
    go_simp
    refine hK.out _ _ (hHeld.far ⟨d, 2, none⟩ hne _) (fun _ => ?_)
    clear hK K hHeld
    refine wpAnyH_done (by kernel_rfl) ?_ _
    try simp only [Act.put, List.getElem_toArray, List.getElem_cons_zero, List.getElem_cons_succ, List.setIfInBounds_toArray, List.set_cons_zero, List.set_cons_succ]
    have HF := Lib.hid (And.intro hD4 (And.intro hF4 (HB.out)))
    clear hD4 hF4 HD HB c2 f2
    go_wp2_with fail
    refine (burn_b d m n wr _ _ HF.out.1.b).mono ?_
    rintro e w5 ⟨rfl, hd5, hf5⟩
    obtain ⟨hD4, hF4, hB4⟩ := HF.out
    have hD5 := hD4.turn hd5 hf5
    have hF5 : Fr (fun i => i = d ∨ some i = pv.ownBlock) w w5 := ((Fr.of_all hB4 (fun i => i = d ∨ some i = pv.ownBlock)).trans hF4 (fun _ _ h => h)).trans hf5 (fun _ _ h => Or.inl h)
    have HE := Lib.hid (And.intro hD5 (And.intro hat2 hF5))
    clear hD4 hF4 hB4 hD5 hF5 hd5 hf5 HF hat2
    go_wp2_with fail
    go_ret
    exact ⟨_, rfl, HE.out.1, HE.out.2.1.imp (fun e => e.symm) (fun e => ⟨_, rfl, e⟩), HE.out.2.2⟩
end Go.Proofs.YtjnbpbnhkinggaaGreatDoor.St
