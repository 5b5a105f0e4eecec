/- Contracts of stage.New, check, Count, Read. -/
import Derived.Test.YtjnbpbnhkinggaaGreatDoorNSpace
namespace Go.Proofs.YtjnbpbnhkinggaaGreatDoor.St
open Go.RowKit

/-- A stage's cells. -/
def sgC (sp d t mf : Nat) (r : Rt) (ov : Bool) : Array Value := #[.pointer (some ⟨sp, 0, none⟩), .pointer (some ⟨d, 0, none⟩), .pointer (some ⟨t, 0, none⟩), .int .u64 r.gen, .int .u32 r.size, .int .u32 r.picks, .int .u32 r.names, .int .u32 r.free, .int .u32 r.next, .int .u32 r.hint, .int .u8 r.vols, .map (some mf), .bool ov]
theorem built_sg (sp d t mf : Nat) (r : Rt) : Tryz.prog.built 94 [(0, .pointer (some ⟨sp, 0, none⟩)), (1, .pointer (some ⟨d, 0, none⟩)), (2, .pointer (some ⟨t, 0, none⟩)), (3, .agg r.cells), (4, .map (some mf)), (5, .bool false)] = some (sgC sp d t mf r false) := by kernel_rfl
/-- Block s is a stage. -/
structure Sg (w : World) (s sp t d mp mt ms mf np nt ns nf : Nat) (r : Rt) (n : Int) (c : Int → Int) (hd hi tk gn : Int) (f : Int → Option Value) : Prop where
  b : Bk w s 94 (sgC sp d t mf r false)
  p : Bk w sp 140 (spC t hd hi tk gn)
  t : Tb w t d mp mt ms np nt ns r n c
  f : Mp w mf nf f
  f1 : mf ≠ mp
  f2 : mf ≠ mt
  f3 : mf ≠ ms
section
variable {w w' : World} {s sp t d m k mp mt ms mf np nt ns nf : Nat} {r : Rt} {n wt : Int} {c : Int → Int} {g : Int → List UInt8} {hd hi tk gn : Int} {f : Int → Option Value}
theorem Sg.fr {S : Nat → Prop} (h : Sg w s sp t d mp mt ms mf np nt ns nf r n c hd hi tk gn f) (hf : Fr S w w') (h0 : ¬ S s) (h1 : ¬ S sp) (h2 : ¬ S t) (h3 : ¬ S mp) (h4 : ¬ S mt) (h5 : ¬ S ms) (h6 : ¬ S mf) : Sg w' s sp t d mp mt ms mf np nt ns nf r n c hd hi tk gn f :=
  ⟨h.b.fr hf h0, h.p.fr hf h1, h.t.fr hf h2 h3 h4 h5, h.f.fr hf h6, h.f1, h.f2, h.f3⟩
theorem Sg.below (h : Sg w s sp t d mp mt ms mf np nt ns nf r n c hd hi tk gn f) (hb : Below w.heap.size w w') : Sg w' s sp t d mp mt ms mf np nt ns nf r n c hd hi tk gn f := h.fr (Fr.of_all hb (fun _ => False)) (fun h => h) (fun h => h) (fun h => h) (fun h => h) (fun h => h) (fun h => h) (fun h => h)
end
set_option maxRecDepth 100000 in
set_option maxHeartbeats 1000000 in
theorem sgnew_any (d m k : Nat) (n wt : Int) (g : Int → List UInt8) (r : Rt) (hr : r.size = n) (h1 : fst n ≤ r.hint) (h2 : r.hint < n) (w : World) (h : Dv w d m k n wt g) :
    Calls Tryz.prog 30 #[.pointer (some ⟨d, 0, none⟩), .agg r.cells] w fun e w' => ∃ s sp t mp mt ms mf, e = .returned (.tuple #[.pointer (some ⟨s, 0, none⟩), .int .i64 0]) ∧ Sg w' s sp t d mp mt ms mf 0 0 0 0 r n (fun _ => 0) r.free r.hint 0 0 (fun _ => none) ∧ (w.heap.size ≤ mp ∧ w.heap.size ≤ mt ∧ w.heap.size ≤ ms ∧ w.heap.size ≤ mf ∧ w.heap.size ≤ s) ∧ Below w.heap.size w w' := by
  have hmm := @run_makeMap Tryz.prog
  have h0 := h.lo
  have hB0 := (Below.refl w.heap.size w).alloc (Nat.le_refl _) (.cells r.cells 30)
  have HD0 := Lib.hid (h.below hB0)
  have HK0 := Lib.hid (Bk.new w 30 r.cells)
  have HB0 := Lib.hid hB0
  have hsz : (w.alloc (.cells r.cells 30)).heap.size = w.heap.size + 1 := size_alloc _ _
  have HSZ := Lib.hid hsz
  have HR := Lib.hid hr
  clear h hB0 hsz hr
  go_enter Tryz.func30, Tryz.ntmps30
  go_wp2_with (refine wpList_load_row rfl 30 _ rfl _ rfl _ r.cells _ _ HK0.out Tryz.underlying30 rfl (by kernel_rfl) ?_)
  generalize w.alloc (.cells r.cells 30) = X at *
  refine (topen_any d m k n wt g r HR.out _ HD0.out).mono ?_
  rintro e w1 ⟨t, mp, mt, ms, rfl, hT1, g1, g2, g3, g4, hb1⟩
  have HT1 := Lib.hid hT1
  have HK1 := Lib.hid (HK0.out.below hb1 HK0.out.lt)
  have HB1 := Lib.hid (HB0.out.trans (hb1.mono HB0.out.size))
  clear hT1 hb1 HD0 HK0 HB0
  go_wp2_with (refine wpList_load_row rfl 30 _ rfl _ rfl _ r.cells _ _ HK1.out Tryz.underlying30 rfl (by kernel_rfl) ?_)
  refine (spnew_any t d mp mt ms 0 0 0 r n (fun _ => 0) HR.out h0 h1 h2 _ HT1.out).mono ?_
  rintro e w2 ⟨sp, rfl, hS2, g5, hb2⟩
  have HT2 := Lib.hid (HT1.out.below hb2)
  have HS2 := Lib.hid hS2
  have HK2 := Lib.hid (HK1.out.below hb2 HK1.out.lt)
  have HB2 := Lib.hid (HB1.out.trans (hb2.mono HB1.out.size))
  clear hS2 hb2 HT1 HK1 HB1
  have hM := Mp.made w2
  have hB3 := HB2.out.alloc HB2.out.size (.map #[] 0)
  have hB4 := hB3.alloc hB3.size (.cells (sgC sp d t w2.heap.size r false) 94)
  have hA := ((Below.refl w2.heap.size w2).alloc (Nat.le_refl _) (.map #[] 0)).alloc (by rw [size_alloc]; omega) (.cells (sgC sp d t w2.heap.size r false) 94)
  have hN := Bk.new (w2.alloc (.map #[] 0)) 94 (sgC sp d t w2.heap.size r false)
  rw [size_alloc] at hN
  have l1 : mp < w2.heap.size := let ⟨_, a, _⟩ := HT2.out.p; a.lt
  have l2 : mt < w2.heap.size := let ⟨_, a, _⟩ := HT2.out.q; a.lt
  have l3 : ms < w2.heap.size := HT2.out.s.lt
  have l4 := HB2.out.size
  have HE := Lib.hid (And.intro (show Sg ((w2.alloc (.map #[] 0)).alloc (.cells (sgC sp d t w2.heap.size r false) 94)) (w2.heap.size + 1) sp t d mp mt ms w2.heap.size 0 0 0 0 r n (fun _ => 0) r.free r.hint 0 0 (fun _ => none) from
    ⟨hN, HS2.out.below hA HS2.out.lt, HT2.out.below hA, hM.alloc _, by omega, by omega, by omega⟩) hB4)
  have HBU := Lib.hid (built_sg sp d t w2.heap.size r)
  clear hM hB3 hB4 hA hN
  generalize sgC sp d t w2.heap.size r false = SV at *
  go_wp2_with (first | (refine wpList_load_row rfl 30 _ rfl _ rfl _ r.cells _ _ HK2.out Tryz.underlying30 rfl (by kernel_rfl) ?_) | (refine wpList_built rfl 94 _ rfl [(0, .pointer (some ⟨sp, 0, none⟩)), (1, .pointer (some ⟨d, 0, none⟩)), (2, .pointer (some ⟨t, 0, none⟩)), (3, .agg r.cells), (4, .map (some w2.heap.size)), (5, .bool false)] rfl SV HBU.out ?_))
  go_ret2
  have := HSZ.out
  exact ⟨_, sp, t, mp, mt, ms, _, rfl, HE.out.1, ⟨by omega, by omega, by omega, by omega, by omega⟩, HE.out.2⟩
set_option maxRecDepth 100000 in
set_option maxHeartbeats 1000000 in
theorem sgcheck_b (s sp t d mp mt ms mf np nt ns nf : Nat) (r : Rt) (n : Int) (c : Int → Int) (hd hi tk gn : Int) (f : Int → Option Value) (w : World) (h : Sg w s sp t d mp mt ms mf np nt ns nf r n c hd hi tk gn f) :
    Calls Tryz.prog 34 #[.pointer (some ⟨s, 0, none⟩), .slice none 0 0] w fun e w' => e = .returned (.int .i64 0) ∧ Below w.heap.size w w' := by
  have c1 : w.cell? ⟨s, 1, none⟩ = some (.pointer (some ⟨d, 0, none⟩)) := h.b.cell 1
  have c12 : w.cell? ⟨s, 12, none⟩ = some (.bool false) := h.b.cell 12
  clear h
  go_enter Tryz.func34, Tryz.ntmps34
  go_wp2_with fail
  have hK := Bk.new w 138 #[.int .i64 9, .bool false]
  have hB := (Below.refl w.heap.size w).alloc (Nat.le_refl _) (.cells #[.int .i64 9, .bool false] 138)
  have HX := Lib.hid (And.intro hK hB)
  clear hK hB c1 c12
  generalize w.alloc (.cells #[.int .i64 9, .bool false] 138) = X at *
  go_loopw [25] (fun i wr => ∃ (j : Nat), (j = 0 ∨ j = 1) ∧ i = .int .i64 j ∧ Bk wr w.heap.size 138 #[.int .i64 9, .bool false] ∧ Below w.heap.size w wr) (fun i _ => 1 - (intOf i).toNat)
  case atStart => exact ⟨0, Or.inl rfl, rfl, HX.out.1, HX.out.2⟩
  case round =>
    obtain ⟨j, hj, rfl, hK, hB⟩ := hrel
    have c0 : wr.cell? ⟨w.heap.size, 0, none⟩ = some (.int .i64 9) := hK.cell 0
    have c1 : wr.cell? ⟨w.heap.size, 1, none⟩ = some (.bool false) := hK.cell 1
    have HK := Lib.hid (And.intro (hK.alloc (.cells #[.int .i64 9, .bool false] 138)) (hB.alloc hB.size (.cells #[.int .i64 9, .bool false] 138)))
    have HB := Lib.hid hB
    clear hK hB
    rcases hj with rfl | rfl
    · go_wp2_with fail
      go_roundw
      case rel => exact ⟨1, Or.inr rfl, rfl, HK.out.1, HK.out.2⟩
      case measure => simp [intOf]
    · go_wp2_with fail
      go_ret
      exact ⟨rfl, HB.out⟩
set_option maxRecDepth 100000 in
set_option maxHeartbeats 1000000 in
theorem sgcount_b (s sp t d m k mp mt ms mf np nt ns nf : Nat) (r : Rt) (n wt : Int) (g : Int → List UInt8) (c : Int → Int) (hd hi tk gn : Int) (f : Int → Option Value) (hr : r.picks = 0) (hrs : r.size = n) (hnp : np < 100000000) (hnt : nt < 100000000) (a : Int) (h0 : fst n ≤ a) (h1 : a < n) (w : World) (h : Sg w s sp t d mp mt ms mf np nt ns nf r n c hd hi tk gn f) (hD : Dz w d m k n wt g mp mt ms) :
    Calls Tryz.prog 17 #[.pointer (some ⟨s, 0, none⟩), .int .u32 a] w fun e w' => e = .returned (.tuple #[.int .u16 (c a), .int .i64 0]) ∧ Sg w' s sp t d mp mt ms mf (np + 1) (nt + 1) ns nf r n c hd hi tk gn f ∧ Fr (fun i => i = mp ∨ i = mt) w w' := by
  have HS0 := Lib.hid h
  have HD0 := Lib.hid hD
  clear h hD
  go_enter Tryz.func17, Tryz.ntmps17
  go_wp2_with fail
  refine (sgcheck_b s sp t d mp mt ms mf np nt ns nf r n c hd hi tk gn f _ HS0.out).mono ?_
  rintro e w1 ⟨rfl, hb1⟩
  have HS1 := Lib.hid (HS0.out.below hb1)
  have HD1 := Lib.hid (HD0.out.below hb1)
  have HF1 := Lib.hid (Fr.of_all hb1 (fun i => i = mp ∨ i = mt))
  have c0 : w1.cell? ⟨s, 0, none⟩ = some (.pointer (some ⟨sp, 0, none⟩)) := HS1.out.b.cell 0
  clear hb1 HS0 HD0
  go_wp2_with fail
  refine (spcount_b sp hd hi tk gn t d m k mp mt ms np nt ns r n wt g c hr hrs hnp hnt a h0 h1 _ HS1.out.p HS1.out.t HD1.out).mono ?_
  rintro e w2 ⟨rfl, hT2, hF2⟩
  obtain ⟨fp, hp1, hp2⟩ := HS1.out.t.p
  obtain ⟨fq, hq1, hq2⟩ := HS1.out.t.q
  have HE := Lib.hid (And.intro (show Sg w2 s sp t d mp mt ms mf (np + 1) (nt + 1) ns nf r n c hd hi tk gn f from ⟨HS1.out.b.fr hF2 (fun e => e.elim (fun e => mp_ne hp1 HS1.out.b e.symm) (fun e => mp_ne hq1 HS1.out.b e.symm)), HS1.out.p.fr hF2 (fun e => e.elim (fun e => mp_ne hp1 HS1.out.p e.symm) (fun e => mp_ne hq1 HS1.out.p e.symm)), hT2, HS1.out.f.fr hF2 (fun e => e.elim HS1.out.f1 HS1.out.f2), HS1.out.f1, HS1.out.f2, HS1.out.f3⟩) (HF1.out.trans hF2 (fun _ _ h => h)))
  clear hT2 hF2 hp1 hp2 hq1 hq2
  go_wp2_with fail
  go_ret2
  exact ⟨rfl, HE.out.1, HE.out.2⟩
set_option maxRecDepth 100000 in
set_option maxHeartbeats 1000000 in
/-- A block that is not fresh is read. -/
theorem sgread_b (s sp t d m k mp mt ms mf np nt ns nf : Nat) (r : Rt) (n wt : Int) (g : Int → List UInt8) (c : Int → Int) (hd hi tk gn : Int) (f : Int → Option Value) (hrs : r.size = n) (a : Int) (h0 : fst n ≤ a) (h1 : a < n) (hfa : f a = none) (w : World) (h : Sg w s sp t d mp mt ms mf np nt ns nf r n c hd hi tk gn f) (hD : Dz w d m k n wt g mp mt ms) :
    Calls Tryz.prog 32 #[.pointer (some ⟨s, 0, none⟩), .int .u32 a] w fun e w' => e = .returned (.tuple #[.agg (bA (g a)), .int .i64 0]) ∧ Below w.heap.size w w' := by
  have hlo := hD.v.lo
  have hhi := hD.v.hi
  obtain ⟨f0, f1⟩ := fst_bd n hlo hhi
  have hB0 := (Below.refl w.heap.size w).alloc (Nat.le_refl _) (.cells Tryz.zeroCells53 53)
  have HS0 := Lib.hid (h.below hB0)
  have HD0 := Lib.hid (hD.below hB0)
  have HR0 := Lib.hid (Bk.new w 53 Tryz.zeroCells53)
  have HB0 := Lib.hid hB0
  have hl := hD.v.len a
  have HSZ := Lib.hid (show (bA (g a)).size = Tryz.zeroCells53.size by rw [zb_cells, bA_size, bA_size, hl, zb_length])
  have hszV : (Tryz.prog.info? 53).map (·.size) = some (bA (g a)).size := by rw [bA_size, hl]; exact infoBlock
  have h1V := bA_one (g a)
  have hszZ : (Tryz.prog.info? 53).map (·.size) = some (bA zb).size := by rw [bA_size, zb_length]; exact infoBlock
  have h1Z := bA_one zb
  have HFA := Lib.hid hfa
  have HRS := Lib.hid hrs
  clear h hD hB0 hl hfa hrs
  go_enter Tryz.func32, Tryz.ntmps32
  go_wp2_with fail
  refine (sgcheck_b s sp t d mp mt ms mf np nt ns nf r n c hd hi tk gn f _ HS0.out).mono ?_
  rintro e w1 ⟨rfl, hb1⟩
  have HS1 := Lib.hid (HS0.out.below hb1)
  have HD1 := Lib.hid (HD0.out.below hb1)
  have HR1 := Lib.hid (HR0.out.below hb1 HR0.out.lt)
  have HB1 := Lib.hid (HB0.out.trans (hb1.mono HB0.out.size))
  have c1 : w1.cell? ⟨s, 1, none⟩ = some (.pointer (some ⟨d, 0, none⟩)) := HS1.out.b.cell 1
  have c2 : w1.cell? ⟨s, 2, none⟩ = some (.pointer (some ⟨t, 0, none⟩)) := HS1.out.b.cell 2
  have c11 : w1.cell? ⟨s, 11, none⟩ = some (.map (some mf)) := HS1.out.b.cell 11
  clear hb1 HS0 HD0 HR0 HB0
  go_wp2_with fail
  refine (tfirst_b t d mp mt ms np nt ns r n c _ HS1.out.t).mono ?_
  rintro e w2 ⟨rfl, rfl⟩
  go_wp2_with fail
  refine (tsize_b t d mp mt ms np nt ns r n c _ HS1.out.t).mono ?_
  rintro e w2 ⟨rfl, rfl⟩
  rw [HRS.out]
  have hlk := HS1.out.f.look_ok (t := 42) Tryz.underlying42 (zeroBlock w1) (show 0 ≤ a by omega) (by omega)
  rw [HFA.out] at hlk
  simp only [Option.getD_none, Option.isSome_none] at hlk
  have hN0 := Bk.new w1 53 Tryz.zeroCells53
  have hth := hN0.there (bA zb).size (by rw [zb_cells]; exact Nat.le_refl _)
  have hA := below_setCells w1.heap.size (Nat.le_refl _) (bA zb).toList ((Below.refl w1.heap.size w1).alloc (Nat.le_refl _) (.cells Tryz.zeroCells53 53)) 0
  have HD2 := Lib.hid (HD1.out.below hA)
  have HR2 := Lib.hid (HR1.out.below hA HR1.out.lt)
  have HB2 := Lib.hid (HB1.out.trans (hA.mono HB1.out.size))
  have c1' := (hA.cell (p := ⟨s, 1, none⟩) HS1.out.b.lt).trans c1
  clear hN0 hA HD1 HR1 HB1
  generalize bA zb = ZV at *
  go_wp2_with (refine wpList_store_mid rfl 53 _ _ rfl w1.heap.size 0 ZV rfl rfl hth hszZ h1Z ?_; generalize (w1.alloc (.cells Tryz.zeroCells53 53)).setCells w1.heap.size 0 ZV.toList = w2 at *)
  refine (read_any d m k n wt g a (by omega) h1 _ HD2.out.v).mono ?_
  rintro e w3 ⟨rfl, hb3⟩
  have hR3 := HR2.out.below hb3 HR2.out.lt
  have hB3 := HB2.out.trans (hb3.mono HB2.out.size)
  have hth3 := hR3.there (bA (g a)).size (by rw [HSZ.out]; exact Nat.le_refl _)
  have kR := hR3.all (bA (g a)).toList (by rw [Array.length_toList]; exact HSZ.out)
  rw [Array.toArray_toList] at kR
  have HE := Lib.hid (And.intro kR (below_setCells w.heap.size (Nat.le_refl _) (bA (g a)).toList hB3 0))
  clear hb3 hR3 hB3 kR HR2 HB2 HD2 hlk hth
  generalize hBV : bA (g a) = BV at *
  have HBV := Lib.hid hBV
  clear hBV
  go_wp2_with (refine wpList_store_mid rfl 53 _ _ rfl w.heap.size 0 BV rfl rfl hth3 hszV h1V ?_; generalize w3.setCells w.heap.size 0 BV.toList = w4 at *)
  refine bodyPost_ret (results_row_tmp rfl _ _ w.heap.size _ BV _ rfl HE.out.1 Tryz.underlying53 rfl hszV) rfl ⟨by rw [HBV.out]; rfl, HE.out.2⟩
end Go.Proofs.YtjnbpbnhkinggaaGreatDoor.St
