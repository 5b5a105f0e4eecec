/- Contracts of root.steps, and of the closures of root.turn. -/
import Derived.Test.YtjnbpbnhkinggaaGreatDoorRMount
namespace Go.Proofs.YtjnbpbnhkinggaaGreatDoor.St
open Go.RowKit

/-- A step, as a value. -/
structure Stp where
  f : Nat
  first : Array Value
  cap : Array Value
def Stp.cells (l : List Stp) : Array Value := (l.map fun x => Value.func (.func x.f) x.first x.cap).toArray
set_option maxRecDepth 100000 in
set_option maxHeartbeats 1000000 in
theorem steps_ok (b c : Nat) (l : List Stp) (hl : l.length ≤ 8) (I : Nat → World → Prop) (w : World) (h0 : I 0 w) (hb : ∀ i X, I i X → X.ownsRow 0 78 1 (.slice (some ⟨b, 0, none⟩) l.length c) l.length (Stp.cells l).toList) (eg : ∀ (i : Nat) (x : Stp), l[i]? = some x → ∀ args w, (callFunc x.f args).run Tryz.prog w = .ok (.enter x.f args) w)
    (hc : ∀ (i : Nat) (x : Stp), l[i]? = some x → ∀ X : World, I i X → Calls Tryz.prog x.f (x.first ++ x.cap) X fun e w' => e = .returned (.int .i64 0) ∧ I (i + 1) w') :
    Calls Tryz.prog 27 #[.slice (some ⟨b, 0, none⟩) l.length c] w fun e w' => e = .returned (.int .i64 0) ∧ I l.length w' := by
  have HB := Lib.hid hb
  have HE := Lib.hid eg
  have HC := Lib.hid hc
  have H0 := Lib.hid h0
  clear hb eg hc h0
  generalize hk : l.length = k at *
  have HK := Lib.hid hk
  clear hk
  go_enter Tryz.func27, Tryz.ntmps27
  go_wp2_with fail
  go_loopw [8] (fun i wr => ∃ (j : Nat), j ≤ k ∧ i = .int .i64 j ∧ I j wr) (fun i _ => k - (intOf i).toNat)
  case atStart => exact ⟨0, by omega, rfl, H0.out⟩
  case round =>
    obtain ⟨j, hj, rfl, hI⟩ := hrel
    have HI := Lib.hid hI
    clear hI
    by_cases hlt : j < k
    · have hjl : j < l.length := by rw [HK.out]; exact hlt
      obtain ⟨x, hx⟩ : ∃ x, l[j]? = some x := ⟨l[j], List.getElem?_eq_getElem hjl⟩
      have c1 : wr.cell? ⟨b, j, none⟩ = some (.func (.func x.f) x.first x.cap) := by
        have := (HB.out j wr HI.out).cellAt j (by omega)
        rw [this]
        simp [Stp.cells, hx]
      have HEX := HE.out j x hx
      have HCX := Lib.hid (HC.out j x hx)
      clear hx hjl
      go_wp2_with fail
      refine (HCX.out _ HI.out).mono ?_
      rintro e w2 ⟨rfl, hI2⟩
      have HI2 := Lib.hid hI2
      clear hI2 HI
      go_wp2_with fail
      go_roundw
      case rel => exact ⟨j + 1, by omega, by go_num, HI2.out⟩
      case measure => simp [intOf]; omega
    · have hjk : j = k := by omega
      subst hjk
      go_wp2_with fail
      go_ret
      exact ⟨rfl, HI.out⟩
/-- Pending writes lie in a block that is not there at w. -/
def Later (w : World) (pv : Value) : Prop := ∀ x, pv.ownBlock = some x → w.heap.size ≤ x
theorem later_nil (w : World) : Later w (.slice none 0 0) := fun x h => by cases h
/-- What holds at a round's head of root.turn's first closure. -/
structure BlkRel (w : World) (pl pd d m k : Nat) (n : Int) (g : Int → List UInt8) (lv : Value) (ps : List (Int × List UInt8)) (j : Nat) (wr : World) : Prop where
  dp : ∃ wt pv, Dp wr d m k n wt g pv (ps.take j) ∧ Later w pv
  fr : Fr (fun i => i = d) w wr
theorem BlkRel.own {w : World} {pl pd d m k : Nat} {n : Int} {g : Int → List UInt8} {lv : Value} {ps : List (Int × List UInt8)} {j : Nat} {wr : World} (h : BlkRel w pl pd d m k n g lv ps j wr) {N : Nat} {xs : List Value} {cs : Array Value} (ho : w.ownsRow 0 58 257 lv N xs) (hd : Bk w d 46 cs) : wr.ownsRow 0 58 257 lv N xs :=
  own_fr ho h.fr (fun x hx e => own_ne ho hd (by decide) (e ▸ hx))
theorem own_range {w : World} {gp c : Nat} {ps : List (Int × List UInt8)} (hl : ∀ p ∈ ps, p.2.length = 256) (h : w.ownsRow 0 58 257 (.slice (some ⟨gp, 0, none⟩) ps.length c) ps.length (putC ps)) {j : Nat} {p : Int × List UInt8} (hp : ps[j]? = some p) : w.rangeAt gp (j * 257) (#[Value.int .u32 p.1] ++ bA p.2).toList := by
  intro i v hv
  have hi : i < 257 := by
    have := (List.getElem?_eq_some_iff.1 hv).1
    simp [bA_size, hl p (List.mem_of_getElem? hp)] at this
    omega
  rw [h.cellAt _ (by have := (List.getElem?_eq_some_iff.1 hp).1; omega), putC_at ps hl j p hp i hi]
  exact hv
set_option maxRecDepth 100000 in
set_option maxHeartbeats 1000000 in
theorem blocks_any (pl pd d m k : Nat) (n wt : Int) (g : Int → List UInt8) (lv : Value) (ps : List (Int × List UInt8)) (hlen : ps.length ≤ 1000000) (hpl : ∀ p ∈ ps, p.2.length = 256 ∧ 0 ≤ p.1 ∧ p.1 < n) (w : World) (h : Dv w d m k n wt g) (hl : Bk w pl 43 #[lv]) (hd : Bk w pd 23 #[.pointer (some ⟨d, 0, none⟩)]) (ho : w.ownsRow 0 58 257 lv ps.length (putC ps)) :
    Calls Tryz.prog 23 #[.pointer (some ⟨pl, 0, none⟩), .pointer (some ⟨pd, 0, none⟩)] w fun e w' => e = .returned (.int .i64 0) ∧ BlkRel w pl pd d m k n g lv ps ps.length w' := by
  obtain ⟨s, c, hpv, hlc, hs⟩ := own_form ho
  subst hpv
  have HS := Lib.hid hs
  have HD := Lib.hid h
  have HL := Lib.hid hl
  have HP := Lib.hid hd
  have HO := Lib.hid ho
  have HX := Lib.hid hpl
  have c0 : w.cell? ⟨pl, 0, none⟩ = some (.slice s ps.length c) := hl.cell 0
  have hnp : pd ≠ d := bk_ne hd h.b (by decide)
  have hlp := hd.lt
  clear h hl hd ho hs hpl
  go_enter Tryz.func23, Tryz.ntmps23
  go_wp2_with fail
  go_loopw [8] (fun i wr => ∃ (j : Nat), j ≤ ps.length ∧ i = .int .i64 j ∧ BlkRel w pl pd d m k n g (.slice s ps.length c) ps j wr) (fun i _ => ps.length - (intOf i).toNat)
  case atStart => exact ⟨0, by omega, rfl, ⟨wt, _, HD.out.pend, later_nil w⟩, Fr.refl _ _⟩
  case round =>
    obtain ⟨j, hj, rfl, hR⟩ := hrel
    have HR := Lib.hid hR
    clear hR c0
    by_cases hlt : j < ps.length
    · obtain ⟨gp, rfl⟩ := HS.out (by omega)
      obtain ⟨p, hp⟩ : ∃ p, ps[j]? = some p := ⟨ps[j], List.getElem?_eq_getElem hlt⟩
      obtain ⟨p0, p1, p2⟩ := HX.out p (List.mem_of_getElem? hp)
      obtain ⟨wt1, pv, hdp, hlat⟩ := HR.out.dp
      have hsz : (#[Value.int .u32 p.1] ++ bA p.2).size = 257 := by rw [Array.size_append, bA_size, p0]; rfl
      have h1V : (#[Value.int .u32 p.1] ++ bA p.2).all (·.oneCell') = true := by
        apply Array.all_eq_true_iff_forall_mem.2
        intro u hu
        exact putC_one p.1 (bA p.2) (bA_one p.2) u (by simpa using hu)
      have hszV : (Tryz.prog.info? 58).map (·.size) = some (#[Value.int .u32 p.1] ++ bA p.2).size := by rw [hsz]; kernel_rfl
      have hszL : (Tryz.prog.info? 58).map (·.size) = some (#[Value.int .u32 p.1] ++ bA p.2).toList.length := by rw [Array.length_toList]; exact hszV
      have hszB : (Tryz.prog.info? 53).map (·.size) = some (bA p.2).toList.length := by rw [bA_toList_length, p0]; exact infoBlock
      have hrng := own_range (fun p hp => (HX.out p hp).1) (HR.out.own HO.out HD.out.b) hp
      have hB : Below wr.heap.size wr (wr.alloc (.cells Tryz.zeroCells58 58)) := (Below.refl _ _).alloc (Nat.le_refl _) _
      have hN0 := Bk.new wr 58 Tryz.zeroCells58
      have hth := hN0.there (#[Value.int .u32 p.1] ++ bA p.2).size (by rw [hsz, zeroPut_size]; exact Nat.le_refl _)
      have hN1 := hN0.all (#[Value.int .u32 p.1] ++ bA p.2).toList (by rw [Array.length_toList, hsz, zeroPut_size])
      rw [Array.toArray_toList] at hN1
      have hB1 := below_setCells wr.heap.size (Nat.le_refl _) (#[Value.int .u32 p.1] ++ bA p.2).toList hB 0
      have HD1 := Lib.hid (hdp.below hB1)
      have HF1 := Lib.hid (HR.out.fr.trans (Fr.of_all hB1 (fun i => i = d)) (fun _ _ h => h))
      have HP1 := Lib.hid (HP.out.fr HF1.out hnp)
      have hfst := put_first hN1
      have hrg2 := put_range hN1
      have cp : ((wr.alloc (.cells Tryz.zeroCells58 58)).setCells wr.heap.size 0 (#[Value.int .u32 p.1] ++ bA p.2).toList).cell? ⟨pd, 0, none⟩ = some (.pointer (some ⟨d, 0, none⟩)) := HP1.out.cell 0
      have HT := Lib.hid (show ps.take j ++ [p] = ps.take (j + 1) by rw [List.take_add_one, hp]; rfl)
      have HPP := Lib.hid (And.intro p0 (And.intro p1 p2))
      have HW := Lib.hid (fun X hX => write_any d m k n wt1 g pv (ps.take j) p.1 p.2 p0 p1 p2 (by rw [List.length_take]; omega) X hX)
      have HLT := Lib.hid hlat
      clear hN0 hN1 hB hB1 hsz hdp HP1 HR hp p0 p1 p2 hlat
      generalize #[Value.int .u32 p.1] ++ bA p.2 = NV at *
      generalize bA p.2 = BV at *
      go_wp2_with (first | (refine wpList_load_arr rfl 58 _ rfl gp (j * 257) rfl NV _ hrng Tryz.underlying58 rfl hszL ?_) | (refine wpList_store_mid rfl 58 _ _ rfl wr.heap.size 0 NV rfl rfl hth hszV h1V ?_; generalize (wr.alloc (.cells Tryz.zeroCells58 58)).setCells wr.heap.size 0 NV.toList = w3 at *) | (refine wpList_load_arr rfl 53 _ rfl wr.heap.size 1 rfl BV _ hrg2 Tryz.underlying53 rfl hszB ?_))
      refine (HW.out _ HD1.out).mono ?_
      rintro e w5 ⟨pv2, rfl, hd5, hat5, hf5⟩
      have hF5 : Fr (fun i => i = d) w w5 := HF1.out.trans hf5 (fun i hi h => h.elim id (fun e => absurd (HLT.out i e.symm) (by omega)))
      rw [HT.out] at hd5
      have hL5 : Later w pv2 := by
        intro x hx
        rcases hat5 with e | ⟨y, e1, e2⟩
        · exact HLT.out x (e ▸ hx)
        · have : x = y := Option.some.inj (hx.symm.trans e1)
          have := HF1.out.size
          omega
      have HE := Lib.hid (show BlkRel w pl pd d m k n g (.slice (some ⟨gp, 0, none⟩) ps.length c) ps (j + 1) w5 from ⟨⟨_, pv2, hd5, hL5⟩, hF5⟩)
      clear hd5 hat5 hf5 hF5 hL5 HD1 HF1
      go_wp2_with fail
      go_roundw
      case rel => exact ⟨j + 1, by omega, by go_num, HE.out⟩
      case measure => simp [intOf]; omega
    · have hjl : j = ps.length := by omega
      subst hjl
      go_wp2_with fail
      go_ret
      exact ⟨rfl, HR.out⟩
end Go.Proofs.YtjnbpbnhkinggaaGreatDoor.St
