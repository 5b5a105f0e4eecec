/- The law pantilelaw24.BoundRises returns true for every input, and each argument reads afterwards as it did; conditions: the listed table bound.takes holds what its initialiser lays (the card ties that to the program's text). -/
import Derived.Test.YtbmnjcmdiepcbaaDoorBRises
import Derived.Test.YtbmnjcmdiepcbaaDoorBOpen
namespace Go.Proofs.YtbmnjcmdiepcbaaDoor.Bd
open Go.RowKit

theorem all_nil (a : Option Addr) (cap : Nat) (w : World) :
    Calls Tryd.prog 12 #[.slice a 0 cap] w fun e w' => e = .returned (.int .u64 0) ∧ w = w' := by
  go_enter Tryd.func12, Tryd.ntmps12
  go_wp2_with fail
  go_loop [3, 7] (fun s i => s = .int .u64 0 ∧ i = .int .i64 0) (fun _ _ => 0)
  case atStart => exact ⟨rfl, rfl⟩
  case round =>
    obtain ⟨rfl, rfl⟩ := hrel
    go_wp2_with fail
    go_ret
    exact ⟨rfl, rfl⟩

theorem rises_many (a : Option Addr) (len cap : Nat) (more n0 n1 : Int) (w : World) (hlen : 50 < len) (ht : Tak w) :
    Calls Tryd.prog 4 #[.slice a len cap, .int .u16 more, .agg #[.int .u32 n0, .int .u32 n1]] w
      fun e w' => e = .returned (.bool true) ∧ Below w.heap.size w w' := by
  have HT := Lib.hid ht
  clear ht
  have h50 : decide ((50 : Int) < (len : Int)) = true := by simp; omega
  go_enter Tryd.func4, Tryd.ntmps4
  go_wp2_with fail
  refine (head_any _ (HT.out.alloc _)).mono ?_
  rintro e w1 ⟨rfl, hb⟩
  have hbb : Below w.heap.size w w1 := ((Below.refl _ _).alloc (Nat.le_refl _) _).trans (hb.mono (by simp))
  go_wp2_with fail
  go_ret
  exact ⟨rfl, hbb⟩

set_option maxRecDepth 100000 in
set_option maxHeartbeats 1000000 in
theorem rises_zero (a : Option Addr) (cap : Nat) (more n0 n1 : Int) (w : World) (ht : Tak w) (hm0 : 0 ≤ more) (hm1 : more ≤ 65535) :
    Calls Tryd.prog 4 #[.slice a 0 cap, .int .u16 more, .agg #[.int .u32 n0, .int .u32 n1]] w
      fun e w' => e = .returned (.bool true) ∧ Below w.heap.size w w' := by
  have HT := Lib.hid ht
  clear ht
  have hpm : decide (pg more ≤ pg (more + 1)) = true := by have := pg_mono more (more + 1) (by omega); simpa using this
  go_enter Tryd.func4, Tryd.ntmps4
  go_wp2_with fail
  go_loopw [7, 8] (fun s i wr => s = .int .u64 0 ∧ i = .int .i64 0 ∧ Tak wr ∧ Below w.heap.size w wr) (fun _ _ _ => 0)
  case atStart => exact ⟨rfl, rfl, HT.out.alloc _, (Below.refl _ _).alloc (Nat.le_refl _) _⟩
  case round =>
    obtain ⟨rfl, rfl, ht2, hbwr⟩ := hrel
    have HT2 := Lib.hid ht2
    clear ht2
    go_wp2_with fail
    refine (all_nil _ _ _).mono ?_
    rintro e w' ⟨rfl, rfl⟩
    go_wp2_with fail
    refine (pages_any _ _ (by omega) (by omega)).mono ?_
    rintro e w' ⟨rfl, rfl⟩
    go_wp2_with fail
    refine (pages_any _ _ (by omega) (by omega)).mono ?_
    rintro e w' ⟨rfl, rfl⟩
    go_wp2_with fail
    refine (head_any _ HT2.out).mono ?_
    rintro e w2 ⟨rfl, hb2⟩
    have hbb : Below w.heap.size w w2 := hbwr.trans (hb2.mono hbwr.size)
    go_wp2_with fail
    go_ret
    exact ⟨rfl, hbb⟩
end Go.Proofs.YtbmnjcmdiepcbaaDoor.Bd
namespace Go.Proofs.YtbmnjcmdiepcbaaDoor.BdRises
open Go.ChangeShapes Go.WideShapes Go.ChangeAt Go.RowKit Go.Joins Go.Deep Go.Proofs.YtbmnjcmdiepcbaaDoor.Bd

theorem cellsArr : Tryd.prog.cellsOf 38 = 2 := by kernel_rfl
theorem cellsU32 : Tryd.prog.cellsOf 23 = 1 := by kernel_rfl

/-- The cells of a request that is read. -/
theorem req_cells {H : Type} {enc : TypeId × Value → H} {w : World} {base n : Nat} {spare : Nat → Bool} {held : Bool} {cs : List Value} {x : DataW H × List MemPlace}
    (hl : cs.length = 8) (h : DataW.trod enc Tryd.prog w base spare held n 26 cs = some x) :
    ∃ r : RV, cs = [.int .u8 r.k, .string r.nm, .string r.tu, .int .u64 r.hd, .int .u32 r.off, .int .u32 r.len, .int .u32 r.qt, .slice r.a r.dl r.dc] ∧ r.fit := by
  match cs, hl with
  | [c0, c1, c2, c3, c4, c5, c6, c7], _ =>
    obtain ⟨xs, n', _, hx, _, hlen, hg⟩ := DataW.trod_struct Tryd.underlying26 h
    match xs, hlen with
    | [y0, y1, y2, y3, y4, y5, y6, y7], _ =>
      have h0 := hg 0 _ rfl
      have h1 := hg 1 _ rfl
      have h2 := hg 2 _ rfl
      have h3 := hg 3 _ rfl
      have h4 := hg 4 _ rfl
      have h5 := hg 5 _ rfl
      have h6 := hg 6 _ rfl
      have h7 := hg 7 _ rfl
      obtain ⟨k, e0, _, w0⟩ := DataW.trod_int Tryd.underlying5 h0
      obtain ⟨nm, e1, _, _⟩ := DataW.trod_string Tryd.underlying9 h1
      obtain ⟨tu, e2, _, _⟩ := DataW.trod_string Tryd.underlying9 h2
      obtain ⟨hd, e3, _, w3⟩ := DataW.trod_int Tryd.underlying22 h3
      obtain ⟨off, e4, _, w4⟩ := DataW.trod_int Tryd.underlying23 h4
      obtain ⟨len, e5, _, w5⟩ := DataW.trod_int Tryd.underlying23 h5
      obtain ⟨qt, e6, _, w6⟩ := DataW.trod_int Tryd.underlying23 h6
      have e7 : ∃ a dl dc, c7 = .slice a dl dc := by
        rcases open_slice Tryd.underlying24 h7 with ⟨e, _⟩ | ⟨a, l, c, _, _, _, _, e, _⟩
        · exact ⟨none, 0, 0, (List.cons.inj e).1⟩
        · exact ⟨some a, l, c, (List.cons.inj e).1⟩
      obtain ⟨a, dl, dc, rfl⟩ := e7
      obtain rfl : c0 = _ := (List.cons.inj e0).1
      obtain rfl : c1 = _ := (List.cons.inj e1).1
      obtain rfl : c2 = _ := (List.cons.inj e2).1
      obtain rfl : c3 = _ := (List.cons.inj e3).1
      obtain rfl : c4 = _ := (List.cons.inj e4).1
      obtain rfl : c5 = _ := (List.cons.inj e5).1
      obtain rfl : c6 = _ := (List.cons.inj e6).1
      have b0 := bd_u8 w0
      have b5 := bd_u32 w5
      exact ⟨⟨k, nm, tu, hd, off, len, qt, a, dl, dc⟩, rfl, b0.1, b0.2, b5.1, b5.2⟩

/-- A row of requests that came in: nil, or it lies at an address. -/
theorem open_reqs {H : Type} {enc : TypeId × Value → H} {W : World} {spare : Nat → Bool} {held : Bool} {v : Value} {d : DataW H} {p : List MemPlace} {a : Option Addr} {len cap : Nat}
    (hv : v = .slice a len cap) (h : DataW.Trod enc Tryd.prog W 0 spare held 36 v d p) (hpos : 0 < len) :
    ∃ (b o : Nat) (f : Nat → RV), a = some ⟨b, o, none⟩ ∧ b < W.heap.size ∧ ∀ i, i < len → ReqAt W b (o + i * 8) (f i) ∧ (f i).fit := by
  subst hv
  obtain ⟨fuel, hf⟩ := h
  rcases open_slice Tryd.underlying36 hf with ⟨e, _⟩ | ⟨ad, l, c, m, n, D, Pl, e, _, hl, hm, hmm, hx, hi⟩
  · have : Value.slice a len cap = .slice none 0 0 := (List.cons.inj e).1
    injection this with _ h2 _
    omega
  · have e' : Value.slice a len cap = .slice (some ad) l c := (List.cons.inj e).1
    injection e' with e1 e2 e3
    subst e1 e2 e3
    have hle : len ≤ m := by rw [hmm]; split <;> omega
    rw [cellsReq] at hi
    have hcell : ∀ i, i < len → ∃ r : RV, (∀ j, j < 8 → W.cell? ((ad.add (i * 8)).add j) = [Value.int .u8 r.k, .string r.nm, .string r.tu, .int .u64 r.hd, .int .u32 r.off, .int .u32 r.len, .int .u32 r.qt, .slice r.a r.dl r.dc][j]?) ∧ r.fit := by
      intro i hil
      obtain ⟨cs, hc, ht⟩ := hi i (by omega)
      obtain ⟨_, hcl, hat⟩ := World.cells?_some hc
      obtain ⟨r, rfl, hfit⟩ := req_cells hcl ht
      exact ⟨r, hat, hfit⟩
    have hspot : ad.spot = none := by
      obtain ⟨r, hat, _⟩ := hcell 0 hpos
      have := hat 0 (by decide)
      simp [Addr.add] at this
      exact World.cell?_spot this
    obtain ⟨b, o, sp⟩ := ad
    dsimp only at hspot
    subst hspot
    have hadd : ∀ i j, (({ block := b, off := o } : Addr).add (i * 8)).add j = ⟨b, o + i * 8 + j, none⟩ := by
      intro i j
      unfold Addr.add
      by_cases h1 : i * 8 = 0 <;> by_cases h2 : j = 0 <;> simp [h1, h2] <;> omega
    refine ⟨b, o, fun i => if h : i < len then Classical.choose (hcell i h) else ⟨0, ⟨#[]⟩, ⟨#[]⟩, 0, 0, 0, 0, none, 0, 0⟩, rfl, ?_, ?_⟩
    · obtain ⟨r, hat, _⟩ := hcell 0 hpos
      have := hat 0 (by decide)
      rw [hadd] at this
      exact World.block_lt_of_cell? _ _ this
    · intro i hil
      dsimp only
      rw [dif_pos hil]
      obtain ⟨hat, hfit⟩ := Classical.choose_spec (hcell i hil)
      refine ⟨?_, hfit⟩
      have k := fun j (hj : j < 8) => (congrArg W.cell? (hadd i j)).symm.trans (hat j hj)
      exact ⟨k 0 (by decide), k 1 (by decide), k 2 (by decide), k 3 (by decide), k 4 (by decide), k 5 (by decide), k 6 (by decide), k 7 (by decide)⟩

/-- An array of integers that came in. -/
theorem open_arr_ints {H : Type} {enc : TypeId × Value → H} {P : Program} {W : World} {base b0 n : Nat} {t e : TypeId} {k : IntKind} {spare : Nat → Bool} {held : Bool} {r : Reach} {v : Value} {d : DataW H} {p : List MemPlace}
    (ht : P.underlying t = some (.array n e)) (he : P.underlying e = some (.int k)) (hce : P.cellsOf e = 1) (hct : P.cellsOf t = n)
    (hv : Value.okWide P W r b0 t v) (h : DataW.Trod enc P W base spare held t v d p) :
    ∃ cs : List Value, v = .agg cs.toArray ∧ cs.length = n ∧ ∀ i, i < n → ∃ z : Int, cs[i]? = some (.int k z) ∧ (Lit.int k z).wf = true := by
  simp only [Value.okWide, ht] at hv
  obtain ⟨cs, rfl, hsz, _⟩ := hv
  obtain ⟨l⟩ := cs
  obtain ⟨fuel, hf⟩ := h
  obtain ⟨xs, m, _, hx, hlen, hxl, hi⟩ := DataW.trod_array ht hf
  rw [hct] at hsz
  refine ⟨l, rfl, by simpa using hsz, fun i hin => ?_⟩
  have hil : i < l.length := by have : l.length = n := by simpa using hsz
                                omega
  have h1 := hi i hin
  rw [hce, Nat.mul_one] at h1
  have e1 : ((Value.agg l.toArray).cells.toList.drop i).take 1 = [l[i]] := by
    show (l.drop i).take 1 = [l[i]]
    rw [List.drop_eq_getElem_cons hil]; rfl
  rw [e1, List.getElem?_eq_getElem (by omega)] at h1
  obtain ⟨z, e2, _, wz⟩ := DataW.trod_int he h1
  exact ⟨z, by rw [List.getElem?_eq_getElem hil, (List.cons.inj e2).1], wz⟩

/-- Two numbers that came in. -/
theorem open_two {H : Type} {enc : TypeId × Value → H} {W : World} {base b0 : Nat} {spare : Nat → Bool} {held : Bool} {r : Reach} {v : Value} {d : DataW H} {p : List MemPlace}
    (hv : Value.okWide Tryd.prog W r b0 38 v) (h : DataW.Trod enc Tryd.prog W base spare held 38 v d p) :
    ∃ n0 n1 : Int, v = .agg #[.int .u32 n0, .int .u32 n1] ∧ (0 ≤ n0 ∧ n0 ≤ 4294967295) ∧ (0 ≤ n1 ∧ n1 ≤ 4294967295) := by
  obtain ⟨cs, rfl, hl, hi⟩ := open_arr_ints Tryd.underlying38 Tryd.underlying23 cellsU32 cellsArr hv h
  match cs, hl with
  | [c0, c1], _ =>
    obtain ⟨n0, e0, w0⟩ := hi 0 (by decide)
    obtain ⟨n1, e1, w1⟩ := hi 1 (by decide)
    obtain rfl : c0 = _ := Option.some.inj e0
    obtain rfl : c1 = _ := Option.some.inj e1
    exact ⟨n0, n1, rfl, bd_u32 w0, bd_u32 w1⟩

theorem rises_any (a : Option Addr) (len cap : Nat) (more n0 n1 : Int) (w : World) (hop : 0 < len → ∃ (b o : Nat) (f : Nat → RV), a = some ⟨b, o, none⟩ ∧ b < w.heap.size ∧ ∀ i, i < len → ReqAt w b (o + i * 8) (f i) ∧ (f i).fit) (ht : Tak w)
    (hm0 : 0 ≤ more) (hm1 : more ≤ 65535) (hn0 : 0 ≤ n0) (hn1 : n0 ≤ 4294967295) (hr0 : 0 ≤ n1) (hr1 : n1 ≤ 4294967295) :
    Calls Tryd.prog 4 #[.slice a len cap, .int .u16 more, .agg #[.int .u32 n0, .int .u32 n1]] w
      fun e w' => e = .returned (.bool true) ∧ Below w.heap.size w w' := by
  by_cases h0 : len = 0
  · subst h0
    exact rises_zero a cap more n0 n1 w ht hm0 hm1
  · by_cases h50 : 50 < len
    · exact rises_many a len cap more n0 n1 w h50 ht
    · obtain ⟨b, o, f, rfl, hb, hf⟩ := hop (by omega)
      by_cases hn : n0 < 64 ∨ 1048576 < n0
      · exact rises_no b o len cap f more n0 n1 w (by omega) hf hb ht hm0 hm1 hn0 hn1 hn hr0 hr1
      · exact rises_yes b o len cap f more n0 n1 w (by omega) hf hb ht hm0 hm1 (by omega) (by omega) hr0 hr1

theorem bd_u16 {n : Int} (h : (Lit.int .u16 n).wf = true) : 0 ≤ n ∧ n ≤ 65535 := bounds_u16 h

theorem contract (H : Type) (enc : TypeId × Value → H) (W : World) (base : Nat) (args : Array Value) (ds gs : List (DataW H)) (before : List MemPlace)
    (hval : ∀ (j : Nat) t v, Tryd.f4.params[j]? = some t → args[j]? = some v → Value.okWide Tryd.prog W .any base t v)
    (hW : DataW.Whole enc Tryd.prog Tryd.f4.params.toList Rows.boundRisesSpec.vars false W args.toList ds gs before) (hL : laidMetH Tryd.prog Rows.boundRisesRow.laid W) :
    Calls Tryd.prog 4 args W fun e W' => ∃ v, e = .returned v ∧ Rows.boundRisesSpec.post enc Tryd.prog Tryd.f4 false true false false W args v W' := by
  have hW' := hW
  obtain ⟨p, q, hA0, hV, rfl, hfz, hnd⟩ := hW
  have hA : DataW.TrodAll enc Tryd.prog W 0 (fun _ => true) true Tryd.f4.params.toList args.toList ds p := hA0
  rw [Tryd.params4] at hA hval
  obtain ⟨v0, vs0, d0, ds0, p0, q0, hargs, rfl, rfl, h0, r0⟩ := trodAll_cons hA
  obtain ⟨v1, vs1, d1, ds1, p1, q1, rfl, rfl, rfl, h1, r1⟩ := trodAll_cons r0
  obtain ⟨v2, vs2, d2, ds2, p2, q2, rfl, rfl, rfl, h2, r2⟩ := trodAll_cons r1
  obtain ⟨rfl, rfl, rfl⟩ := trodAll_nil r2
  obtain rfl : args = #[v0, v1, v2] := by cases args; simp_all
  obtain ⟨rfl, rfl⟩ := trodVars_none hV
  have lt0 : ∀ x ∈ p0, x.block < W.heap.size := by obtain ⟨m, hm⟩ := h0; exact DataW.trod_lt m _ _ _ hm
  have lt2 : ∀ x ∈ p2, x.block < W.heap.size := by obtain ⟨m, hm⟩ := h2; exact DataW.trod_lt m _ _ _ hm
  obtain ⟨a, len, cap, rfl⟩ := okWide_slice Tryd.underlying36 (hval 0 36 v0 rfl rfl)
  obtain ⟨more, rfl, rfl, rfl, wm⟩ := open_int Tryd.underlying37 (hval 1 37 v1 rfl rfl) h1
  obtain ⟨n0, n1, rfl, bn0, bn1⟩ := open_two (hval 2 38 v2 rfl rfl) h2
  clear hA0
  have bm := bd_u16 wm
  refine (rises_any a len cap more n0 n1 W (fun hp => open_reqs rfl h0 hp) (tak_of_laid hL) bm.1 bm.2 bn0.1 bn0.2 bn1.1 bn1.2).mono fun e W' ⟨he, bel⟩ => ?_
  subst he
  exact ⟨_, rfl, _, _, _, [], _, [], hW', trodAll_mk1 (shut_bool Tryd.underlying4 _), (trodAll_cons_mk (Below.trod laidOut (by kernel_rfl) (of_decide_eq_true (by kernel_rfl)) h0 bel lt0) (trodAll_cons_mk (shut_int Tryd.underlying37 wm) (trodAll_cons_mk (Below.trod laidOut (by kernel_rfl) (of_decide_eq_true (by kernel_rfl)) h2 bel lt2) trodAll_mk0))), rfl, bel.frame _, fun h => by cases h⟩

/-- A world for the witness: the settled one, the table holding what its initialiser lays. -/
noncomputable def laidWorld (os : Os) : World :=
  { World.holding Tryd.prog os ⟨#[], #[], []⟩ with heap := (World.holding Tryd.prog os ⟨#[], #[], []⟩).heap.modify 0 fun
      | .cells _ t frozen => .cells #[.int .u8 12, .int .u8 4, .int .u8 4, .int .u8 2, .int .u8 4, .int .u8 4, .int .u8 4, .int .u8 1, .int .u8 0, .int .u8 18, .int .u8 34, .int .u8 50, .int .u8 0, .int .u8 18, .int .u8 12, .int .u8 0, .int .u8 0, .int .u8 0] t frozen
      | o => o }
theorem laid_met (os : Os) : laidMet Tryd.prog Rows.boundRisesRow.laid ((laidWorld os).forCall (fun _ _ => 0) ⟨#[], #[.slice none 0 0, .int .u16 0, .agg #[.int .u32 0, .int .u32 0]], []⟩).memory :=
  laidMet_of_run' 8 (by kernel_rfl) (by kernel_rfl)
theorem reads (os : Os) {H : Type} (enc : TypeId × Value → H) : ∃ places, DataW.whole enc Tryd.prog ((laidWorld os).forCall (fun _ _ => 0) ⟨#[], #[.slice none 0 0, .int .u16 0, .agg #[.int .u32 0, .int .u32 0]], []⟩).memory Tryd.f4.params.toList Rows.boundRisesSpec.vars false #[Value.slice none 0 0, Value.int .u16 0, Value.agg #[.int .u32 0, .int .u32 0]].toList 8
    = some ([.nil, .lit (.int .u16 0), .agg [.lit (.int .u32 0), .lit (.int .u32 0)]], [], places) :=
  ⟨[], by kernel_rfl⟩

set_option maxRecDepth 100000 in
theorem lifted (os : Os) (started : os.Started) (H : Type) (enc : TypeId × Value → H) (F : Stop.Interp) :
    ReturnsInHanded {} Tryd.checked os 4 .any ((OpenSpec.ofChange Rows.boundRisesSpec).preRow enc Tryd.prog Tryd.f4 Rows.boundRisesRow.domain false Rows.boundRisesRow.laid) (((OpenSpec.ofChange Rows.boundRisesSpec).at F).post enc Tryd.prog Tryd.f4 false true false false) := by
  obtain ⟨places, hx⟩ := reads os enc
  refine returnsInHanded_of_row (C := Tryd.checked) (s := OpenSpec.ofChange Rows.boundRisesSpec) own started (by kernel_rfl) Tryd.func4
    (witness_row_at (enc := enc) (C := Tryd.checked) false (laidWorld os) #[.slice none 0 0, .int .u16 0, .agg #[.int .u32 0, .int .u32 0]] rfl (by kernel_rfl) (by kernel_rfl) (by kernel_rfl)
      (OpenSpec.preRow_of_cond 8 hx (by kernel_rfl) (fun k hk => by cases hk) (by kernel_rfl) (laid_met os))) ?_
  intro W base args ds gs before hval hW _ _ _ hL _ _
  exact contract H enc W base args ds gs before hval hW hL

theorem said : Rows.BoundRisesSaid :=
  OpenClaim.holds_of_cond 4 Tryd.f4 rfl rfl rfl rfl rfl rfl rfl ⟨rfl, rfl, rfl, rfl, rfl⟩ rfl rfl rfl rfl rfl (by kernel_rfl) Tryd.func4 (by kernel_rfl)
    (of_decide_eq_true (by kernel_rfl)) (by unfold Func.isWrapper; first | (rw [if_pos (by decide +kernel)]; kernel_rfl) | (rw [if_neg (by decide +kernel)]; exact ⟨rfl, rfl⟩))
    (fun os started H enc _ F => by rw [OpenClaim.pre_eq_preRow]; exact lifted os started H enc F)

theorem plain (f : FuncId) (fn : Func) (hf : Tryd.pinned.checked.prog.funcNamed "pantile/pantilelaw24.BoundRises" = some f) (hfn : Tryd.pinned.checked.prog.funcs[f]? = some fn) :
    false = Tryd.pinned.checked.prog.looks [] ∧ ∀ (j : Nat) t, fn.params[j]? = some t → Tryd.pinned.checked.prog.wantsStandIn t = false := by
  obtain rfl : f = 4 := Option.some.inj ((show Tryd.prog.funcNamed "pantile/pantilelaw24.BoundRises" = some 4 by kernel_rfl).symm.trans hf) |>.symm
  obtain rfl : fn = Tryd.f4 := (Option.some.inj (Tryd.func4.symm.trans hfn)).symm
  refine ⟨by kernel_rfl, fun j t ht => ?_⟩
  rw [Tryd.params4] at ht
  have hm : t ∈ [36, 37, 38] := by simpa using Array.mem_of_getElem? ht
  have hall : ([36, 37, 38].all fun u => !Tryd.prog.wantsStandIn u) = true := by kernel_rfl
  exact (show Tryd.prog.wantsStandIn t = false by simpa using List.all_eq_true.1 hall t hm)
end Go.Proofs.YtbmnjcmdiepcbaaDoor.BdRises
namespace Go.Proofs.YtbmnjcmdiepcbaaDoor
/-- THE CARD. -/
theorem boundRises_card : Rows.BoundRisesCardSaid :=
  Claim7.holds_tied_plain_at .later [] _ _ _ _ BdRises.said (fun _ h => by cases h) (by kernel_rfl) (fun _ h => by cases h) boundRises_row_tie rfl ⟨rfl, rfl⟩ (by kernel_rfl) rfl BdRises.plain (by kernel_rfl)
#print axioms boundRises_card
end Go.Proofs.YtbmnjcmdiepcbaaDoor
