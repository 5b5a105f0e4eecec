/- The law pantilelaw24.BoundTells returns true for every input, and each argument reads afterwards as it did; conditions: the listed table bound.takes holds what its initialiser lays (the card ties that to the program's text). -/
import Derived.Test.YtbmnjcmdiepcbaaDoorBTells
import Derived.Test.YtbmnjcmdiepcbaaDoorBOpen
namespace Go.Proofs.YtbmnjcmdiepcbaaDoor.BdTells
open Go.ChangeShapes Go.WideShapes Go.ChangeAt Go.RowKit Go.Joins Go.Deep Go.Proofs.YtbmnjcmdiepcbaaDoor.Bd

theorem contract (H : Type) (enc : TypeId × Value → H) (W : World) (base : Nat) (args : Array Value) (ds gs : List (DataW H)) (before : List MemPlace)
    (hval : ∀ (j : Nat) t v, Tryd.f3.params[j]? = some t → args[j]? = some v → Value.okWide Tryd.prog W .any base t v)
    (hW : DataW.Whole enc Tryd.prog Tryd.f3.params.toList Rows.boundTellsSpec.vars false W args.toList ds gs before) (hL : laidMetH Tryd.prog Rows.boundTellsRow.laid W) :
    Calls Tryd.prog 3 args W fun e W' => ∃ v, e = .returned v ∧ Rows.boundTellsSpec.post enc Tryd.prog Tryd.f3 false true false false W args v W' := by
  have hW' := hW
  obtain ⟨p, q, hA0, hV, rfl, hfz, hnd⟩ := hW
  have hA : DataW.TrodAll enc Tryd.prog W 0 (fun _ => true) true Tryd.f3.params.toList args.toList ds p := hA0
  rw [Tryd.params3] at hA hval
  obtain ⟨v0, vs0, d0, ds0, p0, q0, hargs, rfl, rfl, h0, r0⟩ := trodAll_cons hA
  obtain ⟨v1, vs1, d1, ds1, p1, q1, rfl, rfl, rfl, h1, r1⟩ := trodAll_cons r0
  obtain ⟨v2, vs2, d2, ds2, p2, q2, rfl, rfl, rfl, h2, r2⟩ := trodAll_cons r1
  obtain ⟨rfl, rfl, rfl⟩ := trodAll_nil r2
  obtain rfl : args = #[v0, v1, v2] := by cases args; simp_all
  obtain ⟨rfl, rfl⟩ := trodVars_none hV
  have lt0 : ∀ x ∈ p0, x.block < W.heap.size := by obtain ⟨m, hm⟩ := h0; exact DataW.trod_lt m _ _ _ hm
  obtain ⟨k, nm, to, hd, off, len, qt, a, dl, dc, rfl, hk, hlen⟩ := open_req (hval 0 26 v0 rfl rfl) h0
  obtain ⟨n, rfl, rfl, rfl, wn⟩ := open_int Tryd.underlying23 (hval 1 23 v1 rfl rfl) h1
  obtain ⟨rel, rfl, rfl, rfl, wr⟩ := open_int Tryd.underlying23 (hval 2 23 v2 rfl rfl) h2
  clear hA0
  have bn := bd_u32 wn
  have br := bd_u32 wr
  refine (tells_any k nm to hd off len qt a dl dc n rel W hlen.1 hlen.2 hk.1 hk.2 (tak_of_laid hL) bn.1 bn.2 br.1 br.2).mono fun e W' ⟨he, bel⟩ => ?_
  subst he
  exact ⟨_, rfl, _, _, _, [], _, [], hW', trodAll_mk1 (shut_bool Tryd.underlying4 _), (trodAll_cons_mk (Below.trod laidOut (by kernel_rfl) (of_decide_eq_true (by kernel_rfl)) h0 bel lt0) (trodAll_cons_mk (shut_int Tryd.underlying23 wn) (trodAll_cons_mk (shut_int Tryd.underlying23 wr) trodAll_mk0))), rfl, bel.frame _, fun h => by cases h⟩

/-- A world for the witness: the settled one, the table holding what its initialiser lays. -/
noncomputable def laidWorld (os : Os) : World :=
  { World.holding Tryd.prog os ⟨#[], #[], []⟩ with heap := (World.holding Tryd.prog os ⟨#[], #[], []⟩).heap.modify 0 fun
      | .cells _ t frozen => .cells #[.int .u8 12, .int .u8 4, .int .u8 4, .int .u8 2, .int .u8 4, .int .u8 4, .int .u8 4, .int .u8 1, .int .u8 0, .int .u8 18, .int .u8 34, .int .u8 50, .int .u8 0, .int .u8 18, .int .u8 12, .int .u8 0, .int .u8 0, .int .u8 0] t frozen
      | o => o }
theorem laid_met (os : Os) : laidMet Tryd.prog Rows.boundTellsRow.laid ((laidWorld os).forCall (fun _ _ => 0) ⟨#[], #[.agg #[.int .u8 0, .string ⟨#[]⟩, .string ⟨#[]⟩, .int .u64 0, .int .u32 0, .int .u32 0, .int .u32 0, .slice none 0 0], .int .u32 0, .int .u32 0], []⟩).memory :=
  laidMet_of_run' 8 (by kernel_rfl) (by kernel_rfl)
theorem reads (os : Os) {H : Type} (enc : TypeId × Value → H) : ∃ places, DataW.whole enc Tryd.prog ((laidWorld os).forCall (fun _ _ => 0) ⟨#[], #[.agg #[.int .u8 0, .string ⟨#[]⟩, .string ⟨#[]⟩, .int .u64 0, .int .u32 0, .int .u32 0, .int .u32 0, .slice none 0 0], .int .u32 0, .int .u32 0], []⟩).memory Tryd.f3.params.toList Rows.boundTellsSpec.vars false #[Value.agg #[.int .u8 0, .string ⟨#[]⟩, .string ⟨#[]⟩, .int .u64 0, .int .u32 0, .int .u32 0, .int .u32 0, .slice none 0 0], Value.int .u32 0, Value.int .u32 0].toList 8
    = some ([.agg [.lit (.int .u8 0), .lit (.string []), .lit (.string []), .lit (.int .u64 0), .lit (.int .u32 0), .lit (.int .u32 0), .lit (.int .u32 0), .nil], .lit (.int .u32 0), .lit (.int .u32 0)], [], places) :=
  ⟨[], by kernel_rfl⟩

set_option maxRecDepth 100000 in
theorem lifted (os : Os) (started : os.Started) (H : Type) (enc : TypeId × Value → H) (F : Stop.Interp) :
    ReturnsInHanded {} Tryd.checked os 3 .any ((OpenSpec.ofChange Rows.boundTellsSpec).preRow enc Tryd.prog Tryd.f3 Rows.boundTellsRow.domain false Rows.boundTellsRow.laid) (((OpenSpec.ofChange Rows.boundTellsSpec).at F).post enc Tryd.prog Tryd.f3 false true false false) := by
  obtain ⟨places, hx⟩ := reads os enc
  refine returnsInHanded_of_row (C := Tryd.checked) (s := OpenSpec.ofChange Rows.boundTellsSpec) own started (by kernel_rfl) Tryd.func3
    (witness_row_at (enc := enc) (C := Tryd.checked) false (laidWorld os) #[.agg #[.int .u8 0, .string ⟨#[]⟩, .string ⟨#[]⟩, .int .u64 0, .int .u32 0, .int .u32 0, .int .u32 0, .slice none 0 0], .int .u32 0, .int .u32 0] rfl (by kernel_rfl) (by kernel_rfl) (by kernel_rfl)
      (OpenSpec.preRow_of_cond 8 hx (by kernel_rfl) (fun k hk => by cases hk) (by kernel_rfl) (laid_met os))) ?_
  intro W base args ds gs before hval hW _ _ _ hL _ _
  exact contract H enc W base args ds gs before hval hW hL

theorem said : Rows.BoundTellsSaid :=
  OpenClaim.holds_of_cond 3 Tryd.f3 rfl rfl rfl rfl rfl rfl rfl ⟨rfl, rfl, rfl, rfl, rfl⟩ rfl rfl rfl rfl rfl (by kernel_rfl) Tryd.func3 (by kernel_rfl)
    (of_decide_eq_true (by kernel_rfl)) (by unfold Func.isWrapper; first | (rw [if_pos (by decide +kernel)]; kernel_rfl) | (rw [if_neg (by decide +kernel)]; exact ⟨rfl, rfl⟩))
    (fun os started H enc _ F => by rw [OpenClaim.pre_eq_preRow]; exact lifted os started H enc F)

theorem plain (f : FuncId) (fn : Func) (hf : Tryd.pinned.checked.prog.funcNamed "pantile/pantilelaw24.BoundTells" = some f) (hfn : Tryd.pinned.checked.prog.funcs[f]? = some fn) :
    false = Tryd.pinned.checked.prog.looks [] ∧ ∀ (j : Nat) t, fn.params[j]? = some t → Tryd.pinned.checked.prog.wantsStandIn t = false := by
  obtain rfl : f = 3 := Option.some.inj ((show Tryd.prog.funcNamed "pantile/pantilelaw24.BoundTells" = some 3 by kernel_rfl).symm.trans hf) |>.symm
  obtain rfl : fn = Tryd.f3 := (Option.some.inj (Tryd.func3.symm.trans hfn)).symm
  refine ⟨by kernel_rfl, fun j t ht => ?_⟩
  rw [Tryd.params3] at ht
  have hm : t ∈ [26, 23, 23] := by simpa using Array.mem_of_getElem? ht
  have hall : ([26, 23, 23].all fun u => !Tryd.prog.wantsStandIn u) = true := by kernel_rfl
  exact (show Tryd.prog.wantsStandIn t = false by simpa using List.all_eq_true.1 hall t hm)
end Go.Proofs.YtbmnjcmdiepcbaaDoor.BdTells
namespace Go.Proofs.YtbmnjcmdiepcbaaDoor
/-- THE CARD. -/
theorem boundTells_card : Rows.BoundTellsCardSaid :=
  Claim7.holds_tied_plain_at .later [] _ _ _ _ BdTells.said (fun _ h => by cases h) (by kernel_rfl) (fun _ h => by cases h) boundTells_row_tie rfl ⟨rfl, rfl⟩ (by kernel_rfl) rfl BdTells.plain (by kernel_rfl)
#print axioms boundTells_card
end Go.Proofs.YtbmnjcmdiepcbaaDoor
