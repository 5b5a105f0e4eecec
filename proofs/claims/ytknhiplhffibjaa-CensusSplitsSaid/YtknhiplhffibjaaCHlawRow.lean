/- The law pantilelaw22.CensusHeads returns true for every input, and each argument reads afterwards as it did; conditions: none. -/
import Derived.Test.YtknhiplhffibjaaCHlaw
import Derived.Test.YtknhiplhffibjaaCOpen
namespace Go.Proofs.Ytknhiplhffibjaa.CsHeads
open Go.ChangeShapes Go.WideShapes Go.ChangeAt Go.RowKit Go.Proofs.Ytknhiplhffibjaa.Cs

theorem bd_u32 {n : Int} (h : (Lit.int .u32 n).wf = true) : 0 ≤ n ∧ n ≤ 4294967295 := bounds_u32 h
theorem cellsHead : Try.prog.cellsOf 42 = 24 := by kernel_rfl

/-- A head that came in. -/
theorem open_head {H : Type} {enc : TypeId × Value → H} {W : World} {base b0 : Nat} {spare : Nat → Bool} {held : Bool} {r : Reach} {v : Value} {d : DataW H} {p : List MemPlace}
    (hv : Value.okWide Try.prog W r b0 42 v) (h : DataW.Trod enc Try.prog W base spare held 42 v d p) :
    ∃ (hA : Array Value) (O Bt : Nat → Int), v = .agg hA ∧ HeadIs hA O Bt := by
  obtain ⟨cs, rfl, hsz⟩ := okWide_struct Try.underlying42 hv
  rw [cellsHead] at hsz
  obtain ⟨fuel, hf⟩ := h
  obtain ⟨xs, n, _, hx, _, hlen, hg⟩ := DataW.trod_struct Try.underlying42 hf
  have hl : cs.toList.length = 24 := by simpa using hsz
  have h2 := hg 2 _ rfl
  have h3 := hg 3 _ rfl
  have s2 : ∃ y, xs[2]? = some y := ⟨_, List.getElem?_eq_getElem (by rw [hlen]; decide)⟩
  have s3 : ∃ y, xs[3]? = some y := ⟨_, List.getElem?_eq_getElem (by rw [hlen]; decide)⟩
  obtain ⟨y2, e2⟩ := s2
  obtain ⟨y3, e3⟩ := s3
  rw [e2] at h2
  rw [e3] at h3
  have a2 := arr_ints Try.underlying39 Try.underlying38 (by kernel_rfl) (by kernel_rfl) h2
  have a3 := arr_ints Try.underlying40 Try.underlying22 (by kernel_rfl) (by kernel_rfl) h3
  have k2 : ∀ i, i < 8 → ∃ z : Int, cs[8 + i]? = some (.int .u32 z) ∧ (Lit.int .u32 z).wf = true := by
    intro i hi
    obtain ⟨z, hz, wz⟩ := a2 i hi
    refine ⟨z, ?_, wz⟩
    have : ((cs.toList.drop 8).take 8)[i]? = some (.int .u32 z) := hz
    rw [List.getElem?_take_of_lt hi, List.getElem?_drop] at this
    simpa using this
  have k3 : ∀ i, i < 8 → ∃ z : Int, cs[16 + i]? = some (.int .u64 z) ∧ (Lit.int .u64 z).wf = true := by
    intro i hi
    obtain ⟨z, hz, wz⟩ := a3 i hi
    refine ⟨z, ?_, wz⟩
    have : ((cs.toList.drop 16).take 8)[i]? = some (.int .u64 z) := hz
    rw [List.getElem?_take_of_lt hi, List.getElem?_drop] at this
    simpa using this
  refine ⟨cs, fun i => if h : i < 8 then Classical.choose (k2 i h) else 0, fun i => if h : i < 8 then Classical.choose (k3 i h) else 0, rfl, hsz, fun j hj => ?_, fun j hj => ?_⟩
  · dsimp only
    rw [dif_pos hj]
    obtain ⟨h1, h2⟩ := Classical.choose_spec (k2 j hj)
    exact ⟨h1, bd_u32 h2⟩
  · dsimp only
    rw [dif_pos hj]
    obtain ⟨h1, h2⟩ := Classical.choose_spec (k3 j hj)
    exact ⟨h1, bd_u64 h2⟩

theorem hlaw_any (hA : Array Value) (O Bt : Nat → Int) (w : World) (hI : HeadIs hA O Bt) :
    Calls Try.prog 4 #[.agg hA] w fun e w' => e = .returned (.bool true) ∧ Below w.heap.size w w' := by
  by_cases h : ovB Bt 8 = true
  · exact hlaw_over hA O Bt w hI h
  · exact hlaw_fine hA O Bt w hI (by simpa using h)

set_option maxRecDepth 100000 in
theorem lifted (os : Os) (started : os.Started) (H : Type) (enc : TypeId × Value → H) :
    ReturnsInHanded {} Try.checked os 4 .any (Rows.censusHeadsSpec.pre6 enc Try.prog Try.f4 Rows.censusHeadsRow.domain false) (Rows.censusHeadsSpec.post enc Try.prog Try.f4 false true false false) := by
  refine returnsInHanded_of_change (C := Try.checked) own started (by kernel_rfl) Try.func4
    (ChangeSpec.witness6 (enc := enc) (C := Try.checked) false ⟨#[], #[.agg #[.int .u64 0, .int .u16 0, .int .u16 0, .int .u16 0, .int .u16 0, .int .u16 0, .int .u16 0, .int .u16 0, .int .u32 0, .int .u32 0, .int .u32 0, .int .u32 0, .int .u32 0, .int .u32 0, .int .u32 0, .int .u32 0, .int .u64 0, .int .u64 0, .int .u64 0, .int .u64 0, .int .u64 0, .int .u64 0, .int .u64 0, .int .u64 0]], []⟩ 8 (by kernel_rfl) (by kernel_rfl) (by kernel_rfl) (by kernel_rfl)) ?_
  intro W base args ds gs before hval0 hW _ _
  have hval : ∀ (j : Nat) t v, Try.f4.params[j]? = some t → args[j]? = some v → Value.okWide Try.prog W .any base t v := hval0
  have hW' := hW
  obtain ⟨p, q, hA0, hV, rfl, hfz, hnd⟩ := hW
  have hA : DataW.TrodAll enc Try.prog W 0 (fun _ => true) true Try.f4.params.toList args.toList ds p := hA0
  rw [Try.params4] at hA hval
  obtain ⟨v0, vs0, d0, ds0, p0, q0, hargs, rfl, rfl, h0, r0⟩ := trodAll_cons hA
  obtain ⟨rfl, rfl, rfl⟩ := trodAll_nil r0
  obtain rfl : args = #[v0] := by cases args; simp_all
  obtain ⟨rfl, rfl⟩ := trodVars_none hV
  have lt0 : ∀ x ∈ p0, x.block < W.heap.size := by obtain ⟨m, hm⟩ := h0; exact DataW.trod_lt m _ _ _ hm
  obtain ⟨hd, O, Bt, rfl, hI⟩ := open_head (hval 0 42 v0 rfl rfl) h0
  clear hA0 hval0
  refine (hlaw_any hd O Bt W hI).mono fun e W' ⟨he, bel⟩ => ?_
  subst he
  exact ⟨_, rfl, _, _, _, [], _, [], hW', trodAll_mk1 (shut_bool Try.underlying4 _), (trodAll_cons_mk (Below.trod laidOut (by kernel_rfl) (of_decide_eq_true (by kernel_rfl)) h0 bel lt0) trodAll_mk0), rfl, bel.frame _, fun h => by cases h⟩
end Go.Proofs.Ytknhiplhffibjaa.CsHeads
namespace Go.Proofs.Ytknhiplhffibjaa
/-- THE STATEMENT. -/
theorem censusHeads_said : Rows.CensusHeadsSaid :=
  OpenClaim.holds_of_wide 4 Try.f4 rfl rfl rfl rfl rfl rfl rfl ⟨rfl, rfl, rfl, rfl, rfl⟩ rfl rfl rfl rfl rfl (by kernel_rfl) Try.func4 (by kernel_rfl)
    (of_decide_eq_true (by kernel_rfl)) (by unfold Func.isWrapper; first | (rw [if_pos (by decide +kernel)]; kernel_rfl) | (rw [if_neg (by decide +kernel)]; exact ⟨rfl, rfl⟩))
    (fun os started H enc _ => CsHeads.lifted os started H enc)
#print axioms censusHeads_said
end Go.Proofs.Ytknhiplhffibjaa
