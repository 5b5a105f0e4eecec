/- How arrays of integers that came in are opened; the row's last step. -/
import Derived.Test.YtknhiplhffibjaaRows
import Derived.WalkKit
import Derived.ProofKit
import Derived.OpenShut
import Derived.ShutString
import Derived.ChangeOld
import Derived.Below
namespace Go.Proofs.Ytknhiplhffibjaa.Cs
open Go.ChangeShapes Go.WideShapes Go.ChangeAt Go.RowKit

theorem own : ownKnob Try.prog.godebug = none := by kernel_rfl
theorem laidOut : laidOutB Try.prog = true := by kernel_rfl
theorem cellsPair : Try.prog.cellsOf 23 = 2 := by kernel_rfl
theorem cellsU64 : Try.prog.cellsOf 22 = 1 := by kernel_rfl

/-- An array of integers that came in. -/
theorem open_arr_ints {H : Type} {enc : TypeId × Value → H} {P : Program} {W : World} {base b0 n : Nat} {t e : TypeId} {k : IntKind} {spare : Nat → Bool} {held : Bool} {r : Reach} {v : Value} {d : DataW H} {p : List MemPlace}
    (ht : P.underlying t = some (.array n e)) (he : P.underlying e = some (.int k)) (hce : P.cellsOf e = 1) (hct : P.cellsOf t = n)
    (hv : Value.okWide P W r b0 t v) (h : DataW.Trod enc P W base spare held t v d p) :
    ∃ cs : List Value, v = .agg cs.toArray ∧ cs.length = n ∧ ∀ i, i < n → ∃ z : Int, cs[i]? = some (.int k z) ∧ (Lit.int k z).wf = true := by
  simp only [Value.okWide, ht] at hv
  obtain ⟨cs, rfl, hsz, _⟩ := hv
  obtain ⟨l⟩ := cs
  obtain ⟨fuel, hf⟩ := h
  obtain ⟨xs, m, _, hx, hlen, hxl, hi⟩ := DataW.trod_array ht hf
  rw [hct] at hsz
  refine ⟨l, rfl, by simpa using hsz, fun i hin => ?_⟩
  have hil : i < l.length := by have : l.length = n := by simpa using hsz
                                omega
  have h1 := hi i hin
  rw [hce, Nat.mul_one] at h1
  have e1 : ((Value.agg l.toArray).cells.toList.drop i).take 1 = [l[i]] := by
    show (l.drop i).take 1 = [l[i]]
    rw [List.drop_eq_getElem_cons hil]; rfl
  rw [e1, List.getElem?_eq_getElem (by omega)] at h1
  obtain ⟨z, e2, _, wz⟩ := DataW.trod_int he h1
  exact ⟨z, by rw [List.getElem?_eq_getElem hil, (List.cons.inj e2).1], wz⟩

theorem bd_u64 {n : Int} (h : (Lit.int .u64 n).wf = true) : 0 ≤ n ∧ n ≤ 18446744073709551615 := bounds_u64 h

theorem open_pair {H : Type} {enc : TypeId × Value → H} {W : World} {base b0 : Nat} {spare : Nat → Bool} {held : Bool} {r : Reach} {v : Value} {d : DataW H} {p : List MemPlace}
    (hv : Value.okWide Try.prog W r b0 23 v) (h : DataW.Trod enc Try.prog W base spare held 23 v d p) :
    ∃ n0 n1 : Int, v = .agg #[.int .u64 n0, .int .u64 n1] ∧ (0 ≤ n0 ∧ n0 ≤ 18446744073709551615) ∧ (0 ≤ n1 ∧ n1 ≤ 18446744073709551615) := by
  obtain ⟨cs, rfl, hl, hi⟩ := open_arr_ints Try.underlying23 Try.underlying22 cellsU64 cellsPair hv h
  match cs, hl with
  | [c0, c1], _ =>
    obtain ⟨n0, e0, w0⟩ := hi 0 (by decide)
    obtain ⟨n1, e1, w1⟩ := hi 1 (by decide)
    obtain rfl : c0 = _ := Option.some.inj e0
    obtain rfl : c1 = _ := Option.some.inj e1
    exact ⟨n0, n1, rfl, bd_u64 w0, bd_u64 w1⟩

/-- The numbers of an array that is read. -/
theorem arr_ints {H : Type} {enc : TypeId × Value → H} {P : Program} {W : World} {base n fuel : Nat} {t e : TypeId} {k : IntKind} {spare : Nat → Bool} {held : Bool} {cs : List Value} {x : DataW H × List MemPlace}
    (ht : P.underlying t = some (.array n e)) (he : P.underlying e = some (.int k)) (hce : P.cellsOf e = 1) (hct : P.cellsOf t = n)
    (h : DataW.trod enc P W base spare held fuel t cs = some x) : ∀ i, i < n → ∃ z : Int, cs[i]? = some (.int k z) ∧ (Lit.int k z).wf = true := by
  obtain ⟨xs, m, _, hx, hlen, hxl, hi⟩ := DataW.trod_array ht h
  rw [hct] at hlen
  intro i hin
  have h1 := hi i hin
  rw [hce, Nat.mul_one] at h1
  have e1 : (cs.drop i).take 1 = [cs[i]] := by
    rw [List.drop_eq_getElem_cons (by omega)]; rfl
  rw [e1, List.getElem?_eq_getElem (by omega)] at h1
  obtain ⟨z, e2, _, wz⟩ := DataW.trod_int he h1
  exact ⟨z, by rw [List.getElem?_eq_getElem (by omega), (List.cons.inj e2).1], wz⟩
end Go.Proofs.Ytknhiplhffibjaa.Cs
