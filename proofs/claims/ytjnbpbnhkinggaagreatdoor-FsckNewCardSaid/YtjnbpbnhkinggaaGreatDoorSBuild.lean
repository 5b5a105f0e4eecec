/- Struct literals that have a whole block in them. -/
import Derived.Test.YtjnbpbnhkinggaaGreatDoorSDRead
import Derived.Great.BuildSlice
namespace Go.Proofs.YtjnbpbnhkinggaaGreatDoor.St
open Go.RowKit

theorem yieldsIf_build {P : Program} {ops : Array Oper} {S : World → Prop} {op : Oper} {a : Act} (hw : Region.wanted op (yielded ops a.tmps) = true) (ty : TypeId) (parts : Array (Nat × Operand)) (ho : op.op = .build ty parts)
    (vs : List (Nat × Value)) (hv : parts.toList.map (fun (i, x) => (i, a.eval x)) = vs) (cells : Array Value) (hb : P.built ty vs = some cells) : YieldsIf P ops S op (.agg cells) a :=
  .inl ⟨hw, fun w _ => by
    unfold execOp
    simp only [ho, Sem.run_bind]
    rw [run_build w ty _ cells (by rw [Array.toList_map, hv]; exact hb)]
    rfl⟩
theorem fold_over (V : List Value) : ∀ (C : Array Value) (o k : Nat), (V.zipIdx k).foldl (fun (cs : Array Value) x => cs.setIfInBounds (o + x.2) x.1) C = over C (o + k) V := by
  induction V with
  | nil => intro C o k; rfl
  | cons v r ih =>
    intro C o k
    simp only [List.zipIdx_cons, List.foldl_cons, over]
    rw [ih]
    rfl
theorem foldA_over (V : Array Value) (C : Array Value) (o : Nat) : V.zipIdx.foldl (fun (cs : Array Value) x => cs.setIfInBounds (o + x.2) x.1) C = over C o V.toList := by
  have := fold_over V.toList C o 0
  rw [← Array.foldl_toList, Array.toList_zipIdx]
  exact this
/-- One part, of cells of its own, is laid in. -/
theorem fill_cons (pl : Nat → Option (Nat × Nat)) (C : Array Value) (i : Nat) (v : Value) (rest : List (Nat × Value)) (o s : Nat) (hp : pl i = some (o, s)) (hs : v.cells.size = s) (ho : o + s ≤ C.size) : Instr.fill pl C ((i, v) :: rest) = Instr.fill pl (over C o v.cells.toList) rest := by
  simp only [Instr.fill, hp]
  rw [if_neg (by simp [hs]; omega), foldA_over]
theorem fill_nil (pl : Nat → Option (Nat × Nat)) (C : Array Value) : Instr.fill pl C [] = some C := rfl
theorem over_put (C : Array Value) (hC : C.size = 257) (x : Value) (V : Array Value) (hV : V.size = 256) : over (over C 0 [x]) 1 V.toList = #[x] ++ V := by
  apply Array.ext_getElem?
  intro i
  rw [over_at _ _ _ _ (by rw [over_size, hC, Array.length_toList, hV]; omega), over_at _ _ _ _ (by simp [hC])]
  simp only [Array.length_toList, hV, List.length_cons, List.length_nil]
  by_cases h0 : i = 0
  · subst h0; rw [if_neg (by omega), if_pos (by omega)]; rw [Array.getElem?_append_left (by simp)]; simp
  · by_cases h1 : i < 257
    · rw [if_pos (by omega), Array.getElem?_append_right (by simp; omega)]; simp
    · rw [if_neg (by omega), if_neg (by omega), Array.getElem?_eq_none (by omega), Array.getElem?_eq_none (by simp [hV]; omega)]
theorem zeroPut_size : Tryz.zeroCells58.size = 257 := by kernel_rfl
theorem built_put (a : Int) (V : Array Value) (hV : V.size = 256) : Tryz.prog.built 58 [(0, .int .u32 a), (1, .agg V)] = some (#[.int .u32 a] ++ V) := by
  have e : ∀ l, Tryz.prog.built 58 l = Instr.fill (#[(0, 1), (1, 256)][·]?) Tryz.zeroCells58 l := by
    intro l
    kernel_rfl
  rw [e, fill_cons _ _ 0 _ _ 0 1 rfl rfl (by rw [zeroPut_size]; omega), fill_cons _ _ 1 (.agg V) _ 1 256 rfl hV (by rw [over_size, zeroPut_size]; omega), fill_nil]
  exact congrArg some (over_put _ zeroPut_size _ V hV)
theorem fill_one (C cs : Array Value) (s : Nat) (h : cs.size = s) (hC : C.size = s) : Instr.fill (fun i => some (i * s, s)) C [(0, .agg cs)] = some cs := by
  rw [fill_cons _ _ 0 (.agg cs) _ 0 s (by simp) h (by omega), fill_nil]
  show some (over C 0 cs.toList) = some cs
  rw [over_all _ _ (by simp; omega)]
theorem step_build_one {P : Program} {ops : Array Oper} {o : Oper} {a : Act} {w : World} {K : Act → World → Prop} {Q : Exit → Act → World → Prop} {E : Prop} (hgd : o.guard = none) (t e : TypeId) (x : Operand) (ho : o.op = .buildSlice t 1 #[(0, x)])
    (ie : TypeInfo) (z : Value) (hu : P.underlying t = some (.slice e)) (hie : P.info? e = some ie) (hz : ie.zero = some z) (s : Nat) (hsz : ie.size = s) (h0 : 0 < s) (h1 : s ≤ 16777216) (cs : Array Value) (hx : a.eval x = .agg cs) (hs : cs.size = s)
    (h : K (a.put o.dst (.slice (some ⟨w.heap.size, 0, none⟩) 1 1)) (w.alloc (.cells cs e))) : if Region.wanted o (yielded ops a.tmps) = true then Oper.wp P o a w K Q else E := by
  have hw : Region.wanted o (yielded ops a.tmps) = true := by simp [Region.wanted, hgd]
  rw [if_pos hw]
  refine wp_buildSlice t e 1 #[(0, x)] ho cs ie z hu hie hz (by omega) (by omega) ?_ h
  have e : (#[(0, x)].map fun ((i, x) : Nat × Operand) => (i, a.eval x)).toList = [(0, .agg cs)] := by simp [hx]
  rw [e, hsz]
  exact fill_one _ cs s hs (by simp)
theorem own_nm {w : World} {e : TypeId} {size n base b k : Nat} {v : Value} {xs : List Value} {f : Int → Option Value} (h : w.ownsRow base e size v n xs) (hb : Mp w b k f) : v.ownBlock ≠ some b := by
  obtain ⟨_, h2⟩ := h
  rcases h2 with ⟨rfl, _⟩ | ⟨g', cap, cur, rfl, _, hk, _⟩
  · simp [Value.ownBlock]
  · intro he
    have : g' = b := by simpa [Value.ownBlock] using he
    subst this
    obtain ⟨D, ⟨es, c, h1, _⟩, _⟩ := hb
    rw [hk] at h1
    cases h1
end Go.Proofs.YtjnbpbnhkinggaaGreatDoor.St
