/- Devices: contracts of dev.New, Size, far, check. -/
import Derived.Test.YtjnbpbnhkinggaaGreatDoorSGet
namespace Go.Proofs.YtjnbpbnhkinggaaGreatDoor.St
open Go.RowKit

/-- Block d is a device: its map of blocks m, its size, how many writes were; what is pending. -/
def DvB (w : World) (d m : Nat) (n wr : Int) (pv : Value) : Prop := Bk w d 46 #[.int .u32 n, .map (some m), pv, .pointer none, .bool false, .int .u64 wr]
/-- A device's blocks as its map has them: none of zeros. -/
def gf (g : Int → List UInt8) : Int → Option Value := fun a => if g a = zb then none else some (.agg (bA (g a)))
/-- Block d is a device that has g; nothing is pending. -/
structure Dv (w : World) (d m k : Nat) (n wr : Int) (g : Int → List UInt8) : Prop where
  b : DvB w d m n wr (.slice none 0 0)
  m : Mp w m k (gf g)
  len : ∀ a, (g a).length = 256
  lo : 64 ≤ n
  hi : n ≤ 1048576
theorem gf_zb : gf (fun _ => zb) = fun _ => none := by funext a; exact if_pos rfl
section
variable {w w' : World} {d m k : Nat} {n wr : Int} {g : Int → List UInt8} {pv : Value}
theorem Dv.fr {S : Nat → Prop} (h : Dv w d m k n wr g) (hf : Fr S w w') (h1 : ¬ S d) (h2 : ¬ S m) : Dv w' d m k n wr g := ⟨h.b.fr hf h1, h.m.fr hf h2, h.len, h.lo, h.hi⟩
theorem Dv.below (h : Dv w d m k n wr g) (hb : Below w.heap.size w w') : Dv w' d m k n wr g := h.fr (Fr.of_all hb (fun _ => False)) (fun h => h) (fun h => h)
theorem Dv.drewN (h : Dv w d m k n wr g) (j : Nat) : Dv (w.drewN j) d m k n wr g := h.fr ((Fr.refl (fun _ => False) w).drewN j) (fun h => h) (fun h => h)
theorem Dv.ne (h : Dv w d m k n wr g) : m ≠ d := mp_ne h.m h.b
end

/-- A function value is stored. -/
theorem put_func (P : Program) (w : World) (a : Addr) (fn : Fn) (first cap : Array Value) (m : Mode) : (store a (.func fn first cap) m).run P w = stored P w a (.func fn first cap) m := run_store P w a _ m rfl
attribute [local go_sem] put_func
theorem qmap (w : World) (r : Option Nat) : (binOp .eql 42 (.map r) (.map none)).run Tryz.prog w = .ok (.bool r.isNone) w := run_eql_map_nil w _ _ _ r Tryz.underlying42

theorem dev_new (n : Int) (h0 : 64 ≤ n) (h1 : n ≤ 1048576) (w : World) : Calls Tryz.prog 4 #[.int .u32 n] w fun e w' => ∃ d m, e = .returned (.tuple #[.pointer (some ⟨d, 0, none⟩), .int .i64 0]) ∧ w.heap.size ≤ d ∧ w.heap.size ≤ m ∧ Dv w' d m 0 n 0 (fun _ => zb) ∧ Below w.heap.size w w' := by
  have hmm := @run_makeMap Tryz.prog
  go_enter Tryz.func4, Tryz.ntmps4
  go_wp2_with fail
  go_ret2
  refine ⟨w.heap.size + 1, w.heap.size, rfl, by omega, by omega, ⟨?_, ?_, fun _ => zb_length, h0, h1⟩, ((Below.refl _ _).alloc (Nat.le_refl _) _).alloc (by simp) _⟩
  · have := Bk.new (w.alloc (.map #[] 0)) 46 #[.int .u32 n, .map (some w.heap.size), .slice none 0 0, .pointer none, .bool false, .int .u64 0]
    simpa [DvB] using this
  · have := (Mp.made w).alloc (.cells #[.int .u32 n, .map (some w.heap.size), .slice none 0 0, .pointer none, .bool false, .int .u64 0] 46)
    rw [gf_zb]
    exact this
theorem dnone_b (d m : Nat) (n wr : Int) (pv : Value) (w : World) (h : DvB w d m n wr pv) : Calls Tryz.prog 20 #[.pointer (some ⟨d, 0, none⟩)] w fun e w' => e = .returned (.bool false) ∧ w = w' := by
  have c1 : w.cell? ⟨d, 1, none⟩ = some (.map (some m)) := h.cell 1
  have q := qmap
  go_enter Tryz.func20, Tryz.ntmps20
  go_wp2_with fail
  go_ret
  exact ⟨rfl, rfl⟩
theorem dnone_nil (w : World) : Calls Tryz.prog 20 #[.pointer none] w fun e w' => e = .returned (.bool true) ∧ w = w' := by
  go_enter Tryz.func20, Tryz.ntmps20
  go_wp2_with fail
  go_ret
  exact ⟨rfl, rfl⟩
theorem size_b (d m : Nat) (n wr : Int) (pv : Value) (w : World) (h : DvB w d m n wr pv) : Calls Tryz.prog 12 #[.pointer (some ⟨d, 0, none⟩)] w fun e w' => e = .returned (.int .u32 n) ∧ w = w' := by
  have c0 : w.cell? ⟨d, 0, none⟩ = some (.int .u32 n) := h.cell 0
  have H := Lib.hid h
  clear h
  go_enter Tryz.func12, Tryz.ntmps12
  go_wp2_with fail
  refine (dnone_b d m n wr pv _ H.out).mono ?_
  rintro e w1 ⟨rfl, rfl⟩
  go_wp2_with fail
  go_ret
  exact ⟨rfl, rfl⟩
theorem size_nil (w : World) : Calls Tryz.prog 12 #[.pointer none] w fun e w' => e = .returned (.int .u32 0) ∧ w = w' := by
  go_enter Tryz.func12, Tryz.ntmps12
  go_wp2_with fail
  refine (dnone_nil _).mono ?_
  rintro e w1 ⟨rfl, rfl⟩
  go_wp2_with fail
  go_ret
  exact ⟨rfl, rfl⟩

set_option maxRecDepth 100000 in
theorem far1_any (pa pd d m : Nat) (a n wr : Int) (pv : Value) (w : World) (h : DvB w d m n wr pv) (ha : w.cell? ⟨pa, 0, none⟩ = some (.int .u32 a)) (hd : w.cell? ⟨pd, 0, none⟩ = some (.pointer (some ⟨d, 0, none⟩))) (hlt : a < n) :
    Calls Tryz.prog 39 #[.pointer (some ⟨pa, 0, none⟩), .pointer (some ⟨pd, 0, none⟩)] w fun e w' => e = .returned (.bool false) ∧ ∃ m, w' = w.drewN m := by
  have c0 : w.cell? ⟨d, 0, none⟩ = some (.int .u32 n) := h.cell 0
  have hle : decide (n ≤ a) = false := decide_eq_false (by omega)
  clear h
  go_enter Tryz.func39, Tryz.ntmps39
  go_wp2_with fail
  go_quiet (fail)
  go_wp2_with fail
  go_ret
  exact ⟨rfl, _, rfl⟩

/-- A question, as it is asked. -/
structure Ask where
  e : Int
  f : Nat
  first : Array Value
  cap : Array Value
def Ask.cells (l : List Ask) : Array Value := (l.flatMap fun x => [.int .i64 x.e, .func (.func x.f) x.first x.cap]).toArray

theorem far_any (d : Nat) (a : Int) (w : World) : Calls Tryz.prog 22 #[.pointer (some ⟨d, 0, none⟩), .int .u32 a] w fun e w' => e = .returned (.agg #[.int .i64 2, .func (.func 39) #[] #[.pointer (some ⟨w.heap.size + 1, 0, none⟩), .pointer (some ⟨w.heap.size, 0, none⟩)]]) ∧ Bk w' (w.heap.size + 1) 22 #[.int .u32 a] ∧ Bk w' w.heap.size 23 #[.pointer (some ⟨d, 0, none⟩)] ∧ Below w.heap.size w w' := by
  have hmf : ∀ (fn : Fn) (first cap : Array Value) (w : World), (Instr.makeFunc fn first cap).run Tryz.prog w = .ok (.func fn first cap) w := fun _ _ _ _ => rfl
  go_enter Tryz.func22, Tryz.ntmps22
  go_wp2_with fail
  refine bodyPost_ret (v := .agg #[.int .i64 2, .func (.func 39) #[] #[.pointer (some ⟨w.heap.size + 1, 0, none⟩), .pointer (some ⟨w.heap.size, 0, none⟩)]]) (by simp [results, Tryz.results22, go_sem]) rfl ⟨rfl, ?_, ?_, (((Below.refl _ _).alloc (Nat.le_refl _) _).alloc (by simp) _).alloc (by simp; omega) _⟩
  · have := (Bk.new (w.alloc (.cells #[.pointer (some ⟨d, 0, none⟩)] 23)) 22 #[.int .u32 a]).alloc (.cells #[.int .i64 2, .func (.func 39) #[] #[.pointer (some ⟨w.heap.size + 1, 0, none⟩), .pointer (some ⟨w.heap.size, 0, none⟩)]] 75)
    simpa using this
  · exact ((Bk.new w _ _).alloc _).alloc _

theorem Ask.at (l : List Ask) : ∀ (i : Nat) (x : Ask), l[i]? = some x → (Ask.cells l)[i * 2]? = some (.int .i64 x.e) ∧ (Ask.cells l)[i * 2 + 1]? = some (.func (.func x.f) x.first x.cap) := by
  induction l with
  | nil => intro i x h; simp at h
  | cons y r ih =>
    intro i x h
    cases i with
    | zero => simp at h; subst h; exact ⟨rfl, rfl⟩
    | succ j =>
      have := ih j x (by simpa using h)
      simp only [Ask.cells, List.flatMap_cons, List.getElem?_toArray] at this ⊢
      have e : (j + 1) * 2 = j * 2 + 2 := by omega
      rw [e]
      exact this

set_option maxRecDepth 100000 in
set_option maxHeartbeats 1000000 in
theorem check_ok (b : Nat) (l : List Ask) (c : Nat) (hl : l.length ≤ 8) (w : World) (hb : w.ownsRow 0 75 2 (.slice (some ⟨b, 0, none⟩) l.length c) l.length (Ask.cells l).toList) (eg : ∀ (i : Nat) (x : Ask), l[i]? = some x → ∀ args w, (callFunc x.f args).run Tryz.prog w = .ok (.enter x.f args) w)
    (hc : ∀ (i : Nat) (x : Ask), l[i]? = some x → ∀ X : World, Below w.heap.size w X → Calls Tryz.prog x.f (x.first ++ x.cap) X fun e w' => e = .returned (.bool false) ∧ Below X.heap.size X w') :
    Calls Tryz.prog 21 #[.slice (some ⟨b, 0, none⟩) l.length c] w fun e w' => e = .returned (.int .i64 0) ∧ Below w.heap.size w w' := by
  have HB := Lib.hid hb
  have HE := Lib.hid eg
  have HC := Lib.hid hc
  clear hb eg hc
  generalize hk : l.length = k at *
  have HK := Lib.hid hk
  clear hk
  go_enter Tryz.func21, Tryz.ntmps21
  go_wp2_with fail
  go_loopw [7] (fun i wr => ∃ (j : Nat), j ≤ k ∧ i = .int .i64 j ∧ Below w.heap.size w wr) (fun i _ => k - (intOf i).toNat)
  case atStart => exact ⟨0, by omega, rfl, Below.refl _ _⟩
  case round =>
    obtain ⟨j, hj, rfl, hB⟩ := hrel
    have HBW := Lib.hid hB
    clear hB
    by_cases hlt : j < k
    · have hjl : j < l.length := by rw [HK.out]; exact hlt
      obtain ⟨x, hx⟩ : ∃ x, l[j]? = some x := ⟨l[j], List.getElem?_eq_getElem hjl⟩
      obtain ⟨a1, a2⟩ := Ask.at l j x hx
      have hBk := own_fr HB.out (Fr.of_all HBW.out (fun _ => False)) (fun _ _ h => h)
      have c1 : wr.cell? ⟨b, j * 2, none⟩ = some (.int .i64 x.e) := by rw [hBk.cellAt _ (by omega), Array.getElem?_toList]; exact a1
      have c2 : wr.cell? ⟨b, j * 2 + 1, none⟩ = some (.func (.func x.f) x.first x.cap) := by rw [hBk.cellAt _ (by omega), Array.getElem?_toList]; exact a2
      have HEX := HE.out j x hx
      have HCX := Lib.hid (HC.out j x hx)
      clear hx a1 a2 hBk hjl
      have hS : w.heap.size ≤ wr.heap.size := HBW.out.size
      have HA := Lib.hid (HBW.out.alloc (o := .cells #[.int .i64 x.e, .func (.func x.f) x.first x.cap] 75) hS)
      go_wp2_with fail
      refine (HCX.out _ HA.out).mono ?_
      rintro e w2 ⟨rfl, hb2⟩
      have HB2 := Lib.hid (HA.out.trans (hb2.mono HA.out.size))
      clear hb2 HA
      go_wp2_with fail
      go_roundw
      case rel => exact ⟨j + 1, by omega, by go_num, HB2.out⟩
      case measure => simp [intOf]; omega
    · go_wp2_with fail
      go_ret
      exact ⟨rfl, HBW.out⟩
end Go.Proofs.YtjnbpbnhkinggaaGreatDoor.St
