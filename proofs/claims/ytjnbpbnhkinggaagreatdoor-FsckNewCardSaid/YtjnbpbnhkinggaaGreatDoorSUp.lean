/- The contract of dev.Dev.up. -/
import Derived.Test.YtjnbpbnhkinggaaGreatDoorSDRead
import Derived.Deep.AppendLies
namespace Go.Proofs.YtjnbpbnhkinggaaGreatDoor.St
open Go.RowKit

attribute [local go_sem] put_func
theorem down_b (pd d m : Nat) (n wr : Int) (pv : Value) (w : World) (h : DvB w d m n wr pv) (hd : w.cell? ⟨pd, 0, none⟩ = some (.pointer (some ⟨d, 0, none⟩))) :
    Calls Tryz.prog 63 #[.pointer (some ⟨pd, 0, none⟩)] w fun e w' => e = .returned (.bool false) ∧ w = w' := by
  have c4 : w.cell? ⟨d, 4, none⟩ = some (.bool false) := h.cell 4
  go_enter Tryz.func63, Tryz.ntmps63
  go_wp2_with fail
  go_ret
  exact ⟨rfl, rfl⟩
theorem info_asked : (Tryz.prog.info? 75).map (fun i => (i.zero, i.size, i.bytes)) = some (some (.agg #[.int .i64 0, .nilFunc]), 2, 16) := by kernel_rfl
/-- The questions of a write, or a flush. -/
def upAsk (d z : Nat) (l : List Ask) : List Ask := ⟨1, 20, #[.pointer (some ⟨d, 0, none⟩)], #[]⟩ :: (l ++ [⟨30, 63, #[], #[.pointer (some ⟨z, 0, none⟩)]⟩])

theorem below_grown {B : Nat} {X Y Z : World} {r : Option Nat} (h : Below B X Y) (hs : B ≤ Y.heap.size) (hg : Y.grownBy Z r) (hr : ∀ g, r = some g → B ≤ g) : Below B X Z :=
  h.trans ((Fr.of_grown hg).below hs (fun i hi e => by have := hr i e.symm; omega))
theorem bk_cells {w : World} {g : Nat} {t : TypeId} {cs : Array Value} (h : Bk w g t cs) : ∀ j u, cs.toList[j]? = some u → w.cell? ((⟨g, 0, none⟩ : Addr).add j) = some u := by
  intro j u hj
  rw [show (⟨g, 0, none⟩ : Addr).add j = ⟨g, j, none⟩ by (simp only [Addr.add]; split <;> simp_all), h.cell, ← Array.getElem?_toList]; exact hj
theorem own_cells {w : World} {base g n cap : Nat} {e : TypeId} {size : Nat} {xs : List Value} (h : w.ownsRow base e size (.slice (some ⟨g, 0, none⟩) n cap) n xs) : ∀ j u, xs[j]? = some u → w.cell? ((⟨g, 0, none⟩ : Addr).add j) = some u := h.cells rfl
theorem upCheck0 (d m b z c : Nat) (n wr : Int) (pv : Value) (w : World) (h : DvB w d m n wr pv) (hd : Bk w z 23 #[.pointer (some ⟨d, 0, none⟩)]) (hb : w.ownsRow 0 75 2 (.slice (some ⟨b, 0, none⟩) 2 c) 2 (Ask.cells (upAsk d z [])).toList) :
    Calls Tryz.prog 21 #[.slice (some ⟨b, 0, none⟩) 2 c] w fun e w' => e = .returned (.int .i64 0) ∧ Below w.heap.size w w' := by
  refine check_ok b (upAsk d z []) c (by simp [upAsk]) w hb ?_ ?_
  · intro i x hx
    match i with
    | 0 => simp [upAsk] at hx; subst hx; exact Go.Proofs.enters_of Tryz.func20 (by kernel_rfl) rfl
    | 1 => simp [upAsk] at hx; subst hx; exact Go.Proofs.enters_of Tryz.func63 (by kernel_rfl) rfl
    | k + 2 => simp [upAsk] at hx
  · intro i x hx X hX
    match i with
    | 0 => simp [upAsk] at hx; subst hx; exact (dnone_b d m n wr pv X (Bk.below h hX h.lt)).mono fun e w' ⟨h1, h2⟩ => ⟨h1, same_below h2⟩
    | 1 => simp [upAsk] at hx; subst hx; exact (down_b z d m n wr pv X (Bk.below h hX h.lt) ((hd.below hX hd.lt).cell 0)).mono fun e w' ⟨h1, h2⟩ => ⟨h1, same_below h2⟩
    | k + 2 => simp [upAsk] at hx
theorem upCheck1 (d m b z c : Nat) (n wr : Int) (pv : Value) (x3 : Ask) (w : World) (h : DvB w d m n wr pv) (hd : Bk w z 23 #[.pointer (some ⟨d, 0, none⟩)]) (hb : w.ownsRow 0 75 2 (.slice (some ⟨b, 0, none⟩) 3 c) 3 (Ask.cells (upAsk d z [x3])).toList)
    (he : ∀ args w, (callFunc x3.f args).run Tryz.prog w = .ok (.enter x3.f args) w) (hx3 : ∀ X : World, Below w.heap.size w X → Calls Tryz.prog x3.f (x3.first ++ x3.cap) X fun e w' => e = .returned (.bool false) ∧ Below X.heap.size X w') :
    Calls Tryz.prog 21 #[.slice (some ⟨b, 0, none⟩) 3 c] w fun e w' => e = .returned (.int .i64 0) ∧ Below w.heap.size w w' := by
  refine check_ok b (upAsk d z [x3]) c (by simp [upAsk]) w hb ?_ ?_
  · intro i x hx
    match i with
    | 0 => simp [upAsk] at hx; subst hx; exact Go.Proofs.enters_of Tryz.func20 (by kernel_rfl) rfl
    | 1 => simp [upAsk] at hx; subst hx; exact he
    | 2 => simp [upAsk] at hx; subst hx; exact Go.Proofs.enters_of Tryz.func63 (by kernel_rfl) rfl
    | k + 3 => simp [upAsk] at hx
  · intro i x hx X hX
    match i with
    | 0 => simp [upAsk] at hx; subst hx; exact (dnone_b d m n wr pv X (Bk.below h hX h.lt)).mono fun e w' ⟨h1, h2⟩ => ⟨h1, same_below h2⟩
    | 1 => simp [upAsk] at hx; subst hx; exact hx3 X hX
    | 2 => simp [upAsk] at hx; subst hx; exact (down_b z d m n wr pv X (Bk.below h hX h.lt) ((hd.below hX hd.lt).cell 0)).mono fun e w' ⟨h1, h2⟩ => ⟨h1, same_below h2⟩
    | k + 3 => simp [upAsk] at hx

attribute [local go_sem ↓] Go.wp_at_zero Go.wp_at_succ
set_option maxRecDepth 100000 in
set_option maxHeartbeats 1000000 in
theorem up0 (d m : Nat) (n wr : Int) (pv : Value) (w : World) (h : DvB w d m n wr pv) :
    Calls Tryz.prog 40 #[.pointer (some ⟨d, 0, none⟩), Value.slice none 0 0] w fun e w' => e = .returned (.int .i64 0) ∧ Below w.heap.size w w' := by
  have hmf : ∀ (fn : Fn) (first cap : Array Value) (w : World), (Instr.makeFunc fn first cap).run Tryz.prog w = .ok (.func fn first cap) w := fun _ _ _ _ => rfl
  have hB : Below w.heap.size w (((w.alloc (.cells #[.pointer (some ⟨d, 0, none⟩)] 23)).alloc (.cells #[.int .i64 1, .func (.func 20) #[.pointer (some ⟨d, 0, none⟩)] #[]] 75)).alloc (.cells #[.int .i64 30, .func (.func 63) #[] #[.pointer (some ⟨w.heap.size, 0, none⟩)]] 75)) := (((Below.refl _ _).alloc (Nat.le_refl _) _).alloc (by simp) _).alloc (by simp; omega) _
  have HB := Lib.hid hB
  have HD := Lib.hid (show DvB (((w.alloc (.cells #[.pointer (some ⟨d, 0, none⟩)] 23)).alloc (.cells #[.int .i64 1, .func (.func 20) #[.pointer (some ⟨d, 0, none⟩)] #[]] 75)).alloc (.cells #[.int .i64 30, .func (.func 63) #[] #[.pointer (some ⟨w.heap.size, 0, none⟩)]] 75)) d m n wr pv from h.below hB h.lt)
  have KD := Lib.hid (show Bk (((w.alloc (.cells #[.pointer (some ⟨d, 0, none⟩)] 23)).alloc (.cells #[.int .i64 1, .func (.func 20) #[.pointer (some ⟨d, 0, none⟩)] #[]] 75)).alloc (.cells #[.int .i64 30, .func (.func 63) #[] #[.pointer (some ⟨w.heap.size, 0, none⟩)]] 75)) w.heap.size 23 #[.pointer (some ⟨d, 0, none⟩)] from ((Bk.new w _ _).alloc _).alloc _)
  have K1 := Lib.hid (show Bk (((w.alloc (.cells #[.pointer (some ⟨d, 0, none⟩)] 23)).alloc (.cells #[.int .i64 1, .func (.func 20) #[.pointer (some ⟨d, 0, none⟩)] #[]] 75)).alloc (.cells #[.int .i64 30, .func (.func 63) #[] #[.pointer (some ⟨w.heap.size, 0, none⟩)]] 75)) (w.heap.size + 1) 75 #[.int .i64 1, .func (.func 20) #[.pointer (some ⟨d, 0, none⟩)] #[]] from by simpa using (Bk.new (w.alloc (.cells #[.pointer (some ⟨d, 0, none⟩)] 23)) 75 #[.int .i64 1, .func (.func 20) #[.pointer (some ⟨d, 0, none⟩)] #[]]).alloc _)
  have K2 := Lib.hid (show Bk (((w.alloc (.cells #[.pointer (some ⟨d, 0, none⟩)] 23)).alloc (.cells #[.int .i64 1, .func (.func 20) #[.pointer (some ⟨d, 0, none⟩)] #[]] 75)).alloc (.cells #[.int .i64 30, .func (.func 63) #[] #[.pointer (some ⟨w.heap.size, 0, none⟩)]] 75)) (w.heap.size + 1 + 1) 75 #[.int .i64 30, .func (.func 63) #[] #[.pointer (some ⟨w.heap.size, 0, none⟩)]] from by simpa using Bk.new ((w.alloc (.cells #[.pointer (some ⟨d, 0, none⟩)] 23)).alloc (.cells #[.int .i64 1, .func (.func 20) #[.pointer (some ⟨d, 0, none⟩)] #[]] 75)) 75 #[.int .i64 30, .func (.func 63) #[] #[.pointer (some ⟨w.heap.size, 0, none⟩)]])
  clear h hB
  go_enter Tryz.func40, Tryz.ntmps40
  go_wp2_with fail
  generalize (((w.alloc (.cells #[.pointer (some ⟨d, 0, none⟩)] 23)).alloc (.cells #[.int .i64 1, .func (.func 20) #[.pointer (some ⟨d, 0, none⟩)] #[]] 75)).alloc (.cells #[.int .i64 30, .func (.func 63) #[] #[.pointer (some ⟨w.heap.size, 0, none⟩)]] 75)) = X at *
  generalize hz : w.heap.size = z at *
  refine wp_region_held_drew (S := fun Y => Below X.heap.size X Y) (by kernel_rfl) ⟨rfl, rfl, rfl, Nat.le_refl _, fun _ _ => rfl⟩ ?_
  intro hHeld
  refine wpAnyH_take (i := 0) (v := ?_) rfl (by kernel_rfl) (by kernel_rfl) (by kernel_rfl) (fun _ _ _ h => h) (Or.inl ⟨by rfl, ?_⟩) hHeld ?_
  rotate_left
  · (intro w hSw; (try dsimp only at hSw); have q0 : w.cell? ⟨z + 1, 0, none⟩ = some (.int .i64 1) := (K1.out.below hSw K1.out.lt).cell 0; have q1 : w.cell? ⟨z + 1, 1, none⟩ = some (.func (.func 20) #[.pointer (some ⟨d, 0, none⟩)] #[]) := (K1.out.below hSw K1.out.lt).cell 1; go_simp)
    try with_reducible rfl
  try simp only [Act.put, List.getElem_toArray, List.getElem_cons_zero, List.getElem_cons_succ, List.setIfInBounds_toArray, List.set_cons_zero, List.set_cons_succ]
  refine wpAnyH_take (i := 4) (v := ?_) rfl (by kernel_rfl) (by kernel_rfl) (by kernel_rfl) (fun _ _ _ h => h) (Or.inl ⟨by rfl, ?_⟩) hHeld ?_
  rotate_left
  · (intro w hSw; (try dsimp only at hSw); have q0 : w.cell? ⟨z + 1 + 1, 0, none⟩ = some (.int .i64 30) := (K2.out.below hSw K2.out.lt).cell 0; have q1 : w.cell? ⟨z + 1 + 1, 1, none⟩ = some (.func (.func 63) #[] #[.pointer (some ⟨z, 0, none⟩)]) := (K2.out.below hSw K2.out.lt).cell 1; go_simp)
    try with_reducible rfl
  try simp only [Act.put, List.getElem_toArray, List.getElem_cons_zero, List.getElem_cons_succ, List.setIfInBounds_toArray, List.set_cons_zero, List.set_cons_succ]
  refine wpAnyH_take (i := 2) (v := ?_) rfl (by kernel_rfl) (by kernel_rfl) (by kernel_rfl) (fun _ _ _ h => h) (Or.inl ⟨by rfl, ?_⟩) hHeld ?_
  rotate_left
  · (intro w hSw; (try dsimp only at hSw); go_simp)
    try with_reducible rfl
  try simp only [Act.put, List.getElem_toArray, List.getElem_cons_zero, List.getElem_cons_succ, List.setIfInBounds_toArray, List.set_cons_zero, List.set_cons_succ]
  obtain ⟨i0, hi, hz0, hz1, hz2⟩ := info_parts info_asked
  have hzX : z ≤ X.heap.size := by rw [← hz]; exact HB.out.size
  generalize X.drew = Y0 at *
  refine wpAnyH_ready (rs := [1, 5]) (by kernel_rfl) (by simp) ?_
  refine (AllReadyH.cons rfl (fun K hK => ?_) (AllReadyH.cons rfl (fun K hK => ?_) AllReadyH.nil))
  · skip
    go_simp
    have hnA : X.heap.size ≤ Y0.heap.size := hHeld.size
    have hBA := hHeld.alloc hHeld.size (.cells #[.int .i64 1, .func (.func 20) #[.pointer (some ⟨d, 0, none⟩)] #[]] 75)
    have RA := Lib.hid (World.ownsRow_lit (base := 0) (e := 75) (size := 2) Y0 #[.int .i64 1, .func (.func 20) #[.pointer (some ⟨d, 0, none⟩)] #[]] 1 (Nat.zero_le _) (by decide) rfl)
    refine hK.out _ _ hBA (fun _ => ?_)
    clear hK K hHeld
    have hHeld := hBA
    clear hBA
    try simp only [Act.put, List.getElem_toArray, List.getElem_cons_zero, List.getElem_cons_succ, List.setIfInBounds_toArray, List.set_cons_zero, List.set_cons_succ]
    generalize Y0.alloc (.cells #[.int .i64 1, .func (.func 20) #[.pointer (some ⟨d, 0, none⟩)] #[]] 75) = Y1 at *
    generalize Y0.heap.size = gA at *
    refine wpAnyH_ready (rs := [3, 5]) (by kernel_rfl) (by simp) ?_
    refine (AllReadyH.cons rfl (fun K hK => ?_) (AllReadyH.cons rfl (fun K hK => ?_) AllReadyH.nil))
    · skip
      go_simp
      refine hK.out _ _ hHeld (fun _ => ?_)
      clear hK K
      try simp only [Act.put, List.getElem_toArray, List.getElem_cons_zero, List.getElem_cons_succ, List.setIfInBounds_toArray, List.set_cons_zero, List.set_cons_succ]
      refine wpAnyH_ready (rs := [5]) (by kernel_rfl) (by simp) ?_
      refine (AllReadyH.cons rfl (fun K hK => ?_) AllReadyH.nil)
      go_simp
      have hnB : X.heap.size ≤ Y1.heap.size := hHeld.size
      have hBB := hHeld.alloc hHeld.size (.cells #[.int .i64 30, .func (.func 63) #[] #[.pointer (some ⟨z, 0, none⟩)]] 75)
      have RB := Lib.hid (World.ownsRow_lit (base := 0) (e := 75) (size := 2) Y1 #[.int .i64 30, .func (.func 63) #[] #[.pointer (some ⟨z, 0, none⟩)]] 1 (Nat.zero_le _) (by decide) rfl)
      have hne : gA ≠ Y1.heap.size := Nat.ne_of_lt (RA.out.lt _ rfl).2
      have T := Lib.hid (RA.out.alloc (.cells #[.int .i64 30, .func (.func 63) #[] #[.pointer (some ⟨z, 0, none⟩)]] 75))
      clear RA
      have RA := T
      clear T
      refine hK.out _ _ hBB (fun _ => ?_)
      clear hK K hHeld
      have hHeld := hBB
      clear hBB
      try simp only [Act.put, List.getElem_toArray, List.getElem_cons_zero, List.getElem_cons_succ, List.setIfInBounds_toArray, List.set_cons_zero, List.set_cons_succ]
      generalize Y1.alloc (.cells #[.int .i64 30, .func (.func 63) #[] #[.pointer (some ⟨z, 0, none⟩)]] 75) = Y2 at *
      generalize Y1.heap.size = gB at *
      refine wpAnyH_ready (rs := [6]) (by kernel_rfl) (by simp) ?_
      refine (AllReadyH.cons rfl (fun K hK => ?_) AllReadyH.nil)
      refine step_append_lies _ (by rfl) (.tmp 15) (.tmp 17) 98 (by rfl) 0 75 i0 _ 2 16 Tryz.underlying98 hi hz0 hz1 hz2 rfl (by decide) _ 1 _ (by rfl) RA.out ⟨gB, 0, none⟩ 1 1 [.int .i64 30, .func (.func 63) #[] #[.pointer (some ⟨z, 0, none⟩)]] (by rfl) rfl (own_cells RB.out) (by simp [Value.oneCell']) (by decide) (by decide) (by decide) (Nat.zero_le _) Y2.heap.size rfl ?_
      intro gN capN Y3 hown hgrow hat hlt
      have hBN := below_grown hHeld hHeld.size hgrow (fun g hg => by have h9 : gA = g := Option.some.inj hg; omega)
      have hnN : X.heap.size ≤ gN := by
        rcases hat with h | h
        · have h9 : gA = gN := Option.some.inj h; omega
        · have := hHeld.size; omega
      refine hK.out _ _ hBN (fun _ => ?_)
      clear hK K hHeld RA hgrow hat hnA
      have hHeld := hBN
      have RA := Lib.hid hown
      clear hBN hown
      try simp only [Act.put, List.getElem_toArray, List.getElem_cons_zero, List.getElem_cons_succ, List.setIfInBounds_toArray, List.set_cons_zero, List.set_cons_succ]
      refine wpAnyH_ready (rs := [7]) (by kernel_rfl) (by simp) ?_
      refine (AllReadyH.cons rfl (fun K hK => ?_) AllReadyH.nil)
      go_simp
      refine (upCheck0 d m gN z capN n wr pv Y3 (HD.out.below hHeld HD.out.lt) (KD.out.below hHeld KD.out.lt) RA.out).mono ?_
      rintro e wv ⟨rfl, hbX⟩
      go_wp2_with fail
      have hBN := hHeld.trans (hbX.mono hHeld.size)
      refine hK.out _ _ hBN (fun _ => ?_)
      clear hK K
      try simp only [Act.put, List.getElem_toArray, List.getElem_cons_zero, List.getElem_cons_succ, List.setIfInBounds_toArray, List.set_cons_zero, List.set_cons_succ]
      refine wpAnyH_take (i := 8) (v := ?_) rfl (by kernel_rfl) (by kernel_rfl) (by kernel_rfl) (fun _ _ _ h => h) (Or.inl ⟨by rfl, ?_⟩) hBN ?_
      rotate_left
      · (intro w hSw; (try dsimp only at hSw); go_simp)
        try with_reducible rfl
      try simp only [Act.put, List.getElem_toArray, List.getElem_cons_zero, List.getElem_cons_succ, List.setIfInBounds_toArray, List.set_cons_zero, List.set_cons_succ]
      refine wpAnyH_done (by kernel_rfl) ?_ _
      go_wp2_with fail
      exact ⟨rfl, _, results_tmp rfl _ _ _, rfl, by rw [hz]; exact HB.out.trans (hBN.mono hzX)⟩
    · skip
      go_simp
      have hnB : X.heap.size ≤ Y1.heap.size := hHeld.size
      have hBB := hHeld.alloc hHeld.size (.cells #[.int .i64 30, .func (.func 63) #[] #[.pointer (some ⟨z, 0, none⟩)]] 75)
      have RB := Lib.hid (World.ownsRow_lit (base := 0) (e := 75) (size := 2) Y1 #[.int .i64 30, .func (.func 63) #[] #[.pointer (some ⟨z, 0, none⟩)]] 1 (Nat.zero_le _) (by decide) rfl)
      have hne : gA ≠ Y1.heap.size := Nat.ne_of_lt (RA.out.lt _ rfl).2
      have T := Lib.hid (RA.out.alloc (.cells #[.int .i64 30, .func (.func 63) #[] #[.pointer (some ⟨z, 0, none⟩)]] 75))
      clear RA
      have RA := T
      clear T
      refine hK.out _ _ hBB (fun _ => ?_)
      clear hK K hHeld
      have hHeld := hBB
      clear hBB
      try simp only [Act.put, List.getElem_toArray, List.getElem_cons_zero, List.getElem_cons_succ, List.setIfInBounds_toArray, List.set_cons_zero, List.set_cons_succ]
      generalize Y1.alloc (.cells #[.int .i64 30, .func (.func 63) #[] #[.pointer (some ⟨z, 0, none⟩)]] 75) = Y2 at *
      generalize Y1.heap.size = gB at *
      refine wpAnyH_ready (rs := [3]) (by kernel_rfl) (by simp) ?_
      refine (AllReadyH.cons rfl (fun K hK => ?_) AllReadyH.nil)
      go_simp
      refine hK.out _ _ hHeld (fun _ => ?_)
      clear hK K
      try simp only [Act.put, List.getElem_toArray, List.getElem_cons_zero, List.getElem_cons_succ, List.setIfInBounds_toArray, List.set_cons_zero, List.set_cons_succ]
      refine wpAnyH_ready (rs := [6]) (by kernel_rfl) (by simp) ?_
      refine (AllReadyH.cons rfl (fun K hK => ?_) AllReadyH.nil)
      refine step_append_lies _ (by rfl) (.tmp 15) (.tmp 17) 98 (by rfl) 0 75 i0 _ 2 16 Tryz.underlying98 hi hz0 hz1 hz2 rfl (by decide) _ 1 _ (by rfl) RA.out ⟨gB, 0, none⟩ 1 1 [.int .i64 30, .func (.func 63) #[] #[.pointer (some ⟨z, 0, none⟩)]] (by rfl) rfl (own_cells RB.out) (by simp [Value.oneCell']) (by decide) (by decide) (by decide) (Nat.zero_le _) Y2.heap.size rfl ?_
      intro gN capN Y3 hown hgrow hat hlt
      have hBN := below_grown hHeld hHeld.size hgrow (fun g hg => by have h9 : gA = g := Option.some.inj hg; omega)
      have hnN : X.heap.size ≤ gN := by
        rcases hat with h | h
        · have h9 : gA = gN := Option.some.inj h; omega
        · have := hHeld.size; omega
      refine hK.out _ _ hBN (fun _ => ?_)
      clear hK K hHeld RA hgrow hat hnA
      have hHeld := hBN
      have RA := Lib.hid hown
      clear hBN hown
      try simp only [Act.put, List.getElem_toArray, List.getElem_cons_zero, List.getElem_cons_succ, List.setIfInBounds_toArray, List.set_cons_zero, List.set_cons_succ]
      refine wpAnyH_ready (rs := [7]) (by kernel_rfl) (by simp) ?_
      refine (AllReadyH.cons rfl (fun K hK => ?_) AllReadyH.nil)
      go_simp
      refine (upCheck0 d m gN z capN n wr pv Y3 (HD.out.below hHeld HD.out.lt) (KD.out.below hHeld KD.out.lt) RA.out).mono ?_
      rintro e wv ⟨rfl, hbX⟩
      go_wp2_with fail
      have hBN := hHeld.trans (hbX.mono hHeld.size)
      refine hK.out _ _ hBN (fun _ => ?_)
      clear hK K
      try simp only [Act.put, List.getElem_toArray, List.getElem_cons_zero, List.getElem_cons_succ, List.setIfInBounds_toArray, List.set_cons_zero, List.set_cons_succ]
      refine wpAnyH_take (i := 8) (v := ?_) rfl (by kernel_rfl) (by kernel_rfl) (by kernel_rfl) (fun _ _ _ h => h) (Or.inl ⟨by rfl, ?_⟩) hBN ?_
      rotate_left
      · (intro w hSw; (try dsimp only at hSw); go_simp)
        try with_reducible rfl
      try simp only [Act.put, List.getElem_toArray, List.getElem_cons_zero, List.getElem_cons_succ, List.setIfInBounds_toArray, List.set_cons_zero, List.set_cons_succ]
      refine wpAnyH_done (by kernel_rfl) ?_ _
      go_wp2_with fail
      exact ⟨rfl, _, results_tmp rfl _ _ _, rfl, by rw [hz]; exact HB.out.trans (hBN.mono hzX)⟩
  · skip
    go_simp
    have hnB : X.heap.size ≤ Y0.heap.size := hHeld.size
    have hBB := hHeld.alloc hHeld.size (.cells #[.int .i64 30, .func (.func 63) #[] #[.pointer (some ⟨z, 0, none⟩)]] 75)
    have RB := Lib.hid (World.ownsRow_lit (base := 0) (e := 75) (size := 2) Y0 #[.int .i64 30, .func (.func 63) #[] #[.pointer (some ⟨z, 0, none⟩)]] 1 (Nat.zero_le _) (by decide) rfl)
    refine hK.out _ _ hBB (fun _ => ?_)
    clear hK K hHeld
    have hHeld := hBB
    clear hBB
    try simp only [Act.put, List.getElem_toArray, List.getElem_cons_zero, List.getElem_cons_succ, List.setIfInBounds_toArray, List.set_cons_zero, List.set_cons_succ]
    generalize Y0.alloc (.cells #[.int .i64 30, .func (.func 63) #[] #[.pointer (some ⟨z, 0, none⟩)]] 75) = Y1 at *
    generalize Y0.heap.size = gB at *
    refine wpAnyH_ready (rs := [1]) (by kernel_rfl) (by simp) ?_
    refine (AllReadyH.cons rfl (fun K hK => ?_) AllReadyH.nil)
    go_simp
    have hnA : X.heap.size ≤ Y1.heap.size := hHeld.size
    have hBA := hHeld.alloc hHeld.size (.cells #[.int .i64 1, .func (.func 20) #[.pointer (some ⟨d, 0, none⟩)] #[]] 75)
    have RA := Lib.hid (World.ownsRow_lit (base := 0) (e := 75) (size := 2) Y1 #[.int .i64 1, .func (.func 20) #[.pointer (some ⟨d, 0, none⟩)] #[]] 1 (Nat.zero_le _) (by decide) rfl)
    have hne : gB ≠ Y1.heap.size := Nat.ne_of_lt (RB.out.lt _ rfl).2
    have T := Lib.hid (RB.out.alloc (.cells #[.int .i64 1, .func (.func 20) #[.pointer (some ⟨d, 0, none⟩)] #[]] 75))
    clear RB
    have RB := T
    clear T
    refine hK.out _ _ hBA (fun _ => ?_)
    clear hK K hHeld
    have hHeld := hBA
    clear hBA
    try simp only [Act.put, List.getElem_toArray, List.getElem_cons_zero, List.getElem_cons_succ, List.setIfInBounds_toArray, List.set_cons_zero, List.set_cons_succ]
    generalize Y1.alloc (.cells #[.int .i64 1, .func (.func 20) #[.pointer (some ⟨d, 0, none⟩)] #[]] 75) = Y2 at *
    generalize Y1.heap.size = gA at *
    refine wpAnyH_ready (rs := [3]) (by kernel_rfl) (by simp) ?_
    refine (AllReadyH.cons rfl (fun K hK => ?_) AllReadyH.nil)
    go_simp
    refine hK.out _ _ hHeld (fun _ => ?_)
    clear hK K
    try simp only [Act.put, List.getElem_toArray, List.getElem_cons_zero, List.getElem_cons_succ, List.setIfInBounds_toArray, List.set_cons_zero, List.set_cons_succ]
    refine wpAnyH_ready (rs := [6]) (by kernel_rfl) (by simp) ?_
    refine (AllReadyH.cons rfl (fun K hK => ?_) AllReadyH.nil)
    refine step_append_lies _ (by rfl) (.tmp 15) (.tmp 17) 98 (by rfl) 0 75 i0 _ 2 16 Tryz.underlying98 hi hz0 hz1 hz2 rfl (by decide) _ 1 _ (by rfl) RA.out ⟨gB, 0, none⟩ 1 1 [.int .i64 30, .func (.func 63) #[] #[.pointer (some ⟨z, 0, none⟩)]] (by rfl) rfl (own_cells RB.out) (by simp [Value.oneCell']) (by decide) (by decide) (by decide) (Nat.zero_le _) Y2.heap.size rfl ?_
    intro gN capN Y3 hown hgrow hat hlt
    have hBN := below_grown hHeld hHeld.size hgrow (fun g hg => by have h9 : gA = g := Option.some.inj hg; omega)
    have hnN : X.heap.size ≤ gN := by
      rcases hat with h | h
      · have h9 : gA = gN := Option.some.inj h; omega
      · have := hHeld.size; omega
    refine hK.out _ _ hBN (fun _ => ?_)
    clear hK K hHeld RA hgrow hat hnA
    have hHeld := hBN
    have RA := Lib.hid hown
    clear hBN hown
    try simp only [Act.put, List.getElem_toArray, List.getElem_cons_zero, List.getElem_cons_succ, List.setIfInBounds_toArray, List.set_cons_zero, List.set_cons_succ]
    refine wpAnyH_ready (rs := [7]) (by kernel_rfl) (by simp) ?_
    refine (AllReadyH.cons rfl (fun K hK => ?_) AllReadyH.nil)
    go_simp
    refine (upCheck0 d m gN z capN n wr pv Y3 (HD.out.below hHeld HD.out.lt) (KD.out.below hHeld KD.out.lt) RA.out).mono ?_
    rintro e wv ⟨rfl, hbX⟩
    go_wp2_with fail
    have hBN := hHeld.trans (hbX.mono hHeld.size)
    refine hK.out _ _ hBN (fun _ => ?_)
    clear hK K
    try simp only [Act.put, List.getElem_toArray, List.getElem_cons_zero, List.getElem_cons_succ, List.setIfInBounds_toArray, List.set_cons_zero, List.set_cons_succ]
    refine wpAnyH_take (i := 8) (v := ?_) rfl (by kernel_rfl) (by kernel_rfl) (by kernel_rfl) (fun _ _ _ h => h) (Or.inl ⟨by rfl, ?_⟩) hBN ?_
    rotate_left
    · (intro w hSw; (try dsimp only at hSw); go_simp)
      try with_reducible rfl
    try simp only [Act.put, List.getElem_toArray, List.getElem_cons_zero, List.getElem_cons_succ, List.setIfInBounds_toArray, List.set_cons_zero, List.set_cons_succ]
    refine wpAnyH_done (by kernel_rfl) ?_ _
    go_wp2_with fail
    exact ⟨rfl, _, results_tmp rfl _ _ _, rfl, by rw [hz]; exact HB.out.trans (hBN.mono hzX)⟩
set_option maxRecDepth 100000 in
set_option maxHeartbeats 1000000 in
theorem up1 (d m : Nat) (n wr : Int) (pv : Value) (x3 : Ask) (bl : Nat) (w : World) (h : DvB w d m n wr pv) (hbl : Bk w bl 75 #[.int .i64 x3.e, .func (.func x3.f) x3.first x3.cap]) (he : ∀ args w, (callFunc x3.f args).run Tryz.prog w = .ok (.enter x3.f args) w) (hx3 : ∀ X : World, Below w.heap.size w X → Calls Tryz.prog x3.f (x3.first ++ x3.cap) X fun e w' => e = .returned (.bool false) ∧ Below X.heap.size X w') :
    Calls Tryz.prog 40 #[.pointer (some ⟨d, 0, none⟩), .slice (some ⟨bl, 0, none⟩) 1 1] w fun e w' => e = .returned (.int .i64 0) ∧ Below w.heap.size w w' := by
  have hmf : ∀ (fn : Fn) (first cap : Array Value) (w : World), (Instr.makeFunc fn first cap).run Tryz.prog w = .ok (.func fn first cap) w := fun _ _ _ _ => rfl
  have hB : Below w.heap.size w (((w.alloc (.cells #[.pointer (some ⟨d, 0, none⟩)] 23)).alloc (.cells #[.int .i64 1, .func (.func 20) #[.pointer (some ⟨d, 0, none⟩)] #[]] 75)).alloc (.cells #[.int .i64 30, .func (.func 63) #[] #[.pointer (some ⟨w.heap.size, 0, none⟩)]] 75)) := (((Below.refl _ _).alloc (Nat.le_refl _) _).alloc (by simp) _).alloc (by simp; omega) _
  have HB := Lib.hid hB
  have HD := Lib.hid (show DvB (((w.alloc (.cells #[.pointer (some ⟨d, 0, none⟩)] 23)).alloc (.cells #[.int .i64 1, .func (.func 20) #[.pointer (some ⟨d, 0, none⟩)] #[]] 75)).alloc (.cells #[.int .i64 30, .func (.func 63) #[] #[.pointer (some ⟨w.heap.size, 0, none⟩)]] 75)) d m n wr pv from h.below hB h.lt)
  have KD := Lib.hid (show Bk (((w.alloc (.cells #[.pointer (some ⟨d, 0, none⟩)] 23)).alloc (.cells #[.int .i64 1, .func (.func 20) #[.pointer (some ⟨d, 0, none⟩)] #[]] 75)).alloc (.cells #[.int .i64 30, .func (.func 63) #[] #[.pointer (some ⟨w.heap.size, 0, none⟩)]] 75)) w.heap.size 23 #[.pointer (some ⟨d, 0, none⟩)] from ((Bk.new w _ _).alloc _).alloc _)
  have K1 := Lib.hid (show Bk (((w.alloc (.cells #[.pointer (some ⟨d, 0, none⟩)] 23)).alloc (.cells #[.int .i64 1, .func (.func 20) #[.pointer (some ⟨d, 0, none⟩)] #[]] 75)).alloc (.cells #[.int .i64 30, .func (.func 63) #[] #[.pointer (some ⟨w.heap.size, 0, none⟩)]] 75)) (w.heap.size + 1) 75 #[.int .i64 1, .func (.func 20) #[.pointer (some ⟨d, 0, none⟩)] #[]] from by simpa using (Bk.new (w.alloc (.cells #[.pointer (some ⟨d, 0, none⟩)] 23)) 75 #[.int .i64 1, .func (.func 20) #[.pointer (some ⟨d, 0, none⟩)] #[]]).alloc _)
  have K2 := Lib.hid (show Bk (((w.alloc (.cells #[.pointer (some ⟨d, 0, none⟩)] 23)).alloc (.cells #[.int .i64 1, .func (.func 20) #[.pointer (some ⟨d, 0, none⟩)] #[]] 75)).alloc (.cells #[.int .i64 30, .func (.func 63) #[] #[.pointer (some ⟨w.heap.size, 0, none⟩)]] 75)) (w.heap.size + 1 + 1) 75 #[.int .i64 30, .func (.func 63) #[] #[.pointer (some ⟨w.heap.size, 0, none⟩)]] from by simpa using Bk.new ((w.alloc (.cells #[.pointer (some ⟨d, 0, none⟩)] 23)).alloc (.cells #[.int .i64 1, .func (.func 20) #[.pointer (some ⟨d, 0, none⟩)] #[]] 75)) 75 #[.int .i64 30, .func (.func 63) #[] #[.pointer (some ⟨w.heap.size, 0, none⟩)]])
  have HBL := Lib.hid (hbl.below hB hbl.lt)
  have HE := Lib.hid he
  have HX := Lib.hid hx3
  clear h hB hbl he hx3
  go_enter Tryz.func40, Tryz.ntmps40
  go_wp2_with fail
  generalize (((w.alloc (.cells #[.pointer (some ⟨d, 0, none⟩)] 23)).alloc (.cells #[.int .i64 1, .func (.func 20) #[.pointer (some ⟨d, 0, none⟩)] #[]] 75)).alloc (.cells #[.int .i64 30, .func (.func 63) #[] #[.pointer (some ⟨w.heap.size, 0, none⟩)]] 75)) = X at *
  generalize hz : w.heap.size = z at *
  refine wp_region_held_drew (S := fun Y => Below X.heap.size X Y) (by kernel_rfl) ⟨rfl, rfl, rfl, Nat.le_refl _, fun _ _ => rfl⟩ ?_
  intro hHeld
  refine wpAnyH_take (i := 0) (v := ?_) rfl (by kernel_rfl) (by kernel_rfl) (by kernel_rfl) (fun _ _ _ h => h) (Or.inl ⟨by rfl, ?_⟩) hHeld ?_
  rotate_left
  · (intro w hSw; (try dsimp only at hSw); have q0 : w.cell? ⟨z + 1, 0, none⟩ = some (.int .i64 1) := (K1.out.below hSw K1.out.lt).cell 0; have q1 : w.cell? ⟨z + 1, 1, none⟩ = some (.func (.func 20) #[.pointer (some ⟨d, 0, none⟩)] #[]) := (K1.out.below hSw K1.out.lt).cell 1; go_simp)
    try with_reducible rfl
  try simp only [Act.put, List.getElem_toArray, List.getElem_cons_zero, List.getElem_cons_succ, List.setIfInBounds_toArray, List.set_cons_zero, List.set_cons_succ]
  refine wpAnyH_take (i := 4) (v := ?_) rfl (by kernel_rfl) (by kernel_rfl) (by kernel_rfl) (fun _ _ _ h => h) (Or.inl ⟨by rfl, ?_⟩) hHeld ?_
  rotate_left
  · (intro w hSw; (try dsimp only at hSw); have q0 : w.cell? ⟨z + 1 + 1, 0, none⟩ = some (.int .i64 30) := (K2.out.below hSw K2.out.lt).cell 0; have q1 : w.cell? ⟨z + 1 + 1, 1, none⟩ = some (.func (.func 63) #[] #[.pointer (some ⟨z, 0, none⟩)]) := (K2.out.below hSw K2.out.lt).cell 1; go_simp)
    try with_reducible rfl
  try simp only [Act.put, List.getElem_toArray, List.getElem_cons_zero, List.getElem_cons_succ, List.setIfInBounds_toArray, List.set_cons_zero, List.set_cons_succ]
  refine wpAnyH_take (i := 2) (v := ?_) rfl (by kernel_rfl) (by kernel_rfl) (by kernel_rfl) (fun _ _ _ h => h) (Or.inl ⟨by rfl, ?_⟩) hHeld ?_
  rotate_left
  · (intro w hSw; (try dsimp only at hSw); go_simp)
    try with_reducible rfl
  try simp only [Act.put, List.getElem_toArray, List.getElem_cons_zero, List.getElem_cons_succ, List.setIfInBounds_toArray, List.set_cons_zero, List.set_cons_succ]
  obtain ⟨i0, hi, hz0, hz1, hz2⟩ := info_parts info_asked
  have hzX : z ≤ X.heap.size := by rw [← hz]; exact HB.out.size
  generalize X.drew = Y0 at *
  refine wpAnyH_ready (rs := [1, 5]) (by kernel_rfl) (by simp) ?_
  refine (AllReadyH.cons rfl (fun K hK => ?_) (AllReadyH.cons rfl (fun K hK => ?_) AllReadyH.nil))
  · skip
    go_simp
    have hnA : X.heap.size ≤ Y0.heap.size := hHeld.size
    have hBA := hHeld.alloc hHeld.size (.cells #[.int .i64 1, .func (.func 20) #[.pointer (some ⟨d, 0, none⟩)] #[]] 75)
    have RA := Lib.hid (World.ownsRow_lit (base := 0) (e := 75) (size := 2) Y0 #[.int .i64 1, .func (.func 20) #[.pointer (some ⟨d, 0, none⟩)] #[]] 1 (Nat.zero_le _) (by decide) rfl)
    refine hK.out _ _ hBA (fun _ => ?_)
    clear hK K hHeld
    have hHeld := hBA
    clear hBA
    try simp only [Act.put, List.getElem_toArray, List.getElem_cons_zero, List.getElem_cons_succ, List.setIfInBounds_toArray, List.set_cons_zero, List.set_cons_succ]
    generalize Y0.alloc (.cells #[.int .i64 1, .func (.func 20) #[.pointer (some ⟨d, 0, none⟩)] #[]] 75) = Y1 at *
    generalize Y0.heap.size = gA at *
    refine wpAnyH_ready (rs := [3, 5]) (by kernel_rfl) (by simp) ?_
    refine (AllReadyH.cons rfl (fun K hK => ?_) (AllReadyH.cons rfl (fun K hK => ?_) AllReadyH.nil))
    · skip
      refine step_append_lies _ (by rfl) (.tmp 13) (.tmp 14) 98 (by rfl) 0 75 i0 _ 2 16 Tryz.underlying98 hi hz0 hz1 hz2 rfl (by decide) _ 1 _ (by rfl) RA.out ⟨bl, 0, none⟩ 1 1 [.int .i64 x3.e, .func (.func x3.f) x3.first x3.cap] (by rfl) rfl (bk_cells (HBL.out.below hHeld HBL.out.lt)) (by simp [Value.oneCell']) (by decide) (by decide) (by decide) (Nat.zero_le _) Y1.heap.size rfl ?_
      intro gM capM Y2 hown hgrow hat hlt
      have hBN := below_grown hHeld hHeld.size hgrow (fun g hg => by have h9 : gA = g := Option.some.inj hg; omega)
      have hnM : X.heap.size ≤ gM := by
        rcases hat with h | h
        · have h9 : gA = gM := Option.some.inj h; omega
        · have := hHeld.size; omega
      refine hK.out _ _ hBN (fun _ => ?_)
      clear hK K hHeld RA hgrow hat hnA
      have hHeld := hBN
      have RA := Lib.hid hown
      clear hBN hown
      try simp only [Act.put, List.getElem_toArray, List.getElem_cons_zero, List.getElem_cons_succ, List.setIfInBounds_toArray, List.set_cons_zero, List.set_cons_succ]
      clear hlt
      refine wpAnyH_ready (rs := [5]) (by kernel_rfl) (by simp) ?_
      refine (AllReadyH.cons rfl (fun K hK => ?_) AllReadyH.nil)
      go_simp
      have hnB : X.heap.size ≤ Y2.heap.size := hHeld.size
      have hBB := hHeld.alloc hHeld.size (.cells #[.int .i64 30, .func (.func 63) #[] #[.pointer (some ⟨z, 0, none⟩)]] 75)
      have RB := Lib.hid (World.ownsRow_lit (base := 0) (e := 75) (size := 2) Y2 #[.int .i64 30, .func (.func 63) #[] #[.pointer (some ⟨z, 0, none⟩)]] 1 (Nat.zero_le _) (by decide) rfl)
      have hne : gM ≠ Y2.heap.size := Nat.ne_of_lt (RA.out.lt _ rfl).2
      have T := Lib.hid (RA.out.alloc (.cells #[.int .i64 30, .func (.func 63) #[] #[.pointer (some ⟨z, 0, none⟩)]] 75))
      clear RA
      have RA := T
      clear T
      refine hK.out _ _ hBB (fun _ => ?_)
      clear hK K hHeld
      have hHeld := hBB
      clear hBB
      try simp only [Act.put, List.getElem_toArray, List.getElem_cons_zero, List.getElem_cons_succ, List.setIfInBounds_toArray, List.set_cons_zero, List.set_cons_succ]
      generalize Y2.alloc (.cells #[.int .i64 30, .func (.func 63) #[] #[.pointer (some ⟨z, 0, none⟩)]] 75) = Y3 at *
      generalize Y2.heap.size = gB at *
      refine wpAnyH_ready (rs := [6]) (by kernel_rfl) (by simp) ?_
      refine (AllReadyH.cons rfl (fun K hK => ?_) AllReadyH.nil)
      refine step_append_lies _ (by rfl) (.tmp 15) (.tmp 17) 98 (by rfl) 0 75 i0 _ 2 16 Tryz.underlying98 hi hz0 hz1 hz2 rfl (by decide) _ 2 _ (by rfl) RA.out ⟨gB, 0, none⟩ 1 1 [.int .i64 30, .func (.func 63) #[] #[.pointer (some ⟨z, 0, none⟩)]] (by rfl) rfl (own_cells RB.out) (by simp [Value.oneCell']) (by decide) (by decide) (by decide) (Nat.zero_le _) Y3.heap.size rfl ?_
      intro gN capN Y4 hown hgrow hat hlt
      have hBN := below_grown hHeld hHeld.size hgrow (fun g hg => by have h9 : gM = g := Option.some.inj hg; omega)
      have hnN : X.heap.size ≤ gN := by
        rcases hat with h | h
        · have h9 : gM = gN := Option.some.inj h; omega
        · have := hHeld.size; omega
      refine hK.out _ _ hBN (fun _ => ?_)
      clear hK K hHeld RA hgrow hat hnM
      have hHeld := hBN
      have RA := Lib.hid hown
      clear hBN hown
      try simp only [Act.put, List.getElem_toArray, List.getElem_cons_zero, List.getElem_cons_succ, List.setIfInBounds_toArray, List.set_cons_zero, List.set_cons_succ]
      refine wpAnyH_ready (rs := [7]) (by kernel_rfl) (by simp) ?_
      refine (AllReadyH.cons rfl (fun K hK => ?_) AllReadyH.nil)
      go_simp
      refine (upCheck1 d m gN z capN n wr pv x3 Y4 (HD.out.below hHeld HD.out.lt) (KD.out.below hHeld KD.out.lt) RA.out HE.out (fun Z hZ => HX.out Z (HB.out.trans ((hHeld.trans (hZ.mono hHeld.size)).mono hzX)))).mono ?_
      rintro e wv ⟨rfl, hbX⟩
      go_wp2_with fail
      have hBN := hHeld.trans (hbX.mono hHeld.size)
      refine hK.out _ _ hBN (fun _ => ?_)
      clear hK K
      try simp only [Act.put, List.getElem_toArray, List.getElem_cons_zero, List.getElem_cons_succ, List.setIfInBounds_toArray, List.set_cons_zero, List.set_cons_succ]
      refine wpAnyH_take (i := 8) (v := ?_) rfl (by kernel_rfl) (by kernel_rfl) (by kernel_rfl) (fun _ _ _ h => h) (Or.inl ⟨by rfl, ?_⟩) hBN ?_
      rotate_left
      · (intro w hSw; (try dsimp only at hSw); go_simp)
        try with_reducible rfl
      try simp only [Act.put, List.getElem_toArray, List.getElem_cons_zero, List.getElem_cons_succ, List.setIfInBounds_toArray, List.set_cons_zero, List.set_cons_succ]
      refine wpAnyH_done (by kernel_rfl) ?_ _
      go_wp2_with fail
      exact ⟨rfl, _, results_tmp rfl _ _ _, rfl, by rw [hz]; exact HB.out.trans (hBN.mono hzX)⟩
    · skip
      go_simp
      have hnB : X.heap.size ≤ Y1.heap.size := hHeld.size
      have hBB := hHeld.alloc hHeld.size (.cells #[.int .i64 30, .func (.func 63) #[] #[.pointer (some ⟨z, 0, none⟩)]] 75)
      have RB := Lib.hid (World.ownsRow_lit (base := 0) (e := 75) (size := 2) Y1 #[.int .i64 30, .func (.func 63) #[] #[.pointer (some ⟨z, 0, none⟩)]] 1 (Nat.zero_le _) (by decide) rfl)
      have hne : gA ≠ Y1.heap.size := Nat.ne_of_lt (RA.out.lt _ rfl).2
      have T := Lib.hid (RA.out.alloc (.cells #[.int .i64 30, .func (.func 63) #[] #[.pointer (some ⟨z, 0, none⟩)]] 75))
      clear RA
      have RA := T
      clear T
      refine hK.out _ _ hBB (fun _ => ?_)
      clear hK K hHeld
      have hHeld := hBB
      clear hBB
      try simp only [Act.put, List.getElem_toArray, List.getElem_cons_zero, List.getElem_cons_succ, List.setIfInBounds_toArray, List.set_cons_zero, List.set_cons_succ]
      generalize Y1.alloc (.cells #[.int .i64 30, .func (.func 63) #[] #[.pointer (some ⟨z, 0, none⟩)]] 75) = Y2 at *
      generalize Y1.heap.size = gB at *
      refine wpAnyH_ready (rs := [3]) (by kernel_rfl) (by simp) ?_
      refine (AllReadyH.cons rfl (fun K hK => ?_) AllReadyH.nil)
      refine step_append_lies _ (by rfl) (.tmp 13) (.tmp 14) 98 (by rfl) 0 75 i0 _ 2 16 Tryz.underlying98 hi hz0 hz1 hz2 rfl (by decide) _ 1 _ (by rfl) RA.out ⟨bl, 0, none⟩ 1 1 [.int .i64 x3.e, .func (.func x3.f) x3.first x3.cap] (by rfl) rfl (bk_cells (HBL.out.below hHeld HBL.out.lt)) (by simp [Value.oneCell']) (by decide) (by decide) (by decide) (Nat.zero_le _) Y2.heap.size rfl ?_
      intro gM capM Y3 hown hgrow hat hlt
      have hBN := below_grown hHeld hHeld.size hgrow (fun g hg => by have h9 : gA = g := Option.some.inj hg; omega)
      have hnM : X.heap.size ≤ gM := by
        rcases hat with h | h
        · have h9 : gA = gM := Option.some.inj h; omega
        · have := hHeld.size; omega
      have hneN : gB ≠ gM := by
        rcases hat with h | h
        · have h9 : gA = gM := Option.some.inj h; omega
        · have h8 : gB < Y2.heap.size := (RB.out.lt _ rfl).2; omega
      have T := Lib.hid (own_fr RB.out (Fr.of_grown hgrow) (fun g hg e => by have h1 : gB = g := Option.some.inj hg; have h2 : g = gA := Option.some.inj e; omega))
      clear RB
      have RB := T
      clear T
      refine hK.out _ _ hBN (fun _ => ?_)
      clear hK K hHeld RA hgrow hat hnA
      have hHeld := hBN
      have RA := Lib.hid hown
      clear hBN hown
      try simp only [Act.put, List.getElem_toArray, List.getElem_cons_zero, List.getElem_cons_succ, List.setIfInBounds_toArray, List.set_cons_zero, List.set_cons_succ]
      clear hne
      have hne := hneN
      clear hneN
      clear hlt
      refine wpAnyH_ready (rs := [6]) (by kernel_rfl) (by simp) ?_
      refine (AllReadyH.cons rfl (fun K hK => ?_) AllReadyH.nil)
      refine step_append_lies _ (by rfl) (.tmp 15) (.tmp 17) 98 (by rfl) 0 75 i0 _ 2 16 Tryz.underlying98 hi hz0 hz1 hz2 rfl (by decide) _ 2 _ (by rfl) RA.out ⟨gB, 0, none⟩ 1 1 [.int .i64 30, .func (.func 63) #[] #[.pointer (some ⟨z, 0, none⟩)]] (by rfl) rfl (own_cells RB.out) (by simp [Value.oneCell']) (by decide) (by decide) (by decide) (Nat.zero_le _) Y3.heap.size rfl ?_
      intro gN capN Y4 hown hgrow hat hlt
      have hBN := below_grown hHeld hHeld.size hgrow (fun g hg => by have h9 : gM = g := Option.some.inj hg; omega)
      have hnN : X.heap.size ≤ gN := by
        rcases hat with h | h
        · have h9 : gM = gN := Option.some.inj h; omega
        · have := hHeld.size; omega
      refine hK.out _ _ hBN (fun _ => ?_)
      clear hK K hHeld RA hgrow hat hnM
      have hHeld := hBN
      have RA := Lib.hid hown
      clear hBN hown
      try simp only [Act.put, List.getElem_toArray, List.getElem_cons_zero, List.getElem_cons_succ, List.setIfInBounds_toArray, List.set_cons_zero, List.set_cons_succ]
      refine wpAnyH_ready (rs := [7]) (by kernel_rfl) (by simp) ?_
      refine (AllReadyH.cons rfl (fun K hK => ?_) AllReadyH.nil)
      go_simp
      refine (upCheck1 d m gN z capN n wr pv x3 Y4 (HD.out.below hHeld HD.out.lt) (KD.out.below hHeld KD.out.lt) RA.out HE.out (fun Z hZ => HX.out Z (HB.out.trans ((hHeld.trans (hZ.mono hHeld.size)).mono hzX)))).mono ?_
      rintro e wv ⟨rfl, hbX⟩
      go_wp2_with fail
      have hBN := hHeld.trans (hbX.mono hHeld.size)
      refine hK.out _ _ hBN (fun _ => ?_)
      clear hK K
      try simp only [Act.put, List.getElem_toArray, List.getElem_cons_zero, List.getElem_cons_succ, List.setIfInBounds_toArray, List.set_cons_zero, List.set_cons_succ]
      refine wpAnyH_take (i := 8) (v := ?_) rfl (by kernel_rfl) (by kernel_rfl) (by kernel_rfl) (fun _ _ _ h => h) (Or.inl ⟨by rfl, ?_⟩) hBN ?_
      rotate_left
      · (intro w hSw; (try dsimp only at hSw); go_simp)
        try with_reducible rfl
      try simp only [Act.put, List.getElem_toArray, List.getElem_cons_zero, List.getElem_cons_succ, List.setIfInBounds_toArray, List.set_cons_zero, List.set_cons_succ]
      refine wpAnyH_done (by kernel_rfl) ?_ _
      go_wp2_with fail
      exact ⟨rfl, _, results_tmp rfl _ _ _, rfl, by rw [hz]; exact HB.out.trans (hBN.mono hzX)⟩
  · skip
    go_simp
    have hnB : X.heap.size ≤ Y0.heap.size := hHeld.size
    have hBB := hHeld.alloc hHeld.size (.cells #[.int .i64 30, .func (.func 63) #[] #[.pointer (some ⟨z, 0, none⟩)]] 75)
    have RB := Lib.hid (World.ownsRow_lit (base := 0) (e := 75) (size := 2) Y0 #[.int .i64 30, .func (.func 63) #[] #[.pointer (some ⟨z, 0, none⟩)]] 1 (Nat.zero_le _) (by decide) rfl)
    refine hK.out _ _ hBB (fun _ => ?_)
    clear hK K hHeld
    have hHeld := hBB
    clear hBB
    try simp only [Act.put, List.getElem_toArray, List.getElem_cons_zero, List.getElem_cons_succ, List.setIfInBounds_toArray, List.set_cons_zero, List.set_cons_succ]
    generalize Y0.alloc (.cells #[.int .i64 30, .func (.func 63) #[] #[.pointer (some ⟨z, 0, none⟩)]] 75) = Y1 at *
    generalize Y0.heap.size = gB at *
    refine wpAnyH_ready (rs := [1]) (by kernel_rfl) (by simp) ?_
    refine (AllReadyH.cons rfl (fun K hK => ?_) AllReadyH.nil)
    go_simp
    have hnA : X.heap.size ≤ Y1.heap.size := hHeld.size
    have hBA := hHeld.alloc hHeld.size (.cells #[.int .i64 1, .func (.func 20) #[.pointer (some ⟨d, 0, none⟩)] #[]] 75)
    have RA := Lib.hid (World.ownsRow_lit (base := 0) (e := 75) (size := 2) Y1 #[.int .i64 1, .func (.func 20) #[.pointer (some ⟨d, 0, none⟩)] #[]] 1 (Nat.zero_le _) (by decide) rfl)
    have hne : gB ≠ Y1.heap.size := Nat.ne_of_lt (RB.out.lt _ rfl).2
    have T := Lib.hid (RB.out.alloc (.cells #[.int .i64 1, .func (.func 20) #[.pointer (some ⟨d, 0, none⟩)] #[]] 75))
    clear RB
    have RB := T
    clear T
    refine hK.out _ _ hBA (fun _ => ?_)
    clear hK K hHeld
    have hHeld := hBA
    clear hBA
    try simp only [Act.put, List.getElem_toArray, List.getElem_cons_zero, List.getElem_cons_succ, List.setIfInBounds_toArray, List.set_cons_zero, List.set_cons_succ]
    generalize Y1.alloc (.cells #[.int .i64 1, .func (.func 20) #[.pointer (some ⟨d, 0, none⟩)] #[]] 75) = Y2 at *
    generalize Y1.heap.size = gA at *
    refine wpAnyH_ready (rs := [3]) (by kernel_rfl) (by simp) ?_
    refine (AllReadyH.cons rfl (fun K hK => ?_) AllReadyH.nil)
    refine step_append_lies _ (by rfl) (.tmp 13) (.tmp 14) 98 (by rfl) 0 75 i0 _ 2 16 Tryz.underlying98 hi hz0 hz1 hz2 rfl (by decide) _ 1 _ (by rfl) RA.out ⟨bl, 0, none⟩ 1 1 [.int .i64 x3.e, .func (.func x3.f) x3.first x3.cap] (by rfl) rfl (bk_cells (HBL.out.below hHeld HBL.out.lt)) (by simp [Value.oneCell']) (by decide) (by decide) (by decide) (Nat.zero_le _) Y2.heap.size rfl ?_
    intro gM capM Y3 hown hgrow hat hlt
    have hBN := below_grown hHeld hHeld.size hgrow (fun g hg => by have h9 : gA = g := Option.some.inj hg; omega)
    have hnM : X.heap.size ≤ gM := by
      rcases hat with h | h
      · have h9 : gA = gM := Option.some.inj h; omega
      · have := hHeld.size; omega
    have hneN : gB ≠ gM := by
      rcases hat with h | h
      · have h9 : gA = gM := Option.some.inj h; omega
      · have h8 : gB < Y2.heap.size := (RB.out.lt _ rfl).2; omega
    have T := Lib.hid (own_fr RB.out (Fr.of_grown hgrow) (fun g hg e => by have h1 : gB = g := Option.some.inj hg; have h2 : g = gA := Option.some.inj e; omega))
    clear RB
    have RB := T
    clear T
    refine hK.out _ _ hBN (fun _ => ?_)
    clear hK K hHeld RA hgrow hat hnA
    have hHeld := hBN
    have RA := Lib.hid hown
    clear hBN hown
    try simp only [Act.put, List.getElem_toArray, List.getElem_cons_zero, List.getElem_cons_succ, List.setIfInBounds_toArray, List.set_cons_zero, List.set_cons_succ]
    clear hne
    have hne := hneN
    clear hneN
    clear hlt
    refine wpAnyH_ready (rs := [6]) (by kernel_rfl) (by simp) ?_
    refine (AllReadyH.cons rfl (fun K hK => ?_) AllReadyH.nil)
    refine step_append_lies _ (by rfl) (.tmp 15) (.tmp 17) 98 (by rfl) 0 75 i0 _ 2 16 Tryz.underlying98 hi hz0 hz1 hz2 rfl (by decide) _ 2 _ (by rfl) RA.out ⟨gB, 0, none⟩ 1 1 [.int .i64 30, .func (.func 63) #[] #[.pointer (some ⟨z, 0, none⟩)]] (by rfl) rfl (own_cells RB.out) (by simp [Value.oneCell']) (by decide) (by decide) (by decide) (Nat.zero_le _) Y3.heap.size rfl ?_
    intro gN capN Y4 hown hgrow hat hlt
    have hBN := below_grown hHeld hHeld.size hgrow (fun g hg => by have h9 : gM = g := Option.some.inj hg; omega)
    have hnN : X.heap.size ≤ gN := by
      rcases hat with h | h
      · have h9 : gM = gN := Option.some.inj h; omega
      · have := hHeld.size; omega
    refine hK.out _ _ hBN (fun _ => ?_)
    clear hK K hHeld RA hgrow hat hnM
    have hHeld := hBN
    have RA := Lib.hid hown
    clear hBN hown
    try simp only [Act.put, List.getElem_toArray, List.getElem_cons_zero, List.getElem_cons_succ, List.setIfInBounds_toArray, List.set_cons_zero, List.set_cons_succ]
    refine wpAnyH_ready (rs := [7]) (by kernel_rfl) (by simp) ?_
    refine (AllReadyH.cons rfl (fun K hK => ?_) AllReadyH.nil)
    go_simp
    refine (upCheck1 d m gN z capN n wr pv x3 Y4 (HD.out.below hHeld HD.out.lt) (KD.out.below hHeld KD.out.lt) RA.out HE.out (fun Z hZ => HX.out Z (HB.out.trans ((hHeld.trans (hZ.mono hHeld.size)).mono hzX)))).mono ?_
    rintro e wv ⟨rfl, hbX⟩
    go_wp2_with fail
    have hBN := hHeld.trans (hbX.mono hHeld.size)
    refine hK.out _ _ hBN (fun _ => ?_)
    clear hK K
    try simp only [Act.put, List.getElem_toArray, List.getElem_cons_zero, List.getElem_cons_succ, List.setIfInBounds_toArray, List.set_cons_zero, List.set_cons_succ]
    refine wpAnyH_take (i := 8) (v := ?_) rfl (by kernel_rfl) (by kernel_rfl) (by kernel_rfl) (fun _ _ _ h => h) (Or.inl ⟨by rfl, ?_⟩) hBN ?_
    rotate_left
    · (intro w hSw; (try dsimp only at hSw); go_simp)
      try with_reducible rfl
    try simp only [Act.put, List.getElem_toArray, List.getElem_cons_zero, List.getElem_cons_succ, List.setIfInBounds_toArray, List.set_cons_zero, List.set_cons_succ]
    refine wpAnyH_done (by kernel_rfl) ?_ _
    go_wp2_with fail
    exact ⟨rfl, _, results_tmp rfl _ _ _, rfl, by rw [hz]; exact HB.out.trans (hBN.mono hzX)⟩
end Go.Proofs.YtjnbpbnhkinggaaGreatDoor.St
