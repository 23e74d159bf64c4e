/- Walks of the law on lives: usable. What is read as data lies in memory as the walks want it: limbs, whole numbers, fractions, rows, tables. No condition: laws on the form's readings. What the last texts of the laws on lives share: a table and a life that come as arguments. No condition: words. -/
import Derived.SizedLaws
import Derived.Deep.Slices
import Derived.Lib.SmallJoins
import Derived.ProofKit
import Derived.OpenShut
import Derived.ChangeOld
import Derived.Below
import Derived.Test.YtndgaecfeaedeaaGreatG19
import Derived.Test.YtndgaecfeaedeaaGreatG25
import Derived.Test.YtndgaecfeaedeaaGreatG26
namespace Go.Proofs.YtndgaecfeaedeaaGreat
set_option linter.unusedSimpArgs false
set_option linter.unusedVariables false
open Go.RowKit Lex Mth
attribute [local go_sem] run_indexAt_at add_zero_map Oper.semAt_some at_zero at_add at_mk1 at_mk2 at_mk3

/-- What usable looks at. -/
noncomputable def okU (T : Tb) (e y : Int) : Bool := !largeT T 25 8 2 && okL T e y
theorem okU_l {T : Tb} {e y : Int} (h : okU T e y = true) : okL T e y = true := by unfold okU at h; simp only [Bool.and_eq_true] at h; exact h.2
theorem okU_n {T : Tb} {e y : Int} (h : okU T e y = true) : T.N ≤ 25 := by
  unfold okU at h
  simp only [Bool.and_eq_true, Bool.not_eq_true'] at h
  apply Decidable.byContradiction
  intro hn
  have := largeT_iff (T := T) (r := 25) (wd := 8) (l := 2)
  rw [h.1] at this
  exact absurd (this.2 (.inl (by omega))) (by simp)
theorem nequal_t (X Y : Fr) (x y : Rat) (w : World) (hX : FR w X x) (hY : FR w Y y) (bx : Sz x) (by_ : Sz y) (h : x = y) : Calls Tryz.prog 30 #[.agg #[.bool X.N.b, .slice X.N.p X.N.n X.N.c, .bool X.D.b, .slice X.D.p X.D.n X.D.c], .agg #[.bool Y.N.b, .slice Y.N.p Y.N.n Y.N.c, .bool Y.D.b, .slice Y.D.p Y.D.n Y.D.c]] w (Gv (.v (.bool true)) w) := by
  have := nequal X Y x y w hX hY bx by_
  rwa [eqQ_iff.2 h] at this
theorem okL_q4 {T : Tb} {e y : Int} (ok : okL T e y = true) : T.first ≤ e ∧ e ≤ T.first + (T.N : Int) - 1 ∧ 0 ≤ y ∧ y ≤ 300 := by
  unfold okL at ok
  simp only [Bool.and_eq_true, decide_eq_true_eq] at ok
  exact ⟨ok.1.1.1.2, ok.1.1.2, ok.1.2, ok.2⟩

theorem nLarge_b (T : Tb) (rows width limbs : Nat) (w : World) (h : TW w T) (hr : rows ≤ 1000) (hw : width ≤ 1000) (hl : limbs ≤ 1000) {b : Bool} (hb : largeT T rows width limbs = b) :
    Calls Tryz.prog 8 #[.agg #[.int .i64 T.first, .int .i64 T.sel, .slice T.P T.N T.C], .int .i64 (rows : Nat), .int .i64 (width : Nat), .int .i64 (limbs : Nat)] w (Gv (.v (.bool b)) w) := hb ▸ nLarge T rows width limbs w h hr hw hl

set_option maxRecDepth 100000 in
theorem nusable1 (T : Tb) (e y : Int) (w : World) (hT : TW w T) (ey : -9223372036854775808 ≤ e ∧ e ≤ 9223372036854775807 ∧ -9223372036854775808 ≤ y ∧ y ≤ 9223372036854775807) (hl : largeT T 25 8 2 = true) :
    Calls Tryz.prog 27 #[.agg #[.int .i64 T.first, .int .i64 T.sel, .slice T.P T.N T.C], .agg #[.int .i64 e, .int .i64 y]] w (Gv (.v (.bool false)) w) := by
  have HL := Lib.hid hl
  clear hl
  have hEw : Ext w w := Below.refl _ _
  obtain ⟨w1, hww1⟩ : ∃ W, w.alloc (.cells #[.int .i64 T.first, .int .i64 T.sel, .slice T.P T.N T.C] 24) = W := ⟨_, rfl⟩
  have ew1 : Ext w w1 := by rw [← hww1]; exact ea _ _
  have B1 : Cells w1 (w.heap.size) 24 #[.int .i64 T.first, .int .i64 T.sel, .slice T.P T.N T.C] := by rw [← hww1]; exact Cells.newAt _ _ (by omega)
  have zw1 := alloc_lt hww1
  have hEw1 := eg hEw ew1
  have lB1_w1 := B1.lt
  obtain ⟨w2, hww2⟩ : ∃ W, w1.alloc (.cells #[.int .i64 e, .int .i64 y] 26) = W := ⟨_, rfl⟩
  have ew2 : Ext w1 w2 := by rw [← hww2]; exact ea _ _
  have B2 : Cells w2 (w.heap.size + 1) 26 #[.int .i64 e, .int .i64 y] := by rw [← hww2]; exact Cells.newAt _ _ (by omega)
  replace B1 := B1.ext ew2
  have zw2 := alloc_lt hww2
  have hEw2 := eg hEw1 ew2
  have b1_0_w2 := B1.cell (k := 0) rfl
  have b1_1_w2 := B1.cell (k := 1) rfl
  have b1_2_w2 := B1.cell (k := 2) rfl
  have lB1_w2 := B1.lt
  have lB2_w2 := B2.lt
  go_enter Tryz.func27, Tryz.ntmps27
  go_wp2_with fail
  clear hww1
  clear hww2
  clear lB1_w1
  have yw1 := Nat.le_of_eq zw1
  replace zw1 := Nat.le_of_eq zw1.symm
  have yw2 := Nat.le_of_eq zw2
  replace zw2 := Nat.le_of_eq zw2.symm
  refine (nLarge_b T 25 8 2 _ (hT.ext hEw2) (by decide) (by decide) (by decide) HL.out).mono ?_
  intro ee w3 gg
  obtain ⟨rfl, ew3⟩ := Gv.v gg
  replace B1 := B1.ext ew3
  replace B2 := B2.ext ew3
  have hEw3 := eg hEw2 ew3
  have zw3 := ew3.size
  have lB1_w3 := B1.lt
  have lB2_w3 := B2.lt
  go_wp2_with fail
  clear b1_0_w2 b1_1_w2 b1_2_w2 lB1_w2 lB2_w2
  refine bodyPost_ret (v := .bool false) (by simp [results, Tryz.results27, go_sem]) rfl ?_
  exact Gv.of_v hEw3

set_option maxRecDepth 100000 in
theorem nusable2 (T : Tb) (e y : Int) (w : World) (hT : TW w T) (ey : -9223372036854775808 ≤ e ∧ e ≤ 9223372036854775807 ∧ -9223372036854775808 ≤ y ∧ y ≤ 9223372036854775807) (hl : largeT T 25 8 2 = false) (b : Bool) (hr : okL T e y = b) :
    Calls Tryz.prog 27 #[.agg #[.int .i64 T.first, .int .i64 T.sel, .slice T.P T.N T.C], .agg #[.int .i64 e, .int .i64 y]] w (Gv (.v (.bool b)) w) := by
  have HL := Lib.hid hl
  clear hl
  have HR := Lib.hid hr
  clear hr
  have hEw : Ext w w := Below.refl _ _
  obtain ⟨w1, hww1⟩ : ∃ W, w.alloc (.cells #[.int .i64 T.first, .int .i64 T.sel, .slice T.P T.N T.C] 24) = W := ⟨_, rfl⟩
  have ew1 : Ext w w1 := by rw [← hww1]; exact ea _ _
  have B1 : Cells w1 (w.heap.size) 24 #[.int .i64 T.first, .int .i64 T.sel, .slice T.P T.N T.C] := by rw [← hww1]; exact Cells.newAt _ _ (by omega)
  have zw1 := alloc_lt hww1
  have hEw1 := eg hEw ew1
  have lB1_w1 := B1.lt
  obtain ⟨w2, hww2⟩ : ∃ W, w1.alloc (.cells #[.int .i64 e, .int .i64 y] 26) = W := ⟨_, rfl⟩
  have ew2 : Ext w1 w2 := by rw [← hww2]; exact ea _ _
  have B2 : Cells w2 (w.heap.size + 1) 26 #[.int .i64 e, .int .i64 y] := by rw [← hww2]; exact Cells.newAt _ _ (by omega)
  replace B1 := B1.ext ew2
  have zw2 := alloc_lt hww2
  have hEw2 := eg hEw1 ew2
  have b1_0_w2 := B1.cell (k := 0) rfl
  have b1_1_w2 := B1.cell (k := 1) rfl
  have b1_2_w2 := B1.cell (k := 2) rfl
  have lB1_w2 := B1.lt
  have lB2_w2 := B2.lt
  go_enter Tryz.func27, Tryz.ntmps27
  go_wp2_with fail
  clear hww1
  clear hww2
  clear lB1_w1
  have yw1 := Nat.le_of_eq zw1
  replace zw1 := Nat.le_of_eq zw1.symm
  have yw2 := Nat.le_of_eq zw2
  replace zw2 := Nat.le_of_eq zw2.symm
  refine (nLarge_b T 25 8 2 _ (hT.ext hEw2) (by decide) (by decide) (by decide) HL.out).mono ?_
  intro ee w3 gg
  obtain ⟨rfl, ew3⟩ := Gv.v gg
  replace B1 := B1.ext ew3
  replace B2 := B2.ext ew3
  have hEw3 := eg hEw2 ew3
  have zw3 := ew3.size
  have b1_0_w3 := B1.cell (k := 0) rfl
  have b1_1_w3 := B1.cell (k := 1) rfl
  have b1_2_w3 := B1.cell (k := 2) rfl
  have b2_0_w3 := B2.cell (k := 0) rfl
  have b2_1_w3 := B2.cell (k := 1) rfl
  have lB1_w3 := B1.lt
  have lB2_w3 := B2.lt
  go_wp2_with fail
  clear b1_0_w2 b1_1_w2 b1_2_w2 lB1_w2 lB2_w2
  refine (lRight T e y _ (hT.ext hEw3) ey HR.out).mono ?_
  intro ee w4 gg
  obtain ⟨rfl, ew4⟩ := Gv.v gg
  replace B1 := B1.ext ew4
  replace B2 := B2.ext ew4
  have hEw4 := eg hEw3 ew4
  have zw4 := ew4.size
  have lB1_w4 := B1.lt
  have lB2_w4 := B2.lt
  go_wp2_with fail
  clear b1_0_w3 b1_1_w3 b1_2_w3 b2_0_w3 b2_1_w3 lB1_w3 lB2_w3
  refine bodyPost_ret (v := .bool b) (by simp [results, Tryz.results27, go_sem]) rfl ?_
  exact Gv.of_v hEw4

theorem nusable (T : Tb) (e y : Int) (w : World) (hT : TW w T) (ey : -9223372036854775808 ≤ e ∧ e ≤ 9223372036854775807 ∧ -9223372036854775808 ≤ y ∧ y ≤ 9223372036854775807) {b : Bool} (hb : okU T e y = b) : Calls Tryz.prog 27 #[.agg #[.int .i64 T.first, .int .i64 T.sel, .slice T.P T.N T.C], .agg #[.int .i64 e, .int .i64 y]] w (Gv (.v (.bool b)) w) := by
  subst hb
  cases hl : largeT T 25 8 2
  · rw [show okU T e y = okL T e y by unfold okU; rw [hl]; rfl]
    exact nusable2 T e y w hT ey hl _ rfl
  · rw [show okU T e y = false by unfold okU; rw [hl]; rfl]
    exact nusable1 T e y w hT ey hl
end Go.Proofs.YtndgaecfeaedeaaGreat

namespace Go.Proofs.YtndgaecfeaedeaaGreat
set_option linter.unusedSimpArgs false
set_option linter.unusedVariables false
open Go.RowKit Lex Mth Go.ChangeShapes

section
variable {H : Type} {enc : TypeId × Value → H} {w : World} {base : Nat} {held : Bool}
/-- Nothing that is read takes more than the reach. -/
def WB (t : TypeId) (d : DataW H) : Prop := ∀ n ∈ d.weights Tryz.prog t, n ≤ reachBytes
theorem at_eq (a : Addr) (k : Nat) : at_ (some a) k = a.add k := by unfold at_; rfl

theorem weights_all {e : TypeId} : ∀ {l : List (DataW H)} {d : DataW H}, d ∈ l → ∀ n ∈ d.weights Tryz.prog e, n ∈ DataW.weightsAll Tryz.prog e l
  | x :: l, d, hd, n, hn => by
    simp only [DataW.weightsAll, List.mem_append]
    rcases List.mem_cons.1 hd with rfl | h
    · exact .inl hn
    · exact .inr (weights_all h n hn)
theorem WB.slice {t e : TypeId} {l r : List (DataW H)} (ht : Tryz.prog.underlying t = some (.slice e)) (h : WB t (.slice l r)) : (l.length + r.length) * Tryz.prog.bytesOf e ≤ reachBytes ∧ ∀ d ∈ l, WB e d := by
  unfold WB at h
  simp only [DataW.weights, ht] at h
  exact ⟨h _ (by simp), fun d hd n hn => h n (List.mem_cons_of_mem _ (List.mem_append_left _ (weights_all hd n hn)))⟩

theorem open_u16 {t : TypeId} {fuel : Nat} {cs : List Value} {x : DataW H × List MemPlace} (ht : t = 36) (h : DataW.trod enc Tryz.prog w base (fun _ => true) held fuel t cs = some x) (hw : WB t x.1) : ∃ X : Wh, ∃ l, cs = [.slice X.p X.n X.c] ∧ UW w X l := by
  subst ht
  rcases open_ints Tryz.underlying36 Tryz.underlying153 (by kernel_rfl) h with ⟨rfl, rfl⟩ | ⟨a, len, cap, zs, rfl, _, hl, hm, hz, rfl, hcell, hwz⟩
  · exact ⟨⟨false, none, 0, 0⟩, [], rfl, ⟨rfl, Nat.le_refl _, by simp, by unfold Has; exact .inl rfl, Lim.nil, fun j hj => absurd hj (Nat.not_lt_zero _)⟩⟩
  · have hr := (WB.slice Tryz.underlying36 hw).1
    rw [show Tryz.prog.bytesOf 153 = 2 from by kernel_rfl] at hr
    simp only [lits, List.length_map, List.length_take, List.length_drop, reachBytes] at hr
    simp only [if_true] at hz
    have hu : ∀ z ∈ zs, 0 ≤ z ∧ z ≤ 65535 := fun z hz => by
      have := hwz z hz
      simpa [Lit.wf, IntKind.min, IntKind.max, IntKind.bits, IntKind.signed] using this
    refine ⟨⟨false, some a, len, cap⟩, (zs.take len).map Int.toNat, rfl, ⟨by simp; omega, hl, by simp only; omega, Has.some _ _, ?_, fun j hj => ?_⟩⟩
    · intro y hy
      obtain ⟨z, hz1, rfl⟩ := List.mem_map.1 hy
      have := hu z (List.mem_of_mem_take hz1)
      omega
    · have hj2 : j < zs.length := by simp only at hj; omega
      rw [at_eq, hcell j hj2]
      have h3 := hu _ (List.getElem_mem hj2)
      have e : dig ((zs.take len).map Int.toNat) j = (zs[j]).toNat := by
        simp only at hj
        simp [dig, List.getD_eq_getElem?_getD, hj, hj2]
      rw [e]
      simp only [List.getD_eq_getElem?_getD, List.getElem?_eq_getElem hj2, Option.getD_some, Option.some.injEq, Value.int.injEq, true_and]
      omega

set_option maxRecDepth 100000 in
theorem open_whole {fuel : Nat} {cs : List Value} {x : DataW H × List MemPlace} (h : DataW.trod enc Tryz.prog w base (fun _ => true) held fuel 38 cs = some x) (hw : WB 38 x.1) : ∃ X : Wh, ∃ l, cs = [.bool X.b, .slice X.p X.n X.c] ∧ UW w X l := by
  obtain ⟨y0, y1, n, rfl, hl, h0, h1⟩ := trod_struct2 Tryz.underlying38 h
  rw [show Tryz.prog.cellsOf 38 = 2 from by kernel_rfl] at hl
  match cs, hl with
  | [a, b], _ =>
    rw [show Tryz.prog.cellsOf 4 = 1 from by kernel_rfl] at h0
    rw [show Tryz.prog.cellsOf 36 = 1 from by kernel_rfl] at h1
    simp only [List.drop_succ_cons, List.drop_zero, List.take_succ_cons, List.take_zero] at h0 h1
    obtain ⟨bb, e0, rfl⟩ := DataW.trod_bool Tryz.underlying4 h0
    have hw1 : WB 36 y1.1 := fun m hm => hw m (by
      simp only [DataW.weights, Tryz.underlying38, DataW.weightsEach, List.map_cons, List.map_nil, List.mem_append]
      exact .inr (.inl hm))
    obtain ⟨X, l, e1, hU⟩ := open_u16 rfl h1 hw1
    simp only [List.cons.injEq, and_true] at e0 e1
    subst e0 e1
    exact ⟨⟨bb, X.p, X.n, X.c⟩, l, rfl, hU⟩

set_option maxRecDepth 100000 in
theorem open_frac {fuel : Nat} {cs : List Value} {x : DataW H × List MemPlace} (h : DataW.trod enc Tryz.prog w base (fun _ => true) held fuel 40 cs = some x) (hw : WB 40 x.1) :
    ∃ X : Fr, ∃ l m, cs = [.bool X.N.b, .slice X.N.p X.N.n X.N.c, .bool X.D.b, .slice X.D.p X.D.n X.D.c] ∧ UF w X l m := by
  obtain ⟨y0, y1, n, rfl, hl, h0, h1⟩ := trod_struct2 Tryz.underlying40 h
  rw [show Tryz.prog.cellsOf 40 = 4 from by kernel_rfl] at hl
  match cs, hl with
  | [a, b, c, d], _ =>
    rw [show Tryz.prog.cellsOf 38 = 2 from by kernel_rfl] at h0 h1
    simp only [List.drop_succ_cons, List.drop_zero, List.take_succ_cons, List.take_zero] at h0 h1
    have hw0 : WB 38 y0.1 := fun m hm => hw m (by
      simp only [DataW.weights, Tryz.underlying40, DataW.weightsEach, List.map_cons, List.map_nil, List.mem_append]
      exact .inl hm)
    have hw1 : WB 38 y1.1 := fun m hm => hw m (by
      simp only [DataW.weights, Tryz.underlying40, DataW.weightsEach, List.map_cons, List.map_nil, List.mem_append]
      exact .inr (.inl hm))
    obtain ⟨X, l, e0, hX⟩ := open_whole h0 hw0
    obtain ⟨Y, m, e1, hY⟩ := open_whole h1 hw1
    simp only [List.cons.injEq, and_true] at e0 e1
    obtain ⟨rfl, rfl⟩ := e0
    obtain ⟨rfl, rfl⟩ := e1
    exact ⟨⟨X, Y⟩, l, m, rfl, hX, hY⟩

theorem FA.of {a : Addr} {i : Nat} {X : Fr} (h : w.cells? base (a.add (i * 4)) 4 = some [.bool X.N.b, .slice X.N.p X.N.n X.N.c, .bool X.D.b, .slice X.D.p X.D.n X.D.c]) : FA w (some a) i X := by
  obtain ⟨_, _, hc⟩ := World.cells?_some h
  have g := fun k hk => (Go.Deep.add_add a (i * 4) k) ▸ hc k hk
  exact ⟨by rw [at_eq]; exact g 0 (by omega), by rw [at_eq]; exact g 1 (by omega), by rw [at_eq]; exact g 2 (by omega), by rw [at_eq]; exact g 3 (by omega)⟩

instance : Inhabited Wh := ⟨⟨false, none, 0, 0⟩⟩
instance : Inhabited Fr := ⟨⟨default, default⟩⟩
set_option maxRecDepth 100000 in
theorem open_row {fuel : Nat} {v : Value} {x : DataW H × List MemPlace} (h : DataW.trod enc Tryz.prog w base (fun _ => true) held fuel 47 [v] = some x) (hw : WB 47 x.1) :
    ∃ p n c, ∃ X : Nat → Fr, ∃ l m : Nat → List Nat, v = .slice p n c ∧ FRow w p n c X ∧ ∀ j, j < n → UF w (X j) (l j) (m j) := by
  rcases Go.Deep.open_slice Tryz.underlying47 h with ⟨e, rfl⟩ | ⟨a, len, cap, m, n, D, Pl, e, _, hl, hm, hmm, rfl, hx⟩
  · simp only [List.cons.injEq, and_true] at e
    subst e
    exact ⟨none, 0, 0, default, fun _ => [], fun _ => [], rfl, ⟨by unfold Has; exact .inl rfl, Nat.le_refl _, by omega, fun j hj => absurd hj (Nat.not_lt_zero _)⟩, fun j hj => absurd hj (Nat.not_lt_zero _)⟩
  · simp only [List.cons.injEq, and_true] at e
    subst e
    simp only [if_true] at hmm
    obtain ⟨hr, hel⟩ := WB.slice Tryz.underlying47 hw
    rw [show Tryz.prog.bytesOf 40 = 64 from by kernel_rfl] at hr
    simp only [List.length_map, List.length_range, reachBytes] at hr
    rw [show Tryz.prog.cellsOf 40 = 4 from by kernel_rfl] at hx
    have key : ∀ i, i < len → ∃ q : Fr × List Nat × List Nat, FA w (some a) i q.1 ∧ UF w q.1 q.2.1 q.2.2 := fun i hi => by
      obtain ⟨cs', h1, h2⟩ := hx i (by omega)
      obtain ⟨X, l, m, rfl, hU⟩ := open_frac h2 (hel (D i) (by
        rw [List.mem_map]
        exact ⟨i, List.mem_range.2 hi, rfl⟩))
      exact ⟨(X, l, m), FA.of h1, hU⟩
    obtain ⟨q, hq⟩ := Go.Deep.choose_lt key
    exact ⟨some a, len, cap, fun i => (q i).1, fun i => (q i).2.1, fun i => (q i).2.2, rfl, ⟨Has.some _ _, hl, by omega, fun i hi => (hq i hi).1⟩, fun i hi => (hq i hi).2⟩

set_option maxRecDepth 100000 in
theorem open_table {fuel : Nat} {f s v : Value} {x0 x1 x2 : DataW H × List MemPlace} (h0 : DataW.trod enc Tryz.prog w base (fun _ => true) held fuel 3 [f] = some x0) (h1 : DataW.trod enc Tryz.prog w base (fun _ => true) held fuel 3 [s] = some x1) (h2 : DataW.trod enc Tryz.prog w base (fun _ => true) held fuel 22 [v] = some x2) (hw : WB 22 x2.1) :
    ∃ T : Tb, f = .int .i64 T.first ∧ s = .int .i64 T.sel ∧ v = .slice T.P T.N T.C ∧ TW w T := by
  obtain ⟨n0, e0, _, w0⟩ := DataW.trod_int Tryz.underlying3 h0
  obtain ⟨n1, e1, _, w1⟩ := DataW.trod_int Tryz.underlying3 h1
  simp only [List.cons.injEq, and_true] at e0 e1
  subst e0 e1
  have b0 : -9223372036854775808 ≤ n0 ∧ n0 ≤ 9223372036854775807 := by simpa [Lit.wf, IntKind.min, IntKind.max, IntKind.bits, IntKind.signed] using w0
  have b1 : -9223372036854775808 ≤ n1 ∧ n1 ≤ 9223372036854775807 := by simpa [Lit.wf, IntKind.min, IntKind.max, IntKind.bits, IntKind.signed] using w1
  rcases Go.Deep.open_slice1 Tryz.underlying22 (by kernel_rfl) h2 with ⟨e, rfl⟩ | ⟨a, len, cap, m, n, Vv, D, Pl, e, _, hl, hm, hmm, rfl, hx⟩
  · simp only [List.cons.injEq, and_true] at e
    subst e
    exact ⟨⟨n0, n1, none, 0, 0, fun _ => none, fun _ => 0, fun _ => 0, default, fun _ _ => [], fun _ _ => []⟩, rfl, rfl, rfl, ⟨b0.1, b0.2, b1.1, b1.2, by unfold Has; exact .inl rfl, Nat.le_refl _, by simp, fun k hk => absurd hk (Nat.not_lt_zero _), fun k hk => absurd hk (Nat.not_lt_zero _), fun k hk => absurd hk (Nat.not_lt_zero _)⟩⟩
  · simp only [List.cons.injEq, and_true] at e
    subst e
    simp only [if_true] at hmm
    obtain ⟨hr, hel⟩ := WB.slice Tryz.underlying22 hw
    rw [show Tryz.prog.bytesOf 47 = 24 from by kernel_rfl] at hr
    simp only [List.length_map, List.length_range, reachBytes] at hr
    have key : ∀ i, i < len → ∃ q : (Option Addr × Nat × Nat) × (Nat → Fr) × (Nat → List Nat) × (Nat → List Nat), w.cell? (a.add i) = some (.slice q.1.1 q.1.2.1 q.1.2.2) ∧ FRow w q.1.1 q.1.2.1 q.1.2.2 q.2.1 ∧ ∀ j, j < q.1.2.1 → UF w (q.2.1 j) (q.2.2.1 j) (q.2.2.2 j) := fun i hi => by
      obtain ⟨g1, g2⟩ := hx i (by omega)
      obtain ⟨p, k, c, X, l, m', e, hR, hU⟩ := open_row g2 (hel (D i) (by rw [List.mem_map]; exact ⟨i, List.mem_range.2 hi, rfl⟩))
      exact ⟨((p, k, c), X, l, m'), by rw [g1, e], hR, hU⟩
    obtain ⟨q, hq⟩ := Go.Deep.choose_lt key
    exact ⟨⟨n0, n1, some a, len, cap, fun i => (q i).1.1, fun i => (q i).1.2.1, fun i => (q i).1.2.2, fun i => (q i).2.1, fun i => (q i).2.2.1, fun i => (q i).2.2.2⟩, rfl, rfl, rfl,
      ⟨b0.1, b0.2, b1.1, b1.2, Has.some _ _, hl, by simp only; omega, fun i hi => by rw [at_eq]; exact (hq i hi).1, fun i hi => (hq i hi).2.1, fun i hi => (hq i hi).2.2⟩⟩
end
end Go.Proofs.YtndgaecfeaedeaaGreat

namespace Go.Proofs.YtndgaecfeaedeaaGreat
set_option linter.unusedSimpArgs false
set_option linter.unusedVariables false
open Go.RowKit Lex Mth Go.ChangeShapes Go.WideShapes Go.ChangeAt

theorem own_knob : ownKnob Tryz.prog.godebug = none := by kernel_rfl
theorem laid_out : laidOutB Tryz.prog = true := by kernel_rfl
theorem i64_of {n : Int} (h : (Lit.int .i64 n).wf = true) : -9223372036854775808 ≤ n ∧ n ≤ 9223372036854775807 := by simpa [Lit.wf, IntKind.min, IntKind.max, IntKind.bits, IntKind.signed] using h
theorem u8_of {n : Int} (h : (Lit.int .u8 n).wf = true) : 0 ≤ n ∧ n ≤ 255 := by simpa [Lit.wf, IntKind.min, IntKind.max, IntKind.bits, IntKind.signed] using h

set_option maxRecDepth 100000 in
theorem arg_table {H : Type} {enc : TypeId × Value → H} {W : World} {base : Nat} {v : Value} {d : DataW H} {p : List MemPlace} (hv : Value.okWide Tryz.prog W .any base 24 v) (h : DataW.Trod enc Tryz.prog W 0 (fun _ => true) true 24 v d p) (hw : WB 24 d) :
    ∃ T : Tb, v = .agg #[.int .i64 T.first, .int .i64 T.sel, .slice T.P T.N T.C] ∧ TW W T := by
  obtain ⟨v0, v1, v2, y0, y1, y2, n, rfl, rfl, rfl, h0, h1, h2⟩ := Go.Joins.open_agg3 Tryz.underlying24 (by kernel_rfl) (by kernel_rfl) hv h
  have hw2 : WB 22 y2.1 := fun m hm => hw m (by
    simp only [DataW.weights, Tryz.underlying24, DataW.weightsEach, List.map_cons, List.map_nil, List.mem_append]
    exact .inr (.inr (.inl hm)))
  obtain ⟨T, rfl, rfl, rfl, hT⟩ := open_table h0 h1 h2 hw2
  exact ⟨T, rfl, hT⟩
set_option maxRecDepth 100000 in
theorem arg_life {H : Type} {enc : TypeId × Value → H} {W : World} {base : Nat} {v : Value} {d : DataW H} {p : List MemPlace} (hv : Value.okWide Tryz.prog W .any base 26 v) (h : DataW.Trod enc Tryz.prog W 0 (fun _ => true) true 26 v d p) :
    ∃ e y : Int, v = .agg #[.int .i64 e, .int .i64 y] ∧ -9223372036854775808 ≤ e ∧ e ≤ 9223372036854775807 ∧ -9223372036854775808 ≤ y ∧ y ≤ 9223372036854775807 := by
  obtain ⟨v0, v1, y0, y1, n, rfl, rfl, rfl, h0, h1⟩ := Go.Joins.open_agg2 Tryz.underlying26 (by kernel_rfl) (by kernel_rfl) hv h
  obtain ⟨n0, e0, _, w0⟩ := DataW.trod_int Tryz.underlying3 h0
  obtain ⟨n1, e1, _, w1⟩ := DataW.trod_int Tryz.underlying3 h1
  simp only [List.cons.injEq, and_true] at e0 e1
  subst e0 e1
  exact ⟨n0, n1, rfl, (i64_of w0).1, (i64_of w0).2, (i64_of w1).1, (i64_of w1).2⟩
theorem wb_each {H : Type} {ts : List TypeId} {ds : List (DataW H)} {j : Nat} {t : TypeId} {d : DataW H} (h : (DataW.weightsEach Tryz.prog ts ds).all (· ≤ reachBytes) = true) (ht : ts[j]? = some t) (hd : ds[j]? = some d) : WB t d := fun n hn => by
  have := List.all_eq_true.1 h n (DataW.weights_mem_each ht hd n hn)
  simpa using this
end Go.Proofs.YtndgaecfeaedeaaGreat
