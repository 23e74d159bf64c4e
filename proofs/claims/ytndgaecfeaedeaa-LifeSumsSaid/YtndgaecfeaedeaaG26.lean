/- Walks of the law on lives: usable. The walk of LifeSelect. What is read as data lies in memory as the walks want it: limbs, whole numbers, fractions, rows, tables. No condition: laws on the form's readings. -/
import Derived.SizedLaws
import Derived.Deep.Slices
import Derived.Lib.SmallJoins
import Derived.ProofKit
import Derived.OpenShut
import Derived.ChangeOld
import Derived.Below
import Derived.Test.YtndgaecfeaedeaaG18
import Derived.Test.YtndgaecfeaedeaaG24
import Derived.Test.YtndgaecfeaedeaaG25
namespace Go.Proofs.Ytndgaecfeaedeaa
set_option linter.unusedSimpArgs false
set_option linter.unusedVariables false
open Go.RowKit Lex Mth
attribute [local go_sem] run_indexAt_at add_zero_map Oper.semAt_some at_zero at_add at_mk1 at_mk2 at_mk3

/-- What usable looks at. -/
noncomputable def okU (T : Tb) (e y : Int) : Bool := !largeT T 25 8 2 && okL T e y
theorem okU_l {T : Tb} {e y : Int} (h : okU T e y = true) : okL T e y = true := by unfold okU at h; simp only [Bool.and_eq_true] at h; exact h.2
theorem okU_n {T : Tb} {e y : Int} (h : okU T e y = true) : T.N ≤ 25 := by
  unfold okU at h
  simp only [Bool.and_eq_true, Bool.not_eq_true'] at h
  apply Decidable.byContradiction
  intro hn
  have := largeT_iff (T := T) (r := 25) (wd := 8) (l := 2)
  rw [h.1] at this
  exact absurd (this.2 (.inl (by omega))) (by simp)
theorem nequal_t (X Y : Fr) (x y : Rat) (w : World) (hX : FR w X x) (hY : FR w Y y) (bx : Sz x) (by_ : Sz y) (h : x = y) : Calls Try.prog 13 #[.agg #[.bool X.N.b, .slice X.N.p X.N.n X.N.c, .bool X.D.b, .slice X.D.p X.D.n X.D.c], .agg #[.bool Y.N.b, .slice Y.N.p Y.N.n Y.N.c, .bool Y.D.b, .slice Y.D.p Y.D.n Y.D.c]] w (Gv (.v (.bool true)) w) := by
  have := nequal X Y x y w hX hY bx by_
  rwa [eqQ_iff.2 h] at this
theorem okL_q4 {T : Tb} {e y : Int} (ok : okL T e y = true) : T.first ≤ e ∧ e ≤ T.first + (T.N : Int) - 1 ∧ 0 ≤ y ∧ y ≤ 300 := by
  unfold okL at ok
  simp only [Bool.and_eq_true, decide_eq_true_eq] at ok
  exact ⟨ok.1.1.1.2, ok.1.1.2, ok.1.2, ok.2⟩

theorem nLarge_b (T : Tb) (rows width limbs : Nat) (w : World) (h : TW w T) (hr : rows ≤ 1000) (hw : width ≤ 1000) (hl : limbs ≤ 1000) {b : Bool} (hb : largeT T rows width limbs = b) :
    Calls Try.prog 27 #[.agg #[.int .i64 T.first, .int .i64 T.sel, .slice T.P T.N T.C], .int .i64 (rows : Nat), .int .i64 (width : Nat), .int .i64 (limbs : Nat)] w (Gv (.v (.bool b)) w) := hb ▸ nLarge T rows width limbs w h hr hw hl

set_option maxRecDepth 100000 in
theorem nusable1 (T : Tb) (e y : Int) (w : World) (hT : TW w T) (ey : -9223372036854775808 ≤ e ∧ e ≤ 9223372036854775807 ∧ -9223372036854775808 ≤ y ∧ y ≤ 9223372036854775807) (hl : largeT T 25 8 2 = true) :
    Calls Try.prog 8 #[.agg #[.int .i64 T.first, .int .i64 T.sel, .slice T.P T.N T.C], .agg #[.int .i64 e, .int .i64 y]] w (Gv (.v (.bool false)) w) := by
  have HL := Lib.hid hl
  clear hl
  have hEw : Ext w w := Below.refl _ _
  obtain ⟨w1, hww1⟩ : ∃ W, w.alloc (.cells #[.int .i64 T.first, .int .i64 T.sel, .slice T.P T.N T.C] 24) = W := ⟨_, rfl⟩
  have ew1 : Ext w w1 := by rw [← hww1]; exact ea _ _
  have B1 : Cells w1 (w.heap.size) 24 #[.int .i64 T.first, .int .i64 T.sel, .slice T.P T.N T.C] := by rw [← hww1]; exact Cells.newAt _ _ (by omega)
  have zw1 := alloc_lt hww1
  have hEw1 := eg hEw ew1
  have lB1_w1 := B1.lt
  obtain ⟨w2, hww2⟩ : ∃ W, w1.alloc (.cells #[.int .i64 e, .int .i64 y] 26) = W := ⟨_, rfl⟩
  have ew2 : Ext w1 w2 := by rw [← hww2]; exact ea _ _
  have B2 : Cells w2 (w.heap.size + 1) 26 #[.int .i64 e, .int .i64 y] := by rw [← hww2]; exact Cells.newAt _ _ (by omega)
  replace B1 := B1.ext ew2
  have zw2 := alloc_lt hww2
  have hEw2 := eg hEw1 ew2
  have b1_0_w2 := B1.cell (k := 0) rfl
  have b1_1_w2 := B1.cell (k := 1) rfl
  have b1_2_w2 := B1.cell (k := 2) rfl
  have lB1_w2 := B1.lt
  have lB2_w2 := B2.lt
  go_enter Try.func8, Try.ntmps8
  go_wp2_with fail
  clear hww1
  clear hww2
  clear lB1_w1
  have yw1 := Nat.le_of_eq zw1
  replace zw1 := Nat.le_of_eq zw1.symm
  have yw2 := Nat.le_of_eq zw2
  replace zw2 := Nat.le_of_eq zw2.symm
  refine (nLarge_b T 25 8 2 _ (hT.ext hEw2) (by decide) (by decide) (by decide) HL.out).mono ?_
  intro ee w3 gg
  obtain ⟨rfl, ew3⟩ := Gv.v gg
  replace B1 := B1.ext ew3
  replace B2 := B2.ext ew3
  have hEw3 := eg hEw2 ew3
  have zw3 := ew3.size
  have lB1_w3 := B1.lt
  have lB2_w3 := B2.lt
  go_wp2_with fail
  clear b1_0_w2 b1_1_w2 b1_2_w2 lB1_w2 lB2_w2
  refine bodyPost_ret (v := .bool false) (by simp [results, Try.results8, go_sem]) rfl ?_
  exact Gv.of_v hEw3

set_option maxRecDepth 100000 in
theorem nusable2 (T : Tb) (e y : Int) (w : World) (hT : TW w T) (ey : -9223372036854775808 ≤ e ∧ e ≤ 9223372036854775807 ∧ -9223372036854775808 ≤ y ∧ y ≤ 9223372036854775807) (hl : largeT T 25 8 2 = false) (b : Bool) (hr : okL T e y = b) :
    Calls Try.prog 8 #[.agg #[.int .i64 T.first, .int .i64 T.sel, .slice T.P T.N T.C], .agg #[.int .i64 e, .int .i64 y]] w (Gv (.v (.bool b)) w) := by
  have HL := Lib.hid hl
  clear hl
  have HR := Lib.hid hr
  clear hr
  have hEw : Ext w w := Below.refl _ _
  obtain ⟨w1, hww1⟩ : ∃ W, w.alloc (.cells #[.int .i64 T.first, .int .i64 T.sel, .slice T.P T.N T.C] 24) = W := ⟨_, rfl⟩
  have ew1 : Ext w w1 := by rw [← hww1]; exact ea _ _
  have B1 : Cells w1 (w.heap.size) 24 #[.int .i64 T.first, .int .i64 T.sel, .slice T.P T.N T.C] := by rw [← hww1]; exact Cells.newAt _ _ (by omega)
  have zw1 := alloc_lt hww1
  have hEw1 := eg hEw ew1
  have lB1_w1 := B1.lt
  obtain ⟨w2, hww2⟩ : ∃ W, w1.alloc (.cells #[.int .i64 e, .int .i64 y] 26) = W := ⟨_, rfl⟩
  have ew2 : Ext w1 w2 := by rw [← hww2]; exact ea _ _
  have B2 : Cells w2 (w.heap.size + 1) 26 #[.int .i64 e, .int .i64 y] := by rw [← hww2]; exact Cells.newAt _ _ (by omega)
  replace B1 := B1.ext ew2
  have zw2 := alloc_lt hww2
  have hEw2 := eg hEw1 ew2
  have b1_0_w2 := B1.cell (k := 0) rfl
  have b1_1_w2 := B1.cell (k := 1) rfl
  have b1_2_w2 := B1.cell (k := 2) rfl
  have lB1_w2 := B1.lt
  have lB2_w2 := B2.lt
  go_enter Try.func8, Try.ntmps8
  go_wp2_with fail
  clear hww1
  clear hww2
  clear lB1_w1
  have yw1 := Nat.le_of_eq zw1
  replace zw1 := Nat.le_of_eq zw1.symm
  have yw2 := Nat.le_of_eq zw2
  replace zw2 := Nat.le_of_eq zw2.symm
  refine (nLarge_b T 25 8 2 _ (hT.ext hEw2) (by decide) (by decide) (by decide) HL.out).mono ?_
  intro ee w3 gg
  obtain ⟨rfl, ew3⟩ := Gv.v gg
  replace B1 := B1.ext ew3
  replace B2 := B2.ext ew3
  have hEw3 := eg hEw2 ew3
  have zw3 := ew3.size
  have b1_0_w3 := B1.cell (k := 0) rfl
  have b1_1_w3 := B1.cell (k := 1) rfl
  have b1_2_w3 := B1.cell (k := 2) rfl
  have b2_0_w3 := B2.cell (k := 0) rfl
  have b2_1_w3 := B2.cell (k := 1) rfl
  have lB1_w3 := B1.lt
  have lB2_w3 := B2.lt
  go_wp2_with fail
  clear b1_0_w2 b1_1_w2 b1_2_w2 lB1_w2 lB2_w2
  refine (lRight T e y _ (hT.ext hEw3) ey HR.out).mono ?_
  intro ee w4 gg
  obtain ⟨rfl, ew4⟩ := Gv.v gg
  replace B1 := B1.ext ew4
  replace B2 := B2.ext ew4
  have hEw4 := eg hEw3 ew4
  have zw4 := ew4.size
  have lB1_w4 := B1.lt
  have lB2_w4 := B2.lt
  go_wp2_with fail
  clear b1_0_w3 b1_1_w3 b1_2_w3 b2_0_w3 b2_1_w3 lB1_w3 lB2_w3
  refine bodyPost_ret (v := .bool b) (by simp [results, Try.results8, go_sem]) rfl ?_
  exact Gv.of_v hEw4

theorem nusable (T : Tb) (e y : Int) (w : World) (hT : TW w T) (ey : -9223372036854775808 ≤ e ∧ e ≤ 9223372036854775807 ∧ -9223372036854775808 ≤ y ∧ y ≤ 9223372036854775807) {b : Bool} (hb : okU T e y = b) : Calls Try.prog 8 #[.agg #[.int .i64 T.first, .int .i64 T.sel, .slice T.P T.N T.C], .agg #[.int .i64 e, .int .i64 y]] w (Gv (.v (.bool b)) w) := by
  subst hb
  cases hl : largeT T 25 8 2
  · rw [show okU T e y = okL T e y by unfold okU; rw [hl]; rfl]
    exact nusable2 T e y w hT ey hl _ rfl
  · rw [show okU T e y = false by unfold okU; rw [hl]; rfl]
    exact nusable1 T e y w hT ey hl
end Go.Proofs.Ytndgaecfeaedeaa

namespace Go.Proofs.Ytndgaecfeaedeaa
set_option linter.unusedSimpArgs false
set_option linter.unusedVariables false
open Go.RowKit Lex Mth
attribute [local go_sem] run_indexAt_at add_zero_map Oper.semAt_some at_zero at_add at_mk1 at_mk2 at_mk3

set_option maxRecDepth 100000 in
theorem nSelect0 (T : Tb) (e y : Int) (b : Int) (w : World) (hT : TW w T) (ey : -9223372036854775808 ≤ e ∧ e ≤ 9223372036854775807 ∧ -9223372036854775808 ≤ y ∧ y ≤ 9223372036854775807) (hu : okU T e y = false) :
    Calls Try.prog 5 #[.agg #[.int .i64 T.first, .int .i64 T.sel, .slice T.P T.N T.C], .agg #[.int .i64 e, .int .i64 y], .int .u8 b] w (Gv (.v (.bool true)) w) := by
  have HU := Lib.hid hu
  clear hu
  have hEw : Ext w w := Below.refl _ _
  obtain ⟨w1, hww1⟩ : ∃ W, w.alloc (.cells #[.int .i64 T.first, .int .i64 T.sel, .slice T.P T.N T.C] 24) = W := ⟨_, rfl⟩
  have ew1 : Ext w w1 := by rw [← hww1]; exact ea _ _
  have B1 : Cells w1 (w.heap.size) 24 #[.int .i64 T.first, .int .i64 T.sel, .slice T.P T.N T.C] := by rw [← hww1]; exact Cells.newAt _ _ (by omega)
  have zw1 := alloc_lt hww1
  have hEw1 := eg hEw ew1
  have lB1_w1 := B1.lt
  obtain ⟨w2, hww2⟩ : ∃ W, w1.alloc (.cells #[.int .i64 e, .int .i64 y] 26) = W := ⟨_, rfl⟩
  have ew2 : Ext w1 w2 := by rw [← hww2]; exact ea _ _
  have B2 : Cells w2 (w.heap.size + 1) 26 #[.int .i64 e, .int .i64 y] := by rw [← hww2]; exact Cells.newAt _ _ (by omega)
  replace B1 := B1.ext ew2
  have zw2 := alloc_lt hww2
  have hEw2 := eg hEw1 ew2
  have lB1_w2 := B1.lt
  have lB2_w2 := B2.lt
  go_enter Try.func5, Try.ntmps5
  go_wp2_with fail
  clear hww1
  clear hww2
  clear lB1_w1
  have yw1 := Nat.le_of_eq zw1
  replace zw1 := Nat.le_of_eq zw1.symm
  have yw2 := Nat.le_of_eq zw2
  replace zw2 := Nat.le_of_eq zw2.symm
  refine (nawake  _).mono ?_
  intro ee w3 gg
  obtain ⟨rfl, ew3⟩ := Gv.v gg
  replace B1 := B1.ext ew3
  replace B2 := B2.ext ew3
  have hEw3 := eg hEw2 ew3
  have zw3 := ew3.size
  have b1_0_w3 := B1.cell (k := 0) rfl
  have b1_1_w3 := B1.cell (k := 1) rfl
  have b1_2_w3 := B1.cell (k := 2) rfl
  have b2_0_w3 := B2.cell (k := 0) rfl
  have b2_1_w3 := B2.cell (k := 1) rfl
  have lB1_w3 := B1.lt
  have lB2_w3 := B2.lt
  go_wp2_with fail
  clear lB1_w2 lB2_w2
  refine (nusable T e y _ (hT.ext hEw3) ey HU.out).mono ?_
  intro ee w4 gg
  obtain ⟨rfl, ew4⟩ := Gv.v gg
  replace B1 := B1.ext ew4
  replace B2 := B2.ext ew4
  have hEw4 := eg hEw3 ew4
  have zw4 := ew4.size
  have lB1_w4 := B1.lt
  have lB2_w4 := B2.lt
  go_wp2_with fail
  clear b1_0_w3 b1_1_w3 b1_2_w3 b2_0_w3 b2_1_w3 lB1_w3 lB2_w3
  refine bodyPost_ret (v := .bool true) (by simp [results, Try.results5, go_sem]) rfl ?_
  exact Gv.of_v hEw4

set_option maxRecDepth 100000 in
theorem nSelectA (T : Tb) (R : Nat → Nat → Rat) (e y : Int) (b : Int) (w : World) (hT : TQ w T R) (ey : -9223372036854775808 ≤ e ∧ e ≤ 9223372036854775807 ∧ -9223372036854775808 ≤ y ∧ y ≤ 9223372036854775807) (hu : okU T e y = true) (hb0 : 0 ≤ b) (hb1 : b ≤ 255) (hA : T.first + (T.N : Int) - 1 < e + y) :
    Calls Try.prog 5 #[.agg #[.int .i64 T.first, .int .i64 T.sel, .slice T.P T.N T.C], .agg #[.int .i64 e, .int .i64 y], .int .u8 b] w (Gv (.v (.bool true)) w) := by
  have hW := hT.tw
  have Hok := Lib.hid (okU_l hu)
  obtain ⟨q1, q2, q3, q4⟩ := okL_q4 (okU_l hu)
  obtain ⟨b1, b2, b3, b4, b5, b6⟩ := id hT.b
  have HU := Lib.hid hu
  clear hu
  have HS : Hid (Sz (rt T R e y)) := (sz_rt hT q1 q2 q3).1
  have hEw : Ext w w := Below.refl _ _
  obtain ⟨w1, hww1⟩ : ∃ W, w.alloc (.cells #[.int .i64 T.first, .int .i64 T.sel, .slice T.P T.N T.C] 24) = W := ⟨_, rfl⟩
  have ew1 : Ext w w1 := by rw [← hww1]; exact ea _ _
  have B1 : Cells w1 (w.heap.size) 24 #[.int .i64 T.first, .int .i64 T.sel, .slice T.P T.N T.C] := by rw [← hww1]; exact Cells.newAt _ _ (by omega)
  have zw1 := alloc_lt hww1
  have hEw1 := eg hEw ew1
  have lB1_w1 := B1.lt
  obtain ⟨w2, hww2⟩ : ∃ W, w1.alloc (.cells #[.int .i64 e, .int .i64 y] 26) = W := ⟨_, rfl⟩
  have ew2 : Ext w1 w2 := by rw [← hww2]; exact ea _ _
  have B2 : Cells w2 (w.heap.size + 1) 26 #[.int .i64 e, .int .i64 y] := by rw [← hww2]; exact Cells.newAt _ _ (by omega)
  replace B1 := B1.ext ew2
  have zw2 := alloc_lt hww2
  have hEw2 := eg hEw1 ew2
  have lB1_w2 := B1.lt
  have lB2_w2 := B2.lt
  go_enter Try.func5, Try.ntmps5
  go_wp2_with fail
  clear hww1
  clear hww2
  clear lB1_w1
  have yw1 := Nat.le_of_eq zw1
  replace zw1 := Nat.le_of_eq zw1.symm
  have yw2 := Nat.le_of_eq zw2
  replace zw2 := Nat.le_of_eq zw2.symm
  refine (nawake  _).mono ?_
  intro ee w3 gg
  obtain ⟨rfl, ew3⟩ := Gv.v gg
  replace B1 := B1.ext ew3
  replace B2 := B2.ext ew3
  have hEw3 := eg hEw2 ew3
  have zw3 := ew3.size
  have b1_0_w3 := B1.cell (k := 0) rfl
  have b1_1_w3 := B1.cell (k := 1) rfl
  have b1_2_w3 := B1.cell (k := 2) rfl
  have b2_0_w3 := B2.cell (k := 0) rfl
  have b2_1_w3 := B2.cell (k := 1) rfl
  have lB1_w3 := B1.lt
  have lB2_w3 := B2.lt
  go_wp2_with fail
  clear lB1_w2 lB2_w2
  refine (nusable T e y _ (hW.ext hEw3) ey HU.out).mono ?_
  intro ee w4 gg
  obtain ⟨rfl, ew4⟩ := Gv.v gg
  replace B1 := B1.ext ew4
  replace B2 := B2.ext ew4
  have hEw4 := eg hEw3 ew4
  have zw4 := ew4.size
  have b1_0_w4 := B1.cell (k := 0) rfl
  have b1_1_w4 := B1.cell (k := 1) rfl
  have b1_2_w4 := B1.cell (k := 2) rfl
  have b2_0_w4 := B2.cell (k := 0) rfl
  have b2_1_w4 := B2.cell (k := 1) rfl
  have lB1_w4 := B1.lt
  have lB2_w4 := B2.lt
  go_wp2_with fail
  clear b1_0_w3 b1_1_w3 b1_2_w3 b2_0_w3 b2_1_w3 lB1_w3 lB2_w3
  refine (lRate T R e y _ (hT.ext hEw4) Hok.out).mono ?_
  intro ee w5 gg
  obtain ⟨Z22, rfl, hZ22, oZ22, ew5⟩ := Gv.fe gg
  replace B1 := B1.ext ew5
  replace B2 := B2.ext ew5
  have hEw5 := eg hEw4 ew5
  have zw5 := ew5.size
  replace oZ22 := oZ22.mono hEw4.size
  have lB1_w5 := B1.lt
  have lB2_w5 := B2.lt
  obtain ⟨w6, hww6⟩ : ∃ W, w5.alloc (.cells #[.bool Z22.N.b, .slice Z22.N.p Z22.N.n Z22.N.c, .bool Z22.D.b, .slice Z22.D.p Z22.D.n Z22.D.c] 33) = W := ⟨_, rfl⟩
  have ew6 : Ext w5 w6 := by rw [← hww6]; exact ea _ _
  have B3 : Cells w6 (w5.heap.size) 33 #[.bool Z22.N.b, .slice Z22.N.p Z22.N.n Z22.N.c, .bool Z22.D.b, .slice Z22.D.p Z22.D.n Z22.D.c] := by rw [← hww6]; exact Cells.newAt _ _ (by omega)
  replace hZ22 := hZ22.ext ew6
  replace oZ22 := oZ22.ext ew6
  replace B1 := B1.ext ew6
  replace B2 := B2.ext ew6
  have zw6 := alloc_lt hww6
  have hEw6 := eg hEw5 ew6
  have b1_0_w6 := B1.cell (k := 0) rfl
  have b1_2_w6 := B1.cell (k := 2) rfl
  have b2_0_w6 := B2.cell (k := 0) rfl
  have b2_1_w6 := B2.cell (k := 1) rfl
  have lB1_w6 := B1.lt
  have lB2_w6 := B2.lt
  have lB3_w6 := B3.lt
  obtain ⟨w7, hww7⟩ : ∃ W, w6.alloc (.cells #[.int .i64 (e + b), .int .i64 (y - b)] 26) = W := ⟨_, rfl⟩
  have ew7 : Ext w6 w7 := by rw [← hww7]; exact ea _ _
  have B4 : Cells w7 (w5.heap.size + 1) 26 #[.int .i64 (e + b), .int .i64 (y - b)] := by rw [← hww7]; exact Cells.newAt _ _ (by omega)
  replace hZ22 := hZ22.ext ew7
  replace oZ22 := oZ22.ext ew7
  replace B1 := B1.ext ew7
  replace B2 := B2.ext ew7
  replace B3 := B3.ext ew7
  have zw7 := alloc_lt hww7
  have hEw7 := eg hEw6 ew7
  have b2_0_w7 := B2.cell (k := 0) rfl
  have b2_1_w7 := B2.cell (k := 1) rfl
  have b3_0_w7 := B3.cell (k := 0) rfl
  have b3_1_w7 := B3.cell (k := 1) rfl
  have b3_2_w7 := B3.cell (k := 2) rfl
  have b3_3_w7 := B3.cell (k := 3) rfl
  have lB1_w7 := B1.lt
  have lB2_w7 := B2.lt
  have lB3_w7 := B3.lt
  have lB4_w7 := B4.lt
  go_wp2_with fail
  clear hww6
  clear hww7
  clear b1_0_w4 b1_1_w4 b1_2_w4 b2_0_w4 b2_1_w4 b1_0_w6 b1_2_w6 b2_0_w6 b2_1_w6 lB1_w4 lB2_w4 lB1_w5 lB2_w5 lB1_w6 lB2_w6 lB3_w6
  have yw6 := Nat.le_of_eq zw6
  replace zw6 := Nat.le_of_eq zw6.symm
  have yw7 := Nat.le_of_eq zw7
  replace zw7 := Nat.le_of_eq zw7.symm
  refine regionT 3 (fun k => match k with | 1 => some (.f (1)) | 2 => some (.v (.bool true)) | _ => none) (by kernel_rfl) (by kernel_rfl) ?_
  refine Walk.one (x := ?_) rfl rfl (fun w1 hI hL K hK => ?_) ?_
  rotate_left
  · obtain ⟨hc, hf⟩ := bcell hI
    go_simp
    repeat (first | (go_ints; try go_simp) | (simp only [↓IntWalk.iteOmega]; try go_simp))
    exact hK
  simp only [Act.put, List.setIfInBounds_toArray, List.set_cons_zero, List.set_cons_succ]
  refine Walk.tell rfl rfl (fun w1 hI hL K hK => ?_) ?_
  · go_simp
    exact (fFromInt_1 w1).mono (tell hK)
  rintro _ ⟨Z53, rfl⟩
  simp only [Act.put, List.setIfInBounds_toArray, List.set_cons_zero, List.set_cons_succ]
  refine Walk.tell rfl rfl (fun w1 hI hL K hK => ?_) ?_
  · go_simp
    exact (nequal_t Z22 Z53 _ _ w1 ((hZ22).ext hI) ((Tl.getF (kn (i := 1) (v := .agg #[.bool Z53.N.b, .slice Z53.N.p Z53.N.n Z53.N.c, .bool Z53.D.b, .slice Z53.D.p Z53.D.n Z53.D.c]) rfl (by simp) (by kernel_rfl) hL)).1) HS.out sz_one (by unfold rt; rw [if_pos (by omega)])).mono (tell hK)
  rintro _ rfl
  simp only [Act.put, List.setIfInBounds_toArray, List.set_cons_zero, List.set_cons_succ]
  refine Walk.nilF fun w8 ew8 kzL kzX => ?_
  replace hZ22 := hZ22.ext ew8
  replace oZ22 := oZ22.ext ew8
  replace B1 := B1.ext ew8
  replace B2 := B2.ext ew8
  replace B3 := B3.ext ew8
  replace B4 := B4.ext ew8
  have hEw8 := eg hEw7 ew8
  have zw8 := ew8.size
  obtain ⟨hZ53, oZ53⟩ := Tl.getF (kz (i := 1) (v := .agg #[.bool Z53.N.b, .slice Z53.N.p Z53.N.n Z53.N.c, .bool Z53.D.b, .slice Z53.D.p Z53.D.n Z53.D.c]) rfl (by simp) kzL)
  replace oZ53 := oZ53.mono hEw7.size
  clear kzL kzX
  have lB1_w8 := B1.lt
  have lB2_w8 := B2.lt
  have lB3_w8 := B3.lt
  have lB4_w8 := B4.lt
  simp only [List.drop_succ_cons, List.drop_zero, List.drop_nil]
  go_wp2_with fail
  clear b2_0_w7 b2_1_w7 b3_0_w7 b3_1_w7 b3_2_w7 b3_3_w7 lB1_w7 lB2_w7 lB3_w7 lB4_w7
  refine bodyPost_ret (v := .bool true) (by simp [results, Try.results5, go_sem]) rfl ?_
  exact Gv.of_v hEw8

set_option maxRecDepth 100000 in
theorem nSelectB (T : Tb) (R : Nat → Nat → Rat) (e y : Int) (b : Int) (w : World) (hT : TQ w T R) (ey : -9223372036854775808 ≤ e ∧ e ≤ 9223372036854775807 ∧ -9223372036854775808 ≤ y ∧ y ≤ 9223372036854775807) (hu : okU T e y = true) (hb0 : 0 ≤ b) (hb1 : b ≤ 255) (hA : e + y ≤ T.first + (T.N : Int) - 1) (hB : y < T.sel) :
    Calls Try.prog 5 #[.agg #[.int .i64 T.first, .int .i64 T.sel, .slice T.P T.N T.C], .agg #[.int .i64 e, .int .i64 y], .int .u8 b] w (Gv (.v (.bool true)) w) := by
  have hW := hT.tw
  have Hok := Lib.hid (okU_l hu)
  obtain ⟨q1, q2, q3, q4⟩ := okL_q4 (okU_l hu)
  obtain ⟨b1, b2, b3, b4, b5, b6⟩ := id hT.b
  have HU := Lib.hid hu
  clear hu
  have HS : Hid (Sz (rt T R e y)) := (sz_rt hT q1 q2 q3).1
  obtain ⟨Q, hQ, faQ, hsl, hh1, hh2, hjl⟩ := hT.look (k := (e - T.first).toNat) (j := y.toNat) (by omega) (by omega)
  have HQS : Hid (Sz (R (e - T.first).toNat y.toNat)) := (hT.sz _ (by omega) _ hjl).1
  obtain ⟨q, hq⟩ : ∃ q, q = R (e - T.first).toNat y.toNat := ⟨_, rfl⟩
  rw [← hq] at hQ HQS
  have Hq : Hid (rt T R e y = q) := by rw [hq]; unfold Hid rt; rw [if_neg (by omega), if_pos (by omega)]
  have hjl2 : y < (T.rn (e - T.first).toNat : Int) := by omega
  clear hq
  have hwr : IntKind.i64.wrap (e - T.first) = e - T.first := by simp [IntKind.wrap, IntKind.bits, IntKind.signed]; omega
  have hEw : Ext w w := Below.refl _ _
  obtain ⟨w1, hww1⟩ : ∃ W, w.alloc (.cells #[.int .i64 T.first, .int .i64 T.sel, .slice T.P T.N T.C] 24) = W := ⟨_, rfl⟩
  have ew1 : Ext w w1 := by rw [← hww1]; exact ea _ _
  have B1 : Cells w1 (w.heap.size) 24 #[.int .i64 T.first, .int .i64 T.sel, .slice T.P T.N T.C] := by rw [← hww1]; exact Cells.newAt _ _ (by omega)
  have zw1 := alloc_lt hww1
  have hEw1 := eg hEw ew1
  have lB1_w1 := B1.lt
  obtain ⟨w2, hww2⟩ : ∃ W, w1.alloc (.cells #[.int .i64 e, .int .i64 y] 26) = W := ⟨_, rfl⟩
  have ew2 : Ext w1 w2 := by rw [← hww2]; exact ea _ _
  have B2 : Cells w2 (w.heap.size + 1) 26 #[.int .i64 e, .int .i64 y] := by rw [← hww2]; exact Cells.newAt _ _ (by omega)
  replace B1 := B1.ext ew2
  have zw2 := alloc_lt hww2
  have hEw2 := eg hEw1 ew2
  have lB1_w2 := B1.lt
  have lB2_w2 := B2.lt
  go_enter Try.func5, Try.ntmps5
  go_wp2_with fail
  clear hww1
  clear hww2
  clear lB1_w1
  have yw1 := Nat.le_of_eq zw1
  replace zw1 := Nat.le_of_eq zw1.symm
  have yw2 := Nat.le_of_eq zw2
  replace zw2 := Nat.le_of_eq zw2.symm
  refine (nawake  _).mono ?_
  intro ee w3 gg
  obtain ⟨rfl, ew3⟩ := Gv.v gg
  replace B1 := B1.ext ew3
  replace B2 := B2.ext ew3
  have hEw3 := eg hEw2 ew3
  have zw3 := ew3.size
  have b1_0_w3 := B1.cell (k := 0) rfl
  have b1_1_w3 := B1.cell (k := 1) rfl
  have b1_2_w3 := B1.cell (k := 2) rfl
  have b2_0_w3 := B2.cell (k := 0) rfl
  have b2_1_w3 := B2.cell (k := 1) rfl
  have lB1_w3 := B1.lt
  have lB2_w3 := B2.lt
  go_wp2_with fail
  clear lB1_w2 lB2_w2
  refine (nusable T e y _ (hW.ext hEw3) ey HU.out).mono ?_
  intro ee w4 gg
  obtain ⟨rfl, ew4⟩ := Gv.v gg
  replace B1 := B1.ext ew4
  replace B2 := B2.ext ew4
  have hEw4 := eg hEw3 ew4
  have zw4 := ew4.size
  have b1_0_w4 := B1.cell (k := 0) rfl
  have b1_1_w4 := B1.cell (k := 1) rfl
  have b1_2_w4 := B1.cell (k := 2) rfl
  have b2_0_w4 := B2.cell (k := 0) rfl
  have b2_1_w4 := B2.cell (k := 1) rfl
  have lB1_w4 := B1.lt
  have lB2_w4 := B2.lt
  go_wp2_with fail
  clear b1_0_w3 b1_1_w3 b1_2_w3 b2_0_w3 b2_1_w3 lB1_w3 lB2_w3
  refine (lRate T R e y _ (hT.ext hEw4) Hok.out).mono ?_
  intro ee w5 gg
  obtain ⟨Z22, rfl, hZ22, oZ22, ew5⟩ := Gv.fe gg
  replace B1 := B1.ext ew5
  replace B2 := B2.ext ew5
  have hEw5 := eg hEw4 ew5
  have zw5 := ew5.size
  replace oZ22 := oZ22.mono hEw4.size
  have lB1_w5 := B1.lt
  have lB2_w5 := B2.lt
  obtain ⟨w6, hww6⟩ : ∃ W, w5.alloc (.cells #[.bool Z22.N.b, .slice Z22.N.p Z22.N.n Z22.N.c, .bool Z22.D.b, .slice Z22.D.p Z22.D.n Z22.D.c] 33) = W := ⟨_, rfl⟩
  have ew6 : Ext w5 w6 := by rw [← hww6]; exact ea _ _
  have B3 : Cells w6 (w5.heap.size) 33 #[.bool Z22.N.b, .slice Z22.N.p Z22.N.n Z22.N.c, .bool Z22.D.b, .slice Z22.D.p Z22.D.n Z22.D.c] := by rw [← hww6]; exact Cells.newAt _ _ (by omega)
  replace hZ22 := hZ22.ext ew6
  replace oZ22 := oZ22.ext ew6
  replace B1 := B1.ext ew6
  replace B2 := B2.ext ew6
  have zw6 := alloc_lt hww6
  have hEw6 := eg hEw5 ew6
  have b1_0_w6 := B1.cell (k := 0) rfl
  have b1_2_w6 := B1.cell (k := 2) rfl
  have b2_0_w6 := B2.cell (k := 0) rfl
  have b2_1_w6 := B2.cell (k := 1) rfl
  have lB1_w6 := B1.lt
  have lB2_w6 := B2.lt
  have lB3_w6 := B3.lt
  obtain ⟨w7, hww7⟩ : ∃ W, w6.alloc (.cells #[.int .i64 (e + b), .int .i64 (y - b)] 26) = W := ⟨_, rfl⟩
  have ew7 : Ext w6 w7 := by rw [← hww7]; exact ea _ _
  have B4 : Cells w7 (w5.heap.size + 1) 26 #[.int .i64 (e + b), .int .i64 (y - b)] := by rw [← hww7]; exact Cells.newAt _ _ (by omega)
  replace hZ22 := hZ22.ext ew7
  replace oZ22 := oZ22.ext ew7
  replace B1 := B1.ext ew7
  replace B2 := B2.ext ew7
  replace B3 := B3.ext ew7
  have zw7 := alloc_lt hww7
  have hEw7 := eg hEw6 ew7
  have b2_0_w7 := B2.cell (k := 0) rfl
  have b2_1_w7 := B2.cell (k := 1) rfl
  have b1_1_w7 := B1.cell (k := 1) rfl
  have b3_0_w7 := B3.cell (k := 0) rfl
  have b3_1_w7 := B3.cell (k := 1) rfl
  have b3_2_w7 := B3.cell (k := 2) rfl
  have b3_3_w7 := B3.cell (k := 3) rfl
  have b1_2_w7 := B1.cell (k := 2) rfl
  have b1_0_w7 := B1.cell (k := 0) rfl
  have lB1_w7 := B1.lt
  have lB2_w7 := B2.lt
  have lB3_w7 := B3.lt
  have lB4_w7 := B4.lt
  go_wp2_with fail
  clear hww6
  clear hww7
  clear b1_0_w4 b1_1_w4 b1_2_w4 b2_0_w4 b2_1_w4 b1_0_w6 b1_2_w6 b2_0_w6 b2_1_w6 lB1_w4 lB2_w4 lB1_w5 lB2_w5 lB1_w6 lB2_w6 lB3_w6
  have yw6 := Nat.le_of_eq zw6
  replace zw6 := Nat.le_of_eq zw6.symm
  have yw7 := Nat.le_of_eq zw7
  replace zw7 := Nat.le_of_eq zw7.symm
  refine regionT 15 (fun k => match k with | 14 => some (.v (.bool true)) | _ => none) (by kernel_rfl) (by kernel_rfl) ?_
  iterate 9
    refine Walk.one (x := ?_) rfl rfl (fun w1 hI hL K hK => ?_) ?_
    rotate_left
    · obtain ⟨hc, hf⟩ := bcell hI
      go_simp
      repeat (first | (go_ints; try go_simp) | (simp only [↓IntWalk.iteOmega]; try go_simp))
      exact hK
    simp only [Act.put, List.setIfInBounds_toArray, List.set_cons_zero, List.set_cons_succ]
  refine Walk.one (x := ?_) rfl rfl (fun w1 hI hL K hK => ?_) ?_
  rotate_left
  · have x0 := cell_ext (eg hEw7 hI) hsl
    go_simp
    repeat (first | (go_ints; try go_simp) | (simp only [↓IntWalk.iteOmega]; try go_simp))
    exact hK
  simp only [Act.put, List.setIfInBounds_toArray, List.set_cons_zero, List.set_cons_succ]
  iterate 3
    refine Walk.one (x := ?_) rfl rfl (fun w1 hI hL K hK => ?_) ?_
    rotate_left
    · obtain ⟨hc, hf⟩ := bcell hI
      go_simp
      repeat (first | (go_ints; try go_simp) | (simp only [↓IntWalk.iteOmega]; try go_simp))
      exact hK
    simp only [Act.put, List.setIfInBounds_toArray, List.set_cons_zero, List.set_cons_succ]
  refine Walk.one (x := ?_) rfl rfl (fun w1 hI hL K hK => ?_) ?_
  rotate_left
  · have x1 := faQ.ext (eg hEw7 hI)
    have y0 := x1.c0
    have y1 := x1.c1
    have y2 := x1.c2
    have y3 := x1.c3
    go_simp
    repeat (first | (go_ints; try go_simp) | (simp only [↓IntWalk.iteOmega]; try go_simp))
    exact hK
  simp only [Act.put, List.setIfInBounds_toArray, List.set_cons_zero, List.set_cons_succ]
  refine Walk.tell rfl rfl (fun w1 hI hL K hK => ?_) ?_
  · go_simp
    exact (nequal_t Z22 Q _ _ w1 ((hZ22).ext hI) (hQ.ext (eg hEw7 hI)) HS.out HQS.out Hq.out).mono (tell hK)
  rintro _ rfl
  simp only [Act.put, List.setIfInBounds_toArray, List.set_cons_zero, List.set_cons_succ]
  refine Walk.nilF fun w8 ew8 kzL kzX => ?_
  replace hZ22 := hZ22.ext ew8
  replace oZ22 := oZ22.ext ew8
  replace B1 := B1.ext ew8
  replace B2 := B2.ext ew8
  replace B3 := B3.ext ew8
  replace B4 := B4.ext ew8
  have hEw8 := eg hEw7 ew8
  have zw8 := ew8.size
  clear kzL kzX
  have lB1_w8 := B1.lt
  have lB2_w8 := B2.lt
  have lB3_w8 := B3.lt
  have lB4_w8 := B4.lt
  simp only [List.drop_succ_cons, List.drop_zero, List.drop_nil]
  go_wp2_with fail
  clear b2_0_w7 b2_1_w7 b1_1_w7 b3_0_w7 b3_1_w7 b3_2_w7 b3_3_w7 b1_2_w7 b1_0_w7 lB1_w7 lB2_w7 lB3_w7 lB4_w7
  refine bodyPost_ret (v := .bool true) (by simp [results, Try.results5, go_sem]) rfl ?_
  exact Gv.of_v hEw8

set_option maxRecDepth 100000 in
theorem nSelectC (T : Tb) (R : Nat → Nat → Rat) (e y : Int) (b : Int) (w : World) (hT : TQ w T R) (ey : -9223372036854775808 ≤ e ∧ e ≤ 9223372036854775807 ∧ -9223372036854775808 ≤ y ∧ y ≤ 9223372036854775807) (hu : okU T e y = true) (hb0 : 0 ≤ b) (hb1 : b ≤ 255) (hA : e + y ≤ T.first + (T.N : Int) - 1) (hB : T.sel ≤ y) (hC : y - b < T.sel) :
    Calls Try.prog 5 #[.agg #[.int .i64 T.first, .int .i64 T.sel, .slice T.P T.N T.C], .agg #[.int .i64 e, .int .i64 y], .int .u8 b] w (Gv (.v (.bool true)) w) := by
  have hW := hT.tw
  have Hok := Lib.hid (okU_l hu)
  obtain ⟨q1, q2, q3, q4⟩ := okL_q4 (okU_l hu)
  obtain ⟨b1, b2, b3, b4, b5, b6⟩ := id hT.b
  have HU := Lib.hid hu
  clear hu
  have HS : Hid (Sz (rt T R e y)) := (sz_rt hT q1 q2 q3).1
  have hEw : Ext w w := Below.refl _ _
  obtain ⟨w1, hww1⟩ : ∃ W, w.alloc (.cells #[.int .i64 T.first, .int .i64 T.sel, .slice T.P T.N T.C] 24) = W := ⟨_, rfl⟩
  have ew1 : Ext w w1 := by rw [← hww1]; exact ea _ _
  have B1 : Cells w1 (w.heap.size) 24 #[.int .i64 T.first, .int .i64 T.sel, .slice T.P T.N T.C] := by rw [← hww1]; exact Cells.newAt _ _ (by omega)
  have zw1 := alloc_lt hww1
  have hEw1 := eg hEw ew1
  have lB1_w1 := B1.lt
  obtain ⟨w2, hww2⟩ : ∃ W, w1.alloc (.cells #[.int .i64 e, .int .i64 y] 26) = W := ⟨_, rfl⟩
  have ew2 : Ext w1 w2 := by rw [← hww2]; exact ea _ _
  have B2 : Cells w2 (w.heap.size + 1) 26 #[.int .i64 e, .int .i64 y] := by rw [← hww2]; exact Cells.newAt _ _ (by omega)
  replace B1 := B1.ext ew2
  have zw2 := alloc_lt hww2
  have hEw2 := eg hEw1 ew2
  have lB1_w2 := B1.lt
  have lB2_w2 := B2.lt
  go_enter Try.func5, Try.ntmps5
  go_wp2_with fail
  clear hww1
  clear hww2
  clear lB1_w1
  have yw1 := Nat.le_of_eq zw1
  replace zw1 := Nat.le_of_eq zw1.symm
  have yw2 := Nat.le_of_eq zw2
  replace zw2 := Nat.le_of_eq zw2.symm
  refine (nawake  _).mono ?_
  intro ee w3 gg
  obtain ⟨rfl, ew3⟩ := Gv.v gg
  replace B1 := B1.ext ew3
  replace B2 := B2.ext ew3
  have hEw3 := eg hEw2 ew3
  have zw3 := ew3.size
  have b1_0_w3 := B1.cell (k := 0) rfl
  have b1_1_w3 := B1.cell (k := 1) rfl
  have b1_2_w3 := B1.cell (k := 2) rfl
  have b2_0_w3 := B2.cell (k := 0) rfl
  have b2_1_w3 := B2.cell (k := 1) rfl
  have lB1_w3 := B1.lt
  have lB2_w3 := B2.lt
  go_wp2_with fail
  clear lB1_w2 lB2_w2
  refine (nusable T e y _ (hW.ext hEw3) ey HU.out).mono ?_
  intro ee w4 gg
  obtain ⟨rfl, ew4⟩ := Gv.v gg
  replace B1 := B1.ext ew4
  replace B2 := B2.ext ew4
  have hEw4 := eg hEw3 ew4
  have zw4 := ew4.size
  have b1_0_w4 := B1.cell (k := 0) rfl
  have b1_1_w4 := B1.cell (k := 1) rfl
  have b1_2_w4 := B1.cell (k := 2) rfl
  have b2_0_w4 := B2.cell (k := 0) rfl
  have b2_1_w4 := B2.cell (k := 1) rfl
  have lB1_w4 := B1.lt
  have lB2_w4 := B2.lt
  go_wp2_with fail
  clear b1_0_w3 b1_1_w3 b1_2_w3 b2_0_w3 b2_1_w3 lB1_w3 lB2_w3
  refine (lRate T R e y _ (hT.ext hEw4) Hok.out).mono ?_
  intro ee w5 gg
  obtain ⟨Z22, rfl, hZ22, oZ22, ew5⟩ := Gv.fe gg
  replace B1 := B1.ext ew5
  replace B2 := B2.ext ew5
  have hEw5 := eg hEw4 ew5
  have zw5 := ew5.size
  replace oZ22 := oZ22.mono hEw4.size
  have lB1_w5 := B1.lt
  have lB2_w5 := B2.lt
  obtain ⟨w6, hww6⟩ : ∃ W, w5.alloc (.cells #[.bool Z22.N.b, .slice Z22.N.p Z22.N.n Z22.N.c, .bool Z22.D.b, .slice Z22.D.p Z22.D.n Z22.D.c] 33) = W := ⟨_, rfl⟩
  have ew6 : Ext w5 w6 := by rw [← hww6]; exact ea _ _
  have B3 : Cells w6 (w5.heap.size) 33 #[.bool Z22.N.b, .slice Z22.N.p Z22.N.n Z22.N.c, .bool Z22.D.b, .slice Z22.D.p Z22.D.n Z22.D.c] := by rw [← hww6]; exact Cells.newAt _ _ (by omega)
  replace hZ22 := hZ22.ext ew6
  replace oZ22 := oZ22.ext ew6
  replace B1 := B1.ext ew6
  replace B2 := B2.ext ew6
  have zw6 := alloc_lt hww6
  have hEw6 := eg hEw5 ew6
  have b1_0_w6 := B1.cell (k := 0) rfl
  have b1_2_w6 := B1.cell (k := 2) rfl
  have b2_0_w6 := B2.cell (k := 0) rfl
  have b2_1_w6 := B2.cell (k := 1) rfl
  have lB1_w6 := B1.lt
  have lB2_w6 := B2.lt
  have lB3_w6 := B3.lt
  obtain ⟨w7, hww7⟩ : ∃ W, w6.alloc (.cells #[.int .i64 (e + b), .int .i64 (y - b)] 26) = W := ⟨_, rfl⟩
  have ew7 : Ext w6 w7 := by rw [← hww7]; exact ea _ _
  have B4 : Cells w7 (w5.heap.size + 1) 26 #[.int .i64 (e + b), .int .i64 (y - b)] := by rw [← hww7]; exact Cells.newAt _ _ (by omega)
  replace hZ22 := hZ22.ext ew7
  replace oZ22 := oZ22.ext ew7
  replace B1 := B1.ext ew7
  replace B2 := B2.ext ew7
  replace B3 := B3.ext ew7
  have zw7 := alloc_lt hww7
  have hEw7 := eg hEw6 ew7
  have b2_0_w7 := B2.cell (k := 0) rfl
  have b2_1_w7 := B2.cell (k := 1) rfl
  have b1_1_w7 := B1.cell (k := 1) rfl
  have b4_1_w7 := B4.cell (k := 1) rfl
  have lB1_w7 := B1.lt
  have lB2_w7 := B2.lt
  have lB3_w7 := B3.lt
  have lB4_w7 := B4.lt
  go_wp2_with fail
  clear hww6
  clear hww7
  clear b1_0_w4 b1_1_w4 b1_2_w4 b2_0_w4 b2_1_w4 b1_0_w6 b1_2_w6 b2_0_w6 b2_1_w6 lB1_w4 lB2_w4 lB1_w5 lB2_w5 lB1_w6 lB2_w6 lB3_w6
  have yw6 := Nat.le_of_eq zw6
  replace zw6 := Nat.le_of_eq zw6.symm
  have yw7 := Nat.le_of_eq zw7
  replace zw7 := Nat.le_of_eq zw7.symm
  refine bodyPost_ret (v := .bool true) (by simp [results, Try.results5, go_sem]) rfl ?_
  exact Gv.of_v hEw7

set_option maxRecDepth 100000 in
theorem nSelectD (T : Tb) (R : Nat → Nat → Rat) (e y : Int) (b : Int) (w : World) (hT : TQ w T R) (ey : -9223372036854775808 ≤ e ∧ e ≤ 9223372036854775807 ∧ -9223372036854775808 ≤ y ∧ y ≤ 9223372036854775807) (hu : okU T e y = true) (hb0 : 0 ≤ b) (hb1 : b ≤ 255) (hA : e + y ≤ T.first + (T.N : Int) - 1) (hB : T.sel ≤ y) (hC : T.sel ≤ y - b) (hr : okL T (e + b) (y - b) = false) :
    Calls Try.prog 5 #[.agg #[.int .i64 T.first, .int .i64 T.sel, .slice T.P T.N T.C], .agg #[.int .i64 e, .int .i64 y], .int .u8 b] w (Gv (.v (.bool true)) w) := by
  have hW := hT.tw
  have Hok := Lib.hid (okU_l hu)
  obtain ⟨q1, q2, q3, q4⟩ := okL_q4 (okU_l hu)
  obtain ⟨b1, b2, b3, b4, b5, b6⟩ := id hT.b
  have HU := Lib.hid hu
  clear hu
  have HS : Hid (Sz (rt T R e y)) := (sz_rt hT q1 q2 q3).1
  have HR := Lib.hid hr
  clear hr
  have hEw : Ext w w := Below.refl _ _
  obtain ⟨w1, hww1⟩ : ∃ W, w.alloc (.cells #[.int .i64 T.first, .int .i64 T.sel, .slice T.P T.N T.C] 24) = W := ⟨_, rfl⟩
  have ew1 : Ext w w1 := by rw [← hww1]; exact ea _ _
  have B1 : Cells w1 (w.heap.size) 24 #[.int .i64 T.first, .int .i64 T.sel, .slice T.P T.N T.C] := by rw [← hww1]; exact Cells.newAt _ _ (by omega)
  have zw1 := alloc_lt hww1
  have hEw1 := eg hEw ew1
  have lB1_w1 := B1.lt
  obtain ⟨w2, hww2⟩ : ∃ W, w1.alloc (.cells #[.int .i64 e, .int .i64 y] 26) = W := ⟨_, rfl⟩
  have ew2 : Ext w1 w2 := by rw [← hww2]; exact ea _ _
  have B2 : Cells w2 (w.heap.size + 1) 26 #[.int .i64 e, .int .i64 y] := by rw [← hww2]; exact Cells.newAt _ _ (by omega)
  replace B1 := B1.ext ew2
  have zw2 := alloc_lt hww2
  have hEw2 := eg hEw1 ew2
  have lB1_w2 := B1.lt
  have lB2_w2 := B2.lt
  go_enter Try.func5, Try.ntmps5
  go_wp2_with fail
  clear hww1
  clear hww2
  clear lB1_w1
  have yw1 := Nat.le_of_eq zw1
  replace zw1 := Nat.le_of_eq zw1.symm
  have yw2 := Nat.le_of_eq zw2
  replace zw2 := Nat.le_of_eq zw2.symm
  refine (nawake  _).mono ?_
  intro ee w3 gg
  obtain ⟨rfl, ew3⟩ := Gv.v gg
  replace B1 := B1.ext ew3
  replace B2 := B2.ext ew3
  have hEw3 := eg hEw2 ew3
  have zw3 := ew3.size
  have b1_0_w3 := B1.cell (k := 0) rfl
  have b1_1_w3 := B1.cell (k := 1) rfl
  have b1_2_w3 := B1.cell (k := 2) rfl
  have b2_0_w3 := B2.cell (k := 0) rfl
  have b2_1_w3 := B2.cell (k := 1) rfl
  have lB1_w3 := B1.lt
  have lB2_w3 := B2.lt
  go_wp2_with fail
  clear lB1_w2 lB2_w2
  refine (nusable T e y _ (hW.ext hEw3) ey HU.out).mono ?_
  intro ee w4 gg
  obtain ⟨rfl, ew4⟩ := Gv.v gg
  replace B1 := B1.ext ew4
  replace B2 := B2.ext ew4
  have hEw4 := eg hEw3 ew4
  have zw4 := ew4.size
  have b1_0_w4 := B1.cell (k := 0) rfl
  have b1_1_w4 := B1.cell (k := 1) rfl
  have b1_2_w4 := B1.cell (k := 2) rfl
  have b2_0_w4 := B2.cell (k := 0) rfl
  have b2_1_w4 := B2.cell (k := 1) rfl
  have lB1_w4 := B1.lt
  have lB2_w4 := B2.lt
  go_wp2_with fail
  clear b1_0_w3 b1_1_w3 b1_2_w3 b2_0_w3 b2_1_w3 lB1_w3 lB2_w3
  refine (lRate T R e y _ (hT.ext hEw4) Hok.out).mono ?_
  intro ee w5 gg
  obtain ⟨Z22, rfl, hZ22, oZ22, ew5⟩ := Gv.fe gg
  replace B1 := B1.ext ew5
  replace B2 := B2.ext ew5
  have hEw5 := eg hEw4 ew5
  have zw5 := ew5.size
  replace oZ22 := oZ22.mono hEw4.size
  have lB1_w5 := B1.lt
  have lB2_w5 := B2.lt
  obtain ⟨w6, hww6⟩ : ∃ W, w5.alloc (.cells #[.bool Z22.N.b, .slice Z22.N.p Z22.N.n Z22.N.c, .bool Z22.D.b, .slice Z22.D.p Z22.D.n Z22.D.c] 33) = W := ⟨_, rfl⟩
  have ew6 : Ext w5 w6 := by rw [← hww6]; exact ea _ _
  have B3 : Cells w6 (w5.heap.size) 33 #[.bool Z22.N.b, .slice Z22.N.p Z22.N.n Z22.N.c, .bool Z22.D.b, .slice Z22.D.p Z22.D.n Z22.D.c] := by rw [← hww6]; exact Cells.newAt _ _ (by omega)
  replace hZ22 := hZ22.ext ew6
  replace oZ22 := oZ22.ext ew6
  replace B1 := B1.ext ew6
  replace B2 := B2.ext ew6
  have zw6 := alloc_lt hww6
  have hEw6 := eg hEw5 ew6
  have b1_0_w6 := B1.cell (k := 0) rfl
  have b1_2_w6 := B1.cell (k := 2) rfl
  have b2_0_w6 := B2.cell (k := 0) rfl
  have b2_1_w6 := B2.cell (k := 1) rfl
  have lB1_w6 := B1.lt
  have lB2_w6 := B2.lt
  have lB3_w6 := B3.lt
  obtain ⟨w7, hww7⟩ : ∃ W, w6.alloc (.cells #[.int .i64 (e + b), .int .i64 (y - b)] 26) = W := ⟨_, rfl⟩
  have ew7 : Ext w6 w7 := by rw [← hww7]; exact ea _ _
  have B4 : Cells w7 (w5.heap.size + 1) 26 #[.int .i64 (e + b), .int .i64 (y - b)] := by rw [← hww7]; exact Cells.newAt _ _ (by omega)
  replace hZ22 := hZ22.ext ew7
  replace oZ22 := oZ22.ext ew7
  replace B1 := B1.ext ew7
  replace B2 := B2.ext ew7
  replace B3 := B3.ext ew7
  have zw7 := alloc_lt hww7
  have hEw7 := eg hEw6 ew7
  have b2_0_w7 := B2.cell (k := 0) rfl
  have b2_1_w7 := B2.cell (k := 1) rfl
  have b1_1_w7 := B1.cell (k := 1) rfl
  have b4_1_w7 := B4.cell (k := 1) rfl
  have b1_0_w7 := B1.cell (k := 0) rfl
  have b1_2_w7 := B1.cell (k := 2) rfl
  have b4_0_w7 := B4.cell (k := 0) rfl
  have lB1_w7 := B1.lt
  have lB2_w7 := B2.lt
  have lB3_w7 := B3.lt
  have lB4_w7 := B4.lt
  go_wp2_with fail
  clear hww6
  clear hww7
  clear b1_0_w4 b1_1_w4 b1_2_w4 b2_0_w4 b2_1_w4 b1_0_w6 b1_2_w6 b2_0_w6 b2_1_w6 lB1_w4 lB2_w4 lB1_w5 lB2_w5 lB1_w6 lB2_w6 lB3_w6
  have yw6 := Nat.le_of_eq zw6
  replace zw6 := Nat.le_of_eq zw6.symm
  have yw7 := Nat.le_of_eq zw7
  replace zw7 := Nat.le_of_eq zw7.symm
  refine (lRight T (e + b) (y - b) _ (hW.ext hEw7) (by omega) HR.out).mono ?_
  intro ee w8 gg
  obtain ⟨rfl, ew8⟩ := Gv.v gg
  replace hZ22 := hZ22.ext ew8
  replace oZ22 := oZ22.ext ew8
  replace B1 := B1.ext ew8
  replace B2 := B2.ext ew8
  replace B3 := B3.ext ew8
  replace B4 := B4.ext ew8
  have hEw8 := eg hEw7 ew8
  have zw8 := ew8.size
  have lB1_w8 := B1.lt
  have lB2_w8 := B2.lt
  have lB3_w8 := B3.lt
  have lB4_w8 := B4.lt
  go_wp2_with fail
  clear b2_0_w7 b2_1_w7 b1_1_w7 b4_1_w7 b1_0_w7 b1_2_w7 b4_0_w7 lB1_w7 lB2_w7 lB3_w7 lB4_w7
  refine bodyPost_ret (v := .bool true) (by simp [results, Try.results5, go_sem]) rfl ?_
  exact Gv.of_v hEw8

set_option maxRecDepth 100000 in
theorem nSelectE (T : Tb) (R : Nat → Nat → Rat) (e y : Int) (b : Int) (w : World) (hT : TQ w T R) (ey : -9223372036854775808 ≤ e ∧ e ≤ 9223372036854775807 ∧ -9223372036854775808 ≤ y ∧ y ≤ 9223372036854775807) (hu : okU T e y = true) (hb0 : 0 ≤ b) (hb1 : b ≤ 255) (hA : e + y ≤ T.first + (T.N : Int) - 1) (hB : T.sel ≤ y) (hC : T.sel ≤ y - b) (hr : okL T (e + b) (y - b) = true) :
    Calls Try.prog 5 #[.agg #[.int .i64 T.first, .int .i64 T.sel, .slice T.P T.N T.C], .agg #[.int .i64 e, .int .i64 y], .int .u8 b] w (Gv (.v (.bool true)) w) := by
  have hW := hT.tw
  have Hok := Lib.hid (okU_l hu)
  obtain ⟨q1, q2, q3, q4⟩ := okL_q4 (okU_l hu)
  obtain ⟨b1, b2, b3, b4, b5, b6⟩ := id hT.b
  have HU := Lib.hid hu
  clear hu
  have HS : Hid (Sz (rt T R e y)) := (sz_rt hT q1 q2 q3).1
  obtain ⟨r1, r2, r3, r4⟩ := okL_q4 hr
  have HS2 : Hid (Sz (rt T R (e + b) (y - b))) := (sz_rt hT r1 r2 r3).1
  have Hq : Hid (rt T R e y = rt T R (e + b) (y - b)) := by
    unfold Hid rt
    rw [if_neg (by omega), if_neg (by omega), if_neg (by omega), if_neg (by omega), show e + b + (y - b) - T.first = e + y - T.first by omega]
  have HR := Lib.hid hr
  clear hr
  have hEw : Ext w w := Below.refl _ _
  obtain ⟨w1, hww1⟩ : ∃ W, w.alloc (.cells #[.int .i64 T.first, .int .i64 T.sel, .slice T.P T.N T.C] 24) = W := ⟨_, rfl⟩
  have ew1 : Ext w w1 := by rw [← hww1]; exact ea _ _
  have B1 : Cells w1 (w.heap.size) 24 #[.int .i64 T.first, .int .i64 T.sel, .slice T.P T.N T.C] := by rw [← hww1]; exact Cells.newAt _ _ (by omega)
  have zw1 := alloc_lt hww1
  have hEw1 := eg hEw ew1
  have lB1_w1 := B1.lt
  obtain ⟨w2, hww2⟩ : ∃ W, w1.alloc (.cells #[.int .i64 e, .int .i64 y] 26) = W := ⟨_, rfl⟩
  have ew2 : Ext w1 w2 := by rw [← hww2]; exact ea _ _
  have B2 : Cells w2 (w.heap.size + 1) 26 #[.int .i64 e, .int .i64 y] := by rw [← hww2]; exact Cells.newAt _ _ (by omega)
  replace B1 := B1.ext ew2
  have zw2 := alloc_lt hww2
  have hEw2 := eg hEw1 ew2
  have lB1_w2 := B1.lt
  have lB2_w2 := B2.lt
  go_enter Try.func5, Try.ntmps5
  go_wp2_with fail
  clear hww1
  clear hww2
  clear lB1_w1
  have yw1 := Nat.le_of_eq zw1
  replace zw1 := Nat.le_of_eq zw1.symm
  have yw2 := Nat.le_of_eq zw2
  replace zw2 := Nat.le_of_eq zw2.symm
  refine (nawake  _).mono ?_
  intro ee w3 gg
  obtain ⟨rfl, ew3⟩ := Gv.v gg
  replace B1 := B1.ext ew3
  replace B2 := B2.ext ew3
  have hEw3 := eg hEw2 ew3
  have zw3 := ew3.size
  have b1_0_w3 := B1.cell (k := 0) rfl
  have b1_1_w3 := B1.cell (k := 1) rfl
  have b1_2_w3 := B1.cell (k := 2) rfl
  have b2_0_w3 := B2.cell (k := 0) rfl
  have b2_1_w3 := B2.cell (k := 1) rfl
  have lB1_w3 := B1.lt
  have lB2_w3 := B2.lt
  go_wp2_with fail
  clear lB1_w2 lB2_w2
  refine (nusable T e y _ (hW.ext hEw3) ey HU.out).mono ?_
  intro ee w4 gg
  obtain ⟨rfl, ew4⟩ := Gv.v gg
  replace B1 := B1.ext ew4
  replace B2 := B2.ext ew4
  have hEw4 := eg hEw3 ew4
  have zw4 := ew4.size
  have b1_0_w4 := B1.cell (k := 0) rfl
  have b1_1_w4 := B1.cell (k := 1) rfl
  have b1_2_w4 := B1.cell (k := 2) rfl
  have b2_0_w4 := B2.cell (k := 0) rfl
  have b2_1_w4 := B2.cell (k := 1) rfl
  have lB1_w4 := B1.lt
  have lB2_w4 := B2.lt
  go_wp2_with fail
  clear b1_0_w3 b1_1_w3 b1_2_w3 b2_0_w3 b2_1_w3 lB1_w3 lB2_w3
  refine (lRate T R e y _ (hT.ext hEw4) Hok.out).mono ?_
  intro ee w5 gg
  obtain ⟨Z22, rfl, hZ22, oZ22, ew5⟩ := Gv.fe gg
  replace B1 := B1.ext ew5
  replace B2 := B2.ext ew5
  have hEw5 := eg hEw4 ew5
  have zw5 := ew5.size
  replace oZ22 := oZ22.mono hEw4.size
  have lB1_w5 := B1.lt
  have lB2_w5 := B2.lt
  obtain ⟨w6, hww6⟩ : ∃ W, w5.alloc (.cells #[.bool Z22.N.b, .slice Z22.N.p Z22.N.n Z22.N.c, .bool Z22.D.b, .slice Z22.D.p Z22.D.n Z22.D.c] 33) = W := ⟨_, rfl⟩
  have ew6 : Ext w5 w6 := by rw [← hww6]; exact ea _ _
  have B3 : Cells w6 (w5.heap.size) 33 #[.bool Z22.N.b, .slice Z22.N.p Z22.N.n Z22.N.c, .bool Z22.D.b, .slice Z22.D.p Z22.D.n Z22.D.c] := by rw [← hww6]; exact Cells.newAt _ _ (by omega)
  replace hZ22 := hZ22.ext ew6
  replace oZ22 := oZ22.ext ew6
  replace B1 := B1.ext ew6
  replace B2 := B2.ext ew6
  have zw6 := alloc_lt hww6
  have hEw6 := eg hEw5 ew6
  have b1_0_w6 := B1.cell (k := 0) rfl
  have b1_2_w6 := B1.cell (k := 2) rfl
  have b2_0_w6 := B2.cell (k := 0) rfl
  have b2_1_w6 := B2.cell (k := 1) rfl
  have lB1_w6 := B1.lt
  have lB2_w6 := B2.lt
  have lB3_w6 := B3.lt
  obtain ⟨w7, hww7⟩ : ∃ W, w6.alloc (.cells #[.int .i64 (e + b), .int .i64 (y - b)] 26) = W := ⟨_, rfl⟩
  have ew7 : Ext w6 w7 := by rw [← hww7]; exact ea _ _
  have B4 : Cells w7 (w5.heap.size + 1) 26 #[.int .i64 (e + b), .int .i64 (y - b)] := by rw [← hww7]; exact Cells.newAt _ _ (by omega)
  replace hZ22 := hZ22.ext ew7
  replace oZ22 := oZ22.ext ew7
  replace B1 := B1.ext ew7
  replace B2 := B2.ext ew7
  replace B3 := B3.ext ew7
  have zw7 := alloc_lt hww7
  have hEw7 := eg hEw6 ew7
  have b2_0_w7 := B2.cell (k := 0) rfl
  have b2_1_w7 := B2.cell (k := 1) rfl
  have b1_1_w7 := B1.cell (k := 1) rfl
  have b4_1_w7 := B4.cell (k := 1) rfl
  have b1_0_w7 := B1.cell (k := 0) rfl
  have b1_2_w7 := B1.cell (k := 2) rfl
  have b4_0_w7 := B4.cell (k := 0) rfl
  have lB1_w7 := B1.lt
  have lB2_w7 := B2.lt
  have lB3_w7 := B3.lt
  have lB4_w7 := B4.lt
  go_wp2_with fail
  clear hww6
  clear hww7
  clear b1_0_w4 b1_1_w4 b1_2_w4 b2_0_w4 b2_1_w4 b1_0_w6 b1_2_w6 b2_0_w6 b2_1_w6 lB1_w4 lB2_w4 lB1_w5 lB2_w5 lB1_w6 lB2_w6 lB3_w6
  have yw6 := Nat.le_of_eq zw6
  replace zw6 := Nat.le_of_eq zw6.symm
  have yw7 := Nat.le_of_eq zw7
  replace zw7 := Nat.le_of_eq zw7.symm
  refine (lRight T (e + b) (y - b) _ (hW.ext hEw7) (by omega) HR.out).mono ?_
  intro ee w8 gg
  obtain ⟨rfl, ew8⟩ := Gv.v gg
  replace hZ22 := hZ22.ext ew8
  replace oZ22 := oZ22.ext ew8
  replace B1 := B1.ext ew8
  replace B2 := B2.ext ew8
  replace B3 := B3.ext ew8
  replace B4 := B4.ext ew8
  have hEw8 := eg hEw7 ew8
  have zw8 := ew8.size
  have b1_0_w8 := B1.cell (k := 0) rfl
  have b1_1_w8 := B1.cell (k := 1) rfl
  have b1_2_w8 := B1.cell (k := 2) rfl
  have b4_0_w8 := B4.cell (k := 0) rfl
  have b4_1_w8 := B4.cell (k := 1) rfl
  have lB1_w8 := B1.lt
  have lB2_w8 := B2.lt
  have lB3_w8 := B3.lt
  have lB4_w8 := B4.lt
  go_wp2_with fail
  clear b2_0_w7 b2_1_w7 b1_1_w7 b4_1_w7 b1_0_w7 b1_2_w7 b4_0_w7 lB1_w7 lB2_w7 lB3_w7 lB4_w7
  refine (lRate T R (e + b) (y - b) _ (hT.ext hEw8) HR.out).mono ?_
  intro ee w9 gg
  obtain ⟨Z89, rfl, hZ89, oZ89, ew9⟩ := Gv.fe gg
  replace hZ22 := hZ22.ext ew9
  replace oZ22 := oZ22.ext ew9
  replace B1 := B1.ext ew9
  replace B2 := B2.ext ew9
  replace B3 := B3.ext ew9
  replace B4 := B4.ext ew9
  have hEw9 := eg hEw8 ew9
  have zw9 := ew9.size
  replace oZ89 := oZ89.mono hEw8.size
  have lB1_w9 := B1.lt
  have lB2_w9 := B2.lt
  have lB3_w9 := B3.lt
  have lB4_w9 := B4.lt
  obtain ⟨w10, hww10⟩ : ∃ W, w9.alloc (.cells #[.bool Z89.N.b, .slice Z89.N.p Z89.N.n Z89.N.c, .bool Z89.D.b, .slice Z89.D.p Z89.D.n Z89.D.c] 33) = W := ⟨_, rfl⟩
  have ew10 : Ext w9 w10 := by rw [← hww10]; exact ea _ _
  have B5 : Cells w10 (w9.heap.size) 33 #[.bool Z89.N.b, .slice Z89.N.p Z89.N.n Z89.N.c, .bool Z89.D.b, .slice Z89.D.p Z89.D.n Z89.D.c] := by rw [← hww10]; exact Cells.newAt _ _ (by omega)
  replace hZ22 := hZ22.ext ew10
  replace hZ89 := hZ89.ext ew10
  replace oZ22 := oZ22.ext ew10
  replace oZ89 := oZ89.ext ew10
  replace B1 := B1.ext ew10
  replace B2 := B2.ext ew10
  replace B3 := B3.ext ew10
  replace B4 := B4.ext ew10
  have zw10 := alloc_lt hww10
  have hEw10 := eg hEw9 ew10
  have b3_0_w10 := B3.cell (k := 0) rfl
  have b3_1_w10 := B3.cell (k := 1) rfl
  have b3_2_w10 := B3.cell (k := 2) rfl
  have b3_3_w10 := B3.cell (k := 3) rfl
  have b5_0_w10 := B5.cell (k := 0) rfl
  have b5_1_w10 := B5.cell (k := 1) rfl
  have b5_2_w10 := B5.cell (k := 2) rfl
  have b5_3_w10 := B5.cell (k := 3) rfl
  have lB1_w10 := B1.lt
  have lB2_w10 := B2.lt
  have lB3_w10 := B3.lt
  have lB4_w10 := B4.lt
  have lB5_w10 := B5.lt
  go_wp2_with fail
  clear hww10
  clear b1_0_w8 b1_1_w8 b1_2_w8 b4_0_w8 b4_1_w8 lB1_w8 lB2_w8 lB3_w8 lB4_w8 lB1_w9 lB2_w9 lB3_w9 lB4_w9
  have yw10 := Nat.le_of_eq zw10
  replace zw10 := Nat.le_of_eq zw10.symm
  refine (nequal_t Z22 Z89 _ _ _ (hZ22) (hZ89) HS.out HS2.out Hq.out).mono ?_
  intro ee w11 gg
  obtain ⟨rfl, ew11⟩ := Gv.v gg
  replace hZ22 := hZ22.ext ew11
  replace hZ89 := hZ89.ext ew11
  replace oZ22 := oZ22.ext ew11
  replace oZ89 := oZ89.ext ew11
  replace B1 := B1.ext ew11
  replace B2 := B2.ext ew11
  replace B3 := B3.ext ew11
  replace B4 := B4.ext ew11
  replace B5 := B5.ext ew11
  have hEw11 := eg hEw10 ew11
  have zw11 := ew11.size
  have lB1_w11 := B1.lt
  have lB2_w11 := B2.lt
  have lB3_w11 := B3.lt
  have lB4_w11 := B4.lt
  have lB5_w11 := B5.lt
  go_wp2_with fail
  clear b3_0_w10 b3_1_w10 b3_2_w10 b3_3_w10 b5_0_w10 b5_1_w10 b5_2_w10 b5_3_w10 lB1_w10 lB2_w10 lB3_w10 lB4_w10 lB5_w10
  refine bodyPost_ret (v := .bool true) (by simp [results, Try.results5, go_sem]) rfl ?_
  exact Gv.of_v hEw11

theorem nSelect (T : Tb) (e y b : Int) (w : World) (hT : TW w T) (ey : -9223372036854775808 ≤ e ∧ e ≤ 9223372036854775807 ∧ -9223372036854775808 ≤ y ∧ y ≤ 9223372036854775807) (hb0 : 0 ≤ b) (hb1 : b ≤ 255) : Calls Try.prog 5 #[.agg #[.int .i64 T.first, .int .i64 T.sel, .slice T.P T.N T.C], .agg #[.int .i64 e, .int .i64 y], .int .u8 b] w (Gv (.v (.bool true)) w) := by
  cases hu : okU T e y
  · exact nSelect0 T e y b w hT ey hu
  · obtain ⟨R, hR, _⟩ := okL_q hT (okU_l hu)
    rcases Int.lt_or_le (T.first + (T.N : Int) - 1) (e + y) with hA | hA
    · exact nSelectA T R e y b w hR ey hu hb0 hb1 hA
    · rcases Int.lt_or_le y T.sel with hB | hB
      · exact nSelectB T R e y b w hR ey hu hb0 hb1 hA hB
      · rcases Int.lt_or_le (y - b) T.sel with hC | hC
        · exact nSelectC T R e y b w hR ey hu hb0 hb1 hA hB hC
        · cases hr : okL T (e + b) (y - b)
          · exact nSelectD T R e y b w hR ey hu hb0 hb1 hA hB hC hr
          · exact nSelectE T R e y b w hR ey hu hb0 hb1 hA hB hC hr
end Go.Proofs.Ytndgaecfeaedeaa

namespace Go.Proofs.Ytndgaecfeaedeaa
set_option linter.unusedSimpArgs false
set_option linter.unusedVariables false
open Go.RowKit Lex Mth Go.ChangeShapes

section
variable {H : Type} {enc : TypeId × Value → H} {w : World} {base : Nat} {held : Bool}
/-- Nothing that is read takes more than the reach. -/
def WB (t : TypeId) (d : DataW H) : Prop := ∀ n ∈ d.weights Try.prog t, n ≤ reachBytes
theorem at_eq (a : Addr) (k : Nat) : at_ (some a) k = a.add k := by unfold at_; rfl

theorem weights_all {e : TypeId} : ∀ {l : List (DataW H)} {d : DataW H}, d ∈ l → ∀ n ∈ d.weights Try.prog e, n ∈ DataW.weightsAll Try.prog e l
  | x :: l, d, hd, n, hn => by
    simp only [DataW.weightsAll, List.mem_append]
    rcases List.mem_cons.1 hd with rfl | h
    · exact .inl hn
    · exact .inr (weights_all h n hn)
theorem WB.slice {t e : TypeId} {l r : List (DataW H)} (ht : Try.prog.underlying t = some (.slice e)) (h : WB t (.slice l r)) : (l.length + r.length) * Try.prog.bytesOf e ≤ reachBytes ∧ ∀ d ∈ l, WB e d := by
  unfold WB at h
  simp only [DataW.weights, ht] at h
  exact ⟨h _ (by simp), fun d hd n hn => h n (List.mem_cons_of_mem _ (List.mem_append_left _ (weights_all hd n hn)))⟩

theorem open_u16 {t : TypeId} {fuel : Nat} {cs : List Value} {x : DataW H × List MemPlace} (ht : t = 29) (h : DataW.trod enc Try.prog w base (fun _ => true) held fuel t cs = some x) (hw : WB t x.1) : ∃ X : Wh, ∃ l, cs = [.slice X.p X.n X.c] ∧ UW w X l := by
  subst ht
  rcases open_ints Try.underlying29 Try.underlying71 (by kernel_rfl) h with ⟨rfl, rfl⟩ | ⟨a, len, cap, zs, rfl, _, hl, hm, hz, rfl, hcell, hwz⟩
  · exact ⟨⟨false, none, 0, 0⟩, [], rfl, ⟨rfl, Nat.le_refl _, by simp, by unfold Has; exact .inl rfl, Lim.nil, fun j hj => absurd hj (Nat.not_lt_zero _)⟩⟩
  · have hr := (WB.slice Try.underlying29 hw).1
    rw [show Try.prog.bytesOf 71 = 2 from by kernel_rfl] at hr
    simp only [lits, List.length_map, List.length_take, List.length_drop, reachBytes] at hr
    simp only [if_true] at hz
    have hu : ∀ z ∈ zs, 0 ≤ z ∧ z ≤ 65535 := fun z hz => by
      have := hwz z hz
      simpa [Lit.wf, IntKind.min, IntKind.max, IntKind.bits, IntKind.signed] using this
    refine ⟨⟨false, some a, len, cap⟩, (zs.take len).map Int.toNat, rfl, ⟨by simp; omega, hl, by simp only; omega, Has.some _ _, ?_, fun j hj => ?_⟩⟩
    · intro y hy
      obtain ⟨z, hz1, rfl⟩ := List.mem_map.1 hy
      have := hu z (List.mem_of_mem_take hz1)
      omega
    · have hj2 : j < zs.length := by simp only at hj; omega
      rw [at_eq, hcell j hj2]
      have h3 := hu _ (List.getElem_mem hj2)
      have e : dig ((zs.take len).map Int.toNat) j = (zs[j]).toNat := by
        simp only at hj
        simp [dig, List.getD_eq_getElem?_getD, hj, hj2]
      rw [e]
      simp only [List.getD_eq_getElem?_getD, List.getElem?_eq_getElem hj2, Option.getD_some, Option.some.injEq, Value.int.injEq, true_and]
      omega

set_option maxRecDepth 100000 in
theorem open_whole {fuel : Nat} {cs : List Value} {x : DataW H × List MemPlace} (h : DataW.trod enc Try.prog w base (fun _ => true) held fuel 31 cs = some x) (hw : WB 31 x.1) : ∃ X : Wh, ∃ l, cs = [.bool X.b, .slice X.p X.n X.c] ∧ UW w X l := by
  obtain ⟨y0, y1, n, rfl, hl, h0, h1⟩ := trod_struct2 Try.underlying31 h
  rw [show Try.prog.cellsOf 31 = 2 from by kernel_rfl] at hl
  match cs, hl with
  | [a, b], _ =>
    rw [show Try.prog.cellsOf 4 = 1 from by kernel_rfl] at h0
    rw [show Try.prog.cellsOf 29 = 1 from by kernel_rfl] at h1
    simp only [List.drop_succ_cons, List.drop_zero, List.take_succ_cons, List.take_zero] at h0 h1
    obtain ⟨bb, e0, rfl⟩ := DataW.trod_bool Try.underlying4 h0
    have hw1 : WB 29 y1.1 := fun m hm => hw m (by
      simp only [DataW.weights, Try.underlying31, DataW.weightsEach, List.map_cons, List.map_nil, List.mem_append]
      exact .inr (.inl hm))
    obtain ⟨X, l, e1, hU⟩ := open_u16 rfl h1 hw1
    simp only [List.cons.injEq, and_true] at e0 e1
    subst e0 e1
    exact ⟨⟨bb, X.p, X.n, X.c⟩, l, rfl, hU⟩

set_option maxRecDepth 100000 in
theorem open_frac {fuel : Nat} {cs : List Value} {x : DataW H × List MemPlace} (h : DataW.trod enc Try.prog w base (fun _ => true) held fuel 33 cs = some x) (hw : WB 33 x.1) :
    ∃ X : Fr, ∃ l m, cs = [.bool X.N.b, .slice X.N.p X.N.n X.N.c, .bool X.D.b, .slice X.D.p X.D.n X.D.c] ∧ UF w X l m := by
  obtain ⟨y0, y1, n, rfl, hl, h0, h1⟩ := trod_struct2 Try.underlying33 h
  rw [show Try.prog.cellsOf 33 = 4 from by kernel_rfl] at hl
  match cs, hl with
  | [a, b, c, d], _ =>
    rw [show Try.prog.cellsOf 31 = 2 from by kernel_rfl] at h0 h1
    simp only [List.drop_succ_cons, List.drop_zero, List.take_succ_cons, List.take_zero] at h0 h1
    have hw0 : WB 31 y0.1 := fun m hm => hw m (by
      simp only [DataW.weights, Try.underlying33, DataW.weightsEach, List.map_cons, List.map_nil, List.mem_append]
      exact .inl hm)
    have hw1 : WB 31 y1.1 := fun m hm => hw m (by
      simp only [DataW.weights, Try.underlying33, DataW.weightsEach, List.map_cons, List.map_nil, List.mem_append]
      exact .inr (.inl hm))
    obtain ⟨X, l, e0, hX⟩ := open_whole h0 hw0
    obtain ⟨Y, m, e1, hY⟩ := open_whole h1 hw1
    simp only [List.cons.injEq, and_true] at e0 e1
    obtain ⟨rfl, rfl⟩ := e0
    obtain ⟨rfl, rfl⟩ := e1
    exact ⟨⟨X, Y⟩, l, m, rfl, hX, hY⟩

theorem FA.of {a : Addr} {i : Nat} {X : Fr} (h : w.cells? base (a.add (i * 4)) 4 = some [.bool X.N.b, .slice X.N.p X.N.n X.N.c, .bool X.D.b, .slice X.D.p X.D.n X.D.c]) : FA w (some a) i X := by
  obtain ⟨_, _, hc⟩ := World.cells?_some h
  have g := fun k hk => (Go.Deep.add_add a (i * 4) k) ▸ hc k hk
  exact ⟨by rw [at_eq]; exact g 0 (by omega), by rw [at_eq]; exact g 1 (by omega), by rw [at_eq]; exact g 2 (by omega), by rw [at_eq]; exact g 3 (by omega)⟩

instance : Inhabited Wh := ⟨⟨false, none, 0, 0⟩⟩
instance : Inhabited Fr := ⟨⟨default, default⟩⟩
set_option maxRecDepth 100000 in
theorem open_row {fuel : Nat} {v : Value} {x : DataW H × List MemPlace} (h : DataW.trod enc Try.prog w base (fun _ => true) held fuel 46 [v] = some x) (hw : WB 46 x.1) :
    ∃ p n c, ∃ X : Nat → Fr, ∃ l m : Nat → List Nat, v = .slice p n c ∧ FRow w p n c X ∧ ∀ j, j < n → UF w (X j) (l j) (m j) := by
  rcases Go.Deep.open_slice Try.underlying46 h with ⟨e, rfl⟩ | ⟨a, len, cap, m, n, D, Pl, e, _, hl, hm, hmm, rfl, hx⟩
  · simp only [List.cons.injEq, and_true] at e
    subst e
    exact ⟨none, 0, 0, default, fun _ => [], fun _ => [], rfl, ⟨by unfold Has; exact .inl rfl, Nat.le_refl _, by omega, fun j hj => absurd hj (Nat.not_lt_zero _)⟩, fun j hj => absurd hj (Nat.not_lt_zero _)⟩
  · simp only [List.cons.injEq, and_true] at e
    subst e
    simp only [if_true] at hmm
    obtain ⟨hr, hel⟩ := WB.slice Try.underlying46 hw
    rw [show Try.prog.bytesOf 33 = 64 from by kernel_rfl] at hr
    simp only [List.length_map, List.length_range, reachBytes] at hr
    rw [show Try.prog.cellsOf 33 = 4 from by kernel_rfl] at hx
    have key : ∀ i, i < len → ∃ q : Fr × List Nat × List Nat, FA w (some a) i q.1 ∧ UF w q.1 q.2.1 q.2.2 := fun i hi => by
      obtain ⟨cs', h1, h2⟩ := hx i (by omega)
      obtain ⟨X, l, m, rfl, hU⟩ := open_frac h2 (hel (D i) (by
        rw [List.mem_map]
        exact ⟨i, List.mem_range.2 hi, rfl⟩))
      exact ⟨(X, l, m), FA.of h1, hU⟩
    obtain ⟨q, hq⟩ := Go.Deep.choose_lt key
    exact ⟨some a, len, cap, fun i => (q i).1, fun i => (q i).2.1, fun i => (q i).2.2, rfl, ⟨Has.some _ _, hl, by omega, fun i hi => (hq i hi).1⟩, fun i hi => (hq i hi).2⟩

set_option maxRecDepth 100000 in
theorem open_table {fuel : Nat} {f s v : Value} {x0 x1 x2 : DataW H × List MemPlace} (h0 : DataW.trod enc Try.prog w base (fun _ => true) held fuel 3 [f] = some x0) (h1 : DataW.trod enc Try.prog w base (fun _ => true) held fuel 3 [s] = some x1) (h2 : DataW.trod enc Try.prog w base (fun _ => true) held fuel 22 [v] = some x2) (hw : WB 22 x2.1) :
    ∃ T : Tb, f = .int .i64 T.first ∧ s = .int .i64 T.sel ∧ v = .slice T.P T.N T.C ∧ TW w T := by
  obtain ⟨n0, e0, _, w0⟩ := DataW.trod_int Try.underlying3 h0
  obtain ⟨n1, e1, _, w1⟩ := DataW.trod_int Try.underlying3 h1
  simp only [List.cons.injEq, and_true] at e0 e1
  subst e0 e1
  have b0 : -9223372036854775808 ≤ n0 ∧ n0 ≤ 9223372036854775807 := by simpa [Lit.wf, IntKind.min, IntKind.max, IntKind.bits, IntKind.signed] using w0
  have b1 : -9223372036854775808 ≤ n1 ∧ n1 ≤ 9223372036854775807 := by simpa [Lit.wf, IntKind.min, IntKind.max, IntKind.bits, IntKind.signed] using w1
  rcases Go.Deep.open_slice1 Try.underlying22 (by kernel_rfl) h2 with ⟨e, rfl⟩ | ⟨a, len, cap, m, n, Vv, D, Pl, e, _, hl, hm, hmm, rfl, hx⟩
  · simp only [List.cons.injEq, and_true] at e
    subst e
    exact ⟨⟨n0, n1, none, 0, 0, fun _ => none, fun _ => 0, fun _ => 0, default, fun _ _ => [], fun _ _ => []⟩, rfl, rfl, rfl, ⟨b0.1, b0.2, b1.1, b1.2, by unfold Has; exact .inl rfl, Nat.le_refl _, by simp, fun k hk => absurd hk (Nat.not_lt_zero _), fun k hk => absurd hk (Nat.not_lt_zero _), fun k hk => absurd hk (Nat.not_lt_zero _)⟩⟩
  · simp only [List.cons.injEq, and_true] at e
    subst e
    simp only [if_true] at hmm
    obtain ⟨hr, hel⟩ := WB.slice Try.underlying22 hw
    rw [show Try.prog.bytesOf 46 = 24 from by kernel_rfl] at hr
    simp only [List.length_map, List.length_range, reachBytes] at hr
    have key : ∀ i, i < len → ∃ q : (Option Addr × Nat × Nat) × (Nat → Fr) × (Nat → List Nat) × (Nat → List Nat), w.cell? (a.add i) = some (.slice q.1.1 q.1.2.1 q.1.2.2) ∧ FRow w q.1.1 q.1.2.1 q.1.2.2 q.2.1 ∧ ∀ j, j < q.1.2.1 → UF w (q.2.1 j) (q.2.2.1 j) (q.2.2.2 j) := fun i hi => by
      obtain ⟨g1, g2⟩ := hx i (by omega)
      obtain ⟨p, k, c, X, l, m', e, hR, hU⟩ := open_row g2 (hel (D i) (by rw [List.mem_map]; exact ⟨i, List.mem_range.2 hi, rfl⟩))
      exact ⟨((p, k, c), X, l, m'), by rw [g1, e], hR, hU⟩
    obtain ⟨q, hq⟩ := Go.Deep.choose_lt key
    exact ⟨⟨n0, n1, some a, len, cap, fun i => (q i).1.1, fun i => (q i).1.2.1, fun i => (q i).1.2.2, fun i => (q i).2.1, fun i => (q i).2.2.1, fun i => (q i).2.2.2⟩, rfl, rfl, rfl,
      ⟨b0.1, b0.2, b1.1, b1.2, Has.some _ _, hl, by simp only; omega, fun i hi => by rw [at_eq]; exact (hq i hi).1, fun i hi => (hq i hi).2.1, fun i hi => (hq i hi).2.2⟩⟩
end
end Go.Proofs.Ytndgaecfeaedeaa
