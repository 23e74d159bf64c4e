/- Walks of package life: last, Right, rate. -/
import Derived.Test.YtndgaecfeaedeaaGreatG19
namespace Go.Proofs.YtndgaecfeaedeaaGreat
set_option linter.unusedSimpArgs false
set_option linter.unusedVariables false
open Go.RowKit Lex Mth
attribute [local go_sem] run_indexAt_at add_zero_map Oper.semAt_some at_zero at_add at_mk1 at_mk2 at_mk3

/-- The rate of a life. -/
def rt (T : Tb) (R : Nat → Nat → Rat) (e y : Int) : Rat := if T.first + T.N ≤ e + y then 1 else if y < T.sel then R (e - T.first).toNat y.toNat else R (e + y - T.first).toNat T.sel.toNat
theorem TQ.look {w : World} {T : Tb} {R : Nat → Nat → Rat} (h : TQ w T R) {k j : Nat} (hk : k < T.N) (hj : (j : Int) ≤ T.sel) : ∃ Q : Fr, FR w Q (R k j) ∧ FA w (T.rp k) j Q ∧ w.cell? (at_ T.P k) = some (.slice (T.rp k) (T.rn k) (T.rc k)) ∧ Has (T.rp k) (T.rn k) ∧ Has T.P T.N ∧ j < T.rn k := by
  have hr := h.rn k hk
  have hj2 : j < T.rn k := by omega
  exact ⟨T.el k j, h.q k hk j hj2, (h.tw.row k hk).el j hj2, h.tw.sl k hk, (h.tw.row k hk).has, h.tw.has, hj2⟩

set_option maxRecDepth 100000 in
theorem llast (T : Tb) (w : World) (hb : boundsOk T) :
    Calls Tryz.prog 69 #[.agg #[.int .i64 T.first, .int .i64 T.sel, .slice T.P T.N T.C]] w (Gv (.v (.int .i64 (T.first + (T.N : Int) - 1))) w) := by
  obtain ⟨b1, b2, b3, b4, b5, b6⟩ := id hb
  have hEw : Ext w w := Below.refl _ _
  obtain ⟨w1, hww1⟩ : ∃ W, w.alloc (.cells #[.int .i64 T.first, .int .i64 T.sel, .slice T.P T.N T.C] 24) = W := ⟨_, rfl⟩
  have ew1 : Ext w w1 := by rw [← hww1]; exact ea _ _
  have B1 : Cells w1 (w.heap.size) 24 #[.int .i64 T.first, .int .i64 T.sel, .slice T.P T.N T.C] := by rw [← hww1]; exact Cells.newAt _ _ (by omega)
  have zw1 := alloc_lt hww1
  have hEw1 := eg hEw ew1
  have b1_0_w1 := B1.cell (k := 0) rfl
  have b1_2_w1 := B1.cell (k := 2) rfl
  have lB1_w1 := B1.lt
  go_enter Tryz.func69, Tryz.ntmps69
  go_wp2_with fail
  clear hww1
  have yw1 := Nat.le_of_eq zw1
  replace zw1 := Nat.le_of_eq zw1.symm
  refine bodyPost_ret (v := .int .i64 (T.first + (T.N : Int) - 1)) (by simp [results, Tryz.results69, go_sem]) rfl ?_
  exact Gv.of_v hEw1

theorem lValid_b (T : Tb) (b : Bool) (w : World) (h : TW w T) (hb : okT T = b) : Calls Tryz.prog 10 #[.agg #[.int .i64 T.first, .int .i64 T.sel, .slice T.P T.N T.C]] w (Gv (.v (.bool b)) w) := hb ▸ lValid T w h
/-- Right. -/
noncomputable def okL (T : Tb) (e y : Int) : Bool := okT T && decide (T.first ≤ e) && decide (e ≤ T.first + (T.N : Int) - 1) && decide (0 ≤ y) && decide (y ≤ 300)

set_option maxRecDepth 100000 in
theorem lRight1 (T : Tb) (e y : Int) (w : World) (hT : TW w T) (ey : -9223372036854775808 ≤ e ∧ e ≤ 9223372036854775807 ∧ -9223372036854775808 ≤ y ∧ y ≤ 9223372036854775807) (hok : okT T = false) :
    Calls Tryz.prog 28 #[.agg #[.int .i64 T.first, .int .i64 T.sel, .slice T.P T.N T.C], .agg #[.int .i64 e, .int .i64 y]] w (Gv (.v (.bool false)) w) := by
  have Hok := Lib.hid hok
  clear hok
  have hEw : Ext w w := Below.refl _ _
  obtain ⟨w1, hww1⟩ : ∃ W, w.alloc (.cells #[.int .i64 T.first, .int .i64 T.sel, .slice T.P T.N T.C] 24) = W := ⟨_, rfl⟩
  have ew1 : Ext w w1 := by rw [← hww1]; exact ea _ _
  have B1 : Cells w1 (w.heap.size) 24 #[.int .i64 T.first, .int .i64 T.sel, .slice T.P T.N T.C] := by rw [← hww1]; exact Cells.newAt _ _ (by omega)
  have zw1 := alloc_lt hww1
  have hEw1 := eg hEw ew1
  have lB1_w1 := B1.lt
  obtain ⟨w2, hww2⟩ : ∃ W, w1.alloc (.cells #[.int .i64 e, .int .i64 y] 26) = W := ⟨_, rfl⟩
  have ew2 : Ext w1 w2 := by rw [← hww2]; exact ea _ _
  have B2 : Cells w2 (w.heap.size + 1) 26 #[.int .i64 e, .int .i64 y] := by rw [← hww2]; exact Cells.newAt _ _ (by omega)
  replace B1 := B1.ext ew2
  have zw2 := alloc_lt hww2
  have hEw2 := eg hEw1 ew2
  have b1_0_w2 := B1.cell (k := 0) rfl
  have b1_1_w2 := B1.cell (k := 1) rfl
  have b1_2_w2 := B1.cell (k := 2) rfl
  have lB1_w2 := B1.lt
  have lB2_w2 := B2.lt
  go_enter Tryz.func28, Tryz.ntmps28
  go_wp2_with fail
  clear hww1
  clear hww2
  clear lB1_w1
  have yw1 := Nat.le_of_eq zw1
  replace zw1 := Nat.le_of_eq zw1.symm
  have yw2 := Nat.le_of_eq zw2
  replace zw2 := Nat.le_of_eq zw2.symm
  refine regionT 26 (fun k => match k with | 1 => some (.v (.bool false)) | _ => none) (by kernel_rfl) (by kernel_rfl) ?_
  refine Walk.one (x := ?_) rfl rfl (fun w1 hI hL K hK => ?_) ?_
  rotate_left
  · obtain ⟨hc, hf⟩ := bcell hI
    go_simp
    repeat (first | (go_ints; try go_simp) | (simp only [↓IntWalk.iteOmega]; try go_simp))
    exact hK
  simp only [Act.put, List.setIfInBounds_toArray, List.set_cons_zero, List.set_cons_succ]
  refine Walk.tell rfl rfl (fun w1 hI hL K hK => ?_) ?_
  · go_simp
    exact (lValid_b T false w1 (hT.ext (eg hEw2 hI)) Hok.out).mono (tell hK)
  rintro _ rfl
  simp only [Act.put, List.setIfInBounds_toArray, List.set_cons_zero, List.set_cons_succ]
  refine Walk.one (x := ?_) rfl rfl (fun w1 hI hL K hK => ?_) ?_
  rotate_left
  · obtain ⟨hc, hf⟩ := bcell hI
    go_simp
    repeat (first | (go_ints; try go_simp) | (simp only [↓IntWalk.iteOmega]; try go_simp))
    exact hK
  simp only [Act.put, List.setIfInBounds_toArray, List.set_cons_zero, List.set_cons_succ]
  refine Walk.skip rfl (by kernel_rfl) ?_
  simp only [Act.put, List.setIfInBounds_toArray, List.set_cons_zero, List.set_cons_succ]
  refine Walk.skip rfl (by kernel_rfl) ?_
  simp only [Act.put, List.setIfInBounds_toArray, List.set_cons_zero, List.set_cons_succ]
  refine Walk.skip rfl (by kernel_rfl) ?_
  simp only [Act.put, List.setIfInBounds_toArray, List.set_cons_zero, List.set_cons_succ]
  refine Walk.skip rfl (by kernel_rfl) ?_
  simp only [Act.put, List.setIfInBounds_toArray, List.set_cons_zero, List.set_cons_succ]
  refine Walk.skip rfl (by kernel_rfl) ?_
  simp only [Act.put, List.setIfInBounds_toArray, List.set_cons_zero, List.set_cons_succ]
  iterate 2
    refine Walk.one (x := ?_) rfl rfl (fun w1 hI hL K hK => ?_) ?_
    rotate_left
    · obtain ⟨hc, hf⟩ := bcell hI
      go_simp
      repeat (first | (go_ints; try go_simp) | (simp only [↓IntWalk.iteOmega]; try go_simp))
      exact hK
    simp only [Act.put, List.setIfInBounds_toArray, List.set_cons_zero, List.set_cons_succ]
  refine Walk.skip rfl (by kernel_rfl) ?_
  simp only [Act.put, List.setIfInBounds_toArray, List.set_cons_zero, List.set_cons_succ]
  refine Walk.skip rfl (by kernel_rfl) ?_
  simp only [Act.put, List.setIfInBounds_toArray, List.set_cons_zero, List.set_cons_succ]
  refine Walk.skip rfl (by kernel_rfl) ?_
  simp only [Act.put, List.setIfInBounds_toArray, List.set_cons_zero, List.set_cons_succ]
  refine Walk.skip rfl (by kernel_rfl) ?_
  simp only [Act.put, List.setIfInBounds_toArray, List.set_cons_zero, List.set_cons_succ]
  refine Walk.skip rfl (by kernel_rfl) ?_
  simp only [Act.put, List.setIfInBounds_toArray, List.set_cons_zero, List.set_cons_succ]
  iterate 2
    refine Walk.one (x := ?_) rfl rfl (fun w1 hI hL K hK => ?_) ?_
    rotate_left
    · obtain ⟨hc, hf⟩ := bcell hI
      go_simp
      repeat (first | (go_ints; try go_simp) | (simp only [↓IntWalk.iteOmega]; try go_simp))
      exact hK
    simp only [Act.put, List.setIfInBounds_toArray, List.set_cons_zero, List.set_cons_succ]
  refine Walk.skip rfl (by kernel_rfl) ?_
  simp only [Act.put, List.setIfInBounds_toArray, List.set_cons_zero, List.set_cons_succ]
  refine Walk.skip rfl (by kernel_rfl) ?_
  simp only [Act.put, List.setIfInBounds_toArray, List.set_cons_zero, List.set_cons_succ]
  refine Walk.skip rfl (by kernel_rfl) ?_
  simp only [Act.put, List.setIfInBounds_toArray, List.set_cons_zero, List.set_cons_succ]
  iterate 2
    refine Walk.one (x := ?_) rfl rfl (fun w1 hI hL K hK => ?_) ?_
    rotate_left
    · obtain ⟨hc, hf⟩ := bcell hI
      go_simp
      repeat (first | (go_ints; try go_simp) | (simp only [↓IntWalk.iteOmega]; try go_simp))
      exact hK
    simp only [Act.put, List.setIfInBounds_toArray, List.set_cons_zero, List.set_cons_succ]
  refine Walk.skip rfl (by kernel_rfl) ?_
  simp only [Act.put, List.setIfInBounds_toArray, List.set_cons_zero, List.set_cons_succ]
  refine Walk.skip rfl (by kernel_rfl) ?_
  simp only [Act.put, List.setIfInBounds_toArray, List.set_cons_zero, List.set_cons_succ]
  refine Walk.skip rfl (by kernel_rfl) ?_
  simp only [Act.put, List.setIfInBounds_toArray, List.set_cons_zero, List.set_cons_succ]
  refine Walk.one (x := ?_) rfl rfl (fun w1 hI hL K hK => ?_) ?_
  rotate_left
  · obtain ⟨hc, hf⟩ := bcell hI
    go_simp
    repeat (first | (go_ints; try go_simp) | (simp only [↓IntWalk.iteOmega]; try go_simp))
    exact hK
  simp only [Act.put, List.setIfInBounds_toArray, List.set_cons_zero, List.set_cons_succ]
  refine Walk.nilF fun w3 ew3 kzL kzX => ?_
  replace B1 := B1.ext ew3
  replace B2 := B2.ext ew3
  have hEw3 := eg hEw2 ew3
  have zw3 := ew3.size
  clear kzL kzX
  have lB1_w3 := B1.lt
  have lB2_w3 := B2.lt
  simp only [List.drop_succ_cons, List.drop_zero, List.drop_nil]
  go_wp2_with fail
  clear b1_0_w2 b1_1_w2 b1_2_w2 lB1_w2 lB2_w2
  refine bodyPost_ret (v := .bool false) (by simp [results, Tryz.results28, go_sem]) rfl ?_
  exact Gv.of_v hEw3

set_option maxRecDepth 100000 in
theorem lRight2 (T : Tb) (e y : Int) (w : World) (hT : TW w T) (ey : -9223372036854775808 ≤ e ∧ e ≤ 9223372036854775807 ∧ -9223372036854775808 ≤ y ∧ y ≤ 9223372036854775807) (hok : okT T = true) (hb : boundsOk T) (h1 : ¬ T.first ≤ e) :
    Calls Tryz.prog 28 #[.agg #[.int .i64 T.first, .int .i64 T.sel, .slice T.P T.N T.C], .agg #[.int .i64 e, .int .i64 y]] w (Gv (.v (.bool false)) w) := by
  have Hok := Lib.hid hok
  clear hok
  obtain ⟨b1, b2, b3, b4, b5, b6⟩ := id hb
  have d0 : decide (T.first ≤ e) = false := by simp; omega
  have hEw : Ext w w := Below.refl _ _
  obtain ⟨w1, hww1⟩ : ∃ W, w.alloc (.cells #[.int .i64 T.first, .int .i64 T.sel, .slice T.P T.N T.C] 24) = W := ⟨_, rfl⟩
  have ew1 : Ext w w1 := by rw [← hww1]; exact ea _ _
  have B1 : Cells w1 (w.heap.size) 24 #[.int .i64 T.first, .int .i64 T.sel, .slice T.P T.N T.C] := by rw [← hww1]; exact Cells.newAt _ _ (by omega)
  have zw1 := alloc_lt hww1
  have hEw1 := eg hEw ew1
  have lB1_w1 := B1.lt
  obtain ⟨w2, hww2⟩ : ∃ W, w1.alloc (.cells #[.int .i64 e, .int .i64 y] 26) = W := ⟨_, rfl⟩
  have ew2 : Ext w1 w2 := by rw [← hww2]; exact ea _ _
  have B2 : Cells w2 (w.heap.size + 1) 26 #[.int .i64 e, .int .i64 y] := by rw [← hww2]; exact Cells.newAt _ _ (by omega)
  replace B1 := B1.ext ew2
  have zw2 := alloc_lt hww2
  have hEw2 := eg hEw1 ew2
  have b1_0_w2 := B1.cell (k := 0) rfl
  have b1_1_w2 := B1.cell (k := 1) rfl
  have b1_2_w2 := B1.cell (k := 2) rfl
  have b2_0_w2 := B2.cell (k := 0) rfl
  have lB1_w2 := B1.lt
  have lB2_w2 := B2.lt
  go_enter Tryz.func28, Tryz.ntmps28
  go_wp2_with fail
  clear hww1
  clear hww2
  clear lB1_w1
  have yw1 := Nat.le_of_eq zw1
  replace zw1 := Nat.le_of_eq zw1.symm
  have yw2 := Nat.le_of_eq zw2
  replace zw2 := Nat.le_of_eq zw2.symm
  refine regionT 26 (fun k => match k with | 1 => some (.v (.bool true)) | _ => none) (by kernel_rfl) (by kernel_rfl) ?_
  refine Walk.one (x := ?_) rfl rfl (fun w1 hI hL K hK => ?_) ?_
  rotate_left
  · obtain ⟨hc, hf⟩ := bcell hI
    go_simp
    repeat (first | (go_ints; try go_simp) | (simp only [↓IntWalk.iteOmega]; try go_simp))
    exact hK
  simp only [Act.put, List.setIfInBounds_toArray, List.set_cons_zero, List.set_cons_succ]
  refine Walk.tell rfl rfl (fun w1 hI hL K hK => ?_) ?_
  · go_simp
    exact (lValid_b T true w1 (hT.ext (eg hEw2 hI)) Hok.out).mono (tell hK)
  rintro _ rfl
  simp only [Act.put, List.setIfInBounds_toArray, List.set_cons_zero, List.set_cons_succ]
  refine Walk.one (x := ?_) rfl rfl (fun w1 hI hL K hK => ?_) ?_
  rotate_left
  · obtain ⟨hc, hf⟩ := bcell hI
    go_simp
    repeat (first | (go_ints; try go_simp) | (simp only [↓IntWalk.iteOmega]; try go_simp))
    exact hK
  simp only [Act.put, List.setIfInBounds_toArray, List.set_cons_zero, List.set_cons_succ]
  refine Walk.oneG (x := ?_) rfl (by as_aux_lemma => kernel_rfl) (fun w1 hI hL K hK => ?_) ?_
  rotate_left
  · obtain ⟨hc, hf⟩ := bcell hI
    go_simp
    repeat (first | (go_ints; try go_simp) | (simp only [↓IntWalk.iteOmega]; try go_simp))
    exact hK
  simp only [Act.put, List.setIfInBounds_toArray, List.set_cons_zero, List.set_cons_succ]
  refine Walk.oneG (x := ?_) rfl (by as_aux_lemma => kernel_rfl) (fun w1 hI hL K hK => ?_) ?_
  rotate_left
  · obtain ⟨hc, hf⟩ := bcell hI
    go_simp
    repeat (first | (go_ints; try go_simp) | (simp only [↓IntWalk.iteOmega]; try go_simp))
    exact hK
  simp only [Act.put, List.setIfInBounds_toArray, List.set_cons_zero, List.set_cons_succ]
  refine Walk.oneG (x := ?_) rfl (by as_aux_lemma => kernel_rfl) (fun w1 hI hL K hK => ?_) ?_
  rotate_left
  · obtain ⟨hc, hf⟩ := bcell hI
    go_simp
    repeat (first | (go_ints; try go_simp) | (simp only [↓IntWalk.iteOmega]; try go_simp))
    exact hK
  simp only [Act.put, List.setIfInBounds_toArray, List.set_cons_zero, List.set_cons_succ]
  refine Walk.oneG (x := ?_) rfl (by as_aux_lemma => kernel_rfl) (fun w1 hI hL K hK => ?_) ?_
  rotate_left
  · obtain ⟨hc, hf⟩ := bcell hI
    go_simp
    repeat (first | (go_ints; try go_simp) | (simp only [↓IntWalk.iteOmega]; try go_simp))
    exact hK
  simp only [Act.put, List.setIfInBounds_toArray, List.set_cons_zero, List.set_cons_succ]
  refine Walk.oneG (x := ?_) rfl (by as_aux_lemma => kernel_rfl) (fun w1 hI hL K hK => ?_) ?_
  rotate_left
  · obtain ⟨hc, hf⟩ := bcell hI
    go_simp
    repeat (first | (go_ints; try go_simp) | (simp only [↓IntWalk.iteOmega]; try go_simp))
    exact hK
  simp only [Act.put, List.setIfInBounds_toArray, List.set_cons_zero, List.set_cons_succ]
  iterate 2
    refine Walk.one (x := ?_) rfl rfl (fun w1 hI hL K hK => ?_) ?_
    rotate_left
    · obtain ⟨hc, hf⟩ := bcell hI
      go_simp
      repeat (first | (go_ints; try go_simp) | (simp only [↓IntWalk.iteOmega]; try go_simp))
      exact hK
    simp only [Act.put, List.setIfInBounds_toArray, List.set_cons_zero, List.set_cons_succ]
  refine Walk.skip rfl (by kernel_rfl) ?_
  simp only [Act.put, List.setIfInBounds_toArray, List.set_cons_zero, List.set_cons_succ]
  refine Walk.skip rfl (by kernel_rfl) ?_
  simp only [Act.put, List.setIfInBounds_toArray, List.set_cons_zero, List.set_cons_succ]
  refine Walk.skip rfl (by kernel_rfl) ?_
  simp only [Act.put, List.setIfInBounds_toArray, List.set_cons_zero, List.set_cons_succ]
  refine Walk.skip rfl (by kernel_rfl) ?_
  simp only [Act.put, List.setIfInBounds_toArray, List.set_cons_zero, List.set_cons_succ]
  refine Walk.skip rfl (by kernel_rfl) ?_
  simp only [Act.put, List.setIfInBounds_toArray, List.set_cons_zero, List.set_cons_succ]
  iterate 2
    refine Walk.one (x := ?_) rfl rfl (fun w1 hI hL K hK => ?_) ?_
    rotate_left
    · obtain ⟨hc, hf⟩ := bcell hI
      go_simp
      repeat (first | (go_ints; try go_simp) | (simp only [↓IntWalk.iteOmega]; try go_simp))
      exact hK
    simp only [Act.put, List.setIfInBounds_toArray, List.set_cons_zero, List.set_cons_succ]
  refine Walk.skip rfl (by kernel_rfl) ?_
  simp only [Act.put, List.setIfInBounds_toArray, List.set_cons_zero, List.set_cons_succ]
  refine Walk.skip rfl (by kernel_rfl) ?_
  simp only [Act.put, List.setIfInBounds_toArray, List.set_cons_zero, List.set_cons_succ]
  refine Walk.skip rfl (by kernel_rfl) ?_
  simp only [Act.put, List.setIfInBounds_toArray, List.set_cons_zero, List.set_cons_succ]
  iterate 2
    refine Walk.one (x := ?_) rfl rfl (fun w1 hI hL K hK => ?_) ?_
    rotate_left
    · obtain ⟨hc, hf⟩ := bcell hI
      go_simp
      repeat (first | (go_ints; try go_simp) | (simp only [↓IntWalk.iteOmega]; try go_simp))
      exact hK
    simp only [Act.put, List.setIfInBounds_toArray, List.set_cons_zero, List.set_cons_succ]
  refine Walk.skip rfl (by kernel_rfl) ?_
  simp only [Act.put, List.setIfInBounds_toArray, List.set_cons_zero, List.set_cons_succ]
  refine Walk.skip rfl (by kernel_rfl) ?_
  simp only [Act.put, List.setIfInBounds_toArray, List.set_cons_zero, List.set_cons_succ]
  refine Walk.skip rfl (by kernel_rfl) ?_
  simp only [Act.put, List.setIfInBounds_toArray, List.set_cons_zero, List.set_cons_succ]
  refine Walk.one (x := ?_) rfl rfl (fun w1 hI hL K hK => ?_) ?_
  rotate_left
  · obtain ⟨hc, hf⟩ := bcell hI
    go_simp
    repeat (first | (go_ints; try go_simp) | (simp only [↓IntWalk.iteOmega]; try go_simp))
    exact hK
  simp only [Act.put, List.setIfInBounds_toArray, List.set_cons_zero, List.set_cons_succ]
  refine Walk.nilF fun w3 ew3 kzL kzX => ?_
  replace B1 := B1.ext ew3
  replace B2 := B2.ext ew3
  have hEw3 := eg hEw2 ew3
  have zw3 := ew3.size
  clear kzL kzX
  have lB1_w3 := B1.lt
  have lB2_w3 := B2.lt
  simp only [List.drop_succ_cons, List.drop_zero, List.drop_nil]
  go_wp2_with fail
  clear b1_0_w2 b1_1_w2 b1_2_w2 b2_0_w2 lB1_w2 lB2_w2
  refine bodyPost_ret (v := .bool false) (by simp [results, Tryz.results28, go_sem]) rfl ?_
  exact Gv.of_v hEw3

set_option maxRecDepth 100000 in
theorem lRight3 (T : Tb) (e y : Int) (w : World) (hT : TW w T) (ey : -9223372036854775808 ≤ e ∧ e ≤ 9223372036854775807 ∧ -9223372036854775808 ≤ y ∧ y ≤ 9223372036854775807) (hok : okT T = true) (hb : boundsOk T) (h1 : T.first ≤ e) (h2 : ¬ e ≤ T.first + (T.N : Int) - 1) :
    Calls Tryz.prog 28 #[.agg #[.int .i64 T.first, .int .i64 T.sel, .slice T.P T.N T.C], .agg #[.int .i64 e, .int .i64 y]] w (Gv (.v (.bool false)) w) := by
  have Hok := Lib.hid hok
  clear hok
  obtain ⟨b1, b2, b3, b4, b5, b6⟩ := id hb
  have d0 : decide (T.first ≤ e) = true := by simp; omega
  have d1 : decide (e ≤ T.first + (T.N : Int) - 1) = false := by simp; omega
  have d2 : decide (e < T.first + (T.N : Int)) = false := by simp; omega
  have hEw : Ext w w := Below.refl _ _
  obtain ⟨w1, hww1⟩ : ∃ W, w.alloc (.cells #[.int .i64 T.first, .int .i64 T.sel, .slice T.P T.N T.C] 24) = W := ⟨_, rfl⟩
  have ew1 : Ext w w1 := by rw [← hww1]; exact ea _ _
  have B1 : Cells w1 (w.heap.size) 24 #[.int .i64 T.first, .int .i64 T.sel, .slice T.P T.N T.C] := by rw [← hww1]; exact Cells.newAt _ _ (by omega)
  have zw1 := alloc_lt hww1
  have hEw1 := eg hEw ew1
  have lB1_w1 := B1.lt
  obtain ⟨w2, hww2⟩ : ∃ W, w1.alloc (.cells #[.int .i64 e, .int .i64 y] 26) = W := ⟨_, rfl⟩
  have ew2 : Ext w1 w2 := by rw [← hww2]; exact ea _ _
  have B2 : Cells w2 (w.heap.size + 1) 26 #[.int .i64 e, .int .i64 y] := by rw [← hww2]; exact Cells.newAt _ _ (by omega)
  replace B1 := B1.ext ew2
  have zw2 := alloc_lt hww2
  have hEw2 := eg hEw1 ew2
  have b1_0_w2 := B1.cell (k := 0) rfl
  have b1_1_w2 := B1.cell (k := 1) rfl
  have b1_2_w2 := B1.cell (k := 2) rfl
  have b2_0_w2 := B2.cell (k := 0) rfl
  have lB1_w2 := B1.lt
  have lB2_w2 := B2.lt
  go_enter Tryz.func28, Tryz.ntmps28
  go_wp2_with fail
  clear hww1
  clear hww2
  clear lB1_w1
  have yw1 := Nat.le_of_eq zw1
  replace zw1 := Nat.le_of_eq zw1.symm
  have yw2 := Nat.le_of_eq zw2
  replace zw2 := Nat.le_of_eq zw2.symm
  refine regionT 26 (fun k => match k with | 1 => some (.v (.bool true)) | 13 => some (.v (.int .i64 (T.first + (T.N : Int) - 1))) | _ => none) (by kernel_rfl) (by kernel_rfl) ?_
  refine Walk.one (x := ?_) rfl rfl (fun w1 hI hL K hK => ?_) ?_
  rotate_left
  · obtain ⟨hc, hf⟩ := bcell hI
    go_simp
    repeat (first | (go_ints; try go_simp) | (simp only [↓IntWalk.iteOmega]; try go_simp))
    exact hK
  simp only [Act.put, List.setIfInBounds_toArray, List.set_cons_zero, List.set_cons_succ]
  refine Walk.tell rfl rfl (fun w1 hI hL K hK => ?_) ?_
  · go_simp
    exact (lValid_b T true w1 (hT.ext (eg hEw2 hI)) Hok.out).mono (tell hK)
  rintro _ rfl
  simp only [Act.put, List.setIfInBounds_toArray, List.set_cons_zero, List.set_cons_succ]
  refine Walk.one (x := ?_) rfl rfl (fun w1 hI hL K hK => ?_) ?_
  rotate_left
  · obtain ⟨hc, hf⟩ := bcell hI
    go_simp
    repeat (first | (go_ints; try go_simp) | (simp only [↓IntWalk.iteOmega]; try go_simp))
    exact hK
  simp only [Act.put, List.setIfInBounds_toArray, List.set_cons_zero, List.set_cons_succ]
  refine Walk.oneG (x := ?_) rfl (by as_aux_lemma => kernel_rfl) (fun w1 hI hL K hK => ?_) ?_
  rotate_left
  · obtain ⟨hc, hf⟩ := bcell hI
    go_simp
    repeat (first | (go_ints; try go_simp) | (simp only [↓IntWalk.iteOmega]; try go_simp))
    exact hK
  simp only [Act.put, List.setIfInBounds_toArray, List.set_cons_zero, List.set_cons_succ]
  refine Walk.oneG (x := ?_) rfl (by as_aux_lemma => kernel_rfl) (fun w1 hI hL K hK => ?_) ?_
  rotate_left
  · obtain ⟨hc, hf⟩ := bcell hI
    go_simp
    repeat (first | (go_ints; try go_simp) | (simp only [↓IntWalk.iteOmega]; try go_simp))
    exact hK
  simp only [Act.put, List.setIfInBounds_toArray, List.set_cons_zero, List.set_cons_succ]
  refine Walk.oneG (x := ?_) rfl (by as_aux_lemma => kernel_rfl) (fun w1 hI hL K hK => ?_) ?_
  rotate_left
  · obtain ⟨hc, hf⟩ := bcell hI
    go_simp
    repeat (first | (go_ints; try go_simp) | (simp only [↓IntWalk.iteOmega]; try go_simp))
    exact hK
  simp only [Act.put, List.setIfInBounds_toArray, List.set_cons_zero, List.set_cons_succ]
  refine Walk.oneG (x := ?_) rfl (by as_aux_lemma => kernel_rfl) (fun w1 hI hL K hK => ?_) ?_
  rotate_left
  · obtain ⟨hc, hf⟩ := bcell hI
    go_simp
    repeat (first | (go_ints; try go_simp) | (simp only [↓IntWalk.iteOmega]; try go_simp))
    exact hK
  simp only [Act.put, List.setIfInBounds_toArray, List.set_cons_zero, List.set_cons_succ]
  refine Walk.oneG (x := ?_) rfl (by as_aux_lemma => kernel_rfl) (fun w1 hI hL K hK => ?_) ?_
  rotate_left
  · obtain ⟨hc, hf⟩ := bcell hI
    go_simp
    repeat (first | (go_ints; try go_simp) | (simp only [↓IntWalk.iteOmega]; try go_simp))
    exact hK
  simp only [Act.put, List.setIfInBounds_toArray, List.set_cons_zero, List.set_cons_succ]
  iterate 2
    refine Walk.one (x := ?_) rfl rfl (fun w1 hI hL K hK => ?_) ?_
    rotate_left
    · obtain ⟨hc, hf⟩ := bcell hI
      go_simp
      repeat (first | (go_ints; try go_simp) | (simp only [↓IntWalk.iteOmega]; try go_simp))
      exact hK
    simp only [Act.put, List.setIfInBounds_toArray, List.set_cons_zero, List.set_cons_succ]
  refine Walk.oneG (x := ?_) rfl (by as_aux_lemma => kernel_rfl) (fun w1 hI hL K hK => ?_) ?_
  rotate_left
  · obtain ⟨hc, hf⟩ := bcell hI
    go_simp
    repeat (first | (go_ints; try go_simp) | (simp only [↓IntWalk.iteOmega]; try go_simp))
    exact hK
  simp only [Act.put, List.setIfInBounds_toArray, List.set_cons_zero, List.set_cons_succ]
  refine Walk.oneG (x := ?_) rfl (by as_aux_lemma => kernel_rfl) (fun w1 hI hL K hK => ?_) ?_
  rotate_left
  · obtain ⟨hc, hf⟩ := bcell hI
    go_simp
    repeat (first | (go_ints; try go_simp) | (simp only [↓IntWalk.iteOmega]; try go_simp))
    exact hK
  simp only [Act.put, List.setIfInBounds_toArray, List.set_cons_zero, List.set_cons_succ]
  refine Walk.oneG (x := ?_) rfl (by as_aux_lemma => kernel_rfl) (fun w1 hI hL K hK => ?_) ?_
  rotate_left
  · obtain ⟨hc, hf⟩ := bcell hI
    go_simp
    repeat (first | (go_ints; try go_simp) | (simp only [↓IntWalk.iteOmega]; try go_simp))
    exact hK
  simp only [Act.put, List.setIfInBounds_toArray, List.set_cons_zero, List.set_cons_succ]
  refine Walk.tellG rfl (by kernel_rfl) (fun w1 hI hL K hK => ?_) ?_
  · go_simp
    exact (llast T w1 hb).mono (tell hK)
  rintro _ rfl
  simp only [Act.put, List.setIfInBounds_toArray, List.set_cons_zero, List.set_cons_succ]
  refine Walk.oneG (x := ?_) rfl (by as_aux_lemma => kernel_rfl) (fun w1 hI hL K hK => ?_) ?_
  rotate_left
  · obtain ⟨hc, hf⟩ := bcell hI
    go_simp
    repeat (first | (go_ints; try go_simp) | (simp only [↓IntWalk.iteOmega]; try go_simp))
    exact hK
  simp only [Act.put, List.setIfInBounds_toArray, List.set_cons_zero, List.set_cons_succ]
  iterate 2
    refine Walk.one (x := ?_) rfl rfl (fun w1 hI hL K hK => ?_) ?_
    rotate_left
    · obtain ⟨hc, hf⟩ := bcell hI
      go_simp
      repeat (first | (go_ints; try go_simp) | (simp only [↓IntWalk.iteOmega]; try go_simp))
      exact hK
    simp only [Act.put, List.setIfInBounds_toArray, List.set_cons_zero, List.set_cons_succ]
  refine Walk.skip rfl (by kernel_rfl) ?_
  simp only [Act.put, List.setIfInBounds_toArray, List.set_cons_zero, List.set_cons_succ]
  refine Walk.skip rfl (by kernel_rfl) ?_
  simp only [Act.put, List.setIfInBounds_toArray, List.set_cons_zero, List.set_cons_succ]
  refine Walk.skip rfl (by kernel_rfl) ?_
  simp only [Act.put, List.setIfInBounds_toArray, List.set_cons_zero, List.set_cons_succ]
  iterate 2
    refine Walk.one (x := ?_) rfl rfl (fun w1 hI hL K hK => ?_) ?_
    rotate_left
    · obtain ⟨hc, hf⟩ := bcell hI
      go_simp
      repeat (first | (go_ints; try go_simp) | (simp only [↓IntWalk.iteOmega]; try go_simp))
      exact hK
    simp only [Act.put, List.setIfInBounds_toArray, List.set_cons_zero, List.set_cons_succ]
  refine Walk.skip rfl (by kernel_rfl) ?_
  simp only [Act.put, List.setIfInBounds_toArray, List.set_cons_zero, List.set_cons_succ]
  refine Walk.skip rfl (by kernel_rfl) ?_
  simp only [Act.put, List.setIfInBounds_toArray, List.set_cons_zero, List.set_cons_succ]
  refine Walk.skip rfl (by kernel_rfl) ?_
  simp only [Act.put, List.setIfInBounds_toArray, List.set_cons_zero, List.set_cons_succ]
  refine Walk.one (x := ?_) rfl rfl (fun w1 hI hL K hK => ?_) ?_
  rotate_left
  · obtain ⟨hc, hf⟩ := bcell hI
    go_simp
    repeat (first | (go_ints; try go_simp) | (simp only [↓IntWalk.iteOmega]; try go_simp))
    exact hK
  simp only [Act.put, List.setIfInBounds_toArray, List.set_cons_zero, List.set_cons_succ]
  refine Walk.nilF fun w3 ew3 kzL kzX => ?_
  replace B1 := B1.ext ew3
  replace B2 := B2.ext ew3
  have hEw3 := eg hEw2 ew3
  have zw3 := ew3.size
  clear kzL kzX
  have lB1_w3 := B1.lt
  have lB2_w3 := B2.lt
  simp only [List.drop_succ_cons, List.drop_zero, List.drop_nil]
  go_wp2_with fail
  clear b1_0_w2 b1_1_w2 b1_2_w2 b2_0_w2 lB1_w2 lB2_w2
  refine bodyPost_ret (v := .bool false) (by simp [results, Tryz.results28, go_sem]) rfl ?_
  exact Gv.of_v hEw3

set_option maxRecDepth 100000 in
theorem lRight4 (T : Tb) (e y : Int) (w : World) (hT : TW w T) (ey : -9223372036854775808 ≤ e ∧ e ≤ 9223372036854775807 ∧ -9223372036854775808 ≤ y ∧ y ≤ 9223372036854775807) (hok : okT T = true) (hb : boundsOk T) (h1 : T.first ≤ e) (h2 : e ≤ T.first + (T.N : Int) - 1) (h3 : ¬ 0 ≤ y) :
    Calls Tryz.prog 28 #[.agg #[.int .i64 T.first, .int .i64 T.sel, .slice T.P T.N T.C], .agg #[.int .i64 e, .int .i64 y]] w (Gv (.v (.bool false)) w) := by
  have Hok := Lib.hid hok
  clear hok
  obtain ⟨b1, b2, b3, b4, b5, b6⟩ := id hb
  have d0 : decide (T.first ≤ e) = true := by simp; omega
  have d1 : decide (e ≤ T.first + (T.N : Int) - 1) = true := by simp; omega
  have d2 : decide (e < T.first + (T.N : Int)) = true := by simp; omega
  have d3 : decide (0 ≤ y) = false := by simp; omega
  have hEw : Ext w w := Below.refl _ _
  obtain ⟨w1, hww1⟩ : ∃ W, w.alloc (.cells #[.int .i64 T.first, .int .i64 T.sel, .slice T.P T.N T.C] 24) = W := ⟨_, rfl⟩
  have ew1 : Ext w w1 := by rw [← hww1]; exact ea _ _
  have B1 : Cells w1 (w.heap.size) 24 #[.int .i64 T.first, .int .i64 T.sel, .slice T.P T.N T.C] := by rw [← hww1]; exact Cells.newAt _ _ (by omega)
  have zw1 := alloc_lt hww1
  have hEw1 := eg hEw ew1
  have lB1_w1 := B1.lt
  obtain ⟨w2, hww2⟩ : ∃ W, w1.alloc (.cells #[.int .i64 e, .int .i64 y] 26) = W := ⟨_, rfl⟩
  have ew2 : Ext w1 w2 := by rw [← hww2]; exact ea _ _
  have B2 : Cells w2 (w.heap.size + 1) 26 #[.int .i64 e, .int .i64 y] := by rw [← hww2]; exact Cells.newAt _ _ (by omega)
  replace B1 := B1.ext ew2
  have zw2 := alloc_lt hww2
  have hEw2 := eg hEw1 ew2
  have b1_0_w2 := B1.cell (k := 0) rfl
  have b1_1_w2 := B1.cell (k := 1) rfl
  have b1_2_w2 := B1.cell (k := 2) rfl
  have b2_0_w2 := B2.cell (k := 0) rfl
  have b2_1_w2 := B2.cell (k := 1) rfl
  have lB1_w2 := B1.lt
  have lB2_w2 := B2.lt
  go_enter Tryz.func28, Tryz.ntmps28
  go_wp2_with fail
  clear hww1
  clear hww2
  clear lB1_w1
  have yw1 := Nat.le_of_eq zw1
  replace zw1 := Nat.le_of_eq zw1.symm
  have yw2 := Nat.le_of_eq zw2
  replace zw2 := Nat.le_of_eq zw2.symm
  refine regionT 26 (fun k => match k with | 1 => some (.v (.bool true)) | 13 => some (.v (.int .i64 (T.first + (T.N : Int) - 1))) | _ => none) (by kernel_rfl) (by kernel_rfl) ?_
  refine Walk.one (x := ?_) rfl rfl (fun w1 hI hL K hK => ?_) ?_
  rotate_left
  · obtain ⟨hc, hf⟩ := bcell hI
    go_simp
    repeat (first | (go_ints; try go_simp) | (simp only [↓IntWalk.iteOmega]; try go_simp))
    exact hK
  simp only [Act.put, List.setIfInBounds_toArray, List.set_cons_zero, List.set_cons_succ]
  refine Walk.tell rfl rfl (fun w1 hI hL K hK => ?_) ?_
  · go_simp
    exact (lValid_b T true w1 (hT.ext (eg hEw2 hI)) Hok.out).mono (tell hK)
  rintro _ rfl
  simp only [Act.put, List.setIfInBounds_toArray, List.set_cons_zero, List.set_cons_succ]
  refine Walk.one (x := ?_) rfl rfl (fun w1 hI hL K hK => ?_) ?_
  rotate_left
  · obtain ⟨hc, hf⟩ := bcell hI
    go_simp
    repeat (first | (go_ints; try go_simp) | (simp only [↓IntWalk.iteOmega]; try go_simp))
    exact hK
  simp only [Act.put, List.setIfInBounds_toArray, List.set_cons_zero, List.set_cons_succ]
  refine Walk.oneG (x := ?_) rfl (by as_aux_lemma => kernel_rfl) (fun w1 hI hL K hK => ?_) ?_
  rotate_left
  · obtain ⟨hc, hf⟩ := bcell hI
    go_simp
    repeat (first | (go_ints; try go_simp) | (simp only [↓IntWalk.iteOmega]; try go_simp))
    exact hK
  simp only [Act.put, List.setIfInBounds_toArray, List.set_cons_zero, List.set_cons_succ]
  refine Walk.oneG (x := ?_) rfl (by as_aux_lemma => kernel_rfl) (fun w1 hI hL K hK => ?_) ?_
  rotate_left
  · obtain ⟨hc, hf⟩ := bcell hI
    go_simp
    repeat (first | (go_ints; try go_simp) | (simp only [↓IntWalk.iteOmega]; try go_simp))
    exact hK
  simp only [Act.put, List.setIfInBounds_toArray, List.set_cons_zero, List.set_cons_succ]
  refine Walk.oneG (x := ?_) rfl (by as_aux_lemma => kernel_rfl) (fun w1 hI hL K hK => ?_) ?_
  rotate_left
  · obtain ⟨hc, hf⟩ := bcell hI
    go_simp
    repeat (first | (go_ints; try go_simp) | (simp only [↓IntWalk.iteOmega]; try go_simp))
    exact hK
  simp only [Act.put, List.setIfInBounds_toArray, List.set_cons_zero, List.set_cons_succ]
  refine Walk.oneG (x := ?_) rfl (by as_aux_lemma => kernel_rfl) (fun w1 hI hL K hK => ?_) ?_
  rotate_left
  · obtain ⟨hc, hf⟩ := bcell hI
    go_simp
    repeat (first | (go_ints; try go_simp) | (simp only [↓IntWalk.iteOmega]; try go_simp))
    exact hK
  simp only [Act.put, List.setIfInBounds_toArray, List.set_cons_zero, List.set_cons_succ]
  refine Walk.oneG (x := ?_) rfl (by as_aux_lemma => kernel_rfl) (fun w1 hI hL K hK => ?_) ?_
  rotate_left
  · obtain ⟨hc, hf⟩ := bcell hI
    go_simp
    repeat (first | (go_ints; try go_simp) | (simp only [↓IntWalk.iteOmega]; try go_simp))
    exact hK
  simp only [Act.put, List.setIfInBounds_toArray, List.set_cons_zero, List.set_cons_succ]
  iterate 2
    refine Walk.one (x := ?_) rfl rfl (fun w1 hI hL K hK => ?_) ?_
    rotate_left
    · obtain ⟨hc, hf⟩ := bcell hI
      go_simp
      repeat (first | (go_ints; try go_simp) | (simp only [↓IntWalk.iteOmega]; try go_simp))
      exact hK
    simp only [Act.put, List.setIfInBounds_toArray, List.set_cons_zero, List.set_cons_succ]
  refine Walk.oneG (x := ?_) rfl (by as_aux_lemma => kernel_rfl) (fun w1 hI hL K hK => ?_) ?_
  rotate_left
  · obtain ⟨hc, hf⟩ := bcell hI
    go_simp
    repeat (first | (go_ints; try go_simp) | (simp only [↓IntWalk.iteOmega]; try go_simp))
    exact hK
  simp only [Act.put, List.setIfInBounds_toArray, List.set_cons_zero, List.set_cons_succ]
  refine Walk.oneG (x := ?_) rfl (by as_aux_lemma => kernel_rfl) (fun w1 hI hL K hK => ?_) ?_
  rotate_left
  · obtain ⟨hc, hf⟩ := bcell hI
    go_simp
    repeat (first | (go_ints; try go_simp) | (simp only [↓IntWalk.iteOmega]; try go_simp))
    exact hK
  simp only [Act.put, List.setIfInBounds_toArray, List.set_cons_zero, List.set_cons_succ]
  refine Walk.oneG (x := ?_) rfl (by as_aux_lemma => kernel_rfl) (fun w1 hI hL K hK => ?_) ?_
  rotate_left
  · obtain ⟨hc, hf⟩ := bcell hI
    go_simp
    repeat (first | (go_ints; try go_simp) | (simp only [↓IntWalk.iteOmega]; try go_simp))
    exact hK
  simp only [Act.put, List.setIfInBounds_toArray, List.set_cons_zero, List.set_cons_succ]
  refine Walk.tellG rfl (by kernel_rfl) (fun w1 hI hL K hK => ?_) ?_
  · go_simp
    exact (llast T w1 hb).mono (tell hK)
  rintro _ rfl
  simp only [Act.put, List.setIfInBounds_toArray, List.set_cons_zero, List.set_cons_succ]
  refine Walk.oneG (x := ?_) rfl (by as_aux_lemma => kernel_rfl) (fun w1 hI hL K hK => ?_) ?_
  rotate_left
  · obtain ⟨hc, hf⟩ := bcell hI
    go_simp
    repeat (first | (go_ints; try go_simp) | (simp only [↓IntWalk.iteOmega]; try go_simp))
    exact hK
  simp only [Act.put, List.setIfInBounds_toArray, List.set_cons_zero, List.set_cons_succ]
  iterate 2
    refine Walk.one (x := ?_) rfl rfl (fun w1 hI hL K hK => ?_) ?_
    rotate_left
    · obtain ⟨hc, hf⟩ := bcell hI
      go_simp
      repeat (first | (go_ints; try go_simp) | (simp only [↓IntWalk.iteOmega]; try go_simp))
      exact hK
    simp only [Act.put, List.setIfInBounds_toArray, List.set_cons_zero, List.set_cons_succ]
  refine Walk.oneG (x := ?_) rfl (by as_aux_lemma => kernel_rfl) (fun w1 hI hL K hK => ?_) ?_
  rotate_left
  · obtain ⟨hc, hf⟩ := bcell hI
    go_simp
    repeat (first | (go_ints; try go_simp) | (simp only [↓IntWalk.iteOmega]; try go_simp))
    exact hK
  simp only [Act.put, List.setIfInBounds_toArray, List.set_cons_zero, List.set_cons_succ]
  refine Walk.oneG (x := ?_) rfl (by as_aux_lemma => kernel_rfl) (fun w1 hI hL K hK => ?_) ?_
  rotate_left
  · obtain ⟨hc, hf⟩ := bcell hI
    go_simp
    repeat (first | (go_ints; try go_simp) | (simp only [↓IntWalk.iteOmega]; try go_simp))
    exact hK
  simp only [Act.put, List.setIfInBounds_toArray, List.set_cons_zero, List.set_cons_succ]
  refine Walk.oneG (x := ?_) rfl (by as_aux_lemma => kernel_rfl) (fun w1 hI hL K hK => ?_) ?_
  rotate_left
  · obtain ⟨hc, hf⟩ := bcell hI
    go_simp
    repeat (first | (go_ints; try go_simp) | (simp only [↓IntWalk.iteOmega]; try go_simp))
    exact hK
  simp only [Act.put, List.setIfInBounds_toArray, List.set_cons_zero, List.set_cons_succ]
  iterate 2
    refine Walk.one (x := ?_) rfl rfl (fun w1 hI hL K hK => ?_) ?_
    rotate_left
    · obtain ⟨hc, hf⟩ := bcell hI
      go_simp
      repeat (first | (go_ints; try go_simp) | (simp only [↓IntWalk.iteOmega]; try go_simp))
      exact hK
    simp only [Act.put, List.setIfInBounds_toArray, List.set_cons_zero, List.set_cons_succ]
  refine Walk.skip rfl (by kernel_rfl) ?_
  simp only [Act.put, List.setIfInBounds_toArray, List.set_cons_zero, List.set_cons_succ]
  refine Walk.skip rfl (by kernel_rfl) ?_
  simp only [Act.put, List.setIfInBounds_toArray, List.set_cons_zero, List.set_cons_succ]
  refine Walk.skip rfl (by kernel_rfl) ?_
  simp only [Act.put, List.setIfInBounds_toArray, List.set_cons_zero, List.set_cons_succ]
  refine Walk.one (x := ?_) rfl rfl (fun w1 hI hL K hK => ?_) ?_
  rotate_left
  · obtain ⟨hc, hf⟩ := bcell hI
    go_simp
    repeat (first | (go_ints; try go_simp) | (simp only [↓IntWalk.iteOmega]; try go_simp))
    exact hK
  simp only [Act.put, List.setIfInBounds_toArray, List.set_cons_zero, List.set_cons_succ]
  refine Walk.nilF fun w3 ew3 kzL kzX => ?_
  replace B1 := B1.ext ew3
  replace B2 := B2.ext ew3
  have hEw3 := eg hEw2 ew3
  have zw3 := ew3.size
  clear kzL kzX
  have lB1_w3 := B1.lt
  have lB2_w3 := B2.lt
  simp only [List.drop_succ_cons, List.drop_zero, List.drop_nil]
  go_wp2_with fail
  clear b1_0_w2 b1_1_w2 b1_2_w2 b2_0_w2 b2_1_w2 lB1_w2 lB2_w2
  refine bodyPost_ret (v := .bool false) (by simp [results, Tryz.results28, go_sem]) rfl ?_
  exact Gv.of_v hEw3

set_option maxRecDepth 100000 in
theorem lRight5 (T : Tb) (e y : Int) (w : World) (hT : TW w T) (ey : -9223372036854775808 ≤ e ∧ e ≤ 9223372036854775807 ∧ -9223372036854775808 ≤ y ∧ y ≤ 9223372036854775807) (hok : okT T = true) (hb : boundsOk T) (h1 : T.first ≤ e) (h2 : e ≤ T.first + (T.N : Int) - 1) (h3 : 0 ≤ y) (h4 : ¬ y ≤ 300) :
    Calls Tryz.prog 28 #[.agg #[.int .i64 T.first, .int .i64 T.sel, .slice T.P T.N T.C], .agg #[.int .i64 e, .int .i64 y]] w (Gv (.v (.bool false)) w) := by
  have Hok := Lib.hid hok
  clear hok
  obtain ⟨b1, b2, b3, b4, b5, b6⟩ := id hb
  have d0 : decide (T.first ≤ e) = true := by simp; omega
  have d1 : decide (e ≤ T.first + (T.N : Int) - 1) = true := by simp; omega
  have d2 : decide (e < T.first + (T.N : Int)) = true := by simp; omega
  have d3 : decide (0 ≤ y) = true := by simp; omega
  have d4 : decide (y ≤ 300) = false := by simp; omega
  have hEw : Ext w w := Below.refl _ _
  obtain ⟨w1, hww1⟩ : ∃ W, w.alloc (.cells #[.int .i64 T.first, .int .i64 T.sel, .slice T.P T.N T.C] 24) = W := ⟨_, rfl⟩
  have ew1 : Ext w w1 := by rw [← hww1]; exact ea _ _
  have B1 : Cells w1 (w.heap.size) 24 #[.int .i64 T.first, .int .i64 T.sel, .slice T.P T.N T.C] := by rw [← hww1]; exact Cells.newAt _ _ (by omega)
  have zw1 := alloc_lt hww1
  have hEw1 := eg hEw ew1
  have lB1_w1 := B1.lt
  obtain ⟨w2, hww2⟩ : ∃ W, w1.alloc (.cells #[.int .i64 e, .int .i64 y] 26) = W := ⟨_, rfl⟩
  have ew2 : Ext w1 w2 := by rw [← hww2]; exact ea _ _
  have B2 : Cells w2 (w.heap.size + 1) 26 #[.int .i64 e, .int .i64 y] := by rw [← hww2]; exact Cells.newAt _ _ (by omega)
  replace B1 := B1.ext ew2
  have zw2 := alloc_lt hww2
  have hEw2 := eg hEw1 ew2
  have b1_0_w2 := B1.cell (k := 0) rfl
  have b1_1_w2 := B1.cell (k := 1) rfl
  have b1_2_w2 := B1.cell (k := 2) rfl
  have b2_0_w2 := B2.cell (k := 0) rfl
  have b2_1_w2 := B2.cell (k := 1) rfl
  have lB1_w2 := B1.lt
  have lB2_w2 := B2.lt
  go_enter Tryz.func28, Tryz.ntmps28
  go_wp2_with fail
  clear hww1
  clear hww2
  clear lB1_w1
  have yw1 := Nat.le_of_eq zw1
  replace zw1 := Nat.le_of_eq zw1.symm
  have yw2 := Nat.le_of_eq zw2
  replace zw2 := Nat.le_of_eq zw2.symm
  refine regionT 26 (fun k => match k with | 1 => some (.v (.bool true)) | 13 => some (.v (.int .i64 (T.first + (T.N : Int) - 1))) | _ => none) (by kernel_rfl) (by kernel_rfl) ?_
  refine Walk.one (x := ?_) rfl rfl (fun w1 hI hL K hK => ?_) ?_
  rotate_left
  · obtain ⟨hc, hf⟩ := bcell hI
    go_simp
    repeat (first | (go_ints; try go_simp) | (simp only [↓IntWalk.iteOmega]; try go_simp))
    exact hK
  simp only [Act.put, List.setIfInBounds_toArray, List.set_cons_zero, List.set_cons_succ]
  refine Walk.tell rfl rfl (fun w1 hI hL K hK => ?_) ?_
  · go_simp
    exact (lValid_b T true w1 (hT.ext (eg hEw2 hI)) Hok.out).mono (tell hK)
  rintro _ rfl
  simp only [Act.put, List.setIfInBounds_toArray, List.set_cons_zero, List.set_cons_succ]
  refine Walk.one (x := ?_) rfl rfl (fun w1 hI hL K hK => ?_) ?_
  rotate_left
  · obtain ⟨hc, hf⟩ := bcell hI
    go_simp
    repeat (first | (go_ints; try go_simp) | (simp only [↓IntWalk.iteOmega]; try go_simp))
    exact hK
  simp only [Act.put, List.setIfInBounds_toArray, List.set_cons_zero, List.set_cons_succ]
  refine Walk.oneG (x := ?_) rfl (by as_aux_lemma => kernel_rfl) (fun w1 hI hL K hK => ?_) ?_
  rotate_left
  · obtain ⟨hc, hf⟩ := bcell hI
    go_simp
    repeat (first | (go_ints; try go_simp) | (simp only [↓IntWalk.iteOmega]; try go_simp))
    exact hK
  simp only [Act.put, List.setIfInBounds_toArray, List.set_cons_zero, List.set_cons_succ]
  refine Walk.oneG (x := ?_) rfl (by as_aux_lemma => kernel_rfl) (fun w1 hI hL K hK => ?_) ?_
  rotate_left
  · obtain ⟨hc, hf⟩ := bcell hI
    go_simp
    repeat (first | (go_ints; try go_simp) | (simp only [↓IntWalk.iteOmega]; try go_simp))
    exact hK
  simp only [Act.put, List.setIfInBounds_toArray, List.set_cons_zero, List.set_cons_succ]
  refine Walk.oneG (x := ?_) rfl (by as_aux_lemma => kernel_rfl) (fun w1 hI hL K hK => ?_) ?_
  rotate_left
  · obtain ⟨hc, hf⟩ := bcell hI
    go_simp
    repeat (first | (go_ints; try go_simp) | (simp only [↓IntWalk.iteOmega]; try go_simp))
    exact hK
  simp only [Act.put, List.setIfInBounds_toArray, List.set_cons_zero, List.set_cons_succ]
  refine Walk.oneG (x := ?_) rfl (by as_aux_lemma => kernel_rfl) (fun w1 hI hL K hK => ?_) ?_
  rotate_left
  · obtain ⟨hc, hf⟩ := bcell hI
    go_simp
    repeat (first | (go_ints; try go_simp) | (simp only [↓IntWalk.iteOmega]; try go_simp))
    exact hK
  simp only [Act.put, List.setIfInBounds_toArray, List.set_cons_zero, List.set_cons_succ]
  refine Walk.oneG (x := ?_) rfl (by as_aux_lemma => kernel_rfl) (fun w1 hI hL K hK => ?_) ?_
  rotate_left
  · obtain ⟨hc, hf⟩ := bcell hI
    go_simp
    repeat (first | (go_ints; try go_simp) | (simp only [↓IntWalk.iteOmega]; try go_simp))
    exact hK
  simp only [Act.put, List.setIfInBounds_toArray, List.set_cons_zero, List.set_cons_succ]
  iterate 2
    refine Walk.one (x := ?_) rfl rfl (fun w1 hI hL K hK => ?_) ?_
    rotate_left
    · obtain ⟨hc, hf⟩ := bcell hI
      go_simp
      repeat (first | (go_ints; try go_simp) | (simp only [↓IntWalk.iteOmega]; try go_simp))
      exact hK
    simp only [Act.put, List.setIfInBounds_toArray, List.set_cons_zero, List.set_cons_succ]
  refine Walk.oneG (x := ?_) rfl (by as_aux_lemma => kernel_rfl) (fun w1 hI hL K hK => ?_) ?_
  rotate_left
  · obtain ⟨hc, hf⟩ := bcell hI
    go_simp
    repeat (first | (go_ints; try go_simp) | (simp only [↓IntWalk.iteOmega]; try go_simp))
    exact hK
  simp only [Act.put, List.setIfInBounds_toArray, List.set_cons_zero, List.set_cons_succ]
  refine Walk.oneG (x := ?_) rfl (by as_aux_lemma => kernel_rfl) (fun w1 hI hL K hK => ?_) ?_
  rotate_left
  · obtain ⟨hc, hf⟩ := bcell hI
    go_simp
    repeat (first | (go_ints; try go_simp) | (simp only [↓IntWalk.iteOmega]; try go_simp))
    exact hK
  simp only [Act.put, List.setIfInBounds_toArray, List.set_cons_zero, List.set_cons_succ]
  refine Walk.oneG (x := ?_) rfl (by as_aux_lemma => kernel_rfl) (fun w1 hI hL K hK => ?_) ?_
  rotate_left
  · obtain ⟨hc, hf⟩ := bcell hI
    go_simp
    repeat (first | (go_ints; try go_simp) | (simp only [↓IntWalk.iteOmega]; try go_simp))
    exact hK
  simp only [Act.put, List.setIfInBounds_toArray, List.set_cons_zero, List.set_cons_succ]
  refine Walk.tellG rfl (by kernel_rfl) (fun w1 hI hL K hK => ?_) ?_
  · go_simp
    exact (llast T w1 hb).mono (tell hK)
  rintro _ rfl
  simp only [Act.put, List.setIfInBounds_toArray, List.set_cons_zero, List.set_cons_succ]
  refine Walk.oneG (x := ?_) rfl (by as_aux_lemma => kernel_rfl) (fun w1 hI hL K hK => ?_) ?_
  rotate_left
  · obtain ⟨hc, hf⟩ := bcell hI
    go_simp
    repeat (first | (go_ints; try go_simp) | (simp only [↓IntWalk.iteOmega]; try go_simp))
    exact hK
  simp only [Act.put, List.setIfInBounds_toArray, List.set_cons_zero, List.set_cons_succ]
  iterate 2
    refine Walk.one (x := ?_) rfl rfl (fun w1 hI hL K hK => ?_) ?_
    rotate_left
    · obtain ⟨hc, hf⟩ := bcell hI
      go_simp
      repeat (first | (go_ints; try go_simp) | (simp only [↓IntWalk.iteOmega]; try go_simp))
      exact hK
    simp only [Act.put, List.setIfInBounds_toArray, List.set_cons_zero, List.set_cons_succ]
  refine Walk.oneG (x := ?_) rfl (by as_aux_lemma => kernel_rfl) (fun w1 hI hL K hK => ?_) ?_
  rotate_left
  · obtain ⟨hc, hf⟩ := bcell hI
    go_simp
    repeat (first | (go_ints; try go_simp) | (simp only [↓IntWalk.iteOmega]; try go_simp))
    exact hK
  simp only [Act.put, List.setIfInBounds_toArray, List.set_cons_zero, List.set_cons_succ]
  refine Walk.oneG (x := ?_) rfl (by as_aux_lemma => kernel_rfl) (fun w1 hI hL K hK => ?_) ?_
  rotate_left
  · obtain ⟨hc, hf⟩ := bcell hI
    go_simp
    repeat (first | (go_ints; try go_simp) | (simp only [↓IntWalk.iteOmega]; try go_simp))
    exact hK
  simp only [Act.put, List.setIfInBounds_toArray, List.set_cons_zero, List.set_cons_succ]
  refine Walk.oneG (x := ?_) rfl (by as_aux_lemma => kernel_rfl) (fun w1 hI hL K hK => ?_) ?_
  rotate_left
  · obtain ⟨hc, hf⟩ := bcell hI
    go_simp
    repeat (first | (go_ints; try go_simp) | (simp only [↓IntWalk.iteOmega]; try go_simp))
    exact hK
  simp only [Act.put, List.setIfInBounds_toArray, List.set_cons_zero, List.set_cons_succ]
  iterate 2
    refine Walk.one (x := ?_) rfl rfl (fun w1 hI hL K hK => ?_) ?_
    rotate_left
    · obtain ⟨hc, hf⟩ := bcell hI
      go_simp
      repeat (first | (go_ints; try go_simp) | (simp only [↓IntWalk.iteOmega]; try go_simp))
      exact hK
    simp only [Act.put, List.setIfInBounds_toArray, List.set_cons_zero, List.set_cons_succ]
  refine Walk.oneG (x := ?_) rfl (by as_aux_lemma => kernel_rfl) (fun w1 hI hL K hK => ?_) ?_
  rotate_left
  · obtain ⟨hc, hf⟩ := bcell hI
    go_simp
    repeat (first | (go_ints; try go_simp) | (simp only [↓IntWalk.iteOmega]; try go_simp))
    exact hK
  simp only [Act.put, List.setIfInBounds_toArray, List.set_cons_zero, List.set_cons_succ]
  refine Walk.oneG (x := ?_) rfl (by as_aux_lemma => kernel_rfl) (fun w1 hI hL K hK => ?_) ?_
  rotate_left
  · obtain ⟨hc, hf⟩ := bcell hI
    go_simp
    repeat (first | (go_ints; try go_simp) | (simp only [↓IntWalk.iteOmega]; try go_simp))
    exact hK
  simp only [Act.put, List.setIfInBounds_toArray, List.set_cons_zero, List.set_cons_succ]
  refine Walk.oneG (x := ?_) rfl (by as_aux_lemma => kernel_rfl) (fun w1 hI hL K hK => ?_) ?_
  rotate_left
  · obtain ⟨hc, hf⟩ := bcell hI
    go_simp
    repeat (first | (go_ints; try go_simp) | (simp only [↓IntWalk.iteOmega]; try go_simp))
    exact hK
  simp only [Act.put, List.setIfInBounds_toArray, List.set_cons_zero, List.set_cons_succ]
  refine Walk.one (x := ?_) rfl rfl (fun w1 hI hL K hK => ?_) ?_
  rotate_left
  · obtain ⟨hc, hf⟩ := bcell hI
    go_simp
    repeat (first | (go_ints; try go_simp) | (simp only [↓IntWalk.iteOmega]; try go_simp))
    exact hK
  simp only [Act.put, List.setIfInBounds_toArray, List.set_cons_zero, List.set_cons_succ]
  refine Walk.nilF fun w3 ew3 kzL kzX => ?_
  replace B1 := B1.ext ew3
  replace B2 := B2.ext ew3
  have hEw3 := eg hEw2 ew3
  have zw3 := ew3.size
  clear kzL kzX
  have lB1_w3 := B1.lt
  have lB2_w3 := B2.lt
  simp only [List.drop_succ_cons, List.drop_zero, List.drop_nil]
  go_wp2_with fail
  clear b1_0_w2 b1_1_w2 b1_2_w2 b2_0_w2 b2_1_w2 lB1_w2 lB2_w2
  refine bodyPost_ret (v := .bool false) (by simp [results, Tryz.results28, go_sem]) rfl ?_
  exact Gv.of_v hEw3

set_option maxRecDepth 100000 in
theorem lRight6 (T : Tb) (e y : Int) (w : World) (hT : TW w T) (ey : -9223372036854775808 ≤ e ∧ e ≤ 9223372036854775807 ∧ -9223372036854775808 ≤ y ∧ y ≤ 9223372036854775807) (hok : okT T = true) (hb : boundsOk T) (h1 : T.first ≤ e) (h2 : e ≤ T.first + (T.N : Int) - 1) (h3 : 0 ≤ y) (h4 : y ≤ 300) :
    Calls Tryz.prog 28 #[.agg #[.int .i64 T.first, .int .i64 T.sel, .slice T.P T.N T.C], .agg #[.int .i64 e, .int .i64 y]] w (Gv (.v (.bool true)) w) := by
  have Hok := Lib.hid hok
  clear hok
  obtain ⟨b1, b2, b3, b4, b5, b6⟩ := id hb
  have d0 : decide (T.first ≤ e) = true := by simp; omega
  have d1 : decide (e ≤ T.first + (T.N : Int) - 1) = true := by simp; omega
  have d2 : decide (e < T.first + (T.N : Int)) = true := by simp; omega
  have d3 : decide (0 ≤ y) = true := by simp; omega
  have d4 : decide (y ≤ 300) = true := by simp; omega
  have hEw : Ext w w := Below.refl _ _
  obtain ⟨w1, hww1⟩ : ∃ W, w.alloc (.cells #[.int .i64 T.first, .int .i64 T.sel, .slice T.P T.N T.C] 24) = W := ⟨_, rfl⟩
  have ew1 : Ext w w1 := by rw [← hww1]; exact ea _ _
  have B1 : Cells w1 (w.heap.size) 24 #[.int .i64 T.first, .int .i64 T.sel, .slice T.P T.N T.C] := by rw [← hww1]; exact Cells.newAt _ _ (by omega)
  have zw1 := alloc_lt hww1
  have hEw1 := eg hEw ew1
  have lB1_w1 := B1.lt
  obtain ⟨w2, hww2⟩ : ∃ W, w1.alloc (.cells #[.int .i64 e, .int .i64 y] 26) = W := ⟨_, rfl⟩
  have ew2 : Ext w1 w2 := by rw [← hww2]; exact ea _ _
  have B2 : Cells w2 (w.heap.size + 1) 26 #[.int .i64 e, .int .i64 y] := by rw [← hww2]; exact Cells.newAt _ _ (by omega)
  replace B1 := B1.ext ew2
  have zw2 := alloc_lt hww2
  have hEw2 := eg hEw1 ew2
  have b1_0_w2 := B1.cell (k := 0) rfl
  have b1_1_w2 := B1.cell (k := 1) rfl
  have b1_2_w2 := B1.cell (k := 2) rfl
  have b2_0_w2 := B2.cell (k := 0) rfl
  have b2_1_w2 := B2.cell (k := 1) rfl
  have lB1_w2 := B1.lt
  have lB2_w2 := B2.lt
  go_enter Tryz.func28, Tryz.ntmps28
  go_wp2_with fail
  clear hww1
  clear hww2
  clear lB1_w1
  have yw1 := Nat.le_of_eq zw1
  replace zw1 := Nat.le_of_eq zw1.symm
  have yw2 := Nat.le_of_eq zw2
  replace zw2 := Nat.le_of_eq zw2.symm
  refine regionT 26 (fun k => match k with | 1 => some (.v (.bool true)) | 13 => some (.v (.int .i64 (T.first + (T.N : Int) - 1))) | _ => none) (by kernel_rfl) (by kernel_rfl) ?_
  refine Walk.one (x := ?_) rfl rfl (fun w1 hI hL K hK => ?_) ?_
  rotate_left
  · obtain ⟨hc, hf⟩ := bcell hI
    go_simp
    repeat (first | (go_ints; try go_simp) | (simp only [↓IntWalk.iteOmega]; try go_simp))
    exact hK
  simp only [Act.put, List.setIfInBounds_toArray, List.set_cons_zero, List.set_cons_succ]
  refine Walk.tell rfl rfl (fun w1 hI hL K hK => ?_) ?_
  · go_simp
    exact (lValid_b T true w1 (hT.ext (eg hEw2 hI)) Hok.out).mono (tell hK)
  rintro _ rfl
  simp only [Act.put, List.setIfInBounds_toArray, List.set_cons_zero, List.set_cons_succ]
  refine Walk.one (x := ?_) rfl rfl (fun w1 hI hL K hK => ?_) ?_
  rotate_left
  · obtain ⟨hc, hf⟩ := bcell hI
    go_simp
    repeat (first | (go_ints; try go_simp) | (simp only [↓IntWalk.iteOmega]; try go_simp))
    exact hK
  simp only [Act.put, List.setIfInBounds_toArray, List.set_cons_zero, List.set_cons_succ]
  refine Walk.oneG (x := ?_) rfl (by as_aux_lemma => kernel_rfl) (fun w1 hI hL K hK => ?_) ?_
  rotate_left
  · obtain ⟨hc, hf⟩ := bcell hI
    go_simp
    repeat (first | (go_ints; try go_simp) | (simp only [↓IntWalk.iteOmega]; try go_simp))
    exact hK
  simp only [Act.put, List.setIfInBounds_toArray, List.set_cons_zero, List.set_cons_succ]
  refine Walk.oneG (x := ?_) rfl (by as_aux_lemma => kernel_rfl) (fun w1 hI hL K hK => ?_) ?_
  rotate_left
  · obtain ⟨hc, hf⟩ := bcell hI
    go_simp
    repeat (first | (go_ints; try go_simp) | (simp only [↓IntWalk.iteOmega]; try go_simp))
    exact hK
  simp only [Act.put, List.setIfInBounds_toArray, List.set_cons_zero, List.set_cons_succ]
  refine Walk.oneG (x := ?_) rfl (by as_aux_lemma => kernel_rfl) (fun w1 hI hL K hK => ?_) ?_
  rotate_left
  · obtain ⟨hc, hf⟩ := bcell hI
    go_simp
    repeat (first | (go_ints; try go_simp) | (simp only [↓IntWalk.iteOmega]; try go_simp))
    exact hK
  simp only [Act.put, List.setIfInBounds_toArray, List.set_cons_zero, List.set_cons_succ]
  refine Walk.oneG (x := ?_) rfl (by as_aux_lemma => kernel_rfl) (fun w1 hI hL K hK => ?_) ?_
  rotate_left
  · obtain ⟨hc, hf⟩ := bcell hI
    go_simp
    repeat (first | (go_ints; try go_simp) | (simp only [↓IntWalk.iteOmega]; try go_simp))
    exact hK
  simp only [Act.put, List.setIfInBounds_toArray, List.set_cons_zero, List.set_cons_succ]
  refine Walk.oneG (x := ?_) rfl (by as_aux_lemma => kernel_rfl) (fun w1 hI hL K hK => ?_) ?_
  rotate_left
  · obtain ⟨hc, hf⟩ := bcell hI
    go_simp
    repeat (first | (go_ints; try go_simp) | (simp only [↓IntWalk.iteOmega]; try go_simp))
    exact hK
  simp only [Act.put, List.setIfInBounds_toArray, List.set_cons_zero, List.set_cons_succ]
  iterate 2
    refine Walk.one (x := ?_) rfl rfl (fun w1 hI hL K hK => ?_) ?_
    rotate_left
    · obtain ⟨hc, hf⟩ := bcell hI
      go_simp
      repeat (first | (go_ints; try go_simp) | (simp only [↓IntWalk.iteOmega]; try go_simp))
      exact hK
    simp only [Act.put, List.setIfInBounds_toArray, List.set_cons_zero, List.set_cons_succ]
  refine Walk.oneG (x := ?_) rfl (by as_aux_lemma => kernel_rfl) (fun w1 hI hL K hK => ?_) ?_
  rotate_left
  · obtain ⟨hc, hf⟩ := bcell hI
    go_simp
    repeat (first | (go_ints; try go_simp) | (simp only [↓IntWalk.iteOmega]; try go_simp))
    exact hK
  simp only [Act.put, List.setIfInBounds_toArray, List.set_cons_zero, List.set_cons_succ]
  refine Walk.oneG (x := ?_) rfl (by as_aux_lemma => kernel_rfl) (fun w1 hI hL K hK => ?_) ?_
  rotate_left
  · obtain ⟨hc, hf⟩ := bcell hI
    go_simp
    repeat (first | (go_ints; try go_simp) | (simp only [↓IntWalk.iteOmega]; try go_simp))
    exact hK
  simp only [Act.put, List.setIfInBounds_toArray, List.set_cons_zero, List.set_cons_succ]
  refine Walk.oneG (x := ?_) rfl (by as_aux_lemma => kernel_rfl) (fun w1 hI hL K hK => ?_) ?_
  rotate_left
  · obtain ⟨hc, hf⟩ := bcell hI
    go_simp
    repeat (first | (go_ints; try go_simp) | (simp only [↓IntWalk.iteOmega]; try go_simp))
    exact hK
  simp only [Act.put, List.setIfInBounds_toArray, List.set_cons_zero, List.set_cons_succ]
  refine Walk.tellG rfl (by kernel_rfl) (fun w1 hI hL K hK => ?_) ?_
  · go_simp
    exact (llast T w1 hb).mono (tell hK)
  rintro _ rfl
  simp only [Act.put, List.setIfInBounds_toArray, List.set_cons_zero, List.set_cons_succ]
  refine Walk.oneG (x := ?_) rfl (by as_aux_lemma => kernel_rfl) (fun w1 hI hL K hK => ?_) ?_
  rotate_left
  · obtain ⟨hc, hf⟩ := bcell hI
    go_simp
    repeat (first | (go_ints; try go_simp) | (simp only [↓IntWalk.iteOmega]; try go_simp))
    exact hK
  simp only [Act.put, List.setIfInBounds_toArray, List.set_cons_zero, List.set_cons_succ]
  iterate 2
    refine Walk.one (x := ?_) rfl rfl (fun w1 hI hL K hK => ?_) ?_
    rotate_left
    · obtain ⟨hc, hf⟩ := bcell hI
      go_simp
      repeat (first | (go_ints; try go_simp) | (simp only [↓IntWalk.iteOmega]; try go_simp))
      exact hK
    simp only [Act.put, List.setIfInBounds_toArray, List.set_cons_zero, List.set_cons_succ]
  refine Walk.oneG (x := ?_) rfl (by as_aux_lemma => kernel_rfl) (fun w1 hI hL K hK => ?_) ?_
  rotate_left
  · obtain ⟨hc, hf⟩ := bcell hI
    go_simp
    repeat (first | (go_ints; try go_simp) | (simp only [↓IntWalk.iteOmega]; try go_simp))
    exact hK
  simp only [Act.put, List.setIfInBounds_toArray, List.set_cons_zero, List.set_cons_succ]
  refine Walk.oneG (x := ?_) rfl (by as_aux_lemma => kernel_rfl) (fun w1 hI hL K hK => ?_) ?_
  rotate_left
  · obtain ⟨hc, hf⟩ := bcell hI
    go_simp
    repeat (first | (go_ints; try go_simp) | (simp only [↓IntWalk.iteOmega]; try go_simp))
    exact hK
  simp only [Act.put, List.setIfInBounds_toArray, List.set_cons_zero, List.set_cons_succ]
  refine Walk.oneG (x := ?_) rfl (by as_aux_lemma => kernel_rfl) (fun w1 hI hL K hK => ?_) ?_
  rotate_left
  · obtain ⟨hc, hf⟩ := bcell hI
    go_simp
    repeat (first | (go_ints; try go_simp) | (simp only [↓IntWalk.iteOmega]; try go_simp))
    exact hK
  simp only [Act.put, List.setIfInBounds_toArray, List.set_cons_zero, List.set_cons_succ]
  iterate 2
    refine Walk.one (x := ?_) rfl rfl (fun w1 hI hL K hK => ?_) ?_
    rotate_left
    · obtain ⟨hc, hf⟩ := bcell hI
      go_simp
      repeat (first | (go_ints; try go_simp) | (simp only [↓IntWalk.iteOmega]; try go_simp))
      exact hK
    simp only [Act.put, List.setIfInBounds_toArray, List.set_cons_zero, List.set_cons_succ]
  refine Walk.oneG (x := ?_) rfl (by as_aux_lemma => kernel_rfl) (fun w1 hI hL K hK => ?_) ?_
  rotate_left
  · obtain ⟨hc, hf⟩ := bcell hI
    go_simp
    repeat (first | (go_ints; try go_simp) | (simp only [↓IntWalk.iteOmega]; try go_simp))
    exact hK
  simp only [Act.put, List.setIfInBounds_toArray, List.set_cons_zero, List.set_cons_succ]
  refine Walk.oneG (x := ?_) rfl (by as_aux_lemma => kernel_rfl) (fun w1 hI hL K hK => ?_) ?_
  rotate_left
  · obtain ⟨hc, hf⟩ := bcell hI
    go_simp
    repeat (first | (go_ints; try go_simp) | (simp only [↓IntWalk.iteOmega]; try go_simp))
    exact hK
  simp only [Act.put, List.setIfInBounds_toArray, List.set_cons_zero, List.set_cons_succ]
  refine Walk.oneG (x := ?_) rfl (by as_aux_lemma => kernel_rfl) (fun w1 hI hL K hK => ?_) ?_
  rotate_left
  · obtain ⟨hc, hf⟩ := bcell hI
    go_simp
    repeat (first | (go_ints; try go_simp) | (simp only [↓IntWalk.iteOmega]; try go_simp))
    exact hK
  simp only [Act.put, List.setIfInBounds_toArray, List.set_cons_zero, List.set_cons_succ]
  refine Walk.one (x := ?_) rfl rfl (fun w1 hI hL K hK => ?_) ?_
  rotate_left
  · obtain ⟨hc, hf⟩ := bcell hI
    go_simp
    repeat (first | (go_ints; try go_simp) | (simp only [↓IntWalk.iteOmega]; try go_simp))
    exact hK
  simp only [Act.put, List.setIfInBounds_toArray, List.set_cons_zero, List.set_cons_succ]
  refine Walk.nilF fun w3 ew3 kzL kzX => ?_
  replace B1 := B1.ext ew3
  replace B2 := B2.ext ew3
  have hEw3 := eg hEw2 ew3
  have zw3 := ew3.size
  clear kzL kzX
  have lB1_w3 := B1.lt
  have lB2_w3 := B2.lt
  simp only [List.drop_succ_cons, List.drop_zero, List.drop_nil]
  go_wp2_with fail
  clear b1_0_w2 b1_1_w2 b1_2_w2 b2_0_w2 b2_1_w2 lB1_w2 lB2_w2
  refine bodyPost_ret (v := .bool true) (by simp [results, Tryz.results28, go_sem]) rfl ?_
  exact Gv.of_v hEw3

theorem lRight (T : Tb) (e y : Int) (w : World) (hT : TW w T) (ey : -9223372036854775808 ≤ e ∧ e ≤ 9223372036854775807 ∧ -9223372036854775808 ≤ y ∧ y ≤ 9223372036854775807) {b : Bool} (hb : okL T e y = b) : Calls Tryz.prog 28 #[.agg #[.int .i64 T.first, .int .i64 T.sel, .slice T.P T.N T.C], .agg #[.int .i64 e, .int .i64 y]] w (Gv (.v (.bool b)) w) := by
  subst hb
  cases hok : okT T
  · rw [show okL T e y = false by unfold okL; rw [hok]; rfl]
    exact lRight1 T e y w hT ey hok
  · have hb := (okT_iff.1 hok).1
    by_cases h1 : T.first ≤ e
    · by_cases h2 : e ≤ T.first + (T.N : Int) - 1
      · by_cases h3 : 0 ≤ y
        · by_cases h4 : y ≤ 300
          · rw [show okL T e y = true by unfold okL; simp only [hok, h1, h2, h3, h4, decide_true, Bool.and_self]]
            exact lRight6 T e y w hT ey hok hb h1 h2 h3 h4
          · rw [show okL T e y = false by unfold okL; simp only [h4, decide_false, Bool.and_false]]
            exact lRight5 T e y w hT ey hok hb h1 h2 h3 h4
        · rw [show okL T e y = false by unfold okL; simp only [h3, decide_false, Bool.and_false, Bool.false_and]]
          exact lRight4 T e y w hT ey hok hb h1 h2 h3
      · rw [show okL T e y = false by unfold okL; simp only [h2, decide_false, Bool.and_false, Bool.false_and]]
        exact lRight3 T e y w hT ey hok hb h1 h2
    · rw [show okL T e y = false by unfold okL; simp only [h1, decide_false, Bool.and_false, Bool.false_and]]
      exact lRight2 T e y w hT ey hok hb h1

set_option maxRecDepth 100000 in
theorem lrate_a (T : Tb) (R : Nat → Nat → Rat) (e y : Int) (w : World) (hT : TQ w T R) (h1 : T.first ≤ e) (h2 : e ≤ T.first + (T.N : Int) - 1) (h3 : 0 ≤ y) (h4 : y ≤ 1000) (h5 : T.first + (T.N : Int) ≤ e + y) :
    Calls Tryz.prog 56 #[.agg #[.int .i64 T.first, .int .i64 T.sel, .slice T.P T.N T.C, .int .i64 e, .int .i64 y]] w (Gv (.f (rt T R e y)) w) := by
  obtain ⟨b1, b2, b3, b4, b5, b6⟩ := id hT.b
  have hb := hT.b
  have hEw : Ext w w := Below.refl _ _
  obtain ⟨w1, hww1⟩ : ∃ W, w.alloc (.cells #[.int .i64 T.first, .int .i64 T.sel, .slice T.P T.N T.C, .int .i64 e, .int .i64 y] 72) = W := ⟨_, rfl⟩
  have ew1 : Ext w w1 := by rw [← hww1]; exact ea _ _
  have B1 : Cells w1 (w.heap.size) 72 #[.int .i64 T.first, .int .i64 T.sel, .slice T.P T.N T.C, .int .i64 e, .int .i64 y] := by rw [← hww1]; exact Cells.newAt _ _ (by omega)
  have zw1 := alloc_lt hww1
  have hEw1 := eg hEw ew1
  have lB1_w1 := B1.lt
  obtain ⟨w2, hww2⟩ : ∃ W, w1.alloc (.cells #[.bool false, .slice none 0 0, .bool false, .slice none 0 0] 40) = W := ⟨_, rfl⟩
  have ew2 : Ext w1 w2 := by rw [← hww2]; exact ea _ _
  have B2 : Cells w2 (w.heap.size + 1) 40 #[.bool false, .slice none 0 0, .bool false, .slice none 0 0] := by rw [← hww2]; exact Cells.newAt _ _ (by omega)
  replace B1 := B1.ext ew2
  have zw2 := alloc_lt hww2
  have hEw2 := eg hEw1 ew2
  have b1_3_w2 := B1.cell (k := 3) rfl
  have b1_4_w2 := B1.cell (k := 4) rfl
  have b1_0_w2 := B1.cell (k := 0) rfl
  have b1_1_w2 := B1.cell (k := 1) rfl
  have b1_2_w2 := B1.cell (k := 2) rfl
  have lB1_w2 := B1.lt
  have lB2_w2 := B2.lt
  go_enter Tryz.func56, Tryz.ntmps56
  go_wp2_with fail
  clear hww1
  clear hww2
  clear lB1_w1
  have yw1 := Nat.le_of_eq zw1
  replace zw1 := Nat.le_of_eq zw1.symm
  have yw2 := Nat.le_of_eq zw2
  replace zw2 := Nat.le_of_eq zw2.symm
  refine (llast T _ hb).mono ?_
  intro ee w3 gg
  obtain ⟨rfl, ew3⟩ := Gv.v gg
  replace B1 := B1.ext ew3
  replace B2 := B2.ext ew3
  have hEw3 := eg hEw2 ew3
  have zw3 := ew3.size
  have lB1_w3 := B1.lt
  have lB2_w3 := B2.lt
  go_wp2_with fail
  clear b1_3_w2 b1_4_w2 b1_0_w2 b1_1_w2 b1_2_w2 lB1_w2 lB2_w2
  refine (fFromInt_1 _).mono ?_
  intro ee w4 gg
  obtain ⟨Z17, rfl, hZ17, oZ17, ew4⟩ := Gv.f gg
  replace B1 := B1.ext ew4
  replace B2 := B2.ext ew4
  have hEw4 := eg hEw3 ew4
  have zw4 := ew4.size
  replace oZ17 := oZ17.mono hEw3.size
  have b2_0_w4 := B2.cell (k := 0) rfl
  have fb2_0_w4 := B2.frozen 0
  have b2_1_w4 := B2.cell (k := 1) rfl
  have fb2_1_w4 := B2.frozen 1
  have b2_2_w4 := B2.cell (k := 2) rfl
  have fb2_2_w4 := B2.frozen 2
  have b2_3_w4 := B2.cell (k := 3) rfl
  have fb2_3_w4 := B2.frozen 3
  have lB1_w4 := B1.lt
  have lB2_w4 := B2.lt
  obtain ⟨w5, hww5⟩ : ∃ W, ((((w4).setCell ⟨w.heap.size + 1, 0, none⟩ (.bool Z17.N.b)).setCell ⟨w.heap.size + 1, 1, none⟩ (.slice Z17.N.p Z17.N.n Z17.N.c)).setCell ⟨w.heap.size + 1, 2, none⟩ (.bool Z17.D.b)).setCell ⟨w.heap.size + 1, 3, none⟩ (.slice Z17.D.p Z17.D.n Z17.D.c) = W := ⟨_, rfl⟩
  have nuw5 : NoU #[.bool false, .slice none 0 0, .bool false, .slice none 0 0] := by simp [NoU]
  replace hZ17 := FR.sets hZ17 B2 nuw5 0 [.bool Z17.N.b, .slice Z17.N.p Z17.N.n Z17.N.c, .bool Z17.D.b, .slice Z17.D.p Z17.D.n Z17.D.c]
  replace oZ17 := OF.sets oZ17 B2 (by decide) 0 [.bool Z17.N.b, .slice Z17.N.p Z17.N.n Z17.N.c, .bool Z17.D.b, .slice Z17.D.p Z17.D.n Z17.D.c]
  have hEw5 := Ext.sets hEw4 (b := w.heap.size + 1) (by omega) 0 [.bool Z17.N.b, .slice Z17.N.p Z17.N.n Z17.N.c, .bool Z17.D.b, .slice Z17.D.p Z17.D.n Z17.D.c]
  replace B1 := Cells.off B1 (b' := w.heap.size + 1) (by omega) 0 [.bool Z17.N.b, .slice Z17.N.p Z17.N.n Z17.N.c, .bool Z17.D.b, .slice Z17.D.p Z17.D.n Z17.D.c]
  replace B2 : Cells (sets w4 (w.heap.size + 1) 0 [.bool Z17.N.b, .slice Z17.N.p Z17.N.n Z17.N.c, .bool Z17.D.b, .slice Z17.D.p Z17.D.n Z17.D.c]) (w.heap.size + 1) 40 #[.bool Z17.N.b, .slice Z17.N.p Z17.N.n Z17.N.c, .bool Z17.D.b, .slice Z17.D.p Z17.D.n Z17.D.c] := Cells.sets [.bool Z17.N.b, .slice Z17.N.p Z17.N.n Z17.N.c, .bool Z17.D.b, .slice Z17.D.p Z17.D.n Z17.D.c] B2 0
  have zw5 := size_sets (w.heap.size + 1) [.bool Z17.N.b, .slice Z17.N.p Z17.N.n Z17.N.c, .bool Z17.D.b, .slice Z17.D.p Z17.D.n Z17.D.c] w4 0
  replace hww5 : sets w4 (w.heap.size + 1) 0 [.bool Z17.N.b, .slice Z17.N.p Z17.N.n Z17.N.c, .bool Z17.D.b, .slice Z17.D.p Z17.D.n Z17.D.c] = w5 := hww5
  rw [hww5] at hZ17 oZ17 B1 B2 hEw5 zw5
  replace hww5 : ((((w4).setCell ⟨w.heap.size + 1, 0, none⟩ (.bool Z17.N.b)).setCell ⟨w.heap.size + 1, 1, none⟩ (.slice Z17.N.p Z17.N.n Z17.N.c)).setCell ⟨w.heap.size + 1, 2, none⟩ (.bool Z17.D.b)).setCell ⟨w.heap.size + 1, 3, none⟩ (.slice Z17.D.p Z17.D.n Z17.D.c) = w5 := hww5
  have b2_0_w5 := B2.cell (k := 0) rfl
  have b2_1_w5 := B2.cell (k := 1) rfl
  have b2_2_w5 := B2.cell (k := 2) rfl
  have b2_3_w5 := B2.cell (k := 3) rfl
  have lB1_w5 := B1.lt
  have lB2_w5 := B2.lt
  go_wp2_with fail
  clear hww5
  clear b2_0_w4 fb2_0_w4 b2_1_w4 fb2_1_w4 b2_2_w4 fb2_2_w4 b2_3_w4 fb2_3_w4 lB1_w3 lB2_w3 lB1_w4 lB2_w4
  have yw5 := Nat.le_of_eq zw5
  replace zw5 := Nat.le_of_eq zw5.symm
  refine bodyPost_ret (v := .agg #[.bool Z17.N.b, .slice Z17.N.p Z17.N.n Z17.N.c, .bool Z17.D.b, .slice Z17.D.p Z17.D.n Z17.D.c]) (by simp [results, Tryz.results56, go_sem, b2_0_w5, b2_1_w5, b2_2_w5, b2_3_w5]) rfl ?_
  rw [show rt T R e y = 1 by unfold rt; rw [if_pos h5]]
  exact Gv.of_f (X := Z17) hZ17 oZ17 hEw5

theorem ltimes_1 (Q : Fr) (q : Rat) (Z : Fr) (w : World) (hQ : FR w Q q) (hZ : FR w Z 1) (b : Sz q) : Calls Tryz.prog 59 #[.agg #[.bool Q.N.b, .slice Q.N.p Q.N.n Q.N.c, .bool Q.D.b, .slice Q.D.p Q.D.n Q.D.c], .agg #[.bool Z.N.b, .slice Z.N.p Z.N.n Z.N.c, .bool Z.D.b, .slice Z.D.p Z.D.n Z.D.c]] w (Gv (.f q) w) := by
  have := ltimes Q Z q 1 w hQ hZ b sz_one (by rw [Rat.mul_one]; exact b)
  rwa [Rat.mul_one] at this

set_option maxRecDepth 100000 in
theorem lrate_b (T : Tb) (R : Nat → Nat → Rat) (e y : Int) (w : World) (hT : TQ w T R) (h1 : T.first ≤ e) (h2 : e ≤ T.first + (T.N : Int) - 1) (h3 : 0 ≤ y) (h4 : y ≤ 1000) (h5 : ¬ T.first + (T.N : Int) ≤ e + y) (h6 : y < T.sel) :
    Calls Tryz.prog 56 #[.agg #[.int .i64 T.first, .int .i64 T.sel, .slice T.P T.N T.C, .int .i64 e, .int .i64 y]] w (Gv (.f (rt T R e y)) w) := by
  obtain ⟨b1, b2, b3, b4, b5, b6⟩ := id hT.b
  have hb := hT.b
  obtain ⟨Q, hQ, faQ, hsl, hh1, hh2, hjl⟩ := hT.look (k := (e - T.first).toNat) (j := y.toNat) (by omega) (by omega)
  have HS : Hid (Sz (R ((e - T.first).toNat) (y.toNat))) := (hT.sz _ (by omega) _ hjl).1
  obtain ⟨q, hq⟩ : ∃ q, q = R ((e - T.first).toNat) (y.toNat) := ⟨_, rfl⟩
  rw [← hq] at hQ HS
  have Hq := Lib.hid hq
  have hjl2 : y < (T.rn ((e - T.first).toNat) : Int) := by omega
  clear hq
  have hwr : IntKind.i64.wrap (e - T.first) = e - T.first := by simp [IntKind.wrap, IntKind.bits, IntKind.signed]; omega
  have hEw : Ext w w := Below.refl _ _
  obtain ⟨w1, hww1⟩ : ∃ W, w.alloc (.cells #[.int .i64 T.first, .int .i64 T.sel, .slice T.P T.N T.C, .int .i64 e, .int .i64 y] 72) = W := ⟨_, rfl⟩
  have ew1 : Ext w w1 := by rw [← hww1]; exact ea _ _
  have B1 : Cells w1 (w.heap.size) 72 #[.int .i64 T.first, .int .i64 T.sel, .slice T.P T.N T.C, .int .i64 e, .int .i64 y] := by rw [← hww1]; exact Cells.newAt _ _ (by omega)
  have zw1 := alloc_lt hww1
  have hEw1 := eg hEw ew1
  have lB1_w1 := B1.lt
  obtain ⟨w2, hww2⟩ : ∃ W, w1.alloc (.cells #[.bool false, .slice none 0 0, .bool false, .slice none 0 0] 40) = W := ⟨_, rfl⟩
  have ew2 : Ext w1 w2 := by rw [← hww2]; exact ea _ _
  have B2 : Cells w2 (w.heap.size + 1) 40 #[.bool false, .slice none 0 0, .bool false, .slice none 0 0] := by rw [← hww2]; exact Cells.newAt _ _ (by omega)
  replace B1 := B1.ext ew2
  have zw2 := alloc_lt hww2
  have hEw2 := eg hEw1 ew2
  have b1_3_w2 := B1.cell (k := 3) rfl
  have b1_4_w2 := B1.cell (k := 4) rfl
  have b1_0_w2 := B1.cell (k := 0) rfl
  have b1_1_w2 := B1.cell (k := 1) rfl
  have b1_2_w2 := B1.cell (k := 2) rfl
  have lB1_w2 := B1.lt
  have lB2_w2 := B2.lt
  go_enter Tryz.func56, Tryz.ntmps56
  go_wp2_with fail
  clear hww1
  clear hww2
  clear lB1_w1
  have yw1 := Nat.le_of_eq zw1
  replace zw1 := Nat.le_of_eq zw1.symm
  have yw2 := Nat.le_of_eq zw2
  replace zw2 := Nat.le_of_eq zw2.symm
  refine (llast T _ hb).mono ?_
  intro ee w3 gg
  obtain ⟨rfl, ew3⟩ := Gv.v gg
  replace B1 := B1.ext ew3
  replace B2 := B2.ext ew3
  have hEw3 := eg hEw2 ew3
  have zw3 := ew3.size
  have b1_4_w3 := B1.cell (k := 4) rfl
  have b1_1_w3 := B1.cell (k := 1) rfl
  have b1_2_w3 := B1.cell (k := 2) rfl
  have b1_3_w3 := B1.cell (k := 3) rfl
  have b1_0_w3 := B1.cell (k := 0) rfl
  have lB1_w3 := B1.lt
  have lB2_w3 := B2.lt
  go_wp2_with fail
  clear b1_3_w2 b1_4_w2 b1_0_w2 b1_1_w2 b1_2_w2 lB1_w2 lB2_w2
  refine regionT 19 (fun k => match k with | 17 => some (.f (1)) | 18 => some (.f (q)) | _ => none) (by kernel_rfl) (by kernel_rfl) ?_
  iterate 11
    refine Walk.one (x := ?_) rfl rfl (fun w1 hI hL K hK => ?_) ?_
    rotate_left
    · obtain ⟨hc, hf⟩ := bcell hI
      go_simp
      repeat (first | (go_ints; try go_simp) | (simp only [↓IntWalk.iteOmega]; try go_simp))
      exact hK
    simp only [Act.put, List.setIfInBounds_toArray, List.set_cons_zero, List.set_cons_succ]
  refine Walk.one (x := ?_) rfl rfl (fun w1 hI hL K hK => ?_) ?_
  rotate_left
  · have x0 := cell_ext (eg hEw3 hI) hsl
    go_simp
    repeat (first | (go_ints; try go_simp) | (simp only [↓IntWalk.iteOmega]; try go_simp))
    exact hK
  simp only [Act.put, List.setIfInBounds_toArray, List.set_cons_zero, List.set_cons_succ]
  iterate 4
    refine Walk.one (x := ?_) rfl rfl (fun w1 hI hL K hK => ?_) ?_
    rotate_left
    · obtain ⟨hc, hf⟩ := bcell hI
      go_simp
      repeat (first | (go_ints; try go_simp) | (simp only [↓IntWalk.iteOmega]; try go_simp))
      exact hK
    simp only [Act.put, List.setIfInBounds_toArray, List.set_cons_zero, List.set_cons_succ]
  refine Walk.one (x := ?_) rfl rfl (fun w1 hI hL K hK => ?_) ?_
  rotate_left
  · have x1 := faQ.ext (eg hEw3 hI)
    have y0 := x1.c0
    have y1 := x1.c1
    have y2 := x1.c2
    have y3 := x1.c3
    go_simp
    repeat (first | (go_ints; try go_simp) | (simp only [↓IntWalk.iteOmega]; try go_simp))
    exact hK
  simp only [Act.put, List.setIfInBounds_toArray, List.set_cons_zero, List.set_cons_succ]
  refine Walk.tell rfl rfl (fun w1 hI hL K hK => ?_) ?_
  · go_simp
    exact (fFromInt_1 w1).mono (tell hK)
  rintro _ ⟨Z43, rfl⟩
  simp only [Act.put, List.setIfInBounds_toArray, List.set_cons_zero, List.set_cons_succ]
  refine Walk.tell rfl rfl (fun w1 hI hL K hK => ?_) ?_
  · go_simp
    exact (ltimes_1 Q _ Z43 w1 (hQ.ext (eg hEw3 hI)) ((Tl.getF (kn (i := 17) (v := .agg #[.bool Z43.N.b, .slice Z43.N.p Z43.N.n Z43.N.c, .bool Z43.D.b, .slice Z43.D.p Z43.D.n Z43.D.c]) rfl (by simp) (by kernel_rfl) hL)).1) HS.out).mono (tell hK)
  rintro _ ⟨Z44, rfl⟩
  simp only [Act.put, List.setIfInBounds_toArray, List.set_cons_zero, List.set_cons_succ]
  refine Walk.nilF fun w4 ew4 kzL kzX => ?_
  replace B1 := B1.ext ew4
  replace B2 := B2.ext ew4
  have hEw4 := eg hEw3 ew4
  have zw4 := ew4.size
  obtain ⟨hZ43, oZ43⟩ := Tl.getF (kz (i := 17) (v := .agg #[.bool Z43.N.b, .slice Z43.N.p Z43.N.n Z43.N.c, .bool Z43.D.b, .slice Z43.D.p Z43.D.n Z43.D.c]) rfl (by simp) kzL)
  replace oZ43 := oZ43.mono hEw3.size
  obtain ⟨hZ44, oZ44⟩ := Tl.getF (kz (i := 18) (v := .agg #[.bool Z44.N.b, .slice Z44.N.p Z44.N.n Z44.N.c, .bool Z44.D.b, .slice Z44.D.p Z44.D.n Z44.D.c]) rfl (by simp) kzL)
  replace oZ44 := oZ44.mono hEw3.size
  clear kzL kzX
  have b2_0_w4 := B2.cell (k := 0) rfl
  have fb2_0_w4 := B2.frozen 0
  have b2_1_w4 := B2.cell (k := 1) rfl
  have fb2_1_w4 := B2.frozen 1
  have b2_2_w4 := B2.cell (k := 2) rfl
  have fb2_2_w4 := B2.frozen 2
  have b2_3_w4 := B2.cell (k := 3) rfl
  have fb2_3_w4 := B2.frozen 3
  have lB1_w4 := B1.lt
  have lB2_w4 := B2.lt
  simp only [List.drop_succ_cons, List.drop_zero, List.drop_nil]
  obtain ⟨w5, hww5⟩ : ∃ W, ((((w4).setCell ⟨w.heap.size + 1, 0, none⟩ (.bool Z44.N.b)).setCell ⟨w.heap.size + 1, 1, none⟩ (.slice Z44.N.p Z44.N.n Z44.N.c)).setCell ⟨w.heap.size + 1, 2, none⟩ (.bool Z44.D.b)).setCell ⟨w.heap.size + 1, 3, none⟩ (.slice Z44.D.p Z44.D.n Z44.D.c) = W := ⟨_, rfl⟩
  have nuw5 : NoU #[.bool false, .slice none 0 0, .bool false, .slice none 0 0] := by simp [NoU]
  replace hZ43 := FR.sets hZ43 B2 nuw5 0 [.bool Z44.N.b, .slice Z44.N.p Z44.N.n Z44.N.c, .bool Z44.D.b, .slice Z44.D.p Z44.D.n Z44.D.c]
  replace hZ44 := FR.sets hZ44 B2 nuw5 0 [.bool Z44.N.b, .slice Z44.N.p Z44.N.n Z44.N.c, .bool Z44.D.b, .slice Z44.D.p Z44.D.n Z44.D.c]
  replace oZ43 := OF.sets oZ43 B2 (by decide) 0 [.bool Z44.N.b, .slice Z44.N.p Z44.N.n Z44.N.c, .bool Z44.D.b, .slice Z44.D.p Z44.D.n Z44.D.c]
  replace oZ44 := OF.sets oZ44 B2 (by decide) 0 [.bool Z44.N.b, .slice Z44.N.p Z44.N.n Z44.N.c, .bool Z44.D.b, .slice Z44.D.p Z44.D.n Z44.D.c]
  have hEw5 := Ext.sets hEw4 (b := w.heap.size + 1) (by omega) 0 [.bool Z44.N.b, .slice Z44.N.p Z44.N.n Z44.N.c, .bool Z44.D.b, .slice Z44.D.p Z44.D.n Z44.D.c]
  replace B1 := Cells.off B1 (b' := w.heap.size + 1) (by omega) 0 [.bool Z44.N.b, .slice Z44.N.p Z44.N.n Z44.N.c, .bool Z44.D.b, .slice Z44.D.p Z44.D.n Z44.D.c]
  replace B2 : Cells (sets w4 (w.heap.size + 1) 0 [.bool Z44.N.b, .slice Z44.N.p Z44.N.n Z44.N.c, .bool Z44.D.b, .slice Z44.D.p Z44.D.n Z44.D.c]) (w.heap.size + 1) 40 #[.bool Z44.N.b, .slice Z44.N.p Z44.N.n Z44.N.c, .bool Z44.D.b, .slice Z44.D.p Z44.D.n Z44.D.c] := Cells.sets [.bool Z44.N.b, .slice Z44.N.p Z44.N.n Z44.N.c, .bool Z44.D.b, .slice Z44.D.p Z44.D.n Z44.D.c] B2 0
  have zw5 := size_sets (w.heap.size + 1) [.bool Z44.N.b, .slice Z44.N.p Z44.N.n Z44.N.c, .bool Z44.D.b, .slice Z44.D.p Z44.D.n Z44.D.c] w4 0
  replace hww5 : sets w4 (w.heap.size + 1) 0 [.bool Z44.N.b, .slice Z44.N.p Z44.N.n Z44.N.c, .bool Z44.D.b, .slice Z44.D.p Z44.D.n Z44.D.c] = w5 := hww5
  rw [hww5] at hZ43 hZ44 oZ43 oZ44 B1 B2 hEw5 zw5
  replace hww5 : ((((w4).setCell ⟨w.heap.size + 1, 0, none⟩ (.bool Z44.N.b)).setCell ⟨w.heap.size + 1, 1, none⟩ (.slice Z44.N.p Z44.N.n Z44.N.c)).setCell ⟨w.heap.size + 1, 2, none⟩ (.bool Z44.D.b)).setCell ⟨w.heap.size + 1, 3, none⟩ (.slice Z44.D.p Z44.D.n Z44.D.c) = w5 := hww5
  have b2_0_w5 := B2.cell (k := 0) rfl
  have b2_1_w5 := B2.cell (k := 1) rfl
  have b2_2_w5 := B2.cell (k := 2) rfl
  have b2_3_w5 := B2.cell (k := 3) rfl
  have lB1_w5 := B1.lt
  have lB2_w5 := B2.lt
  go_wp2_with fail
  clear hww5
  clear b1_4_w3 b1_1_w3 b1_2_w3 b1_3_w3 b1_0_w3 b2_0_w4 fb2_0_w4 b2_1_w4 fb2_1_w4 b2_2_w4 fb2_2_w4 b2_3_w4 fb2_3_w4 lB1_w3 lB2_w3 lB1_w4 lB2_w4
  have yw5 := Nat.le_of_eq zw5
  replace zw5 := Nat.le_of_eq zw5.symm
  refine bodyPost_ret (v := .agg #[.bool Z44.N.b, .slice Z44.N.p Z44.N.n Z44.N.c, .bool Z44.D.b, .slice Z44.D.p Z44.D.n Z44.D.c]) (by simp [results, Tryz.results56, go_sem, b2_0_w5, b2_1_w5, b2_2_w5, b2_3_w5]) rfl ?_
  rw [show rt T R e y = q by unfold rt; rw [if_neg (by omega), if_pos (by omega)]; exact Hq.out.symm]
  exact Gv.of_f (X := Z44) hZ44 oZ44 hEw5

set_option maxRecDepth 100000 in
theorem lrate_c (T : Tb) (R : Nat → Nat → Rat) (e y : Int) (w : World) (hT : TQ w T R) (h1 : T.first ≤ e) (h2 : e ≤ T.first + (T.N : Int) - 1) (h3 : 0 ≤ y) (h4 : y ≤ 1000) (h5 : ¬ T.first + (T.N : Int) ≤ e + y) (h6 : ¬ y < T.sel) :
    Calls Tryz.prog 56 #[.agg #[.int .i64 T.first, .int .i64 T.sel, .slice T.P T.N T.C, .int .i64 e, .int .i64 y]] w (Gv (.f (rt T R e y)) w) := by
  obtain ⟨b1, b2, b3, b4, b5, b6⟩ := id hT.b
  have hb := hT.b
  obtain ⟨Q, hQ, faQ, hsl, hh1, hh2, hjl⟩ := hT.look (k := (e + y - T.first).toNat) (j := T.sel.toNat) (by omega) (by omega)
  have HS : Hid (Sz (R ((e + y - T.first).toNat) (T.sel.toNat))) := (hT.sz _ (by omega) _ hjl).1
  obtain ⟨q, hq⟩ : ∃ q, q = R ((e + y - T.first).toNat) (T.sel.toNat) := ⟨_, rfl⟩
  rw [← hq] at hQ HS
  have Hq := Lib.hid hq
  have hjl2 : T.sel < (T.rn ((e + y - T.first).toNat) : Int) := by omega
  clear hq
  have hwr : IntKind.i64.wrap (e + y - T.first) = e + y - T.first := by simp [IntKind.wrap, IntKind.bits, IntKind.signed]; omega
  have hEw : Ext w w := Below.refl _ _
  obtain ⟨w1, hww1⟩ : ∃ W, w.alloc (.cells #[.int .i64 T.first, .int .i64 T.sel, .slice T.P T.N T.C, .int .i64 e, .int .i64 y] 72) = W := ⟨_, rfl⟩
  have ew1 : Ext w w1 := by rw [← hww1]; exact ea _ _
  have B1 : Cells w1 (w.heap.size) 72 #[.int .i64 T.first, .int .i64 T.sel, .slice T.P T.N T.C, .int .i64 e, .int .i64 y] := by rw [← hww1]; exact Cells.newAt _ _ (by omega)
  have zw1 := alloc_lt hww1
  have hEw1 := eg hEw ew1
  have lB1_w1 := B1.lt
  obtain ⟨w2, hww2⟩ : ∃ W, w1.alloc (.cells #[.bool false, .slice none 0 0, .bool false, .slice none 0 0] 40) = W := ⟨_, rfl⟩
  have ew2 : Ext w1 w2 := by rw [← hww2]; exact ea _ _
  have B2 : Cells w2 (w.heap.size + 1) 40 #[.bool false, .slice none 0 0, .bool false, .slice none 0 0] := by rw [← hww2]; exact Cells.newAt _ _ (by omega)
  replace B1 := B1.ext ew2
  have zw2 := alloc_lt hww2
  have hEw2 := eg hEw1 ew2
  have b1_3_w2 := B1.cell (k := 3) rfl
  have b1_4_w2 := B1.cell (k := 4) rfl
  have b1_0_w2 := B1.cell (k := 0) rfl
  have b1_1_w2 := B1.cell (k := 1) rfl
  have b1_2_w2 := B1.cell (k := 2) rfl
  have lB1_w2 := B1.lt
  have lB2_w2 := B2.lt
  go_enter Tryz.func56, Tryz.ntmps56
  go_wp2_with fail
  clear hww1
  clear hww2
  clear lB1_w1
  have yw1 := Nat.le_of_eq zw1
  replace zw1 := Nat.le_of_eq zw1.symm
  have yw2 := Nat.le_of_eq zw2
  replace zw2 := Nat.le_of_eq zw2.symm
  refine (llast T _ hb).mono ?_
  intro ee w3 gg
  obtain ⟨rfl, ew3⟩ := Gv.v gg
  replace B1 := B1.ext ew3
  replace B2 := B2.ext ew3
  have hEw3 := eg hEw2 ew3
  have zw3 := ew3.size
  have b1_4_w3 := B1.cell (k := 4) rfl
  have b1_1_w3 := B1.cell (k := 1) rfl
  have b1_2_w3 := B1.cell (k := 2) rfl
  have b1_0_w3 := B1.cell (k := 0) rfl
  have lB1_w3 := B1.lt
  have lB2_w3 := B2.lt
  go_wp2_with fail
  clear b1_3_w2 b1_4_w2 b1_0_w2 b1_1_w2 b1_2_w2 lB1_w2 lB2_w2
  refine regionT 17 (fun k => match k with | 15 => some (.f (1)) | 16 => some (.f (q)) | _ => none) (by kernel_rfl) (by kernel_rfl) ?_
  iterate 9
    refine Walk.one (x := ?_) rfl rfl (fun w1 hI hL K hK => ?_) ?_
    rotate_left
    · obtain ⟨hc, hf⟩ := bcell hI
      go_simp
      repeat (first | (go_ints; try go_simp) | (simp only [↓IntWalk.iteOmega]; try go_simp))
      exact hK
    simp only [Act.put, List.setIfInBounds_toArray, List.set_cons_zero, List.set_cons_succ]
  refine Walk.one (x := ?_) rfl rfl (fun w1 hI hL K hK => ?_) ?_
  rotate_left
  · have x0 := cell_ext (eg hEw3 hI) hsl
    go_simp
    repeat (first | (go_ints; try go_simp) | (simp only [↓IntWalk.iteOmega]; try go_simp))
    exact hK
  simp only [Act.put, List.setIfInBounds_toArray, List.set_cons_zero, List.set_cons_succ]
  iterate 4
    refine Walk.one (x := ?_) rfl rfl (fun w1 hI hL K hK => ?_) ?_
    rotate_left
    · obtain ⟨hc, hf⟩ := bcell hI
      go_simp
      repeat (first | (go_ints; try go_simp) | (simp only [↓IntWalk.iteOmega]; try go_simp))
      exact hK
    simp only [Act.put, List.setIfInBounds_toArray, List.set_cons_zero, List.set_cons_succ]
  refine Walk.one (x := ?_) rfl rfl (fun w1 hI hL K hK => ?_) ?_
  rotate_left
  · have x1 := faQ.ext (eg hEw3 hI)
    have y0 := x1.c0
    have y1 := x1.c1
    have y2 := x1.c2
    have y3 := x1.c3
    go_simp
    repeat (first | (go_ints; try go_simp) | (simp only [↓IntWalk.iteOmega]; try go_simp))
    exact hK
  simp only [Act.put, List.setIfInBounds_toArray, List.set_cons_zero, List.set_cons_succ]
  refine Walk.tell rfl rfl (fun w1 hI hL K hK => ?_) ?_
  · go_simp
    exact (fFromInt_1 w1).mono (tell hK)
  rintro _ ⟨Z60, rfl⟩
  simp only [Act.put, List.setIfInBounds_toArray, List.set_cons_zero, List.set_cons_succ]
  refine Walk.tell rfl rfl (fun w1 hI hL K hK => ?_) ?_
  · go_simp
    exact (ltimes_1 Q _ Z60 w1 (hQ.ext (eg hEw3 hI)) ((Tl.getF (kn (i := 15) (v := .agg #[.bool Z60.N.b, .slice Z60.N.p Z60.N.n Z60.N.c, .bool Z60.D.b, .slice Z60.D.p Z60.D.n Z60.D.c]) rfl (by simp) (by kernel_rfl) hL)).1) HS.out).mono (tell hK)
  rintro _ ⟨Z61, rfl⟩
  simp only [Act.put, List.setIfInBounds_toArray, List.set_cons_zero, List.set_cons_succ]
  refine Walk.nilF fun w4 ew4 kzL kzX => ?_
  replace B1 := B1.ext ew4
  replace B2 := B2.ext ew4
  have hEw4 := eg hEw3 ew4
  have zw4 := ew4.size
  obtain ⟨hZ60, oZ60⟩ := Tl.getF (kz (i := 15) (v := .agg #[.bool Z60.N.b, .slice Z60.N.p Z60.N.n Z60.N.c, .bool Z60.D.b, .slice Z60.D.p Z60.D.n Z60.D.c]) rfl (by simp) kzL)
  replace oZ60 := oZ60.mono hEw3.size
  obtain ⟨hZ61, oZ61⟩ := Tl.getF (kz (i := 16) (v := .agg #[.bool Z61.N.b, .slice Z61.N.p Z61.N.n Z61.N.c, .bool Z61.D.b, .slice Z61.D.p Z61.D.n Z61.D.c]) rfl (by simp) kzL)
  replace oZ61 := oZ61.mono hEw3.size
  clear kzL kzX
  have b2_0_w4 := B2.cell (k := 0) rfl
  have fb2_0_w4 := B2.frozen 0
  have b2_1_w4 := B2.cell (k := 1) rfl
  have fb2_1_w4 := B2.frozen 1
  have b2_2_w4 := B2.cell (k := 2) rfl
  have fb2_2_w4 := B2.frozen 2
  have b2_3_w4 := B2.cell (k := 3) rfl
  have fb2_3_w4 := B2.frozen 3
  have lB1_w4 := B1.lt
  have lB2_w4 := B2.lt
  simp only [List.drop_succ_cons, List.drop_zero, List.drop_nil]
  obtain ⟨w5, hww5⟩ : ∃ W, ((((w4).setCell ⟨w.heap.size + 1, 0, none⟩ (.bool Z61.N.b)).setCell ⟨w.heap.size + 1, 1, none⟩ (.slice Z61.N.p Z61.N.n Z61.N.c)).setCell ⟨w.heap.size + 1, 2, none⟩ (.bool Z61.D.b)).setCell ⟨w.heap.size + 1, 3, none⟩ (.slice Z61.D.p Z61.D.n Z61.D.c) = W := ⟨_, rfl⟩
  have nuw5 : NoU #[.bool false, .slice none 0 0, .bool false, .slice none 0 0] := by simp [NoU]
  replace hZ60 := FR.sets hZ60 B2 nuw5 0 [.bool Z61.N.b, .slice Z61.N.p Z61.N.n Z61.N.c, .bool Z61.D.b, .slice Z61.D.p Z61.D.n Z61.D.c]
  replace hZ61 := FR.sets hZ61 B2 nuw5 0 [.bool Z61.N.b, .slice Z61.N.p Z61.N.n Z61.N.c, .bool Z61.D.b, .slice Z61.D.p Z61.D.n Z61.D.c]
  replace oZ60 := OF.sets oZ60 B2 (by decide) 0 [.bool Z61.N.b, .slice Z61.N.p Z61.N.n Z61.N.c, .bool Z61.D.b, .slice Z61.D.p Z61.D.n Z61.D.c]
  replace oZ61 := OF.sets oZ61 B2 (by decide) 0 [.bool Z61.N.b, .slice Z61.N.p Z61.N.n Z61.N.c, .bool Z61.D.b, .slice Z61.D.p Z61.D.n Z61.D.c]
  have hEw5 := Ext.sets hEw4 (b := w.heap.size + 1) (by omega) 0 [.bool Z61.N.b, .slice Z61.N.p Z61.N.n Z61.N.c, .bool Z61.D.b, .slice Z61.D.p Z61.D.n Z61.D.c]
  replace B1 := Cells.off B1 (b' := w.heap.size + 1) (by omega) 0 [.bool Z61.N.b, .slice Z61.N.p Z61.N.n Z61.N.c, .bool Z61.D.b, .slice Z61.D.p Z61.D.n Z61.D.c]
  replace B2 : Cells (sets w4 (w.heap.size + 1) 0 [.bool Z61.N.b, .slice Z61.N.p Z61.N.n Z61.N.c, .bool Z61.D.b, .slice Z61.D.p Z61.D.n Z61.D.c]) (w.heap.size + 1) 40 #[.bool Z61.N.b, .slice Z61.N.p Z61.N.n Z61.N.c, .bool Z61.D.b, .slice Z61.D.p Z61.D.n Z61.D.c] := Cells.sets [.bool Z61.N.b, .slice Z61.N.p Z61.N.n Z61.N.c, .bool Z61.D.b, .slice Z61.D.p Z61.D.n Z61.D.c] B2 0
  have zw5 := size_sets (w.heap.size + 1) [.bool Z61.N.b, .slice Z61.N.p Z61.N.n Z61.N.c, .bool Z61.D.b, .slice Z61.D.p Z61.D.n Z61.D.c] w4 0
  replace hww5 : sets w4 (w.heap.size + 1) 0 [.bool Z61.N.b, .slice Z61.N.p Z61.N.n Z61.N.c, .bool Z61.D.b, .slice Z61.D.p Z61.D.n Z61.D.c] = w5 := hww5
  rw [hww5] at hZ60 hZ61 oZ60 oZ61 B1 B2 hEw5 zw5
  replace hww5 : ((((w4).setCell ⟨w.heap.size + 1, 0, none⟩ (.bool Z61.N.b)).setCell ⟨w.heap.size + 1, 1, none⟩ (.slice Z61.N.p Z61.N.n Z61.N.c)).setCell ⟨w.heap.size + 1, 2, none⟩ (.bool Z61.D.b)).setCell ⟨w.heap.size + 1, 3, none⟩ (.slice Z61.D.p Z61.D.n Z61.D.c) = w5 := hww5
  have b2_0_w5 := B2.cell (k := 0) rfl
  have b2_1_w5 := B2.cell (k := 1) rfl
  have b2_2_w5 := B2.cell (k := 2) rfl
  have b2_3_w5 := B2.cell (k := 3) rfl
  have lB1_w5 := B1.lt
  have lB2_w5 := B2.lt
  go_wp2_with fail
  clear hww5
  clear b1_4_w3 b1_1_w3 b1_2_w3 b1_0_w3 b2_0_w4 fb2_0_w4 b2_1_w4 fb2_1_w4 b2_2_w4 fb2_2_w4 b2_3_w4 fb2_3_w4 lB1_w3 lB2_w3 lB1_w4 lB2_w4
  have yw5 := Nat.le_of_eq zw5
  replace zw5 := Nat.le_of_eq zw5.symm
  refine bodyPost_ret (v := .agg #[.bool Z61.N.b, .slice Z61.N.p Z61.N.n Z61.N.c, .bool Z61.D.b, .slice Z61.D.p Z61.D.n Z61.D.c]) (by simp [results, Tryz.results56, go_sem, b2_0_w5, b2_1_w5, b2_2_w5, b2_3_w5]) rfl ?_
  rw [show rt T R e y = q by unfold rt; rw [if_neg (by omega), if_neg (by omega)]; exact Hq.out.symm]
  exact Gv.of_f (X := Z61) hZ61 oZ61 hEw5

theorem lrate (T : Tb) (R : Nat → Nat → Rat) (e y : Int) (w : World) (hT : TQ w T R) (h1 : T.first ≤ e) (h2 : e ≤ T.first + (T.N : Int) - 1) (h3 : 0 ≤ y) (h4 : y ≤ 1000) : Calls Tryz.prog 56 #[.agg #[.int .i64 T.first, .int .i64 T.sel, .slice T.P T.N T.C, .int .i64 e, .int .i64 y]] w (Gv (.f (rt T R e y)) w) := by
  by_cases h5 : T.first + (T.N : Int) ≤ e + y
  · exact lrate_a T R e y w hT h1 h2 h3 h4 h5
  · by_cases h6 : y < T.sel
    · exact lrate_b T R e y w hT h1 h2 h3 h4 h5 h6
    · exact lrate_c T R e y w hT h1 h2 h3 h4 h5 h6
end Go.Proofs.YtndgaecfeaedeaaGreat
