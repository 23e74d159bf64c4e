/- Walks of the law on lives: its small functions. -/
import Derived.Test.YtndgaecfeaedeaaGreatG22
namespace Go.Proofs.YtndgaecfeaedeaaGreat
set_option linter.unusedSimpArgs false
set_option linter.unusedVariables false
open Go.RowKit Lex Mth
attribute [local go_sem] run_indexAt_at add_zero_map Oper.semAt_some at_zero at_add at_mk1 at_mk2 at_mk3

theorem rSameQ_b (X Y : Fr) (x y : Rat) (w : World) (hX : FR w X x) (hY : FR w Y y) {b : Bool} (hb : eqQ x y = b) : Calls Tryz.prog 44 #[X.val, Y.val] w (Gv (.v (.bool b)) w) := hb ▸ rSameQ X Y x y w hX hY

set_option maxRecDepth 100000 in
theorem nquick (x : Int) (y : Int) (w : World) (hy0 : y ≠ 0) (bx : (-9223372036854775808 ≤ x ∧ x ≤ 9223372036854775807)) (by_ : (-9223372036854775808 ≤ y ∧ y ≤ 9223372036854775807)) :
    Calls Tryz.prog 26 #[.int .i64 x, .int .i64 y] w (Gv (.f0 (Rat.divInt x y)) w) := by
  have Hy := Lib.hid hy0
  clear hy0
  have hEw : Ext w w := Below.refl _ _
  obtain ⟨w1, hww1⟩ : ∃ W, w.alloc (.cells #[.bool false, .slice none 0 0, .bool false, .slice none 0 0] 40) = W := ⟨_, rfl⟩
  have ew1 : Ext w w1 := by rw [← hww1]; exact ea _ _
  have B1 : Cells w1 (w.heap.size) 40 #[.bool false, .slice none 0 0, .bool false, .slice none 0 0] := by rw [← hww1]; exact Cells.newAt _ _ (by omega)
  have zw1 := alloc_lt hww1
  have hEw1 := eg hEw ew1
  have lB1_w1 := B1.lt
  go_enter Tryz.func26, Tryz.ntmps26
  go_wp2_with fail
  clear hww1
  have yw1 := Nat.le_of_eq zw1
  replace zw1 := Nat.le_of_eq zw1.symm
  refine (rQuick (x) (y) _ (Hy.out) (bx) (by_)).mono ?_
  intro ee w2 gg
  obtain ⟨Z7, rfl, hZ7, ew2⟩ := Gv.f0 gg
  replace B1 := B1.ext ew2
  have hEw2 := eg hEw1 ew2
  have zw2 := ew2.size
  have b1_0_w2 := B1.cell (k := 0) rfl
  have fb1_0_w2 := B1.frozen 0
  have b1_1_w2 := B1.cell (k := 1) rfl
  have fb1_1_w2 := B1.frozen 1
  have b1_2_w2 := B1.cell (k := 2) rfl
  have fb1_2_w2 := B1.frozen 2
  have b1_3_w2 := B1.cell (k := 3) rfl
  have fb1_3_w2 := B1.frozen 3
  have lB1_w2 := B1.lt
  obtain ⟨w3, hww3⟩ : ∃ W, ((((w2).setCell ⟨w.heap.size, 0, none⟩ (.bool Z7.N.b)).setCell ⟨w.heap.size, 1, none⟩ (.slice Z7.N.p Z7.N.n Z7.N.c)).setCell ⟨w.heap.size, 2, none⟩ (.bool Z7.D.b)).setCell ⟨w.heap.size, 3, none⟩ (.slice Z7.D.p Z7.D.n Z7.D.c) = W := ⟨_, rfl⟩
  have nuw3 : NoU #[.bool false, .slice none 0 0, .bool false, .slice none 0 0] := by simp [NoU]
  replace hZ7 := FR.sets hZ7 B1 nuw3 0 [.bool Z7.N.b, .slice Z7.N.p Z7.N.n Z7.N.c, .bool Z7.D.b, .slice Z7.D.p Z7.D.n Z7.D.c]
  have hEw3 := Ext.sets hEw2 (b := w.heap.size) (by omega) 0 [.bool Z7.N.b, .slice Z7.N.p Z7.N.n Z7.N.c, .bool Z7.D.b, .slice Z7.D.p Z7.D.n Z7.D.c]
  replace B1 : Cells (sets w2 (w.heap.size) 0 [.bool Z7.N.b, .slice Z7.N.p Z7.N.n Z7.N.c, .bool Z7.D.b, .slice Z7.D.p Z7.D.n Z7.D.c]) (w.heap.size) 40 #[.bool Z7.N.b, .slice Z7.N.p Z7.N.n Z7.N.c, .bool Z7.D.b, .slice Z7.D.p Z7.D.n Z7.D.c] := Cells.sets [.bool Z7.N.b, .slice Z7.N.p Z7.N.n Z7.N.c, .bool Z7.D.b, .slice Z7.D.p Z7.D.n Z7.D.c] B1 0
  have zw3 := size_sets (w.heap.size) [.bool Z7.N.b, .slice Z7.N.p Z7.N.n Z7.N.c, .bool Z7.D.b, .slice Z7.D.p Z7.D.n Z7.D.c] w2 0
  replace hww3 : sets w2 (w.heap.size) 0 [.bool Z7.N.b, .slice Z7.N.p Z7.N.n Z7.N.c, .bool Z7.D.b, .slice Z7.D.p Z7.D.n Z7.D.c] = w3 := hww3
  rw [hww3] at hZ7 B1 hEw3 zw3
  replace hww3 : ((((w2).setCell ⟨w.heap.size, 0, none⟩ (.bool Z7.N.b)).setCell ⟨w.heap.size, 1, none⟩ (.slice Z7.N.p Z7.N.n Z7.N.c)).setCell ⟨w.heap.size, 2, none⟩ (.bool Z7.D.b)).setCell ⟨w.heap.size, 3, none⟩ (.slice Z7.D.p Z7.D.n Z7.D.c) = w3 := hww3
  have b1_0_w3 := B1.cell (k := 0) rfl
  have b1_1_w3 := B1.cell (k := 1) rfl
  have b1_2_w3 := B1.cell (k := 2) rfl
  have b1_3_w3 := B1.cell (k := 3) rfl
  have lB1_w3 := B1.lt
  go_wp2_with fail
  clear hww3
  clear b1_0_w2 fb1_0_w2 b1_1_w2 fb1_1_w2 b1_2_w2 fb1_2_w2 b1_3_w2 fb1_3_w2 lB1_w1 lB1_w2
  have yw3 := Nat.le_of_eq zw3
  replace zw3 := Nat.le_of_eq zw3.symm
  refine bodyPost_ret (v := .agg #[.bool Z7.N.b, .slice Z7.N.p Z7.N.n Z7.N.c, .bool Z7.D.b, .slice Z7.D.p Z7.D.n Z7.D.c]) (by simp [results, Tryz.results26, go_sem, b1_0_w3, b1_1_w3, b1_2_w3, b1_3_w3]) rfl ?_
  exact Gv.of_f0 (X := Z7) (hZ7) hEw3

set_option maxRecDepth 100000 in
theorem nis (A : Fr) (x : Int) (y : Int) (a : Rat) (w : World) (hA : FR w A a) (hy0 : y ≠ 0) (bx : (-9223372036854775808 ≤ x ∧ x ≤ 9223372036854775807)) (by_ : (-9223372036854775808 ≤ y ∧ y ≤ 9223372036854775807)) (he : eqQ a (Rat.divInt x y) = true) :
    Calls Tryz.prog 35 #[.agg #[.bool A.N.b, .slice A.N.p A.N.n A.N.c, .bool A.D.b, .slice A.D.p A.D.n A.D.c], .int .i64 0, .int .i64 x, .int .i64 y] w (Gv (.v (.bool true)) w) := by
  have Hy := Lib.hid hy0
  have He := Lib.hid he
  clear hy0 he
  have hEw : Ext w w := Below.refl _ _
  obtain ⟨w1, hww1⟩ : ∃ W, w.alloc (.cells #[.bool A.N.b, .slice A.N.p A.N.n A.N.c, .bool A.D.b, .slice A.D.p A.D.n A.D.c] 40) = W := ⟨_, rfl⟩
  have ew1 : Ext w w1 := by rw [← hww1]; exact ea _ _
  have B1 : Cells w1 (w.heap.size) 40 #[.bool A.N.b, .slice A.N.p A.N.n A.N.c, .bool A.D.b, .slice A.D.p A.D.n A.D.c] := by rw [← hww1]; exact Cells.newAt _ _ (by omega)
  replace hA := hA.ext ew1
  have zw1 := alloc_lt hww1
  have hEw1 := eg hEw ew1
  have b1_0_w1 := B1.cell (k := 0) rfl
  have b1_1_w1 := B1.cell (k := 1) rfl
  have b1_2_w1 := B1.cell (k := 2) rfl
  have b1_3_w1 := B1.cell (k := 3) rfl
  have lB1_w1 := B1.lt
  go_enter Tryz.func35, Tryz.ntmps35
  go_wp2_with fail
  clear hww1
  have yw1 := Nat.le_of_eq zw1
  replace zw1 := Nat.le_of_eq zw1.symm
  refine regionT 9 (fun k => match k with | 6 => some (.f0 (Rat.divInt (x) (y))) | 7 => some (.v (.bool true)) | _ => none) (by kernel_rfl) (by kernel_rfl) ?_
  iterate 3
    refine Walk.one (x := ?_) rfl rfl (fun w1 hI hL K hK => ?_) ?_
    rotate_left
    · obtain ⟨hc, hf⟩ := bcell hI
      go_simp
      repeat (first | (go_ints; try go_simp) | (simp only [↓IntWalk.iteOmega]; try go_simp))
      exact hK
    simp only [Act.put, List.setIfInBounds_toArray, List.set_cons_zero, List.set_cons_succ]
  refine Walk.oneG (x := ?_) rfl (by as_aux_lemma => kernel_rfl) (fun w1 hI hL K hK => ?_) ?_
  rotate_left
  · obtain ⟨hc, hf⟩ := bcell hI
    go_simp
    repeat (first | (go_ints; try go_simp) | (simp only [↓IntWalk.iteOmega]; try go_simp))
    exact hK
  simp only [Act.put, List.setIfInBounds_toArray, List.set_cons_zero, List.set_cons_succ]
  refine Walk.oneG (x := ?_) rfl (by as_aux_lemma => kernel_rfl) (fun w1 hI hL K hK => ?_) ?_
  rotate_left
  · obtain ⟨hc, hf⟩ := bcell hI
    go_simp
    repeat (first | (go_ints; try go_simp) | (simp only [↓IntWalk.iteOmega]; try go_simp))
    exact hK
  simp only [Act.put, List.setIfInBounds_toArray, List.set_cons_zero, List.set_cons_succ]
  refine Walk.oneG (x := ?_) rfl (by as_aux_lemma => kernel_rfl) (fun w1 hI hL K hK => ?_) ?_
  rotate_left
  · obtain ⟨hc, hf⟩ := bcell hI
    go_simp
    repeat (first | (go_ints; try go_simp) | (simp only [↓IntWalk.iteOmega]; try go_simp))
    exact hK
  simp only [Act.put, List.setIfInBounds_toArray, List.set_cons_zero, List.set_cons_succ]
  refine Walk.tellG rfl (by kernel_rfl) (fun w1 hI hL K hK => ?_) ?_
  · go_simp
    exact (nquick (x) (y) w1 (Hy.out) (bx) (by_)).mono (tell hK)
  rintro _ ⟨Z15, rfl⟩
  simp only [Act.put, List.setIfInBounds_toArray, List.set_cons_zero, List.set_cons_succ]
  refine Walk.tellG rfl (by kernel_rfl) (fun w1 hI hL K hK => ?_) ?_
  · go_simp
    exact (rSameQ_b A Z15 _ _ w1 ((hA).ext hI) ((Tl.getF0 (kn (i := 6) (v := .agg #[.bool Z15.N.b, .slice Z15.N.p Z15.N.n Z15.N.c, .bool Z15.D.b, .slice Z15.D.p Z15.D.n Z15.D.c]) rfl (by simp) (by kernel_rfl) hL))) He.out).mono (tell hK)
  rintro _ rfl
  simp only [Act.put, List.setIfInBounds_toArray, List.set_cons_zero, List.set_cons_succ]
  refine Walk.one (x := ?_) rfl rfl (fun w1 hI hL K hK => ?_) ?_
  rotate_left
  · obtain ⟨hc, hf⟩ := bcell hI
    go_simp
    repeat (first | (go_ints; try go_simp) | (simp only [↓IntWalk.iteOmega]; try go_simp))
    exact hK
  simp only [Act.put, List.setIfInBounds_toArray, List.set_cons_zero, List.set_cons_succ]
  refine Walk.nilF fun w2 ew2 kzL kzX => ?_
  replace hA := hA.ext ew2
  replace B1 := B1.ext ew2
  have hEw2 := eg hEw1 ew2
  have zw2 := ew2.size
  have hZ15 := Tl.getF0 (kz (i := 6) (v := .agg #[.bool Z15.N.b, .slice Z15.N.p Z15.N.n Z15.N.c, .bool Z15.D.b, .slice Z15.D.p Z15.D.n Z15.D.c]) rfl (by simp) kzL)
  clear kzL kzX
  have lB1_w2 := B1.lt
  simp only [List.drop_succ_cons, List.drop_zero, List.drop_nil]
  go_wp2_with fail
  clear b1_0_w1 b1_1_w1 b1_2_w1 b1_3_w1 lB1_w1
  refine bodyPost_ret (v := .bool true) (by simp [results, Tryz.results35, go_sem]) rfl ?_
  exact Gv.of_v hEw2

set_option maxRecDepth 100000 in
theorem nproduct (X : Fr) (Y : Fr) (x : Rat) (y : Rat) (w : World) (hX : FR w X x) (hY : FR w Y y) (bx : Sz x) (by_ : Sz y) (bz : Sz (x * y)) :
    Calls Tryz.prog 33 #[.agg #[.bool X.N.b, .slice X.N.p X.N.n X.N.c, .bool X.D.b, .slice X.D.p X.D.n X.D.c], .agg #[.bool Y.N.b, .slice Y.N.p Y.N.n Y.N.c, .bool Y.D.b, .slice Y.D.p Y.D.n Y.D.c]] w (Gv (.f (x * y)) w) := by
  have hEw : Ext w w := Below.refl _ _
  obtain ⟨w1, hww1⟩ : ∃ W, w.alloc (.cells #[.bool X.N.b, .slice X.N.p X.N.n X.N.c, .bool X.D.b, .slice X.D.p X.D.n X.D.c] 40) = W := ⟨_, rfl⟩
  have ew1 : Ext w w1 := by rw [← hww1]; exact ea _ _
  have B1 : Cells w1 (w.heap.size) 40 #[.bool X.N.b, .slice X.N.p X.N.n X.N.c, .bool X.D.b, .slice X.D.p X.D.n X.D.c] := by rw [← hww1]; exact Cells.newAt _ _ (by omega)
  replace hX := hX.ext ew1
  replace hY := hY.ext ew1
  have zw1 := alloc_lt hww1
  have hEw1 := eg hEw ew1
  have lB1_w1 := B1.lt
  obtain ⟨w2, hww2⟩ : ∃ W, w1.alloc (.cells #[.bool Y.N.b, .slice Y.N.p Y.N.n Y.N.c, .bool Y.D.b, .slice Y.D.p Y.D.n Y.D.c] 40) = W := ⟨_, rfl⟩
  have ew2 : Ext w1 w2 := by rw [← hww2]; exact ea _ _
  have B2 : Cells w2 (w.heap.size + 1) 40 #[.bool Y.N.b, .slice Y.N.p Y.N.n Y.N.c, .bool Y.D.b, .slice Y.D.p Y.D.n Y.D.c] := by rw [← hww2]; exact Cells.newAt _ _ (by omega)
  replace hX := hX.ext ew2
  replace hY := hY.ext ew2
  replace B1 := B1.ext ew2
  have zw2 := alloc_lt hww2
  have hEw2 := eg hEw1 ew2
  have lB1_w2 := B1.lt
  have lB2_w2 := B2.lt
  obtain ⟨w3, hww3⟩ : ∃ W, w2.alloc (.cells #[.bool false, .slice none 0 0, .bool false, .slice none 0 0] 40) = W := ⟨_, rfl⟩
  have ew3 : Ext w2 w3 := by rw [← hww3]; exact ea _ _
  have B3 : Cells w3 (w.heap.size + 1 + 1) 40 #[.bool false, .slice none 0 0, .bool false, .slice none 0 0] := by rw [← hww3]; exact Cells.newAt _ _ (by omega)
  replace hX := hX.ext ew3
  replace hY := hY.ext ew3
  replace B1 := B1.ext ew3
  replace B2 := B2.ext ew3
  have zw3 := alloc_lt hww3
  have hEw3 := eg hEw2 ew3
  have b1_0_w3 := B1.cell (k := 0) rfl
  have b1_1_w3 := B1.cell (k := 1) rfl
  have b1_2_w3 := B1.cell (k := 2) rfl
  have b1_3_w3 := B1.cell (k := 3) rfl
  have b2_0_w3 := B2.cell (k := 0) rfl
  have b2_1_w3 := B2.cell (k := 1) rfl
  have b2_2_w3 := B2.cell (k := 2) rfl
  have b2_3_w3 := B2.cell (k := 3) rfl
  have lB1_w3 := B1.lt
  have lB2_w3 := B2.lt
  have lB3_w3 := B3.lt
  go_enter Tryz.func33, Tryz.ntmps33
  go_wp2_with fail
  clear hww1
  clear hww2
  clear hww3
  clear lB1_w1 lB1_w2 lB2_w2
  have yw1 := Nat.le_of_eq zw1
  replace zw1 := Nat.le_of_eq zw1.symm
  have yw2 := Nat.le_of_eq zw2
  replace zw2 := Nat.le_of_eq zw2.symm
  have yw3 := Nat.le_of_eq zw3
  replace zw3 := Nat.le_of_eq zw3.symm
  refine (fMul X Y _ _ _ (hX) (hY) (bx) (by_) (bz)).mono ?_
  intro ee w4 gg
  obtain ⟨Z10, rfl, hZ10, oZ10, ew4⟩ := Gv.fe gg
  replace hX := hX.ext ew4
  replace hY := hY.ext ew4
  replace B1 := B1.ext ew4
  replace B2 := B2.ext ew4
  replace B3 := B3.ext ew4
  have hEw4 := eg hEw3 ew4
  have zw4 := ew4.size
  replace oZ10 := oZ10.mono hEw3.size
  have lB1_w4 := B1.lt
  have lB2_w4 := B2.lt
  have lB3_w4 := B3.lt
  obtain ⟨w5, hww5⟩ : ∃ W, w4.alloc (.cells #[.bool Z10.N.b, .slice Z10.N.p Z10.N.n Z10.N.c, .bool Z10.D.b, .slice Z10.D.p Z10.D.n Z10.D.c] 40) = W := ⟨_, rfl⟩
  have ew5 : Ext w4 w5 := by rw [← hww5]; exact ea _ _
  have B4 : Cells w5 (w4.heap.size) 40 #[.bool Z10.N.b, .slice Z10.N.p Z10.N.n Z10.N.c, .bool Z10.D.b, .slice Z10.D.p Z10.D.n Z10.D.c] := by rw [← hww5]; exact Cells.newAt _ _ (by omega)
  replace hX := hX.ext ew5
  replace hY := hY.ext ew5
  replace hZ10 := hZ10.ext ew5
  replace oZ10 := oZ10.ext ew5
  replace B1 := B1.ext ew5
  replace B2 := B2.ext ew5
  replace B3 := B3.ext ew5
  have zw5 := alloc_lt hww5
  have hEw5 := eg hEw4 ew5
  have b4_0_w5 := B4.cell (k := 0) rfl
  have b4_1_w5 := B4.cell (k := 1) rfl
  have b4_2_w5 := B4.cell (k := 2) rfl
  have b4_3_w5 := B4.cell (k := 3) rfl
  have b3_0_w5 := B3.cell (k := 0) rfl
  have fb3_0_w5 := B3.frozen 0
  have b3_1_w5 := B3.cell (k := 1) rfl
  have fb3_1_w5 := B3.frozen 1
  have b3_2_w5 := B3.cell (k := 2) rfl
  have fb3_2_w5 := B3.frozen 2
  have b3_3_w5 := B3.cell (k := 3) rfl
  have fb3_3_w5 := B3.frozen 3
  have lB1_w5 := B1.lt
  have lB2_w5 := B2.lt
  have lB3_w5 := B3.lt
  have lB4_w5 := B4.lt
  obtain ⟨w6, hww6⟩ : ∃ W, ((((w5).setCell ⟨w.heap.size + 1 + 1, 0, none⟩ (.bool Z10.N.b)).setCell ⟨w.heap.size + 1 + 1, 1, none⟩ (.slice Z10.N.p Z10.N.n Z10.N.c)).setCell ⟨w.heap.size + 1 + 1, 2, none⟩ (.bool Z10.D.b)).setCell ⟨w.heap.size + 1 + 1, 3, none⟩ (.slice Z10.D.p Z10.D.n Z10.D.c) = W := ⟨_, rfl⟩
  have nuw6 : NoU #[.bool false, .slice none 0 0, .bool false, .slice none 0 0] := by simp [NoU]
  replace hX := FR.sets hX B3 nuw6 0 [.bool Z10.N.b, .slice Z10.N.p Z10.N.n Z10.N.c, .bool Z10.D.b, .slice Z10.D.p Z10.D.n Z10.D.c]
  replace hY := FR.sets hY B3 nuw6 0 [.bool Z10.N.b, .slice Z10.N.p Z10.N.n Z10.N.c, .bool Z10.D.b, .slice Z10.D.p Z10.D.n Z10.D.c]
  replace hZ10 := FR.sets hZ10 B3 nuw6 0 [.bool Z10.N.b, .slice Z10.N.p Z10.N.n Z10.N.c, .bool Z10.D.b, .slice Z10.D.p Z10.D.n Z10.D.c]
  replace oZ10 := OF.sets oZ10 B3 (by decide) 0 [.bool Z10.N.b, .slice Z10.N.p Z10.N.n Z10.N.c, .bool Z10.D.b, .slice Z10.D.p Z10.D.n Z10.D.c]
  have hEw6 := Ext.sets hEw5 (b := w.heap.size + 1 + 1) (by omega) 0 [.bool Z10.N.b, .slice Z10.N.p Z10.N.n Z10.N.c, .bool Z10.D.b, .slice Z10.D.p Z10.D.n Z10.D.c]
  replace B1 := Cells.off B1 (b' := w.heap.size + 1 + 1) (by omega) 0 [.bool Z10.N.b, .slice Z10.N.p Z10.N.n Z10.N.c, .bool Z10.D.b, .slice Z10.D.p Z10.D.n Z10.D.c]
  replace B2 := Cells.off B2 (b' := w.heap.size + 1 + 1) (by omega) 0 [.bool Z10.N.b, .slice Z10.N.p Z10.N.n Z10.N.c, .bool Z10.D.b, .slice Z10.D.p Z10.D.n Z10.D.c]
  replace B4 := Cells.off B4 (b' := w.heap.size + 1 + 1) (by omega) 0 [.bool Z10.N.b, .slice Z10.N.p Z10.N.n Z10.N.c, .bool Z10.D.b, .slice Z10.D.p Z10.D.n Z10.D.c]
  replace B3 : Cells (sets w5 (w.heap.size + 1 + 1) 0 [.bool Z10.N.b, .slice Z10.N.p Z10.N.n Z10.N.c, .bool Z10.D.b, .slice Z10.D.p Z10.D.n Z10.D.c]) (w.heap.size + 1 + 1) 40 #[.bool Z10.N.b, .slice Z10.N.p Z10.N.n Z10.N.c, .bool Z10.D.b, .slice Z10.D.p Z10.D.n Z10.D.c] := Cells.sets [.bool Z10.N.b, .slice Z10.N.p Z10.N.n Z10.N.c, .bool Z10.D.b, .slice Z10.D.p Z10.D.n Z10.D.c] B3 0
  have zw6 := size_sets (w.heap.size + 1 + 1) [.bool Z10.N.b, .slice Z10.N.p Z10.N.n Z10.N.c, .bool Z10.D.b, .slice Z10.D.p Z10.D.n Z10.D.c] w5 0
  replace hww6 : sets w5 (w.heap.size + 1 + 1) 0 [.bool Z10.N.b, .slice Z10.N.p Z10.N.n Z10.N.c, .bool Z10.D.b, .slice Z10.D.p Z10.D.n Z10.D.c] = w6 := hww6
  rw [hww6] at hX hY hZ10 oZ10 B1 B2 B3 B4 hEw6 zw6
  replace hww6 : ((((w5).setCell ⟨w.heap.size + 1 + 1, 0, none⟩ (.bool Z10.N.b)).setCell ⟨w.heap.size + 1 + 1, 1, none⟩ (.slice Z10.N.p Z10.N.n Z10.N.c)).setCell ⟨w.heap.size + 1 + 1, 2, none⟩ (.bool Z10.D.b)).setCell ⟨w.heap.size + 1 + 1, 3, none⟩ (.slice Z10.D.p Z10.D.n Z10.D.c) = w6 := hww6
  have b3_0_w6 := B3.cell (k := 0) rfl
  have b3_1_w6 := B3.cell (k := 1) rfl
  have b3_2_w6 := B3.cell (k := 2) rfl
  have b3_3_w6 := B3.cell (k := 3) rfl
  have lB1_w6 := B1.lt
  have lB2_w6 := B2.lt
  have lB3_w6 := B3.lt
  have lB4_w6 := B4.lt
  go_wp2_with fail
  clear hww5
  clear hww6
  clear b1_0_w3 b1_1_w3 b1_2_w3 b1_3_w3 b2_0_w3 b2_1_w3 b2_2_w3 b2_3_w3 b4_0_w5 b4_1_w5 b4_2_w5 b4_3_w5 b3_0_w5 fb3_0_w5 b3_1_w5 fb3_1_w5 b3_2_w5 fb3_2_w5 b3_3_w5 fb3_3_w5 lB1_w3 lB2_w3 lB3_w3 lB1_w4 lB2_w4 lB3_w4 lB1_w5 lB2_w5 lB3_w5 lB4_w5
  have yw5 := Nat.le_of_eq zw5
  replace zw5 := Nat.le_of_eq zw5.symm
  have yw6 := Nat.le_of_eq zw6
  replace zw6 := Nat.le_of_eq zw6.symm
  refine bodyPost_ret (v := .agg #[.bool Z10.N.b, .slice Z10.N.p Z10.N.n Z10.N.c, .bool Z10.D.b, .slice Z10.D.p Z10.D.n Z10.D.c]) (by simp [results, Tryz.results33, go_sem, b3_0_w6, b3_1_w6, b3_2_w6, b3_3_w6]) rfl ?_
  exact Gv.of_f (X := Z10) (hZ10) (oZ10) hEw6

set_option maxRecDepth 100000 in
theorem nsum (X : Fr) (Y : Fr) (x : Rat) (y : Rat) (w : World) (hX : FR w X x) (hY : FR w Y y) (bx : Sz x) (by_ : Sz y) (bz : Sz (x + y)) :
    Calls Tryz.prog 31 #[.agg #[.bool X.N.b, .slice X.N.p X.N.n X.N.c, .bool X.D.b, .slice X.D.p X.D.n X.D.c], .agg #[.bool Y.N.b, .slice Y.N.p Y.N.n Y.N.c, .bool Y.D.b, .slice Y.D.p Y.D.n Y.D.c]] w (Gv (.f (x + y)) w) := by
  have hEw : Ext w w := Below.refl _ _
  obtain ⟨w1, hww1⟩ : ∃ W, w.alloc (.cells #[.bool X.N.b, .slice X.N.p X.N.n X.N.c, .bool X.D.b, .slice X.D.p X.D.n X.D.c] 40) = W := ⟨_, rfl⟩
  have ew1 : Ext w w1 := by rw [← hww1]; exact ea _ _
  have B1 : Cells w1 (w.heap.size) 40 #[.bool X.N.b, .slice X.N.p X.N.n X.N.c, .bool X.D.b, .slice X.D.p X.D.n X.D.c] := by rw [← hww1]; exact Cells.newAt _ _ (by omega)
  replace hX := hX.ext ew1
  replace hY := hY.ext ew1
  have zw1 := alloc_lt hww1
  have hEw1 := eg hEw ew1
  have lB1_w1 := B1.lt
  obtain ⟨w2, hww2⟩ : ∃ W, w1.alloc (.cells #[.bool Y.N.b, .slice Y.N.p Y.N.n Y.N.c, .bool Y.D.b, .slice Y.D.p Y.D.n Y.D.c] 40) = W := ⟨_, rfl⟩
  have ew2 : Ext w1 w2 := by rw [← hww2]; exact ea _ _
  have B2 : Cells w2 (w.heap.size + 1) 40 #[.bool Y.N.b, .slice Y.N.p Y.N.n Y.N.c, .bool Y.D.b, .slice Y.D.p Y.D.n Y.D.c] := by rw [← hww2]; exact Cells.newAt _ _ (by omega)
  replace hX := hX.ext ew2
  replace hY := hY.ext ew2
  replace B1 := B1.ext ew2
  have zw2 := alloc_lt hww2
  have hEw2 := eg hEw1 ew2
  have lB1_w2 := B1.lt
  have lB2_w2 := B2.lt
  obtain ⟨w3, hww3⟩ : ∃ W, w2.alloc (.cells #[.bool false, .slice none 0 0, .bool false, .slice none 0 0] 40) = W := ⟨_, rfl⟩
  have ew3 : Ext w2 w3 := by rw [← hww3]; exact ea _ _
  have B3 : Cells w3 (w.heap.size + 1 + 1) 40 #[.bool false, .slice none 0 0, .bool false, .slice none 0 0] := by rw [← hww3]; exact Cells.newAt _ _ (by omega)
  replace hX := hX.ext ew3
  replace hY := hY.ext ew3
  replace B1 := B1.ext ew3
  replace B2 := B2.ext ew3
  have zw3 := alloc_lt hww3
  have hEw3 := eg hEw2 ew3
  have b1_0_w3 := B1.cell (k := 0) rfl
  have b1_1_w3 := B1.cell (k := 1) rfl
  have b1_2_w3 := B1.cell (k := 2) rfl
  have b1_3_w3 := B1.cell (k := 3) rfl
  have b2_0_w3 := B2.cell (k := 0) rfl
  have b2_1_w3 := B2.cell (k := 1) rfl
  have b2_2_w3 := B2.cell (k := 2) rfl
  have b2_3_w3 := B2.cell (k := 3) rfl
  have lB1_w3 := B1.lt
  have lB2_w3 := B2.lt
  have lB3_w3 := B3.lt
  go_enter Tryz.func31, Tryz.ntmps31
  go_wp2_with fail
  clear hww1
  clear hww2
  clear hww3
  clear lB1_w1 lB1_w2 lB2_w2
  have yw1 := Nat.le_of_eq zw1
  replace zw1 := Nat.le_of_eq zw1.symm
  have yw2 := Nat.le_of_eq zw2
  replace zw2 := Nat.le_of_eq zw2.symm
  have yw3 := Nat.le_of_eq zw3
  replace zw3 := Nat.le_of_eq zw3.symm
  refine (fAdd X Y _ _ _ (hX) (hY) (bx) (by_) (bz)).mono ?_
  intro ee w4 gg
  obtain ⟨Z10, rfl, hZ10, oZ10, ew4⟩ := Gv.fe gg
  replace hX := hX.ext ew4
  replace hY := hY.ext ew4
  replace B1 := B1.ext ew4
  replace B2 := B2.ext ew4
  replace B3 := B3.ext ew4
  have hEw4 := eg hEw3 ew4
  have zw4 := ew4.size
  replace oZ10 := oZ10.mono hEw3.size
  have lB1_w4 := B1.lt
  have lB2_w4 := B2.lt
  have lB3_w4 := B3.lt
  obtain ⟨w5, hww5⟩ : ∃ W, w4.alloc (.cells #[.bool Z10.N.b, .slice Z10.N.p Z10.N.n Z10.N.c, .bool Z10.D.b, .slice Z10.D.p Z10.D.n Z10.D.c] 40) = W := ⟨_, rfl⟩
  have ew5 : Ext w4 w5 := by rw [← hww5]; exact ea _ _
  have B4 : Cells w5 (w4.heap.size) 40 #[.bool Z10.N.b, .slice Z10.N.p Z10.N.n Z10.N.c, .bool Z10.D.b, .slice Z10.D.p Z10.D.n Z10.D.c] := by rw [← hww5]; exact Cells.newAt _ _ (by omega)
  replace hX := hX.ext ew5
  replace hY := hY.ext ew5
  replace hZ10 := hZ10.ext ew5
  replace oZ10 := oZ10.ext ew5
  replace B1 := B1.ext ew5
  replace B2 := B2.ext ew5
  replace B3 := B3.ext ew5
  have zw5 := alloc_lt hww5
  have hEw5 := eg hEw4 ew5
  have b4_0_w5 := B4.cell (k := 0) rfl
  have b4_1_w5 := B4.cell (k := 1) rfl
  have b4_2_w5 := B4.cell (k := 2) rfl
  have b4_3_w5 := B4.cell (k := 3) rfl
  have b3_0_w5 := B3.cell (k := 0) rfl
  have fb3_0_w5 := B3.frozen 0
  have b3_1_w5 := B3.cell (k := 1) rfl
  have fb3_1_w5 := B3.frozen 1
  have b3_2_w5 := B3.cell (k := 2) rfl
  have fb3_2_w5 := B3.frozen 2
  have b3_3_w5 := B3.cell (k := 3) rfl
  have fb3_3_w5 := B3.frozen 3
  have lB1_w5 := B1.lt
  have lB2_w5 := B2.lt
  have lB3_w5 := B3.lt
  have lB4_w5 := B4.lt
  obtain ⟨w6, hww6⟩ : ∃ W, ((((w5).setCell ⟨w.heap.size + 1 + 1, 0, none⟩ (.bool Z10.N.b)).setCell ⟨w.heap.size + 1 + 1, 1, none⟩ (.slice Z10.N.p Z10.N.n Z10.N.c)).setCell ⟨w.heap.size + 1 + 1, 2, none⟩ (.bool Z10.D.b)).setCell ⟨w.heap.size + 1 + 1, 3, none⟩ (.slice Z10.D.p Z10.D.n Z10.D.c) = W := ⟨_, rfl⟩
  have nuw6 : NoU #[.bool false, .slice none 0 0, .bool false, .slice none 0 0] := by simp [NoU]
  replace hX := FR.sets hX B3 nuw6 0 [.bool Z10.N.b, .slice Z10.N.p Z10.N.n Z10.N.c, .bool Z10.D.b, .slice Z10.D.p Z10.D.n Z10.D.c]
  replace hY := FR.sets hY B3 nuw6 0 [.bool Z10.N.b, .slice Z10.N.p Z10.N.n Z10.N.c, .bool Z10.D.b, .slice Z10.D.p Z10.D.n Z10.D.c]
  replace hZ10 := FR.sets hZ10 B3 nuw6 0 [.bool Z10.N.b, .slice Z10.N.p Z10.N.n Z10.N.c, .bool Z10.D.b, .slice Z10.D.p Z10.D.n Z10.D.c]
  replace oZ10 := OF.sets oZ10 B3 (by decide) 0 [.bool Z10.N.b, .slice Z10.N.p Z10.N.n Z10.N.c, .bool Z10.D.b, .slice Z10.D.p Z10.D.n Z10.D.c]
  have hEw6 := Ext.sets hEw5 (b := w.heap.size + 1 + 1) (by omega) 0 [.bool Z10.N.b, .slice Z10.N.p Z10.N.n Z10.N.c, .bool Z10.D.b, .slice Z10.D.p Z10.D.n Z10.D.c]
  replace B1 := Cells.off B1 (b' := w.heap.size + 1 + 1) (by omega) 0 [.bool Z10.N.b, .slice Z10.N.p Z10.N.n Z10.N.c, .bool Z10.D.b, .slice Z10.D.p Z10.D.n Z10.D.c]
  replace B2 := Cells.off B2 (b' := w.heap.size + 1 + 1) (by omega) 0 [.bool Z10.N.b, .slice Z10.N.p Z10.N.n Z10.N.c, .bool Z10.D.b, .slice Z10.D.p Z10.D.n Z10.D.c]
  replace B4 := Cells.off B4 (b' := w.heap.size + 1 + 1) (by omega) 0 [.bool Z10.N.b, .slice Z10.N.p Z10.N.n Z10.N.c, .bool Z10.D.b, .slice Z10.D.p Z10.D.n Z10.D.c]
  replace B3 : Cells (sets w5 (w.heap.size + 1 + 1) 0 [.bool Z10.N.b, .slice Z10.N.p Z10.N.n Z10.N.c, .bool Z10.D.b, .slice Z10.D.p Z10.D.n Z10.D.c]) (w.heap.size + 1 + 1) 40 #[.bool Z10.N.b, .slice Z10.N.p Z10.N.n Z10.N.c, .bool Z10.D.b, .slice Z10.D.p Z10.D.n Z10.D.c] := Cells.sets [.bool Z10.N.b, .slice Z10.N.p Z10.N.n Z10.N.c, .bool Z10.D.b, .slice Z10.D.p Z10.D.n Z10.D.c] B3 0
  have zw6 := size_sets (w.heap.size + 1 + 1) [.bool Z10.N.b, .slice Z10.N.p Z10.N.n Z10.N.c, .bool Z10.D.b, .slice Z10.D.p Z10.D.n Z10.D.c] w5 0
  replace hww6 : sets w5 (w.heap.size + 1 + 1) 0 [.bool Z10.N.b, .slice Z10.N.p Z10.N.n Z10.N.c, .bool Z10.D.b, .slice Z10.D.p Z10.D.n Z10.D.c] = w6 := hww6
  rw [hww6] at hX hY hZ10 oZ10 B1 B2 B3 B4 hEw6 zw6
  replace hww6 : ((((w5).setCell ⟨w.heap.size + 1 + 1, 0, none⟩ (.bool Z10.N.b)).setCell ⟨w.heap.size + 1 + 1, 1, none⟩ (.slice Z10.N.p Z10.N.n Z10.N.c)).setCell ⟨w.heap.size + 1 + 1, 2, none⟩ (.bool Z10.D.b)).setCell ⟨w.heap.size + 1 + 1, 3, none⟩ (.slice Z10.D.p Z10.D.n Z10.D.c) = w6 := hww6
  have b3_0_w6 := B3.cell (k := 0) rfl
  have b3_1_w6 := B3.cell (k := 1) rfl
  have b3_2_w6 := B3.cell (k := 2) rfl
  have b3_3_w6 := B3.cell (k := 3) rfl
  have lB1_w6 := B1.lt
  have lB2_w6 := B2.lt
  have lB3_w6 := B3.lt
  have lB4_w6 := B4.lt
  go_wp2_with fail
  clear hww5
  clear hww6
  clear b1_0_w3 b1_1_w3 b1_2_w3 b1_3_w3 b2_0_w3 b2_1_w3 b2_2_w3 b2_3_w3 b4_0_w5 b4_1_w5 b4_2_w5 b4_3_w5 b3_0_w5 fb3_0_w5 b3_1_w5 fb3_1_w5 b3_2_w5 fb3_2_w5 b3_3_w5 fb3_3_w5 lB1_w3 lB2_w3 lB3_w3 lB1_w4 lB2_w4 lB3_w4 lB1_w5 lB2_w5 lB3_w5 lB4_w5
  have yw5 := Nat.le_of_eq zw5
  replace zw5 := Nat.le_of_eq zw5.symm
  have yw6 := Nat.le_of_eq zw6
  replace zw6 := Nat.le_of_eq zw6.symm
  refine bodyPost_ret (v := .agg #[.bool Z10.N.b, .slice Z10.N.p Z10.N.n Z10.N.c, .bool Z10.D.b, .slice Z10.D.p Z10.D.n Z10.D.c]) (by simp [results, Tryz.results31, go_sem, b3_0_w6, b3_1_w6, b3_2_w6, b3_3_w6]) rfl ?_
  exact Gv.of_f (X := Z10) (hZ10) (oZ10) hEw6

set_option maxRecDepth 100000 in
theorem nnot (X : Fr) (x : Rat) (w : World) (hX : FR w X x) (bx : Sz x) (bz : Sz (1 - x)) :
    Calls Tryz.prog 32 #[.agg #[.bool X.N.b, .slice X.N.p X.N.n X.N.c, .bool X.D.b, .slice X.D.p X.D.n X.D.c]] w (Gv (.f (1 - x)) w) := by
  have hEw : Ext w w := Below.refl _ _
  obtain ⟨w1, hww1⟩ : ∃ W, w.alloc (.cells #[.bool X.N.b, .slice X.N.p X.N.n X.N.c, .bool X.D.b, .slice X.D.p X.D.n X.D.c] 40) = W := ⟨_, rfl⟩
  have ew1 : Ext w w1 := by rw [← hww1]; exact ea _ _
  have B1 : Cells w1 (w.heap.size) 40 #[.bool X.N.b, .slice X.N.p X.N.n X.N.c, .bool X.D.b, .slice X.D.p X.D.n X.D.c] := by rw [← hww1]; exact Cells.newAt _ _ (by omega)
  replace hX := hX.ext ew1
  have zw1 := alloc_lt hww1
  have hEw1 := eg hEw ew1
  have lB1_w1 := B1.lt
  obtain ⟨w2, hww2⟩ : ∃ W, w1.alloc (.cells #[.bool false, .slice none 0 0, .bool false, .slice none 0 0] 40) = W := ⟨_, rfl⟩
  have ew2 : Ext w1 w2 := by rw [← hww2]; exact ea _ _
  have B2 : Cells w2 (w.heap.size + 1) 40 #[.bool false, .slice none 0 0, .bool false, .slice none 0 0] := by rw [← hww2]; exact Cells.newAt _ _ (by omega)
  replace hX := hX.ext ew2
  replace B1 := B1.ext ew2
  have zw2 := alloc_lt hww2
  have hEw2 := eg hEw1 ew2
  have b1_0_w2 := B1.cell (k := 0) rfl
  have b1_1_w2 := B1.cell (k := 1) rfl
  have b1_2_w2 := B1.cell (k := 2) rfl
  have b1_3_w2 := B1.cell (k := 3) rfl
  have lB1_w2 := B1.lt
  have lB2_w2 := B2.lt
  go_enter Tryz.func32, Tryz.ntmps32
  go_wp2_with fail
  clear hww1
  clear hww2
  clear lB1_w1
  have yw1 := Nat.le_of_eq zw1
  replace zw1 := Nat.le_of_eq zw1.symm
  have yw2 := Nat.le_of_eq zw2
  replace zw2 := Nat.le_of_eq zw2.symm
  refine regionS ⟨7, 6, 2, 40, 4, lvT⟩ 8 (fun k => match k with | 0 => some (.f (1)) | 2 => some (.fe (1 + -x) 0) | 6 => some (.boxS 40 4) | _ => none) (by kernel_rfl) (by kernel_rfl) (by decide) ?hT1 rfl (by kernel_rfl) (by kernel_rfl) ?_
  case hT1 =>
    intro k t h
    split at h <;> first | (cases h; first | exact st_f _ | exact st_fe _ _ | exact st_bs _ _ | exact st_v _ | exact st_w _ | exact st_we _ _ | exact st_f0 _ | exact st_w0 _) | cases h
  refine Walk.tellS rfl rfl (.inl (by simp)) rfl (fun w1 hI hL K hK => ?_) ?_
  · go_simp
    exact (fFromInt_1 w1).mono (tell hK)
  rintro _ ⟨Z6, rfl⟩
  simp only [Act.put, List.setIfInBounds_toArray, List.set_cons_zero, List.set_cons_succ]
  refine Walk.one (x := ?_) rfl rfl (fun w1 hI hL K hK => ?_) ?_
  rotate_left
  · obtain ⟨hc, hf⟩ := bcell hI
    go_simp
    repeat (first | (go_ints; try go_simp) | (simp only [↓IntWalk.iteOmega]; try go_simp))
    exact hK
  simp only [Act.put, List.setIfInBounds_toArray, List.set_cons_zero, List.set_cons_succ]
  refine Walk.tellS rfl rfl (.inl (by simp)) rfl (fun w1 hI hL K hK => ?_) ?_
  · go_simp
    exact (fSub Z6 X _ _ w1 ((Tl.getF (knS (i := 0) (v := .agg #[.bool Z6.N.b, .slice Z6.N.p Z6.N.n Z6.N.c, .bool Z6.D.b, .slice Z6.D.p Z6.D.n Z6.D.c]) rfl rfl (by simp) (by kernel_rfl) hL)).1) ((hX).ext hI) (sz_one) (bx) (sz_sub bz)).mono (tell hK)
  rintro _ ⟨Z8, rfl⟩
  simp only [Act.put, List.setIfInBounds_toArray, List.set_cons_zero, List.set_cons_succ]
  iterate 3
    refine Walk.one (x := ?_) rfl rfl (fun w1 hI hL K hK => ?_) ?_
    rotate_left
    · obtain ⟨hc, hf⟩ := bcell hI
      go_simp
      repeat (first | (go_ints; try go_simp) | (simp only [↓IntWalk.iteOmega]; try go_simp))
      exact hK
    simp only [Act.put, List.setIfInBounds_toArray, List.set_cons_zero, List.set_cons_succ]
  refine Walk.tellS rfl rfl (.inl (by simp)) rfl (fun w1 hI hL K hK => ?_) ?_
  · go_simp
    exact tellBS rfl (by simp [NoU]) hK
  rintro _ ⟨g3, rfl⟩
  simp only [Act.put, List.setIfInBounds_toArray, List.set_cons_zero, List.set_cons_succ]
  refine Walk.storeS (g := g3) (vc := .tuple #[.agg #[.bool Z8.N.b, .slice Z8.N.p Z8.N.n Z8.N.c, .bool Z8.D.b, .slice Z8.D.p Z8.D.n Z8.D.c], .int .i64 0]) rfl rfl rfl rfl rfl (by simp) (by kernel_rfl) (by simp) (by simp) (by simp) (fun c hc => splice4 (.bool Z8.N.b) (.slice Z8.N.p Z8.N.n Z8.N.c) (.bool Z8.D.b) (.slice Z8.D.p Z8.D.n Z8.D.c) c hc) (by simp [NoU, lvT]) (fun w1 c hI hC hc hL K hK => ?_) ?_
  · obtain ⟨u0, c0⟩ := hC.some (k := 0) (by have hc2 : c.size = 4 := hc; omega)
    obtain ⟨u1, c1⟩ := hC.some (k := 1) (by have hc2 : c.size = 4 := hc; omega)
    obtain ⟨u2, c2⟩ := hC.some (k := 2) (by have hc2 : c.size = 4 := hc; omega)
    obtain ⟨u3, c3⟩ := hC.some (k := 3) (by have hc2 : c.size = 4 := hc; omega)
    have f0 := hC.frozen 0
    have f1 := hC.frozen 1
    have f2 := hC.frozen 2
    have f3 := hC.frozen 3
    go_simp
    exact hK
  intro vs
  simp only [Act.put, List.setIfInBounds_toArray, List.set_cons_zero, List.set_cons_succ]
  refine Walk.nilS (g := g3) (vc := .tuple #[.agg #[.bool Z8.N.b, .slice Z8.N.p Z8.N.n Z8.N.c, .bool Z8.D.b, .slice Z8.D.p Z8.D.n Z8.D.c], .int .i64 0]) (vs := vs) (by simp) (by simp) (by simp) (by decide) (by decide) fun w3 ew3 kzL kzC kzX => ?_
  replace hX := hX.ext ew3
  replace B1 := B1.ext ew3
  replace B2 := B2.ext ew3
  have hEw3 := eg hEw2 ew3
  have zw3 := ew3.size
  obtain ⟨hZ6, oZ6⟩ := Tl.getF (kzS (i := 0) (v := .agg #[.bool Z6.N.b, .slice Z6.N.p Z6.N.n Z6.N.c, .bool Z6.D.b, .slice Z6.D.p Z6.D.n Z6.D.c]) rfl rfl (by simp) kzL)
  replace oZ6 := oZ6.mono hEw2.size
  obtain ⟨hZ8, oZ8⟩ := Tl.getFe (kzS (i := 2) (v := .tuple #[.agg #[.bool Z8.N.b, .slice Z8.N.p Z8.N.n Z8.N.c, .bool Z8.D.b, .slice Z8.D.p Z8.D.n Z8.D.c], .int .i64 0]) rfl rfl (by simp) kzL)
  replace oZ8 := oZ8.mono hEw2.size
  obtain ⟨B3, yB3⟩ := kzC
  replace B3 : Cells w3 (g3) 40 #[.bool Z8.N.b, .slice Z8.N.p Z8.N.n Z8.N.c, .bool Z8.D.b, .slice Z8.D.p Z8.D.n Z8.D.c] := B3
  clear kzL kzX
  have b3_0_w3 := B3.cell (k := 0) rfl
  have b3_1_w3 := B3.cell (k := 1) rfl
  have b3_2_w3 := B3.cell (k := 2) rfl
  have b3_3_w3 := B3.cell (k := 3) rfl
  have b2_0_w3 := B2.cell (k := 0) rfl
  have fb2_0_w3 := B2.frozen 0
  have b2_1_w3 := B2.cell (k := 1) rfl
  have fb2_1_w3 := B2.frozen 1
  have b2_2_w3 := B2.cell (k := 2) rfl
  have fb2_2_w3 := B2.frozen 2
  have b2_3_w3 := B2.cell (k := 3) rfl
  have fb2_3_w3 := B2.frozen 3
  have lB1_w3 := B1.lt
  have lB2_w3 := B2.lt
  have lB3_w3 := B3.lt
  simp only [List.drop_succ_cons, List.drop_zero, List.drop_nil]
  obtain ⟨w4, hww4⟩ : ∃ W, ((((w3).setCell ⟨w.heap.size + 1, 0, none⟩ (.bool Z8.N.b)).setCell ⟨w.heap.size + 1, 1, none⟩ (.slice Z8.N.p Z8.N.n Z8.N.c)).setCell ⟨w.heap.size + 1, 2, none⟩ (.bool Z8.D.b)).setCell ⟨w.heap.size + 1, 3, none⟩ (.slice Z8.D.p Z8.D.n Z8.D.c) = W := ⟨_, rfl⟩
  have nuw4 : NoU #[.bool false, .slice none 0 0, .bool false, .slice none 0 0] := by simp [NoU]
  replace hX := FR.sets hX B2 nuw4 0 [.bool Z8.N.b, .slice Z8.N.p Z8.N.n Z8.N.c, .bool Z8.D.b, .slice Z8.D.p Z8.D.n Z8.D.c]
  replace hZ6 := FR.sets hZ6 B2 nuw4 0 [.bool Z8.N.b, .slice Z8.N.p Z8.N.n Z8.N.c, .bool Z8.D.b, .slice Z8.D.p Z8.D.n Z8.D.c]
  replace hZ8 := FR.sets hZ8 B2 nuw4 0 [.bool Z8.N.b, .slice Z8.N.p Z8.N.n Z8.N.c, .bool Z8.D.b, .slice Z8.D.p Z8.D.n Z8.D.c]
  replace oZ6 := OF.sets oZ6 B2 (by decide) 0 [.bool Z8.N.b, .slice Z8.N.p Z8.N.n Z8.N.c, .bool Z8.D.b, .slice Z8.D.p Z8.D.n Z8.D.c]
  replace oZ8 := OF.sets oZ8 B2 (by decide) 0 [.bool Z8.N.b, .slice Z8.N.p Z8.N.n Z8.N.c, .bool Z8.D.b, .slice Z8.D.p Z8.D.n Z8.D.c]
  have hEw4 := Ext.sets hEw3 (b := w.heap.size + 1) (by omega) 0 [.bool Z8.N.b, .slice Z8.N.p Z8.N.n Z8.N.c, .bool Z8.D.b, .slice Z8.D.p Z8.D.n Z8.D.c]
  replace B1 := Cells.off B1 (b' := w.heap.size + 1) (by omega) 0 [.bool Z8.N.b, .slice Z8.N.p Z8.N.n Z8.N.c, .bool Z8.D.b, .slice Z8.D.p Z8.D.n Z8.D.c]
  replace B3 := Cells.off B3 (b' := w.heap.size + 1) (by omega) 0 [.bool Z8.N.b, .slice Z8.N.p Z8.N.n Z8.N.c, .bool Z8.D.b, .slice Z8.D.p Z8.D.n Z8.D.c]
  replace B2 : Cells (sets w3 (w.heap.size + 1) 0 [.bool Z8.N.b, .slice Z8.N.p Z8.N.n Z8.N.c, .bool Z8.D.b, .slice Z8.D.p Z8.D.n Z8.D.c]) (w.heap.size + 1) 40 #[.bool Z8.N.b, .slice Z8.N.p Z8.N.n Z8.N.c, .bool Z8.D.b, .slice Z8.D.p Z8.D.n Z8.D.c] := Cells.sets [.bool Z8.N.b, .slice Z8.N.p Z8.N.n Z8.N.c, .bool Z8.D.b, .slice Z8.D.p Z8.D.n Z8.D.c] B2 0
  have zw4 := size_sets (w.heap.size + 1) [.bool Z8.N.b, .slice Z8.N.p Z8.N.n Z8.N.c, .bool Z8.D.b, .slice Z8.D.p Z8.D.n Z8.D.c] w3 0
  replace hww4 : sets w3 (w.heap.size + 1) 0 [.bool Z8.N.b, .slice Z8.N.p Z8.N.n Z8.N.c, .bool Z8.D.b, .slice Z8.D.p Z8.D.n Z8.D.c] = w4 := hww4
  rw [hww4] at hX hZ6 hZ8 oZ6 oZ8 B1 B2 B3 hEw4 zw4
  replace hww4 : ((((w3).setCell ⟨w.heap.size + 1, 0, none⟩ (.bool Z8.N.b)).setCell ⟨w.heap.size + 1, 1, none⟩ (.slice Z8.N.p Z8.N.n Z8.N.c)).setCell ⟨w.heap.size + 1, 2, none⟩ (.bool Z8.D.b)).setCell ⟨w.heap.size + 1, 3, none⟩ (.slice Z8.D.p Z8.D.n Z8.D.c) = w4 := hww4
  have b2_0_w4 := B2.cell (k := 0) rfl
  have b2_1_w4 := B2.cell (k := 1) rfl
  have b2_2_w4 := B2.cell (k := 2) rfl
  have b2_3_w4 := B2.cell (k := 3) rfl
  have lB1_w4 := B1.lt
  have lB2_w4 := B2.lt
  have lB3_w4 := B3.lt
  go_wp2_with fail
  clear hww4
  clear b1_0_w2 b1_1_w2 b1_2_w2 b1_3_w2 b3_0_w3 b3_1_w3 b3_2_w3 b3_3_w3 b2_0_w3 fb2_0_w3 b2_1_w3 fb2_1_w3 b2_2_w3 fb2_2_w3 b2_3_w3 fb2_3_w3 lB1_w2 lB2_w2 lB1_w3 lB2_w3 lB3_w3
  have yw4 := Nat.le_of_eq zw4
  replace zw4 := Nat.le_of_eq zw4.symm
  refine bodyPost_ret (v := .agg #[.bool Z8.N.b, .slice Z8.N.p Z8.N.n Z8.N.c, .bool Z8.D.b, .slice Z8.D.p Z8.D.n Z8.D.c]) (by simp [results, Tryz.results32, go_sem, b2_0_w4, b2_1_w4, b2_2_w4, b2_3_w4]) rfl ?_
  exact Gv.of_f (X := Z8) (FR.cast hZ8 (add_neg' 1 x)) oZ8 hEw4

set_option maxRecDepth 100000 in
theorem nequal (X : Fr) (Y : Fr) (x : Rat) (y : Rat) (w : World) (hX : FR w X x) (hY : FR w Y y) (bx : Sz x) (by_ : Sz y) :
    Calls Tryz.prog 30 #[.agg #[.bool X.N.b, .slice X.N.p X.N.n X.N.c, .bool X.D.b, .slice X.D.p X.D.n X.D.c], .agg #[.bool Y.N.b, .slice Y.N.p Y.N.n Y.N.c, .bool Y.D.b, .slice Y.D.p Y.D.n Y.D.c]] w (Gv (.v (.bool (eqQ x y))) w) := by
  have hEw : Ext w w := Below.refl _ _
  obtain ⟨w1, hww1⟩ : ∃ W, w.alloc (.cells #[.bool X.N.b, .slice X.N.p X.N.n X.N.c, .bool X.D.b, .slice X.D.p X.D.n X.D.c] 40) = W := ⟨_, rfl⟩
  have ew1 : Ext w w1 := by rw [← hww1]; exact ea _ _
  have B1 : Cells w1 (w.heap.size) 40 #[.bool X.N.b, .slice X.N.p X.N.n X.N.c, .bool X.D.b, .slice X.D.p X.D.n X.D.c] := by rw [← hww1]; exact Cells.newAt _ _ (by omega)
  replace hX := hX.ext ew1
  replace hY := hY.ext ew1
  have zw1 := alloc_lt hww1
  have hEw1 := eg hEw ew1
  have lB1_w1 := B1.lt
  obtain ⟨w2, hww2⟩ : ∃ W, w1.alloc (.cells #[.bool Y.N.b, .slice Y.N.p Y.N.n Y.N.c, .bool Y.D.b, .slice Y.D.p Y.D.n Y.D.c] 40) = W := ⟨_, rfl⟩
  have ew2 : Ext w1 w2 := by rw [← hww2]; exact ea _ _
  have B2 : Cells w2 (w.heap.size + 1) 40 #[.bool Y.N.b, .slice Y.N.p Y.N.n Y.N.c, .bool Y.D.b, .slice Y.D.p Y.D.n Y.D.c] := by rw [← hww2]; exact Cells.newAt _ _ (by omega)
  replace hX := hX.ext ew2
  replace hY := hY.ext ew2
  replace B1 := B1.ext ew2
  have zw2 := alloc_lt hww2
  have hEw2 := eg hEw1 ew2
  have b1_0_w2 := B1.cell (k := 0) rfl
  have b1_1_w2 := B1.cell (k := 1) rfl
  have b1_2_w2 := B1.cell (k := 2) rfl
  have b1_3_w2 := B1.cell (k := 3) rfl
  have lB1_w2 := B1.lt
  have lB2_w2 := B2.lt
  go_enter Tryz.func30, Tryz.ntmps30
  go_wp2_with fail
  clear hww1
  clear hww2
  clear lB1_w1
  have yw1 := Nat.le_of_eq zw1
  replace zw1 := Nat.le_of_eq zw1.symm
  have yw2 := Nat.le_of_eq zw2
  replace zw2 := Nat.le_of_eq zw2.symm
  refine (fValid_q X _ _ (hX) bx).mono ?_
  intro ee w3 gg
  obtain ⟨rfl, ew3⟩ := Gv.v gg
  replace hX := hX.ext ew3
  replace hY := hY.ext ew3
  replace B1 := B1.ext ew3
  replace B2 := B2.ext ew3
  have hEw3 := eg hEw2 ew3
  have zw3 := ew3.size
  have b2_0_w3 := B2.cell (k := 0) rfl
  have b2_1_w3 := B2.cell (k := 1) rfl
  have b2_2_w3 := B2.cell (k := 2) rfl
  have b2_3_w3 := B2.cell (k := 3) rfl
  have lB1_w3 := B1.lt
  have lB2_w3 := B2.lt
  go_wp2_with fail
  clear b1_0_w2 b1_1_w2 b1_2_w2 b1_3_w2 lB1_w2 lB2_w2
  refine (fValid_q Y _ _ (hY) by_).mono ?_
  intro ee w4 gg
  obtain ⟨rfl, ew4⟩ := Gv.v gg
  replace hX := hX.ext ew4
  replace hY := hY.ext ew4
  replace B1 := B1.ext ew4
  replace B2 := B2.ext ew4
  have hEw4 := eg hEw3 ew4
  have zw4 := ew4.size
  have b1_0_w4 := B1.cell (k := 0) rfl
  have b1_1_w4 := B1.cell (k := 1) rfl
  have b1_2_w4 := B1.cell (k := 2) rfl
  have b1_3_w4 := B1.cell (k := 3) rfl
  have b2_0_w4 := B2.cell (k := 0) rfl
  have b2_1_w4 := B2.cell (k := 1) rfl
  have b2_2_w4 := B2.cell (k := 2) rfl
  have b2_3_w4 := B2.cell (k := 3) rfl
  have lB1_w4 := B1.lt
  have lB2_w4 := B2.lt
  go_wp2_with fail
  clear b2_0_w3 b2_1_w3 b2_2_w3 b2_3_w3 lB1_w3 lB2_w3
  refine (rSameQ X Y _ _ _ (hX) (hY)).mono ?_
  intro ee w5 gg
  obtain ⟨rfl, ew5⟩ := Gv.v gg
  replace hX := hX.ext ew5
  replace hY := hY.ext ew5
  replace B1 := B1.ext ew5
  replace B2 := B2.ext ew5
  have hEw5 := eg hEw4 ew5
  have zw5 := ew5.size
  have lB1_w5 := B1.lt
  have lB2_w5 := B2.lt
  go_wp2_with fail
  clear b1_0_w4 b1_1_w4 b1_2_w4 b1_3_w4 b2_0_w4 b2_1_w4 b2_2_w4 b2_3_w4 lB1_w4 lB2_w4
  refine bodyPost_ret (v := .bool (eqQ x y)) (by simp [results, Tryz.results30, go_sem]) rfl ?_
  exact Gv.of_v hEw5

set_option maxRecDepth 100000 in
theorem nchance1 (XNp : Option Addr) (XNn : Nat) (XNc : Nat) (XDb : Bool) (XDp : Option Addr) (XDn : Nat) (XDc : Nat) (x : Rat) (w : World) (hX : FR w ⟨⟨false, XNp, XNn, XNc⟩, ⟨XDb, XDp, XDn, XDc⟩⟩ x) (bx : Sz x) (hc : decide (cmpQ x 1 ≤ 0) = true) :
    Calls Tryz.prog 29 #[.agg #[.bool false, .slice XNp XNn XNc, .bool XDb, .slice XDp XDn XDc]] w (Gv (.v (.bool true)) w) := by
  have hEw : Ext w w := Below.refl _ _
  obtain ⟨w1, hww1⟩ : ∃ W, w.alloc (.cells #[.bool false, .slice XNp XNn XNc, .bool XDb, .slice XDp XDn XDc] 40) = W := ⟨_, rfl⟩
  have ew1 : Ext w w1 := by rw [← hww1]; exact ea _ _
  have B1 : Cells w1 (w.heap.size) 40 #[.bool false, .slice XNp XNn XNc, .bool XDb, .slice XDp XDn XDc] := by rw [← hww1]; exact Cells.newAt _ _ (by omega)
  replace hX := hX.ext ew1
  have zw1 := alloc_lt hww1
  have hEw1 := eg hEw ew1
  have b1_0_w1 := B1.cell (k := 0) rfl
  have b1_1_w1 := B1.cell (k := 1) rfl
  have b1_2_w1 := B1.cell (k := 2) rfl
  have b1_3_w1 := B1.cell (k := 3) rfl
  have lB1_w1 := B1.lt
  go_enter Tryz.func29, Tryz.ntmps29
  go_wp2_with fail
  clear hww1
  have yw1 := Nat.le_of_eq zw1
  replace zw1 := Nat.le_of_eq zw1.symm
  refine regionT 14 (fun k => match k with | 1 => some (.v (.bool true)) | 10 => some (.f (1)) | 11 => some (.v (.int .i64 (cmpQ x 1))) | _ => none) (by kernel_rfl) (by kernel_rfl) ?_
  refine Walk.one (x := ?_) rfl rfl (fun w1 hI hL K hK => ?_) ?_
  rotate_left
  · obtain ⟨hc, hf⟩ := bcell hI
    go_simp
    repeat (first | (go_ints; try go_simp) | (simp only [↓IntWalk.iteOmega]; try go_simp))
    exact hK
  simp only [Act.put, List.setIfInBounds_toArray, List.set_cons_zero, List.set_cons_succ]
  refine Walk.tell rfl rfl (fun w1 hI hL K hK => ?_) ?_
  · go_simp
    exact (fValid_q ⟨⟨false, XNp, XNn, XNc⟩, ⟨XDb, XDp, XDn, XDc⟩⟩ x w1 ((hX).ext hI) bx).mono (tell hK)
  rintro _ rfl
  simp only [Act.put, List.setIfInBounds_toArray, List.set_cons_zero, List.set_cons_succ]
  refine Walk.one (x := ?_) rfl rfl (fun w1 hI hL K hK => ?_) ?_
  rotate_left
  · obtain ⟨hc, hf⟩ := bcell hI
    go_simp
    repeat (first | (go_ints; try go_simp) | (simp only [↓IntWalk.iteOmega]; try go_simp))
    exact hK
  simp only [Act.put, List.setIfInBounds_toArray, List.set_cons_zero, List.set_cons_succ]
  refine Walk.oneG (x := ?_) rfl (by as_aux_lemma => kernel_rfl) (fun w1 hI hL K hK => ?_) ?_
  rotate_left
  · obtain ⟨hc, hf⟩ := bcell hI
    go_simp
    repeat (first | (go_ints; try go_simp) | (simp only [↓IntWalk.iteOmega]; try go_simp))
    exact hK
  simp only [Act.put, List.setIfInBounds_toArray, List.set_cons_zero, List.set_cons_succ]
  refine Walk.oneG (x := ?_) rfl (by as_aux_lemma => kernel_rfl) (fun w1 hI hL K hK => ?_) ?_
  rotate_left
  · obtain ⟨hc, hf⟩ := bcell hI
    go_simp
    repeat (first | (go_ints; try go_simp) | (simp only [↓IntWalk.iteOmega]; try go_simp))
    exact hK
  simp only [Act.put, List.setIfInBounds_toArray, List.set_cons_zero, List.set_cons_succ]
  refine Walk.oneG (x := ?_) rfl (by as_aux_lemma => kernel_rfl) (fun w1 hI hL K hK => ?_) ?_
  rotate_left
  · obtain ⟨hc, hf⟩ := bcell hI
    go_simp
    repeat (first | (go_ints; try go_simp) | (simp only [↓IntWalk.iteOmega]; try go_simp))
    exact hK
  simp only [Act.put, List.setIfInBounds_toArray, List.set_cons_zero, List.set_cons_succ]
  refine Walk.oneG (x := ?_) rfl (by as_aux_lemma => kernel_rfl) (fun w1 hI hL K hK => ?_) ?_
  rotate_left
  · obtain ⟨hc, hf⟩ := bcell hI
    go_simp
    repeat (first | (go_ints; try go_simp) | (simp only [↓IntWalk.iteOmega]; try go_simp))
    exact hK
  simp only [Act.put, List.setIfInBounds_toArray, List.set_cons_zero, List.set_cons_succ]
  iterate 2
    refine Walk.one (x := ?_) rfl rfl (fun w1 hI hL K hK => ?_) ?_
    rotate_left
    · obtain ⟨hc, hf⟩ := bcell hI
      go_simp
      repeat (first | (go_ints; try go_simp) | (simp only [↓IntWalk.iteOmega]; try go_simp))
      exact hK
    simp only [Act.put, List.setIfInBounds_toArray, List.set_cons_zero, List.set_cons_succ]
  refine Walk.oneG (x := ?_) rfl (by as_aux_lemma => kernel_rfl) (fun w1 hI hL K hK => ?_) ?_
  rotate_left
  · obtain ⟨hc, hf⟩ := bcell hI
    go_simp
    repeat (first | (go_ints; try go_simp) | (simp only [↓IntWalk.iteOmega]; try go_simp))
    exact hK
  simp only [Act.put, List.setIfInBounds_toArray, List.set_cons_zero, List.set_cons_succ]
  refine Walk.tellG rfl (by kernel_rfl) (fun w1 hI hL K hK => ?_) ?_
  · go_simp
    exact (fFromInt_1 w1).mono (tell hK)
  rintro _ ⟨Z13, rfl⟩
  simp only [Act.put, List.setIfInBounds_toArray, List.set_cons_zero, List.set_cons_succ]
  refine Walk.tellG rfl (by kernel_rfl) (fun w1 hI hL K hK => ?_) ?_
  · go_simp
    exact (fCmp ⟨⟨false, XNp, XNn, XNc⟩, ⟨XDb, XDp, XDn, XDc⟩⟩ Z13 x 1 w1 ((hX).ext hI) ((Tl.getF (kn (i := 10) (v := .agg #[.bool Z13.N.b, .slice Z13.N.p Z13.N.n Z13.N.c, .bool Z13.D.b, .slice Z13.D.p Z13.D.n Z13.D.c]) rfl (by simp) (by kernel_rfl) hL)).1) bx sz_one).mono (tell hK)
  rintro _ rfl
  simp only [Act.put, List.setIfInBounds_toArray, List.set_cons_zero, List.set_cons_succ]
  refine Walk.oneG (x := ?_) rfl (by as_aux_lemma => kernel_rfl) (fun w1 hI hL K hK => ?_) ?_
  rotate_left
  · obtain ⟨hc, hf⟩ := bcell hI
    go_simp
    repeat (first | (go_ints; try go_simp) | (simp only [↓IntWalk.iteOmega]; try go_simp))
    exact hK
  simp only [Act.put, List.setIfInBounds_toArray, List.set_cons_zero, List.set_cons_succ]
  refine Walk.one (x := ?_) rfl rfl (fun w1 hI hL K hK => ?_) ?_
  rotate_left
  · obtain ⟨hc, hf⟩ := bcell hI
    go_simp
    repeat (first | (go_ints; try go_simp) | (simp only [↓IntWalk.iteOmega]; try go_simp))
    exact hK
  simp only [Act.put, List.setIfInBounds_toArray, List.set_cons_zero, List.set_cons_succ]
  refine Walk.nilF fun w2 ew2 kzL kzX => ?_
  replace hX := hX.ext ew2
  replace B1 := B1.ext ew2
  have hEw2 := eg hEw1 ew2
  have zw2 := ew2.size
  obtain ⟨hZ13, oZ13⟩ := Tl.getF (kz (i := 10) (v := .agg #[.bool Z13.N.b, .slice Z13.N.p Z13.N.n Z13.N.c, .bool Z13.D.b, .slice Z13.D.p Z13.D.n Z13.D.c]) rfl (by simp) kzL)
  replace oZ13 := oZ13.mono hEw1.size
  clear kzL kzX
  have lB1_w2 := B1.lt
  simp only [List.drop_succ_cons, List.drop_zero, List.drop_nil]
  go_wp2_with fail
  clear b1_0_w1 b1_1_w1 b1_2_w1 b1_3_w1 lB1_w1
  refine bodyPost_ret (v := .bool true) (by simp [results, Tryz.results29, go_sem]) rfl ?_
  exact Gv.of_v hEw2

theorem nchance (X : Fr) (x : Rat) (w : World) (hX : FR w X x) (bx : Sz x) (h0 : 0 ≤ x) (h1 : x ≤ 1) : Calls Tryz.prog 29 #[.agg #[.bool X.N.b, .slice X.N.p X.N.n X.N.c, .bool X.D.b, .slice X.D.p X.D.n X.D.c]] w (Gv (.v (.bool true)) w) := by
  have hn := hX.1.neg
  have hp := Rat.num_nonneg.2 h0
  obtain ⟨⟨nb, np, nn, nc⟩, ⟨db, dp, dn, dc⟩⟩ := X
  have hb : nb = false := by
    have : nb = decide (x.num < 0) := hn
    rw [this]; simp; omega
  subst hb
  refine nchance1 np nn nc db dp dn dc x w hX bx ?_
  rw [decide_eq_true_eq]
  unfold cmpQ
  rw [cmpZ_le]
  rw [Rat.le_iff] at h1
  exact h1
end Go.Proofs.YtndgaecfeaedeaaGreat
