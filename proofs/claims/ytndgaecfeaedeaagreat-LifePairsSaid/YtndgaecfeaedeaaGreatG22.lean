/- Walks of package life: Rate, Alive, Both, Either, Left. -/
import Derived.Test.YtndgaecfeaedeaaGreatG21
namespace Go.Proofs.YtndgaecfeaedeaaGreat
set_option linter.unusedSimpArgs false
set_option linter.unusedVariables false
open Go.RowKit Lex Mth
attribute [local go_sem] run_indexAt_at add_zero_map Oper.semAt_some at_zero at_add at_mk1 at_mk2 at_mk3

theorem okL_q {w : World} {T : Tb} {e y : Int} (h : TW w T) (ok : okL T e y = true) : ∃ R, TQ w T R ∧ T.first ≤ e ∧ e ≤ T.first + (T.N : Int) - 1 ∧ 0 ≤ y ∧ y ≤ 300 := by
  unfold okL at ok
  simp only [Bool.and_eq_true, decide_eq_true_eq] at ok
  obtain ⟨⟨⟨⟨h1, h2⟩, h3⟩, h4⟩, h5⟩ := ok
  obtain ⟨R, hR⟩ := TQ.of h (okT_iff.1 h1).1 (okT_iff.1 h1).2.1
  exact ⟨R, hR, h2, h3, h4, h5⟩
theorem okL_ey {T : Tb} {e y : Int} (ok : okL T e y = true) : -9223372036854775808 ≤ e ∧ e ≤ 9223372036854775807 ∧ -9223372036854775808 ≤ y ∧ y ≤ 9223372036854775807 := by
  unfold okL at ok
  simp only [Bool.and_eq_true, decide_eq_true_eq] at ok
  obtain ⟨⟨⟨⟨h1, h2⟩, h3⟩, h4⟩, h5⟩ := ok
  have hb := (okT_iff.1 h1).1
  unfold boundsOk at hb
  omega

set_option maxRecDepth 100000 in
theorem lRate (T : Tb) (R : Nat → Nat → Rat) (e y : Int) (w : World) (hT : TQ w T R) (hok : okL T e y = true) :
    Calls Tryz.prog 16 #[.agg #[.int .i64 T.first, .int .i64 T.sel, .slice T.P T.N T.C], .agg #[.int .i64 e, .int .i64 y]] w (Gv (.fe (rt T R e y) 0) w) := by
  have hey := okL_ey hok
  have hW := hT.tw
  have Hok := Lib.hid hok
  have hq : T.first ≤ e ∧ e ≤ T.first + (T.N : Int) - 1 ∧ 0 ≤ y ∧ y ≤ 300 := by
    unfold okL at hok
    simp only [Bool.and_eq_true, decide_eq_true_eq] at hok
    exact ⟨hok.1.1.1.2, hok.1.1.2, hok.1.2, hok.2⟩
  have Hq := Lib.hid hq
  have Hey := Lib.hid hey
  clear hok hq hey
  have hEw : Ext w w := Below.refl _ _
  obtain ⟨w1, hww1⟩ : ∃ W, w.alloc (.cells #[.int .i64 T.first, .int .i64 T.sel, .slice T.P T.N T.C] 24) = W := ⟨_, rfl⟩
  have ew1 : Ext w w1 := by rw [← hww1]; exact ea _ _
  have B1 : Cells w1 (w.heap.size) 24 #[.int .i64 T.first, .int .i64 T.sel, .slice T.P T.N T.C] := by rw [← hww1]; exact Cells.newAt _ _ (by omega)
  have zw1 := alloc_lt hww1
  have hEw1 := eg hEw ew1
  have lB1_w1 := B1.lt
  obtain ⟨w2, hww2⟩ : ∃ W, w1.alloc (.cells #[.int .i64 e, .int .i64 y] 26) = W := ⟨_, rfl⟩
  have ew2 : Ext w1 w2 := by rw [← hww2]; exact ea _ _
  have B2 : Cells w2 (w.heap.size + 1) 26 #[.int .i64 e, .int .i64 y] := by rw [← hww2]; exact Cells.newAt _ _ (by omega)
  replace B1 := B1.ext ew2
  have zw2 := alloc_lt hww2
  have hEw2 := eg hEw1 ew2
  have lB1_w2 := B1.lt
  have lB2_w2 := B2.lt
  obtain ⟨w3, hww3⟩ : ∃ W, w2.alloc (.cells #[.bool false, .slice none 0 0, .bool false, .slice none 0 0] 40) = W := ⟨_, rfl⟩
  have ew3 : Ext w2 w3 := by rw [← hww3]; exact ea _ _
  have B3 : Cells w3 (w.heap.size + 1 + 1) 40 #[.bool false, .slice none 0 0, .bool false, .slice none 0 0] := by rw [← hww3]; exact Cells.newAt _ _ (by omega)
  replace B1 := B1.ext ew3
  replace B2 := B2.ext ew3
  have zw3 := alloc_lt hww3
  have hEw3 := eg hEw2 ew3
  have b1_0_w3 := B1.cell (k := 0) rfl
  have b1_1_w3 := B1.cell (k := 1) rfl
  have b1_2_w3 := B1.cell (k := 2) rfl
  have b2_0_w3 := B2.cell (k := 0) rfl
  have b2_1_w3 := B2.cell (k := 1) rfl
  have lB1_w3 := B1.lt
  have lB2_w3 := B2.lt
  have lB3_w3 := B3.lt
  go_enter Tryz.func16, Tryz.ntmps16
  go_wp2_with fail
  clear hww1
  clear hww2
  clear hww3
  clear lB1_w1 lB1_w2 lB2_w2
  have yw1 := Nat.le_of_eq zw1
  replace zw1 := Nat.le_of_eq zw1.symm
  have yw2 := Nat.le_of_eq zw2
  replace zw2 := Nat.le_of_eq zw2.symm
  have yw3 := Nat.le_of_eq zw3
  replace zw3 := Nat.le_of_eq zw3.symm
  refine (lRight T e y _ (hW.ext hEw3) Hey.out Hok.out).mono ?_
  intro ee w4 gg
  obtain ⟨rfl, ew4⟩ := Gv.v gg
  replace B1 := B1.ext ew4
  replace B2 := B2.ext ew4
  replace B3 := B3.ext ew4
  have hEw4 := eg hEw3 ew4
  have zw4 := ew4.size
  have b1_0_w4 := B1.cell (k := 0) rfl
  have b1_1_w4 := B1.cell (k := 1) rfl
  have b1_2_w4 := B1.cell (k := 2) rfl
  have b2_0_w4 := B2.cell (k := 0) rfl
  have b2_1_w4 := B2.cell (k := 1) rfl
  have lB1_w4 := B1.lt
  have lB2_w4 := B2.lt
  have lB3_w4 := B3.lt
  go_wp2_with fail
  clear b1_0_w3 b1_1_w3 b1_2_w3 b2_0_w3 b2_1_w3 lB1_w3 lB2_w3 lB3_w3
  refine (lrate T R e y _ (hT.ext hEw4) Hq.out.1 Hq.out.2.1 Hq.out.2.2.1 (by have := Hq.out; omega)).mono ?_
  intro ee w5 gg
  obtain ⟨Z14, rfl, hZ14, oZ14, ew5⟩ := Gv.f gg
  replace B1 := B1.ext ew5
  replace B2 := B2.ext ew5
  replace B3 := B3.ext ew5
  have hEw5 := eg hEw4 ew5
  have zw5 := ew5.size
  replace oZ14 := oZ14.mono hEw4.size
  have b3_0_w5 := B3.cell (k := 0) rfl
  have fb3_0_w5 := B3.frozen 0
  have b3_1_w5 := B3.cell (k := 1) rfl
  have fb3_1_w5 := B3.frozen 1
  have b3_2_w5 := B3.cell (k := 2) rfl
  have fb3_2_w5 := B3.frozen 2
  have b3_3_w5 := B3.cell (k := 3) rfl
  have fb3_3_w5 := B3.frozen 3
  have lB1_w5 := B1.lt
  have lB2_w5 := B2.lt
  have lB3_w5 := B3.lt
  obtain ⟨w6, hww6⟩ : ∃ W, ((((w5).setCell ⟨w.heap.size + 1 + 1, 0, none⟩ (.bool Z14.N.b)).setCell ⟨w.heap.size + 1 + 1, 1, none⟩ (.slice Z14.N.p Z14.N.n Z14.N.c)).setCell ⟨w.heap.size + 1 + 1, 2, none⟩ (.bool Z14.D.b)).setCell ⟨w.heap.size + 1 + 1, 3, none⟩ (.slice Z14.D.p Z14.D.n Z14.D.c) = W := ⟨_, rfl⟩
  have nuw6 : NoU #[.bool false, .slice none 0 0, .bool false, .slice none 0 0] := by simp [NoU]
  replace hZ14 := FR.sets hZ14 B3 nuw6 0 [.bool Z14.N.b, .slice Z14.N.p Z14.N.n Z14.N.c, .bool Z14.D.b, .slice Z14.D.p Z14.D.n Z14.D.c]
  replace oZ14 := OF.sets oZ14 B3 (by decide) 0 [.bool Z14.N.b, .slice Z14.N.p Z14.N.n Z14.N.c, .bool Z14.D.b, .slice Z14.D.p Z14.D.n Z14.D.c]
  have hEw6 := Ext.sets hEw5 (b := w.heap.size + 1 + 1) (by omega) 0 [.bool Z14.N.b, .slice Z14.N.p Z14.N.n Z14.N.c, .bool Z14.D.b, .slice Z14.D.p Z14.D.n Z14.D.c]
  replace B1 := Cells.off B1 (b' := w.heap.size + 1 + 1) (by omega) 0 [.bool Z14.N.b, .slice Z14.N.p Z14.N.n Z14.N.c, .bool Z14.D.b, .slice Z14.D.p Z14.D.n Z14.D.c]
  replace B2 := Cells.off B2 (b' := w.heap.size + 1 + 1) (by omega) 0 [.bool Z14.N.b, .slice Z14.N.p Z14.N.n Z14.N.c, .bool Z14.D.b, .slice Z14.D.p Z14.D.n Z14.D.c]
  replace B3 : Cells (sets w5 (w.heap.size + 1 + 1) 0 [.bool Z14.N.b, .slice Z14.N.p Z14.N.n Z14.N.c, .bool Z14.D.b, .slice Z14.D.p Z14.D.n Z14.D.c]) (w.heap.size + 1 + 1) 40 #[.bool Z14.N.b, .slice Z14.N.p Z14.N.n Z14.N.c, .bool Z14.D.b, .slice Z14.D.p Z14.D.n Z14.D.c] := Cells.sets [.bool Z14.N.b, .slice Z14.N.p Z14.N.n Z14.N.c, .bool Z14.D.b, .slice Z14.D.p Z14.D.n Z14.D.c] B3 0
  have zw6 := size_sets (w.heap.size + 1 + 1) [.bool Z14.N.b, .slice Z14.N.p Z14.N.n Z14.N.c, .bool Z14.D.b, .slice Z14.D.p Z14.D.n Z14.D.c] w5 0
  replace hww6 : sets w5 (w.heap.size + 1 + 1) 0 [.bool Z14.N.b, .slice Z14.N.p Z14.N.n Z14.N.c, .bool Z14.D.b, .slice Z14.D.p Z14.D.n Z14.D.c] = w6 := hww6
  rw [hww6] at hZ14 oZ14 B1 B2 B3 hEw6 zw6
  replace hww6 : ((((w5).setCell ⟨w.heap.size + 1 + 1, 0, none⟩ (.bool Z14.N.b)).setCell ⟨w.heap.size + 1 + 1, 1, none⟩ (.slice Z14.N.p Z14.N.n Z14.N.c)).setCell ⟨w.heap.size + 1 + 1, 2, none⟩ (.bool Z14.D.b)).setCell ⟨w.heap.size + 1 + 1, 3, none⟩ (.slice Z14.D.p Z14.D.n Z14.D.c) = w6 := hww6
  have b3_0_w6 := B3.cell (k := 0) rfl
  have b3_1_w6 := B3.cell (k := 1) rfl
  have b3_2_w6 := B3.cell (k := 2) rfl
  have b3_3_w6 := B3.cell (k := 3) rfl
  have lB1_w6 := B1.lt
  have lB2_w6 := B2.lt
  have lB3_w6 := B3.lt
  go_wp2_with fail
  clear hww6
  clear b1_0_w4 b1_1_w4 b1_2_w4 b2_0_w4 b2_1_w4 b3_0_w5 fb3_0_w5 b3_1_w5 fb3_1_w5 b3_2_w5 fb3_2_w5 b3_3_w5 fb3_3_w5 lB1_w4 lB2_w4 lB3_w4 lB1_w5 lB2_w5 lB3_w5
  have yw6 := Nat.le_of_eq zw6
  replace zw6 := Nat.le_of_eq zw6.symm
  refine bodyPost_ret (v := .tuple #[.agg #[.bool Z14.N.b, .slice Z14.N.p Z14.N.n Z14.N.c, .bool Z14.D.b, .slice Z14.D.p Z14.D.n Z14.D.c], .int .i64 0]) (by simp [results, Tryz.results16, go_sem, b3_0_w6, b3_1_w6, b3_2_w6, b3_3_w6]) rfl ?_
  exact Gv.of_fe (X := Z14) (hZ14) (oZ14) hEw6

set_option maxRecDepth 100000 in
theorem lAlive (T : Tb) (R : Nat → Nat → Rat) (e y : Int) (n : Int) (w : World) (hT : TQ w T R) (hok : okL T e y = true) (hn : 0 ≤ n) :
    Calls Tryz.prog 17 #[.agg #[.int .i64 T.first, .int .i64 T.sel, .slice T.P T.N T.C], .agg #[.int .i64 e, .int .i64 y], .int .i64 n] w (Gv (.fe (lal T R e y n.toNat) 0) w) := by
  have hey := okL_ey hok
  have hW := hT.tw
  have Hok := Lib.hid hok
  have hq : T.first ≤ e ∧ e ≤ T.first + (T.N : Int) - 1 ∧ 0 ≤ y ∧ y ≤ 300 := by
    unfold okL at hok
    simp only [Bool.and_eq_true, decide_eq_true_eq] at hok
    exact ⟨hok.1.1.1.2, hok.1.1.2, hok.1.2, hok.2⟩
  have Hq := Lib.hid hq
  have Hey := Lib.hid hey
  clear hok hq hey
  have Hn := Lib.hid hn
  have d1 : decide (n < 0) = false := by simp; omega
  clear hn
  have hEw : Ext w w := Below.refl _ _
  obtain ⟨w1, hww1⟩ : ∃ W, w.alloc (.cells #[.int .i64 T.first, .int .i64 T.sel, .slice T.P T.N T.C] 24) = W := ⟨_, rfl⟩
  have ew1 : Ext w w1 := by rw [← hww1]; exact ea _ _
  have B1 : Cells w1 (w.heap.size) 24 #[.int .i64 T.first, .int .i64 T.sel, .slice T.P T.N T.C] := by rw [← hww1]; exact Cells.newAt _ _ (by omega)
  have zw1 := alloc_lt hww1
  have hEw1 := eg hEw ew1
  have lB1_w1 := B1.lt
  obtain ⟨w2, hww2⟩ : ∃ W, w1.alloc (.cells #[.int .i64 e, .int .i64 y] 26) = W := ⟨_, rfl⟩
  have ew2 : Ext w1 w2 := by rw [← hww2]; exact ea _ _
  have B2 : Cells w2 (w.heap.size + 1) 26 #[.int .i64 e, .int .i64 y] := by rw [← hww2]; exact Cells.newAt _ _ (by omega)
  replace B1 := B1.ext ew2
  have zw2 := alloc_lt hww2
  have hEw2 := eg hEw1 ew2
  have lB1_w2 := B1.lt
  have lB2_w2 := B2.lt
  obtain ⟨w3, hww3⟩ : ∃ W, w2.alloc (.cells #[.bool false, .slice none 0 0, .bool false, .slice none 0 0] 40) = W := ⟨_, rfl⟩
  have ew3 : Ext w2 w3 := by rw [← hww3]; exact ea _ _
  have B3 : Cells w3 (w.heap.size + 1 + 1) 40 #[.bool false, .slice none 0 0, .bool false, .slice none 0 0] := by rw [← hww3]; exact Cells.newAt _ _ (by omega)
  replace B1 := B1.ext ew3
  replace B2 := B2.ext ew3
  have zw3 := alloc_lt hww3
  have hEw3 := eg hEw2 ew3
  have b1_0_w3 := B1.cell (k := 0) rfl
  have b1_1_w3 := B1.cell (k := 1) rfl
  have b1_2_w3 := B1.cell (k := 2) rfl
  have b2_0_w3 := B2.cell (k := 0) rfl
  have b2_1_w3 := B2.cell (k := 1) rfl
  have lB1_w3 := B1.lt
  have lB2_w3 := B2.lt
  have lB3_w3 := B3.lt
  go_enter Tryz.func17, Tryz.ntmps17
  go_wp2_with fail
  clear hww1
  clear hww2
  clear hww3
  clear lB1_w1 lB1_w2 lB2_w2
  have yw1 := Nat.le_of_eq zw1
  replace zw1 := Nat.le_of_eq zw1.symm
  have yw2 := Nat.le_of_eq zw2
  replace zw2 := Nat.le_of_eq zw2.symm
  have yw3 := Nat.le_of_eq zw3
  replace zw3 := Nat.le_of_eq zw3.symm
  refine (lRight T e y _ (hW.ext hEw3) Hey.out Hok.out).mono ?_
  intro ee w4 gg
  obtain ⟨rfl, ew4⟩ := Gv.v gg
  replace B1 := B1.ext ew4
  replace B2 := B2.ext ew4
  replace B3 := B3.ext ew4
  have hEw4 := eg hEw3 ew4
  have zw4 := ew4.size
  have b1_0_w4 := B1.cell (k := 0) rfl
  have b1_1_w4 := B1.cell (k := 1) rfl
  have b1_2_w4 := B1.cell (k := 2) rfl
  have b2_0_w4 := B2.cell (k := 0) rfl
  have b2_1_w4 := B2.cell (k := 1) rfl
  have lB1_w4 := B1.lt
  have lB2_w4 := B2.lt
  have lB3_w4 := B3.lt
  go_wp2_with fail
  clear b1_0_w3 b1_1_w3 b1_2_w3 b2_0_w3 b2_1_w3 lB1_w3 lB2_w3 lB3_w3
  refine (lalive T R e y n _ (hT.ext hEw4) Hq.out.1 Hq.out.2.1 Hq.out.2.2.1 (by have := Hq.out; omega) Hn.out).mono ?_
  intro ee w5 gg
  obtain ⟨Z21, rfl, hZ21, oZ21, ew5⟩ := Gv.f gg
  replace B1 := B1.ext ew5
  replace B2 := B2.ext ew5
  replace B3 := B3.ext ew5
  have hEw5 := eg hEw4 ew5
  have zw5 := ew5.size
  replace oZ21 := oZ21.mono hEw4.size
  have b3_0_w5 := B3.cell (k := 0) rfl
  have fb3_0_w5 := B3.frozen 0
  have b3_1_w5 := B3.cell (k := 1) rfl
  have fb3_1_w5 := B3.frozen 1
  have b3_2_w5 := B3.cell (k := 2) rfl
  have fb3_2_w5 := B3.frozen 2
  have b3_3_w5 := B3.cell (k := 3) rfl
  have fb3_3_w5 := B3.frozen 3
  have lB1_w5 := B1.lt
  have lB2_w5 := B2.lt
  have lB3_w5 := B3.lt
  obtain ⟨w6, hww6⟩ : ∃ W, ((((w5).setCell ⟨w.heap.size + 1 + 1, 0, none⟩ (.bool Z21.N.b)).setCell ⟨w.heap.size + 1 + 1, 1, none⟩ (.slice Z21.N.p Z21.N.n Z21.N.c)).setCell ⟨w.heap.size + 1 + 1, 2, none⟩ (.bool Z21.D.b)).setCell ⟨w.heap.size + 1 + 1, 3, none⟩ (.slice Z21.D.p Z21.D.n Z21.D.c) = W := ⟨_, rfl⟩
  have nuw6 : NoU #[.bool false, .slice none 0 0, .bool false, .slice none 0 0] := by simp [NoU]
  replace hZ21 := FR.sets hZ21 B3 nuw6 0 [.bool Z21.N.b, .slice Z21.N.p Z21.N.n Z21.N.c, .bool Z21.D.b, .slice Z21.D.p Z21.D.n Z21.D.c]
  replace oZ21 := OF.sets oZ21 B3 (by decide) 0 [.bool Z21.N.b, .slice Z21.N.p Z21.N.n Z21.N.c, .bool Z21.D.b, .slice Z21.D.p Z21.D.n Z21.D.c]
  have hEw6 := Ext.sets hEw5 (b := w.heap.size + 1 + 1) (by omega) 0 [.bool Z21.N.b, .slice Z21.N.p Z21.N.n Z21.N.c, .bool Z21.D.b, .slice Z21.D.p Z21.D.n Z21.D.c]
  replace B1 := Cells.off B1 (b' := w.heap.size + 1 + 1) (by omega) 0 [.bool Z21.N.b, .slice Z21.N.p Z21.N.n Z21.N.c, .bool Z21.D.b, .slice Z21.D.p Z21.D.n Z21.D.c]
  replace B2 := Cells.off B2 (b' := w.heap.size + 1 + 1) (by omega) 0 [.bool Z21.N.b, .slice Z21.N.p Z21.N.n Z21.N.c, .bool Z21.D.b, .slice Z21.D.p Z21.D.n Z21.D.c]
  replace B3 : Cells (sets w5 (w.heap.size + 1 + 1) 0 [.bool Z21.N.b, .slice Z21.N.p Z21.N.n Z21.N.c, .bool Z21.D.b, .slice Z21.D.p Z21.D.n Z21.D.c]) (w.heap.size + 1 + 1) 40 #[.bool Z21.N.b, .slice Z21.N.p Z21.N.n Z21.N.c, .bool Z21.D.b, .slice Z21.D.p Z21.D.n Z21.D.c] := Cells.sets [.bool Z21.N.b, .slice Z21.N.p Z21.N.n Z21.N.c, .bool Z21.D.b, .slice Z21.D.p Z21.D.n Z21.D.c] B3 0
  have zw6 := size_sets (w.heap.size + 1 + 1) [.bool Z21.N.b, .slice Z21.N.p Z21.N.n Z21.N.c, .bool Z21.D.b, .slice Z21.D.p Z21.D.n Z21.D.c] w5 0
  replace hww6 : sets w5 (w.heap.size + 1 + 1) 0 [.bool Z21.N.b, .slice Z21.N.p Z21.N.n Z21.N.c, .bool Z21.D.b, .slice Z21.D.p Z21.D.n Z21.D.c] = w6 := hww6
  rw [hww6] at hZ21 oZ21 B1 B2 B3 hEw6 zw6
  replace hww6 : ((((w5).setCell ⟨w.heap.size + 1 + 1, 0, none⟩ (.bool Z21.N.b)).setCell ⟨w.heap.size + 1 + 1, 1, none⟩ (.slice Z21.N.p Z21.N.n Z21.N.c)).setCell ⟨w.heap.size + 1 + 1, 2, none⟩ (.bool Z21.D.b)).setCell ⟨w.heap.size + 1 + 1, 3, none⟩ (.slice Z21.D.p Z21.D.n Z21.D.c) = w6 := hww6
  have b3_0_w6 := B3.cell (k := 0) rfl
  have b3_1_w6 := B3.cell (k := 1) rfl
  have b3_2_w6 := B3.cell (k := 2) rfl
  have b3_3_w6 := B3.cell (k := 3) rfl
  have lB1_w6 := B1.lt
  have lB2_w6 := B2.lt
  have lB3_w6 := B3.lt
  go_wp2_with fail
  clear hww6
  clear b1_0_w4 b1_1_w4 b1_2_w4 b2_0_w4 b2_1_w4 b3_0_w5 fb3_0_w5 b3_1_w5 fb3_1_w5 b3_2_w5 fb3_2_w5 b3_3_w5 fb3_3_w5 lB1_w4 lB2_w4 lB3_w4 lB1_w5 lB2_w5 lB3_w5
  have yw6 := Nat.le_of_eq zw6
  replace zw6 := Nat.le_of_eq zw6.symm
  refine bodyPost_ret (v := .tuple #[.agg #[.bool Z21.N.b, .slice Z21.N.p Z21.N.n Z21.N.c, .bool Z21.D.b, .slice Z21.D.p Z21.D.n Z21.D.c], .int .i64 0]) (by simp [results, Tryz.results17, go_sem, b3_0_w6, b3_1_w6, b3_2_w6, b3_3_w6]) rfl ?_
  exact Gv.of_fe (X := Z21) (hZ21) (oZ21) hEw6

/-- At least one is alive; the first is dead and the second alive. -/
def eiQ (x y : Rat) : Rat := 1 - (1 - x) * (1 - y)
def leQ (x y : Rat) : Rat := (1 - x) * y

set_option maxRecDepth 100000 in
theorem lEither1 (X : Fr) (Y : Fr) (x : Rat) (y : Rat) (w : World) (hX : FR w X x) (hY : FR w Y y) (bx : Sz x) (by_ : Sz y) (cx : Sz (1 - x)) (cy : Sz (1 - y)) (cm : Sz ((1 - x) * (1 - y))) (ce : Sz (eiQ x y)) :
    Calls Tryz.prog 63 #[.agg #[.bool X.N.b, .slice X.N.p X.N.n X.N.c, .bool X.D.b, .slice X.D.p X.D.n X.D.c], .agg #[.bool Y.N.b, .slice Y.N.p Y.N.n Y.N.c, .bool Y.D.b, .slice Y.D.p Y.D.n Y.D.c]] w (Gv (.f (eiQ x y)) w) := by
  have hEw : Ext w w := Below.refl _ _
  obtain ⟨w1, hww1⟩ : ∃ W, w.alloc (.cells #[.bool X.N.b, .slice X.N.p X.N.n X.N.c, .bool X.D.b, .slice X.D.p X.D.n X.D.c] 40) = W := ⟨_, rfl⟩
  have ew1 : Ext w w1 := by rw [← hww1]; exact ea _ _
  have B1 : Cells w1 (w.heap.size) 40 #[.bool X.N.b, .slice X.N.p X.N.n X.N.c, .bool X.D.b, .slice X.D.p X.D.n X.D.c] := by rw [← hww1]; exact Cells.newAt _ _ (by omega)
  replace hX := hX.ext ew1
  replace hY := hY.ext ew1
  have zw1 := alloc_lt hww1
  have hEw1 := eg hEw ew1
  have lB1_w1 := B1.lt
  obtain ⟨w2, hww2⟩ : ∃ W, w1.alloc (.cells #[.bool Y.N.b, .slice Y.N.p Y.N.n Y.N.c, .bool Y.D.b, .slice Y.D.p Y.D.n Y.D.c] 40) = W := ⟨_, rfl⟩
  have ew2 : Ext w1 w2 := by rw [← hww2]; exact ea _ _
  have B2 : Cells w2 (w.heap.size + 1) 40 #[.bool Y.N.b, .slice Y.N.p Y.N.n Y.N.c, .bool Y.D.b, .slice Y.D.p Y.D.n Y.D.c] := by rw [← hww2]; exact Cells.newAt _ _ (by omega)
  replace hX := hX.ext ew2
  replace hY := hY.ext ew2
  replace B1 := B1.ext ew2
  have zw2 := alloc_lt hww2
  have hEw2 := eg hEw1 ew2
  have lB1_w2 := B1.lt
  have lB2_w2 := B2.lt
  obtain ⟨w3, hww3⟩ : ∃ W, w2.alloc (.cells #[.bool false, .slice none 0 0, .bool false, .slice none 0 0] 40) = W := ⟨_, rfl⟩
  have ew3 : Ext w2 w3 := by rw [← hww3]; exact ea _ _
  have B3 : Cells w3 (w.heap.size + 1 + 1) 40 #[.bool false, .slice none 0 0, .bool false, .slice none 0 0] := by rw [← hww3]; exact Cells.newAt _ _ (by omega)
  replace hX := hX.ext ew3
  replace hY := hY.ext ew3
  replace B1 := B1.ext ew3
  replace B2 := B2.ext ew3
  have zw3 := alloc_lt hww3
  have hEw3 := eg hEw2 ew3
  have b1_0_w3 := B1.cell (k := 0) rfl
  have b1_1_w3 := B1.cell (k := 1) rfl
  have b1_2_w3 := B1.cell (k := 2) rfl
  have b1_3_w3 := B1.cell (k := 3) rfl
  have b2_0_w3 := B2.cell (k := 0) rfl
  have b2_1_w3 := B2.cell (k := 1) rfl
  have b2_2_w3 := B2.cell (k := 2) rfl
  have b2_3_w3 := B2.cell (k := 3) rfl
  have lB1_w3 := B1.lt
  have lB2_w3 := B2.lt
  have lB3_w3 := B3.lt
  go_enter Tryz.func63, Tryz.ntmps63
  go_wp2_with fail
  clear hww1
  clear hww2
  clear hww3
  clear lB1_w1 lB1_w2 lB2_w2
  have yw1 := Nat.le_of_eq zw1
  replace zw1 := Nat.le_of_eq zw1.symm
  have yw2 := Nat.le_of_eq zw2
  replace zw2 := Nat.le_of_eq zw2.symm
  have yw3 := Nat.le_of_eq zw3
  replace zw3 := Nat.le_of_eq zw3.symm
  refine regionT 6 (fun k => match k with | 1 => some (.f (1 - x)) | 3 => some (.f (1 - y)) | 4 => some (.f ((1 - x) * (1 - y))) | 5 => some (.f (1 - ((1 - x) * (1 - y)))) | _ => none) (by kernel_rfl) (by kernel_rfl) ?_
  refine Walk.one (x := ?_) rfl rfl (fun w1 hI hL K hK => ?_) ?_
  rotate_left
  · obtain ⟨hc, hf⟩ := bcell hI
    go_simp
    repeat (first | (go_ints; try go_simp) | (simp only [↓IntWalk.iteOmega]; try go_simp))
    exact hK
  simp only [Act.put, List.setIfInBounds_toArray, List.set_cons_zero, List.set_cons_succ]
  refine Walk.tell rfl rfl (fun w1 hI hL K hK => ?_) ?_
  · go_simp
    exact (lnot X _ w1 ((hX).ext hI) (bx) (cx)).mono (tell hK)
  rintro _ ⟨Z6, rfl⟩
  simp only [Act.put, List.setIfInBounds_toArray, List.set_cons_zero, List.set_cons_succ]
  refine Walk.one (x := ?_) rfl rfl (fun w1 hI hL K hK => ?_) ?_
  rotate_left
  · obtain ⟨hc, hf⟩ := bcell hI
    go_simp
    repeat (first | (go_ints; try go_simp) | (simp only [↓IntWalk.iteOmega]; try go_simp))
    exact hK
  simp only [Act.put, List.setIfInBounds_toArray, List.set_cons_zero, List.set_cons_succ]
  refine Walk.tell rfl rfl (fun w1 hI hL K hK => ?_) ?_
  · go_simp
    exact (lnot Y _ w1 ((hY).ext hI) (by_) (cy)).mono (tell hK)
  rintro _ ⟨Z8, rfl⟩
  simp only [Act.put, List.setIfInBounds_toArray, List.set_cons_zero, List.set_cons_succ]
  refine Walk.tell rfl rfl (fun w1 hI hL K hK => ?_) ?_
  · go_simp
    exact (ltimes Z6 Z8 _ _ w1 ((Tl.getF (kn (i := 1) (v := .agg #[.bool Z6.N.b, .slice Z6.N.p Z6.N.n Z6.N.c, .bool Z6.D.b, .slice Z6.D.p Z6.D.n Z6.D.c]) rfl (by simp) (by kernel_rfl) hL)).1) ((Tl.getF (kn (i := 3) (v := .agg #[.bool Z8.N.b, .slice Z8.N.p Z8.N.n Z8.N.c, .bool Z8.D.b, .slice Z8.D.p Z8.D.n Z8.D.c]) rfl (by simp) (by kernel_rfl) hL)).1) (cx) (cy) (cm)).mono (tell hK)
  rintro _ ⟨Z9, rfl⟩
  simp only [Act.put, List.setIfInBounds_toArray, List.set_cons_zero, List.set_cons_succ]
  refine Walk.tell rfl rfl (fun w1 hI hL K hK => ?_) ?_
  · go_simp
    exact (lnot Z9 _ w1 ((Tl.getF (kn (i := 4) (v := .agg #[.bool Z9.N.b, .slice Z9.N.p Z9.N.n Z9.N.c, .bool Z9.D.b, .slice Z9.D.p Z9.D.n Z9.D.c]) rfl (by simp) (by kernel_rfl) hL)).1) (cm) (ce)).mono (tell hK)
  rintro _ ⟨Z10, rfl⟩
  simp only [Act.put, List.setIfInBounds_toArray, List.set_cons_zero, List.set_cons_succ]
  refine Walk.nilF fun w4 ew4 kzL kzX => ?_
  replace hX := hX.ext ew4
  replace hY := hY.ext ew4
  replace B1 := B1.ext ew4
  replace B2 := B2.ext ew4
  replace B3 := B3.ext ew4
  have hEw4 := eg hEw3 ew4
  have zw4 := ew4.size
  obtain ⟨hZ6, oZ6⟩ := Tl.getF (kz (i := 1) (v := .agg #[.bool Z6.N.b, .slice Z6.N.p Z6.N.n Z6.N.c, .bool Z6.D.b, .slice Z6.D.p Z6.D.n Z6.D.c]) rfl (by simp) kzL)
  replace oZ6 := oZ6.mono hEw3.size
  obtain ⟨hZ8, oZ8⟩ := Tl.getF (kz (i := 3) (v := .agg #[.bool Z8.N.b, .slice Z8.N.p Z8.N.n Z8.N.c, .bool Z8.D.b, .slice Z8.D.p Z8.D.n Z8.D.c]) rfl (by simp) kzL)
  replace oZ8 := oZ8.mono hEw3.size
  obtain ⟨hZ9, oZ9⟩ := Tl.getF (kz (i := 4) (v := .agg #[.bool Z9.N.b, .slice Z9.N.p Z9.N.n Z9.N.c, .bool Z9.D.b, .slice Z9.D.p Z9.D.n Z9.D.c]) rfl (by simp) kzL)
  replace oZ9 := oZ9.mono hEw3.size
  obtain ⟨hZ10, oZ10⟩ := Tl.getF (kz (i := 5) (v := .agg #[.bool Z10.N.b, .slice Z10.N.p Z10.N.n Z10.N.c, .bool Z10.D.b, .slice Z10.D.p Z10.D.n Z10.D.c]) rfl (by simp) kzL)
  replace oZ10 := oZ10.mono hEw3.size
  clear kzL kzX
  have b3_0_w4 := B3.cell (k := 0) rfl
  have fb3_0_w4 := B3.frozen 0
  have b3_1_w4 := B3.cell (k := 1) rfl
  have fb3_1_w4 := B3.frozen 1
  have b3_2_w4 := B3.cell (k := 2) rfl
  have fb3_2_w4 := B3.frozen 2
  have b3_3_w4 := B3.cell (k := 3) rfl
  have fb3_3_w4 := B3.frozen 3
  have lB1_w4 := B1.lt
  have lB2_w4 := B2.lt
  have lB3_w4 := B3.lt
  simp only [List.drop_succ_cons, List.drop_zero, List.drop_nil]
  obtain ⟨w5, hww5⟩ : ∃ W, ((((w4).setCell ⟨w.heap.size + 1 + 1, 0, none⟩ (.bool Z10.N.b)).setCell ⟨w.heap.size + 1 + 1, 1, none⟩ (.slice Z10.N.p Z10.N.n Z10.N.c)).setCell ⟨w.heap.size + 1 + 1, 2, none⟩ (.bool Z10.D.b)).setCell ⟨w.heap.size + 1 + 1, 3, none⟩ (.slice Z10.D.p Z10.D.n Z10.D.c) = W := ⟨_, rfl⟩
  have nuw5 : NoU #[.bool false, .slice none 0 0, .bool false, .slice none 0 0] := by simp [NoU]
  replace hX := FR.sets hX B3 nuw5 0 [.bool Z10.N.b, .slice Z10.N.p Z10.N.n Z10.N.c, .bool Z10.D.b, .slice Z10.D.p Z10.D.n Z10.D.c]
  replace hY := FR.sets hY B3 nuw5 0 [.bool Z10.N.b, .slice Z10.N.p Z10.N.n Z10.N.c, .bool Z10.D.b, .slice Z10.D.p Z10.D.n Z10.D.c]
  replace hZ6 := FR.sets hZ6 B3 nuw5 0 [.bool Z10.N.b, .slice Z10.N.p Z10.N.n Z10.N.c, .bool Z10.D.b, .slice Z10.D.p Z10.D.n Z10.D.c]
  replace hZ8 := FR.sets hZ8 B3 nuw5 0 [.bool Z10.N.b, .slice Z10.N.p Z10.N.n Z10.N.c, .bool Z10.D.b, .slice Z10.D.p Z10.D.n Z10.D.c]
  replace hZ9 := FR.sets hZ9 B3 nuw5 0 [.bool Z10.N.b, .slice Z10.N.p Z10.N.n Z10.N.c, .bool Z10.D.b, .slice Z10.D.p Z10.D.n Z10.D.c]
  replace hZ10 := FR.sets hZ10 B3 nuw5 0 [.bool Z10.N.b, .slice Z10.N.p Z10.N.n Z10.N.c, .bool Z10.D.b, .slice Z10.D.p Z10.D.n Z10.D.c]
  replace oZ6 := OF.sets oZ6 B3 (by decide) 0 [.bool Z10.N.b, .slice Z10.N.p Z10.N.n Z10.N.c, .bool Z10.D.b, .slice Z10.D.p Z10.D.n Z10.D.c]
  replace oZ8 := OF.sets oZ8 B3 (by decide) 0 [.bool Z10.N.b, .slice Z10.N.p Z10.N.n Z10.N.c, .bool Z10.D.b, .slice Z10.D.p Z10.D.n Z10.D.c]
  replace oZ9 := OF.sets oZ9 B3 (by decide) 0 [.bool Z10.N.b, .slice Z10.N.p Z10.N.n Z10.N.c, .bool Z10.D.b, .slice Z10.D.p Z10.D.n Z10.D.c]
  replace oZ10 := OF.sets oZ10 B3 (by decide) 0 [.bool Z10.N.b, .slice Z10.N.p Z10.N.n Z10.N.c, .bool Z10.D.b, .slice Z10.D.p Z10.D.n Z10.D.c]
  have hEw5 := Ext.sets hEw4 (b := w.heap.size + 1 + 1) (by omega) 0 [.bool Z10.N.b, .slice Z10.N.p Z10.N.n Z10.N.c, .bool Z10.D.b, .slice Z10.D.p Z10.D.n Z10.D.c]
  replace B1 := Cells.off B1 (b' := w.heap.size + 1 + 1) (by omega) 0 [.bool Z10.N.b, .slice Z10.N.p Z10.N.n Z10.N.c, .bool Z10.D.b, .slice Z10.D.p Z10.D.n Z10.D.c]
  replace B2 := Cells.off B2 (b' := w.heap.size + 1 + 1) (by omega) 0 [.bool Z10.N.b, .slice Z10.N.p Z10.N.n Z10.N.c, .bool Z10.D.b, .slice Z10.D.p Z10.D.n Z10.D.c]
  replace B3 : Cells (sets w4 (w.heap.size + 1 + 1) 0 [.bool Z10.N.b, .slice Z10.N.p Z10.N.n Z10.N.c, .bool Z10.D.b, .slice Z10.D.p Z10.D.n Z10.D.c]) (w.heap.size + 1 + 1) 40 #[.bool Z10.N.b, .slice Z10.N.p Z10.N.n Z10.N.c, .bool Z10.D.b, .slice Z10.D.p Z10.D.n Z10.D.c] := Cells.sets [.bool Z10.N.b, .slice Z10.N.p Z10.N.n Z10.N.c, .bool Z10.D.b, .slice Z10.D.p Z10.D.n Z10.D.c] B3 0
  have zw5 := size_sets (w.heap.size + 1 + 1) [.bool Z10.N.b, .slice Z10.N.p Z10.N.n Z10.N.c, .bool Z10.D.b, .slice Z10.D.p Z10.D.n Z10.D.c] w4 0
  replace hww5 : sets w4 (w.heap.size + 1 + 1) 0 [.bool Z10.N.b, .slice Z10.N.p Z10.N.n Z10.N.c, .bool Z10.D.b, .slice Z10.D.p Z10.D.n Z10.D.c] = w5 := hww5
  rw [hww5] at hX hY hZ6 hZ8 hZ9 hZ10 oZ6 oZ8 oZ9 oZ10 B1 B2 B3 hEw5 zw5
  replace hww5 : ((((w4).setCell ⟨w.heap.size + 1 + 1, 0, none⟩ (.bool Z10.N.b)).setCell ⟨w.heap.size + 1 + 1, 1, none⟩ (.slice Z10.N.p Z10.N.n Z10.N.c)).setCell ⟨w.heap.size + 1 + 1, 2, none⟩ (.bool Z10.D.b)).setCell ⟨w.heap.size + 1 + 1, 3, none⟩ (.slice Z10.D.p Z10.D.n Z10.D.c) = w5 := hww5
  have b3_0_w5 := B3.cell (k := 0) rfl
  have b3_1_w5 := B3.cell (k := 1) rfl
  have b3_2_w5 := B3.cell (k := 2) rfl
  have b3_3_w5 := B3.cell (k := 3) rfl
  have lB1_w5 := B1.lt
  have lB2_w5 := B2.lt
  have lB3_w5 := B3.lt
  go_wp2_with fail
  clear hww5
  clear b1_0_w3 b1_1_w3 b1_2_w3 b1_3_w3 b2_0_w3 b2_1_w3 b2_2_w3 b2_3_w3 b3_0_w4 fb3_0_w4 b3_1_w4 fb3_1_w4 b3_2_w4 fb3_2_w4 b3_3_w4 fb3_3_w4 lB1_w3 lB2_w3 lB3_w3 lB1_w4 lB2_w4 lB3_w4
  have yw5 := Nat.le_of_eq zw5
  replace zw5 := Nat.le_of_eq zw5.symm
  refine bodyPost_ret (v := .agg #[.bool Z10.N.b, .slice Z10.N.p Z10.N.n Z10.N.c, .bool Z10.D.b, .slice Z10.D.p Z10.D.n Z10.D.c]) (by simp [results, Tryz.results63, go_sem, b3_0_w5, b3_1_w5, b3_2_w5, b3_3_w5]) rfl ?_
  exact Gv.of_f (X := Z10) (hZ10) (oZ10) hEw5

set_option maxRecDepth 100000 in
theorem lLeft1 (X : Fr) (Y : Fr) (x : Rat) (y : Rat) (w : World) (hX : FR w X x) (hY : FR w Y y) (bx : Sz x) (by_ : Sz y) (cx : Sz (1 - x)) (ce : Sz (leQ x y)) :
    Calls Tryz.prog 64 #[.agg #[.bool X.N.b, .slice X.N.p X.N.n X.N.c, .bool X.D.b, .slice X.D.p X.D.n X.D.c], .agg #[.bool Y.N.b, .slice Y.N.p Y.N.n Y.N.c, .bool Y.D.b, .slice Y.D.p Y.D.n Y.D.c]] w (Gv (.f (leQ x y)) w) := by
  have hEw : Ext w w := Below.refl _ _
  obtain ⟨w1, hww1⟩ : ∃ W, w.alloc (.cells #[.bool X.N.b, .slice X.N.p X.N.n X.N.c, .bool X.D.b, .slice X.D.p X.D.n X.D.c] 40) = W := ⟨_, rfl⟩
  have ew1 : Ext w w1 := by rw [← hww1]; exact ea _ _
  have B1 : Cells w1 (w.heap.size) 40 #[.bool X.N.b, .slice X.N.p X.N.n X.N.c, .bool X.D.b, .slice X.D.p X.D.n X.D.c] := by rw [← hww1]; exact Cells.newAt _ _ (by omega)
  replace hX := hX.ext ew1
  replace hY := hY.ext ew1
  have zw1 := alloc_lt hww1
  have hEw1 := eg hEw ew1
  have lB1_w1 := B1.lt
  obtain ⟨w2, hww2⟩ : ∃ W, w1.alloc (.cells #[.bool Y.N.b, .slice Y.N.p Y.N.n Y.N.c, .bool Y.D.b, .slice Y.D.p Y.D.n Y.D.c] 40) = W := ⟨_, rfl⟩
  have ew2 : Ext w1 w2 := by rw [← hww2]; exact ea _ _
  have B2 : Cells w2 (w.heap.size + 1) 40 #[.bool Y.N.b, .slice Y.N.p Y.N.n Y.N.c, .bool Y.D.b, .slice Y.D.p Y.D.n Y.D.c] := by rw [← hww2]; exact Cells.newAt _ _ (by omega)
  replace hX := hX.ext ew2
  replace hY := hY.ext ew2
  replace B1 := B1.ext ew2
  have zw2 := alloc_lt hww2
  have hEw2 := eg hEw1 ew2
  have lB1_w2 := B1.lt
  have lB2_w2 := B2.lt
  obtain ⟨w3, hww3⟩ : ∃ W, w2.alloc (.cells #[.bool false, .slice none 0 0, .bool false, .slice none 0 0] 40) = W := ⟨_, rfl⟩
  have ew3 : Ext w2 w3 := by rw [← hww3]; exact ea _ _
  have B3 : Cells w3 (w.heap.size + 1 + 1) 40 #[.bool false, .slice none 0 0, .bool false, .slice none 0 0] := by rw [← hww3]; exact Cells.newAt _ _ (by omega)
  replace hX := hX.ext ew3
  replace hY := hY.ext ew3
  replace B1 := B1.ext ew3
  replace B2 := B2.ext ew3
  have zw3 := alloc_lt hww3
  have hEw3 := eg hEw2 ew3
  have b1_0_w3 := B1.cell (k := 0) rfl
  have b1_1_w3 := B1.cell (k := 1) rfl
  have b1_2_w3 := B1.cell (k := 2) rfl
  have b1_3_w3 := B1.cell (k := 3) rfl
  have b2_0_w3 := B2.cell (k := 0) rfl
  have b2_1_w3 := B2.cell (k := 1) rfl
  have b2_2_w3 := B2.cell (k := 2) rfl
  have b2_3_w3 := B2.cell (k := 3) rfl
  have lB1_w3 := B1.lt
  have lB2_w3 := B2.lt
  have lB3_w3 := B3.lt
  go_enter Tryz.func64, Tryz.ntmps64
  go_wp2_with fail
  clear hww1
  clear hww2
  clear hww3
  clear lB1_w1 lB1_w2 lB2_w2
  have yw1 := Nat.le_of_eq zw1
  replace zw1 := Nat.le_of_eq zw1.symm
  have yw2 := Nat.le_of_eq zw2
  replace zw2 := Nat.le_of_eq zw2.symm
  have yw3 := Nat.le_of_eq zw3
  replace zw3 := Nat.le_of_eq zw3.symm
  refine regionT 4 (fun k => match k with | 1 => some (.f (1 - x)) | 3 => some (.f ((1 - x) * y)) | _ => none) (by kernel_rfl) (by kernel_rfl) ?_
  refine Walk.one (x := ?_) rfl rfl (fun w1 hI hL K hK => ?_) ?_
  rotate_left
  · obtain ⟨hc, hf⟩ := bcell hI
    go_simp
    repeat (first | (go_ints; try go_simp) | (simp only [↓IntWalk.iteOmega]; try go_simp))
    exact hK
  simp only [Act.put, List.setIfInBounds_toArray, List.set_cons_zero, List.set_cons_succ]
  refine Walk.tell rfl rfl (fun w1 hI hL K hK => ?_) ?_
  · go_simp
    exact (lnot X _ w1 ((hX).ext hI) (bx) (cx)).mono (tell hK)
  rintro _ ⟨Z6, rfl⟩
  simp only [Act.put, List.setIfInBounds_toArray, List.set_cons_zero, List.set_cons_succ]
  refine Walk.one (x := ?_) rfl rfl (fun w1 hI hL K hK => ?_) ?_
  rotate_left
  · obtain ⟨hc, hf⟩ := bcell hI
    go_simp
    repeat (first | (go_ints; try go_simp) | (simp only [↓IntWalk.iteOmega]; try go_simp))
    exact hK
  simp only [Act.put, List.setIfInBounds_toArray, List.set_cons_zero, List.set_cons_succ]
  refine Walk.tell rfl rfl (fun w1 hI hL K hK => ?_) ?_
  · go_simp
    exact (ltimes Z6 Y _ _ w1 ((Tl.getF (kn (i := 1) (v := .agg #[.bool Z6.N.b, .slice Z6.N.p Z6.N.n Z6.N.c, .bool Z6.D.b, .slice Z6.D.p Z6.D.n Z6.D.c]) rfl (by simp) (by kernel_rfl) hL)).1) ((hY).ext hI) (cx) (by_) (ce)).mono (tell hK)
  rintro _ ⟨Z8, rfl⟩
  simp only [Act.put, List.setIfInBounds_toArray, List.set_cons_zero, List.set_cons_succ]
  refine Walk.nilF fun w4 ew4 kzL kzX => ?_
  replace hX := hX.ext ew4
  replace hY := hY.ext ew4
  replace B1 := B1.ext ew4
  replace B2 := B2.ext ew4
  replace B3 := B3.ext ew4
  have hEw4 := eg hEw3 ew4
  have zw4 := ew4.size
  obtain ⟨hZ6, oZ6⟩ := Tl.getF (kz (i := 1) (v := .agg #[.bool Z6.N.b, .slice Z6.N.p Z6.N.n Z6.N.c, .bool Z6.D.b, .slice Z6.D.p Z6.D.n Z6.D.c]) rfl (by simp) kzL)
  replace oZ6 := oZ6.mono hEw3.size
  obtain ⟨hZ8, oZ8⟩ := Tl.getF (kz (i := 3) (v := .agg #[.bool Z8.N.b, .slice Z8.N.p Z8.N.n Z8.N.c, .bool Z8.D.b, .slice Z8.D.p Z8.D.n Z8.D.c]) rfl (by simp) kzL)
  replace oZ8 := oZ8.mono hEw3.size
  clear kzL kzX
  have b3_0_w4 := B3.cell (k := 0) rfl
  have fb3_0_w4 := B3.frozen 0
  have b3_1_w4 := B3.cell (k := 1) rfl
  have fb3_1_w4 := B3.frozen 1
  have b3_2_w4 := B3.cell (k := 2) rfl
  have fb3_2_w4 := B3.frozen 2
  have b3_3_w4 := B3.cell (k := 3) rfl
  have fb3_3_w4 := B3.frozen 3
  have lB1_w4 := B1.lt
  have lB2_w4 := B2.lt
  have lB3_w4 := B3.lt
  simp only [List.drop_succ_cons, List.drop_zero, List.drop_nil]
  obtain ⟨w5, hww5⟩ : ∃ W, ((((w4).setCell ⟨w.heap.size + 1 + 1, 0, none⟩ (.bool Z8.N.b)).setCell ⟨w.heap.size + 1 + 1, 1, none⟩ (.slice Z8.N.p Z8.N.n Z8.N.c)).setCell ⟨w.heap.size + 1 + 1, 2, none⟩ (.bool Z8.D.b)).setCell ⟨w.heap.size + 1 + 1, 3, none⟩ (.slice Z8.D.p Z8.D.n Z8.D.c) = W := ⟨_, rfl⟩
  have nuw5 : NoU #[.bool false, .slice none 0 0, .bool false, .slice none 0 0] := by simp [NoU]
  replace hX := FR.sets hX B3 nuw5 0 [.bool Z8.N.b, .slice Z8.N.p Z8.N.n Z8.N.c, .bool Z8.D.b, .slice Z8.D.p Z8.D.n Z8.D.c]
  replace hY := FR.sets hY B3 nuw5 0 [.bool Z8.N.b, .slice Z8.N.p Z8.N.n Z8.N.c, .bool Z8.D.b, .slice Z8.D.p Z8.D.n Z8.D.c]
  replace hZ6 := FR.sets hZ6 B3 nuw5 0 [.bool Z8.N.b, .slice Z8.N.p Z8.N.n Z8.N.c, .bool Z8.D.b, .slice Z8.D.p Z8.D.n Z8.D.c]
  replace hZ8 := FR.sets hZ8 B3 nuw5 0 [.bool Z8.N.b, .slice Z8.N.p Z8.N.n Z8.N.c, .bool Z8.D.b, .slice Z8.D.p Z8.D.n Z8.D.c]
  replace oZ6 := OF.sets oZ6 B3 (by decide) 0 [.bool Z8.N.b, .slice Z8.N.p Z8.N.n Z8.N.c, .bool Z8.D.b, .slice Z8.D.p Z8.D.n Z8.D.c]
  replace oZ8 := OF.sets oZ8 B3 (by decide) 0 [.bool Z8.N.b, .slice Z8.N.p Z8.N.n Z8.N.c, .bool Z8.D.b, .slice Z8.D.p Z8.D.n Z8.D.c]
  have hEw5 := Ext.sets hEw4 (b := w.heap.size + 1 + 1) (by omega) 0 [.bool Z8.N.b, .slice Z8.N.p Z8.N.n Z8.N.c, .bool Z8.D.b, .slice Z8.D.p Z8.D.n Z8.D.c]
  replace B1 := Cells.off B1 (b' := w.heap.size + 1 + 1) (by omega) 0 [.bool Z8.N.b, .slice Z8.N.p Z8.N.n Z8.N.c, .bool Z8.D.b, .slice Z8.D.p Z8.D.n Z8.D.c]
  replace B2 := Cells.off B2 (b' := w.heap.size + 1 + 1) (by omega) 0 [.bool Z8.N.b, .slice Z8.N.p Z8.N.n Z8.N.c, .bool Z8.D.b, .slice Z8.D.p Z8.D.n Z8.D.c]
  replace B3 : Cells (sets w4 (w.heap.size + 1 + 1) 0 [.bool Z8.N.b, .slice Z8.N.p Z8.N.n Z8.N.c, .bool Z8.D.b, .slice Z8.D.p Z8.D.n Z8.D.c]) (w.heap.size + 1 + 1) 40 #[.bool Z8.N.b, .slice Z8.N.p Z8.N.n Z8.N.c, .bool Z8.D.b, .slice Z8.D.p Z8.D.n Z8.D.c] := Cells.sets [.bool Z8.N.b, .slice Z8.N.p Z8.N.n Z8.N.c, .bool Z8.D.b, .slice Z8.D.p Z8.D.n Z8.D.c] B3 0
  have zw5 := size_sets (w.heap.size + 1 + 1) [.bool Z8.N.b, .slice Z8.N.p Z8.N.n Z8.N.c, .bool Z8.D.b, .slice Z8.D.p Z8.D.n Z8.D.c] w4 0
  replace hww5 : sets w4 (w.heap.size + 1 + 1) 0 [.bool Z8.N.b, .slice Z8.N.p Z8.N.n Z8.N.c, .bool Z8.D.b, .slice Z8.D.p Z8.D.n Z8.D.c] = w5 := hww5
  rw [hww5] at hX hY hZ6 hZ8 oZ6 oZ8 B1 B2 B3 hEw5 zw5
  replace hww5 : ((((w4).setCell ⟨w.heap.size + 1 + 1, 0, none⟩ (.bool Z8.N.b)).setCell ⟨w.heap.size + 1 + 1, 1, none⟩ (.slice Z8.N.p Z8.N.n Z8.N.c)).setCell ⟨w.heap.size + 1 + 1, 2, none⟩ (.bool Z8.D.b)).setCell ⟨w.heap.size + 1 + 1, 3, none⟩ (.slice Z8.D.p Z8.D.n Z8.D.c) = w5 := hww5
  have b3_0_w5 := B3.cell (k := 0) rfl
  have b3_1_w5 := B3.cell (k := 1) rfl
  have b3_2_w5 := B3.cell (k := 2) rfl
  have b3_3_w5 := B3.cell (k := 3) rfl
  have lB1_w5 := B1.lt
  have lB2_w5 := B2.lt
  have lB3_w5 := B3.lt
  go_wp2_with fail
  clear hww5
  clear b1_0_w3 b1_1_w3 b1_2_w3 b1_3_w3 b2_0_w3 b2_1_w3 b2_2_w3 b2_3_w3 b3_0_w4 fb3_0_w4 b3_1_w4 fb3_1_w4 b3_2_w4 fb3_2_w4 b3_3_w4 fb3_3_w4 lB1_w3 lB2_w3 lB3_w3 lB1_w4 lB2_w4 lB3_w4
  have yw5 := Nat.le_of_eq zw5
  replace zw5 := Nat.le_of_eq zw5.symm
  refine bodyPost_ret (v := .agg #[.bool Z8.N.b, .slice Z8.N.p Z8.N.n Z8.N.c, .bool Z8.D.b, .slice Z8.D.p Z8.D.n Z8.D.c]) (by simp [results, Tryz.results64, go_sem, b3_0_w5, b3_1_w5, b3_2_w5, b3_3_w5]) rfl ?_
  exact Gv.of_f (X := Z8) (hZ8) (oZ8) hEw5

set_option maxRecDepth 100000 in
theorem lpair (T : Tb) (R : Nat → Nat → Rat) (e y : Int) (e2 y2 : Int) (n : Int) (F : Nat) (w : World) (hcf : ∀ args w, (callFunc F args).run Tryz.prog w = .ok (.enter F args) w) (hT : TQ w T R) (hok : okL T e y = true) (hok2 : okL T e2 y2 = true) (hn : 0 ≤ n) (c : Rat) (hF : ∀ (A B : Fr) (w1 : World), FR w1 A (lal T R e y n.toNat) → FR w1 B (lal T R e2 y2 n.toNat) → Calls Tryz.prog F #[A.val, B.val] w1 (Gv (.f c) w1)) :
    Calls Tryz.prog 62 #[.agg #[.int .i64 T.first, .int .i64 T.sel, .slice T.P T.N T.C], .agg #[.int .i64 e, .int .i64 y], .agg #[.int .i64 e2, .int .i64 y2], .int .i64 n, .func (.func F) #[] #[]] w (Gv (.fe c 0) w) := by
  have hey := okL_ey hok
  have hW := hT.tw
  have Hok := Lib.hid hok
  have hq : T.first ≤ e ∧ e ≤ T.first + (T.N : Int) - 1 ∧ 0 ≤ y ∧ y ≤ 300 := by
    unfold okL at hok
    simp only [Bool.and_eq_true, decide_eq_true_eq] at hok
    exact ⟨hok.1.1.1.2, hok.1.1.2, hok.1.2, hok.2⟩
  have Hq := Lib.hid hq
  have Hey := Lib.hid hey
  clear hok hq hey
  have hey2 := okL_ey hok2
  have Hok2 := Lib.hid hok2
  have hq2 : T.first ≤ e2 ∧ e2 ≤ T.first + (T.N : Int) - 1 ∧ 0 ≤ y2 ∧ y2 ≤ 300 := by
    unfold okL at hok2
    simp only [Bool.and_eq_true, decide_eq_true_eq] at hok2
    exact ⟨hok2.1.1.1.2, hok2.1.1.2, hok2.1.2, hok2.2⟩
  have Hq2 := Lib.hid hq2
  have Hey2 := Lib.hid hey2
  clear hok2 hq2 hey2
  have HF := Lib.hid hF
  have Hn := Lib.hid hn
  have d1 : decide (n < 0) = false := by simp; omega
  clear hn hF
  have hEw : Ext w w := Below.refl _ _
  obtain ⟨w1, hww1⟩ : ∃ W, w.alloc (.cells #[.int .i64 T.first, .int .i64 T.sel, .slice T.P T.N T.C] 24) = W := ⟨_, rfl⟩
  have ew1 : Ext w w1 := by rw [← hww1]; exact ea _ _
  have B1 : Cells w1 (w.heap.size) 24 #[.int .i64 T.first, .int .i64 T.sel, .slice T.P T.N T.C] := by rw [← hww1]; exact Cells.newAt _ _ (by omega)
  have zw1 := alloc_lt hww1
  have hEw1 := eg hEw ew1
  have lB1_w1 := B1.lt
  obtain ⟨w2, hww2⟩ : ∃ W, w1.alloc (.cells #[.int .i64 e, .int .i64 y] 26) = W := ⟨_, rfl⟩
  have ew2 : Ext w1 w2 := by rw [← hww2]; exact ea _ _
  have B2 : Cells w2 (w.heap.size + 1) 26 #[.int .i64 e, .int .i64 y] := by rw [← hww2]; exact Cells.newAt _ _ (by omega)
  replace B1 := B1.ext ew2
  have zw2 := alloc_lt hww2
  have hEw2 := eg hEw1 ew2
  have lB1_w2 := B1.lt
  have lB2_w2 := B2.lt
  obtain ⟨w3, hww3⟩ : ∃ W, w2.alloc (.cells #[.int .i64 e2, .int .i64 y2] 26) = W := ⟨_, rfl⟩
  have ew3 : Ext w2 w3 := by rw [← hww3]; exact ea _ _
  have B3 : Cells w3 (w.heap.size + 1 + 1) 26 #[.int .i64 e2, .int .i64 y2] := by rw [← hww3]; exact Cells.newAt _ _ (by omega)
  replace B1 := B1.ext ew3
  replace B2 := B2.ext ew3
  have zw3 := alloc_lt hww3
  have hEw3 := eg hEw2 ew3
  have lB1_w3 := B1.lt
  have lB2_w3 := B2.lt
  have lB3_w3 := B3.lt
  obtain ⟨w4, hww4⟩ : ∃ W, w3.alloc (.cells #[.bool false, .slice none 0 0, .bool false, .slice none 0 0] 40) = W := ⟨_, rfl⟩
  have ew4 : Ext w3 w4 := by rw [← hww4]; exact ea _ _
  have B4 : Cells w4 (w.heap.size + 1 + 1 + 1) 40 #[.bool false, .slice none 0 0, .bool false, .slice none 0 0] := by rw [← hww4]; exact Cells.newAt _ _ (by omega)
  replace B1 := B1.ext ew4
  replace B2 := B2.ext ew4
  replace B3 := B3.ext ew4
  have zw4 := alloc_lt hww4
  have hEw4 := eg hEw3 ew4
  have b1_0_w4 := B1.cell (k := 0) rfl
  have b1_1_w4 := B1.cell (k := 1) rfl
  have b1_2_w4 := B1.cell (k := 2) rfl
  have b2_0_w4 := B2.cell (k := 0) rfl
  have b2_1_w4 := B2.cell (k := 1) rfl
  have lB1_w4 := B1.lt
  have lB2_w4 := B2.lt
  have lB3_w4 := B3.lt
  have lB4_w4 := B4.lt
  go_enter Tryz.func62, Tryz.ntmps62
  go_wp2_with fail
  clear hww1
  clear hww2
  clear hww3
  clear hww4
  clear lB1_w1 lB1_w2 lB2_w2 lB1_w3 lB2_w3 lB3_w3
  have yw1 := Nat.le_of_eq zw1
  replace zw1 := Nat.le_of_eq zw1.symm
  have yw2 := Nat.le_of_eq zw2
  replace zw2 := Nat.le_of_eq zw2.symm
  have yw3 := Nat.le_of_eq zw3
  replace zw3 := Nat.le_of_eq zw3.symm
  have yw4 := Nat.le_of_eq zw4
  replace zw4 := Nat.le_of_eq zw4.symm
  refine (lRight T e y _ (hW.ext hEw4) Hey.out Hok.out).mono ?_
  intro ee w5 gg
  obtain ⟨rfl, ew5⟩ := Gv.v gg
  replace B1 := B1.ext ew5
  replace B2 := B2.ext ew5
  replace B3 := B3.ext ew5
  replace B4 := B4.ext ew5
  have hEw5 := eg hEw4 ew5
  have zw5 := ew5.size
  have b1_0_w5 := B1.cell (k := 0) rfl
  have b1_1_w5 := B1.cell (k := 1) rfl
  have b1_2_w5 := B1.cell (k := 2) rfl
  have b3_0_w5 := B3.cell (k := 0) rfl
  have b3_1_w5 := B3.cell (k := 1) rfl
  have lB1_w5 := B1.lt
  have lB2_w5 := B2.lt
  have lB3_w5 := B3.lt
  have lB4_w5 := B4.lt
  go_wp2_with fail
  clear b1_0_w4 b1_1_w4 b1_2_w4 b2_0_w4 b2_1_w4 lB1_w4 lB2_w4 lB3_w4 lB4_w4
  refine (lRight T e2 y2 _ (hW.ext hEw5) Hey2.out Hok2.out).mono ?_
  intro ee w6 gg
  obtain ⟨rfl, ew6⟩ := Gv.v gg
  replace B1 := B1.ext ew6
  replace B2 := B2.ext ew6
  replace B3 := B3.ext ew6
  replace B4 := B4.ext ew6
  have hEw6 := eg hEw5 ew6
  have zw6 := ew6.size
  have b1_0_w6 := B1.cell (k := 0) rfl
  have b1_1_w6 := B1.cell (k := 1) rfl
  have b1_2_w6 := B1.cell (k := 2) rfl
  have b2_0_w6 := B2.cell (k := 0) rfl
  have b2_1_w6 := B2.cell (k := 1) rfl
  have b3_0_w6 := B3.cell (k := 0) rfl
  have b3_1_w6 := B3.cell (k := 1) rfl
  have lB1_w6 := B1.lt
  have lB2_w6 := B2.lt
  have lB3_w6 := B3.lt
  have lB4_w6 := B4.lt
  go_wp2_with fail
  clear b1_0_w5 b1_1_w5 b1_2_w5 b3_0_w5 b3_1_w5 lB1_w5 lB2_w5 lB3_w5 lB4_w5
  refine regionT 12 (fun k => match k with | 5 => some (.f (lal T R e y n.toNat)) | 10 => some (.f (lal T R e2 y2 n.toNat)) | 11 => some (.f (c)) | _ => none) (by kernel_rfl) (by kernel_rfl) ?_
  iterate 5
    refine Walk.one (x := ?_) rfl rfl (fun w1 hI hL K hK => ?_) ?_
    rotate_left
    · obtain ⟨hc, hf⟩ := bcell hI
      go_simp
      repeat (first | (go_ints; try go_simp) | (simp only [↓IntWalk.iteOmega]; try go_simp))
      exact hK
    simp only [Act.put, List.setIfInBounds_toArray, List.set_cons_zero, List.set_cons_succ]
  refine Walk.tell rfl rfl (fun w1 hI hL K hK => ?_) ?_
  · go_simp
    exact (lalive T R e y n w1 (hT.ext (eg hEw6 hI)) Hq.out.1 Hq.out.2.1 Hq.out.2.2.1 (by have := Hq.out; omega) Hn.out).mono (tell hK)
  rintro _ ⟨Z32, rfl⟩
  simp only [Act.put, List.setIfInBounds_toArray, List.set_cons_zero, List.set_cons_succ]
  iterate 4
    refine Walk.one (x := ?_) rfl rfl (fun w1 hI hL K hK => ?_) ?_
    rotate_left
    · obtain ⟨hc, hf⟩ := bcell hI
      go_simp
      repeat (first | (go_ints; try go_simp) | (simp only [↓IntWalk.iteOmega]; try go_simp))
      exact hK
    simp only [Act.put, List.setIfInBounds_toArray, List.set_cons_zero, List.set_cons_succ]
  refine Walk.tell rfl rfl (fun w1 hI hL K hK => ?_) ?_
  · go_simp
    exact (lalive T R e2 y2 n w1 (hT.ext (eg hEw6 hI)) Hq2.out.1 Hq2.out.2.1 Hq2.out.2.2.1 (by have := Hq2.out; omega) Hn.out).mono (tell hK)
  rintro _ ⟨Z37, rfl⟩
  simp only [Act.put, List.setIfInBounds_toArray, List.set_cons_zero, List.set_cons_succ]
  refine Walk.tell rfl rfl (fun w1 hI hL K hK => ?_) ?_
  · go_simp
    exact (HF.out Z32 Z37 w1 ((Tl.getF (kn (i := 5) (v := .agg #[.bool Z32.N.b, .slice Z32.N.p Z32.N.n Z32.N.c, .bool Z32.D.b, .slice Z32.D.p Z32.D.n Z32.D.c]) rfl (by simp) (by kernel_rfl) hL)).1) ((Tl.getF (kn (i := 10) (v := .agg #[.bool Z37.N.b, .slice Z37.N.p Z37.N.n Z37.N.c, .bool Z37.D.b, .slice Z37.D.p Z37.D.n Z37.D.c]) rfl (by simp) (by kernel_rfl) hL)).1)).mono (tell hK)
  rintro _ ⟨Z38, rfl⟩
  simp only [Act.put, List.setIfInBounds_toArray, List.set_cons_zero, List.set_cons_succ]
  refine Walk.nilF fun w7 ew7 kzL kzX => ?_
  replace B1 := B1.ext ew7
  replace B2 := B2.ext ew7
  replace B3 := B3.ext ew7
  replace B4 := B4.ext ew7
  have hEw7 := eg hEw6 ew7
  have zw7 := ew7.size
  obtain ⟨hZ32, oZ32⟩ := Tl.getF (kz (i := 5) (v := .agg #[.bool Z32.N.b, .slice Z32.N.p Z32.N.n Z32.N.c, .bool Z32.D.b, .slice Z32.D.p Z32.D.n Z32.D.c]) rfl (by simp) kzL)
  replace oZ32 := oZ32.mono hEw6.size
  obtain ⟨hZ37, oZ37⟩ := Tl.getF (kz (i := 10) (v := .agg #[.bool Z37.N.b, .slice Z37.N.p Z37.N.n Z37.N.c, .bool Z37.D.b, .slice Z37.D.p Z37.D.n Z37.D.c]) rfl (by simp) kzL)
  replace oZ37 := oZ37.mono hEw6.size
  obtain ⟨hZ38, oZ38⟩ := Tl.getF (kz (i := 11) (v := .agg #[.bool Z38.N.b, .slice Z38.N.p Z38.N.n Z38.N.c, .bool Z38.D.b, .slice Z38.D.p Z38.D.n Z38.D.c]) rfl (by simp) kzL)
  replace oZ38 := oZ38.mono hEw6.size
  clear kzL kzX
  have b4_0_w7 := B4.cell (k := 0) rfl
  have fb4_0_w7 := B4.frozen 0
  have b4_1_w7 := B4.cell (k := 1) rfl
  have fb4_1_w7 := B4.frozen 1
  have b4_2_w7 := B4.cell (k := 2) rfl
  have fb4_2_w7 := B4.frozen 2
  have b4_3_w7 := B4.cell (k := 3) rfl
  have fb4_3_w7 := B4.frozen 3
  have lB1_w7 := B1.lt
  have lB2_w7 := B2.lt
  have lB3_w7 := B3.lt
  have lB4_w7 := B4.lt
  simp only [List.drop_succ_cons, List.drop_zero, List.drop_nil]
  obtain ⟨w8, hww8⟩ : ∃ W, ((((w7).setCell ⟨w.heap.size + 1 + 1 + 1, 0, none⟩ (.bool Z38.N.b)).setCell ⟨w.heap.size + 1 + 1 + 1, 1, none⟩ (.slice Z38.N.p Z38.N.n Z38.N.c)).setCell ⟨w.heap.size + 1 + 1 + 1, 2, none⟩ (.bool Z38.D.b)).setCell ⟨w.heap.size + 1 + 1 + 1, 3, none⟩ (.slice Z38.D.p Z38.D.n Z38.D.c) = W := ⟨_, rfl⟩
  have nuw8 : NoU #[.bool false, .slice none 0 0, .bool false, .slice none 0 0] := by simp [NoU]
  replace hZ32 := FR.sets hZ32 B4 nuw8 0 [.bool Z38.N.b, .slice Z38.N.p Z38.N.n Z38.N.c, .bool Z38.D.b, .slice Z38.D.p Z38.D.n Z38.D.c]
  replace hZ37 := FR.sets hZ37 B4 nuw8 0 [.bool Z38.N.b, .slice Z38.N.p Z38.N.n Z38.N.c, .bool Z38.D.b, .slice Z38.D.p Z38.D.n Z38.D.c]
  replace hZ38 := FR.sets hZ38 B4 nuw8 0 [.bool Z38.N.b, .slice Z38.N.p Z38.N.n Z38.N.c, .bool Z38.D.b, .slice Z38.D.p Z38.D.n Z38.D.c]
  replace oZ32 := OF.sets oZ32 B4 (by decide) 0 [.bool Z38.N.b, .slice Z38.N.p Z38.N.n Z38.N.c, .bool Z38.D.b, .slice Z38.D.p Z38.D.n Z38.D.c]
  replace oZ37 := OF.sets oZ37 B4 (by decide) 0 [.bool Z38.N.b, .slice Z38.N.p Z38.N.n Z38.N.c, .bool Z38.D.b, .slice Z38.D.p Z38.D.n Z38.D.c]
  replace oZ38 := OF.sets oZ38 B4 (by decide) 0 [.bool Z38.N.b, .slice Z38.N.p Z38.N.n Z38.N.c, .bool Z38.D.b, .slice Z38.D.p Z38.D.n Z38.D.c]
  have hEw8 := Ext.sets hEw7 (b := w.heap.size + 1 + 1 + 1) (by omega) 0 [.bool Z38.N.b, .slice Z38.N.p Z38.N.n Z38.N.c, .bool Z38.D.b, .slice Z38.D.p Z38.D.n Z38.D.c]
  replace B1 := Cells.off B1 (b' := w.heap.size + 1 + 1 + 1) (by omega) 0 [.bool Z38.N.b, .slice Z38.N.p Z38.N.n Z38.N.c, .bool Z38.D.b, .slice Z38.D.p Z38.D.n Z38.D.c]
  replace B2 := Cells.off B2 (b' := w.heap.size + 1 + 1 + 1) (by omega) 0 [.bool Z38.N.b, .slice Z38.N.p Z38.N.n Z38.N.c, .bool Z38.D.b, .slice Z38.D.p Z38.D.n Z38.D.c]
  replace B3 := Cells.off B3 (b' := w.heap.size + 1 + 1 + 1) (by omega) 0 [.bool Z38.N.b, .slice Z38.N.p Z38.N.n Z38.N.c, .bool Z38.D.b, .slice Z38.D.p Z38.D.n Z38.D.c]
  replace B4 : Cells (sets w7 (w.heap.size + 1 + 1 + 1) 0 [.bool Z38.N.b, .slice Z38.N.p Z38.N.n Z38.N.c, .bool Z38.D.b, .slice Z38.D.p Z38.D.n Z38.D.c]) (w.heap.size + 1 + 1 + 1) 40 #[.bool Z38.N.b, .slice Z38.N.p Z38.N.n Z38.N.c, .bool Z38.D.b, .slice Z38.D.p Z38.D.n Z38.D.c] := Cells.sets [.bool Z38.N.b, .slice Z38.N.p Z38.N.n Z38.N.c, .bool Z38.D.b, .slice Z38.D.p Z38.D.n Z38.D.c] B4 0
  have zw8 := size_sets (w.heap.size + 1 + 1 + 1) [.bool Z38.N.b, .slice Z38.N.p Z38.N.n Z38.N.c, .bool Z38.D.b, .slice Z38.D.p Z38.D.n Z38.D.c] w7 0
  replace hww8 : sets w7 (w.heap.size + 1 + 1 + 1) 0 [.bool Z38.N.b, .slice Z38.N.p Z38.N.n Z38.N.c, .bool Z38.D.b, .slice Z38.D.p Z38.D.n Z38.D.c] = w8 := hww8
  rw [hww8] at hZ32 hZ37 hZ38 oZ32 oZ37 oZ38 B1 B2 B3 B4 hEw8 zw8
  replace hww8 : ((((w7).setCell ⟨w.heap.size + 1 + 1 + 1, 0, none⟩ (.bool Z38.N.b)).setCell ⟨w.heap.size + 1 + 1 + 1, 1, none⟩ (.slice Z38.N.p Z38.N.n Z38.N.c)).setCell ⟨w.heap.size + 1 + 1 + 1, 2, none⟩ (.bool Z38.D.b)).setCell ⟨w.heap.size + 1 + 1 + 1, 3, none⟩ (.slice Z38.D.p Z38.D.n Z38.D.c) = w8 := hww8
  have b4_0_w8 := B4.cell (k := 0) rfl
  have b4_1_w8 := B4.cell (k := 1) rfl
  have b4_2_w8 := B4.cell (k := 2) rfl
  have b4_3_w8 := B4.cell (k := 3) rfl
  have lB1_w8 := B1.lt
  have lB2_w8 := B2.lt
  have lB3_w8 := B3.lt
  have lB4_w8 := B4.lt
  go_wp2_with fail
  clear hww8
  clear b1_0_w6 b1_1_w6 b1_2_w6 b2_0_w6 b2_1_w6 b3_0_w6 b3_1_w6 b4_0_w7 fb4_0_w7 b4_1_w7 fb4_1_w7 b4_2_w7 fb4_2_w7 b4_3_w7 fb4_3_w7 lB1_w6 lB2_w6 lB3_w6 lB4_w6 lB1_w7 lB2_w7 lB3_w7 lB4_w7
  have yw8 := Nat.le_of_eq zw8
  replace zw8 := Nat.le_of_eq zw8.symm
  refine bodyPost_ret (v := .tuple #[.agg #[.bool Z38.N.b, .slice Z38.N.p Z38.N.n Z38.N.c, .bool Z38.D.b, .slice Z38.D.p Z38.D.n Z38.D.c], .int .i64 0]) (by simp [results, Tryz.results62, go_sem, b4_0_w8, b4_1_w8, b4_2_w8, b4_3_w8]) rfl ?_
  exact Gv.of_fe (X := Z38) (hZ38) (oZ38) hEw8

theorem cf59 : ∀ args w, (callFunc 59 args).run Tryz.prog w = .ok (.enter 59 args) w := fun args w => by simp [go_sem]

theorem cf63 : ∀ args w, (callFunc 63 args).run Tryz.prog w = .ok (.enter 63 args) w := fun args w => by simp [go_sem]

theorem cf64 : ∀ args w, (callFunc 64 args).run Tryz.prog w = .ok (.enter 64 args) w := fun args w => by simp [go_sem]

theorem pal_sz {w : World} {T : Tb} {R : Nat → Nat → Rat} (hT : TQ w T R) {e y : Int} (ok : okL T e y = true) (n : Nat) : ∃ D, 0 < D ∧ siz D ≤ 112 ∧ Sm (lal T R e y n) D 1 := by
  unfold okL at ok
  simp only [Bool.and_eq_true, decide_eq_true_eq] at ok
  have rs := rs_rt hT ok.1.1.1.2 ok.1.1.2 ok.1.2
  have hA := yN_le hT ok.1.1.1.2 ok.1.2
  exact ⟨DD (fun k => rt T R e (y + (k : Nat))) (yN T e y), Nat.pos_of_ne_zero (DD_ne _ _), by have := DD_siz rs (yN T e y); omega, al_smA rs n⟩
theorem Sm.szD {q : Rat} {D : Nat} (h : Sm q D 1) (hD : 0 < D) (hs : siz D ≤ 224) : Sz q := h.sz hD (by have : siz 1 ≤ 1 := siz_one.2 (by omega); omega)
structure PS (x y : Rat) : Prop where
  sx : Sz x
  sy : Sz y
  nx : Sz (1 - x)
  ny : Sz (1 - y)
  m : Sz (x * y)
  nm : Sz ((1 - x) * (1 - y))
  ei : Sz (eiQ x y)
  le : Sz (leQ x y)
theorem PS.of {x y : Rat} {D E : Nat} (hD : 0 < D) (hE : 0 < E) (sD : siz D ≤ 112) (sE : siz E ≤ 112) (hx : Sm x D 1) (hy : Sm y E 1) : PS x y := by
  have nx := hx.not (by omega)
  have ny := hy.not (by omega)
  have hDE : 0 < D * E := Nat.mul_pos hD hE
  have sDE : siz (D * E) ≤ 224 := by have := siz_mul D E; omega
  exact ⟨hx.szD hD (by omega), hy.szD hE (by omega), nx.szD hD (by omega), ny.szD hE (by omega), (hx.mul hy).szD hDE sDE, (nx.mul ny).szD hDE sDE, ((nx.mul ny).not (by omega)).szD hDE sDE, (nx.mul hy).szD hDE sDE⟩
theorem pal_ps {w : World} {T : Tb} {R : Nat → Nat → Rat} (hT : TQ w T R) {e y e2 y2 : Int} (ok : okL T e y = true) (ok2 : okL T e2 y2 = true) (n : Nat) : PS (lal T R e y n) (lal T R e2 y2 n) := by
  obtain ⟨D, h1, h2, h3⟩ := pal_sz hT ok n
  obtain ⟨E, k1, k2, k3⟩ := pal_sz hT ok2 n
  exact PS.of h1 k1 h2 k2 h3 k3

set_option maxRecDepth 100000 in
theorem lBoth (T : Tb) (R : Nat → Nat → Rat) (e y : Int) (e2 y2 : Int) (n : Int) (w : World) (hT : TQ w T R) (hok : okL T e y = true) (hok2 : okL T e2 y2 = true) (hn : 0 ≤ n) :
    Calls Tryz.prog 20 #[.agg #[.int .i64 T.first, .int .i64 T.sel, .slice T.P T.N T.C], .agg #[.int .i64 e, .int .i64 y], .agg #[.int .i64 e2, .int .i64 y2], .int .i64 n] w (Gv (.fe (lal T R e y n.toNat * lal T R e2 y2 n.toNat) 0) w) := by
  have Hok := Lib.hid hok
  have Hok2 := Lib.hid hok2
  have Hn := Lib.hid hn
  clear hok hok2 hn
  have hEw : Ext w w := Below.refl _ _
  obtain ⟨w1, hww1⟩ : ∃ W, w.alloc (.cells #[.int .i64 T.first, .int .i64 T.sel, .slice T.P T.N T.C] 24) = W := ⟨_, rfl⟩
  have ew1 : Ext w w1 := by rw [← hww1]; exact ea _ _
  have B1 : Cells w1 (w.heap.size) 24 #[.int .i64 T.first, .int .i64 T.sel, .slice T.P T.N T.C] := by rw [← hww1]; exact Cells.newAt _ _ (by omega)
  have zw1 := alloc_lt hww1
  have hEw1 := eg hEw ew1
  have lB1_w1 := B1.lt
  obtain ⟨w2, hww2⟩ : ∃ W, w1.alloc (.cells #[.int .i64 e, .int .i64 y] 26) = W := ⟨_, rfl⟩
  have ew2 : Ext w1 w2 := by rw [← hww2]; exact ea _ _
  have B2 : Cells w2 (w.heap.size + 1) 26 #[.int .i64 e, .int .i64 y] := by rw [← hww2]; exact Cells.newAt _ _ (by omega)
  replace B1 := B1.ext ew2
  have zw2 := alloc_lt hww2
  have hEw2 := eg hEw1 ew2
  have lB1_w2 := B1.lt
  have lB2_w2 := B2.lt
  obtain ⟨w3, hww3⟩ : ∃ W, w2.alloc (.cells #[.int .i64 e2, .int .i64 y2] 26) = W := ⟨_, rfl⟩
  have ew3 : Ext w2 w3 := by rw [← hww3]; exact ea _ _
  have B3 : Cells w3 (w.heap.size + 1 + 1) 26 #[.int .i64 e2, .int .i64 y2] := by rw [← hww3]; exact Cells.newAt _ _ (by omega)
  replace B1 := B1.ext ew3
  replace B2 := B2.ext ew3
  have zw3 := alloc_lt hww3
  have hEw3 := eg hEw2 ew3
  have lB1_w3 := B1.lt
  have lB2_w3 := B2.lt
  have lB3_w3 := B3.lt
  obtain ⟨w4, hww4⟩ : ∃ W, w3.alloc (.cells #[.bool false, .slice none 0 0, .bool false, .slice none 0 0] 40) = W := ⟨_, rfl⟩
  have ew4 : Ext w3 w4 := by rw [← hww4]; exact ea _ _
  have B4 : Cells w4 (w.heap.size + 1 + 1 + 1) 40 #[.bool false, .slice none 0 0, .bool false, .slice none 0 0] := by rw [← hww4]; exact Cells.newAt _ _ (by omega)
  replace B1 := B1.ext ew4
  replace B2 := B2.ext ew4
  replace B3 := B3.ext ew4
  have zw4 := alloc_lt hww4
  have hEw4 := eg hEw3 ew4
  have b1_0_w4 := B1.cell (k := 0) rfl
  have b1_1_w4 := B1.cell (k := 1) rfl
  have b1_2_w4 := B1.cell (k := 2) rfl
  have b2_0_w4 := B2.cell (k := 0) rfl
  have b2_1_w4 := B2.cell (k := 1) rfl
  have b3_0_w4 := B3.cell (k := 0) rfl
  have b3_1_w4 := B3.cell (k := 1) rfl
  have lB1_w4 := B1.lt
  have lB2_w4 := B2.lt
  have lB3_w4 := B3.lt
  have lB4_w4 := B4.lt
  go_enter Tryz.func20, Tryz.ntmps20
  go_wp2_with fail
  clear hww1
  clear hww2
  clear hww3
  clear hww4
  clear lB1_w1 lB1_w2 lB2_w2 lB1_w3 lB2_w3 lB3_w3
  have yw1 := Nat.le_of_eq zw1
  replace zw1 := Nat.le_of_eq zw1.symm
  have yw2 := Nat.le_of_eq zw2
  replace zw2 := Nat.le_of_eq zw2.symm
  have yw3 := Nat.le_of_eq zw3
  replace zw3 := Nat.le_of_eq zw3.symm
  have yw4 := Nat.le_of_eq zw4
  replace zw4 := Nat.le_of_eq zw4.symm
  refine (lpair T R e y e2 y2 n 59 _ cf59 (hT.ext hEw4) Hok.out Hok2.out Hn.out _ (fun A B w1 ha hb => have p := pal_ps hT Hok.out Hok2.out n.toNat; ltimes A B _ _ w1 ha hb p.sx p.sy p.m)).mono ?_
  intro ee w5 gg
  obtain ⟨Z14, rfl, hZ14, oZ14, ew5⟩ := Gv.fe gg
  replace B1 := B1.ext ew5
  replace B2 := B2.ext ew5
  replace B3 := B3.ext ew5
  replace B4 := B4.ext ew5
  have hEw5 := eg hEw4 ew5
  have zw5 := ew5.size
  replace oZ14 := oZ14.mono hEw4.size
  have b4_0_w5 := B4.cell (k := 0) rfl
  have fb4_0_w5 := B4.frozen 0
  have b4_1_w5 := B4.cell (k := 1) rfl
  have fb4_1_w5 := B4.frozen 1
  have b4_2_w5 := B4.cell (k := 2) rfl
  have fb4_2_w5 := B4.frozen 2
  have b4_3_w5 := B4.cell (k := 3) rfl
  have fb4_3_w5 := B4.frozen 3
  have lB1_w5 := B1.lt
  have lB2_w5 := B2.lt
  have lB3_w5 := B3.lt
  have lB4_w5 := B4.lt
  obtain ⟨w6, hww6⟩ : ∃ W, ((((w5).setCell ⟨w.heap.size + 1 + 1 + 1, 0, none⟩ (.bool Z14.N.b)).setCell ⟨w.heap.size + 1 + 1 + 1, 1, none⟩ (.slice Z14.N.p Z14.N.n Z14.N.c)).setCell ⟨w.heap.size + 1 + 1 + 1, 2, none⟩ (.bool Z14.D.b)).setCell ⟨w.heap.size + 1 + 1 + 1, 3, none⟩ (.slice Z14.D.p Z14.D.n Z14.D.c) = W := ⟨_, rfl⟩
  have nuw6 : NoU #[.bool false, .slice none 0 0, .bool false, .slice none 0 0] := by simp [NoU]
  replace hZ14 := FR.sets hZ14 B4 nuw6 0 [.bool Z14.N.b, .slice Z14.N.p Z14.N.n Z14.N.c, .bool Z14.D.b, .slice Z14.D.p Z14.D.n Z14.D.c]
  replace oZ14 := OF.sets oZ14 B4 (by decide) 0 [.bool Z14.N.b, .slice Z14.N.p Z14.N.n Z14.N.c, .bool Z14.D.b, .slice Z14.D.p Z14.D.n Z14.D.c]
  have hEw6 := Ext.sets hEw5 (b := w.heap.size + 1 + 1 + 1) (by omega) 0 [.bool Z14.N.b, .slice Z14.N.p Z14.N.n Z14.N.c, .bool Z14.D.b, .slice Z14.D.p Z14.D.n Z14.D.c]
  replace B1 := Cells.off B1 (b' := w.heap.size + 1 + 1 + 1) (by omega) 0 [.bool Z14.N.b, .slice Z14.N.p Z14.N.n Z14.N.c, .bool Z14.D.b, .slice Z14.D.p Z14.D.n Z14.D.c]
  replace B2 := Cells.off B2 (b' := w.heap.size + 1 + 1 + 1) (by omega) 0 [.bool Z14.N.b, .slice Z14.N.p Z14.N.n Z14.N.c, .bool Z14.D.b, .slice Z14.D.p Z14.D.n Z14.D.c]
  replace B3 := Cells.off B3 (b' := w.heap.size + 1 + 1 + 1) (by omega) 0 [.bool Z14.N.b, .slice Z14.N.p Z14.N.n Z14.N.c, .bool Z14.D.b, .slice Z14.D.p Z14.D.n Z14.D.c]
  replace B4 : Cells (sets w5 (w.heap.size + 1 + 1 + 1) 0 [.bool Z14.N.b, .slice Z14.N.p Z14.N.n Z14.N.c, .bool Z14.D.b, .slice Z14.D.p Z14.D.n Z14.D.c]) (w.heap.size + 1 + 1 + 1) 40 #[.bool Z14.N.b, .slice Z14.N.p Z14.N.n Z14.N.c, .bool Z14.D.b, .slice Z14.D.p Z14.D.n Z14.D.c] := Cells.sets [.bool Z14.N.b, .slice Z14.N.p Z14.N.n Z14.N.c, .bool Z14.D.b, .slice Z14.D.p Z14.D.n Z14.D.c] B4 0
  have zw6 := size_sets (w.heap.size + 1 + 1 + 1) [.bool Z14.N.b, .slice Z14.N.p Z14.N.n Z14.N.c, .bool Z14.D.b, .slice Z14.D.p Z14.D.n Z14.D.c] w5 0
  replace hww6 : sets w5 (w.heap.size + 1 + 1 + 1) 0 [.bool Z14.N.b, .slice Z14.N.p Z14.N.n Z14.N.c, .bool Z14.D.b, .slice Z14.D.p Z14.D.n Z14.D.c] = w6 := hww6
  rw [hww6] at hZ14 oZ14 B1 B2 B3 B4 hEw6 zw6
  replace hww6 : ((((w5).setCell ⟨w.heap.size + 1 + 1 + 1, 0, none⟩ (.bool Z14.N.b)).setCell ⟨w.heap.size + 1 + 1 + 1, 1, none⟩ (.slice Z14.N.p Z14.N.n Z14.N.c)).setCell ⟨w.heap.size + 1 + 1 + 1, 2, none⟩ (.bool Z14.D.b)).setCell ⟨w.heap.size + 1 + 1 + 1, 3, none⟩ (.slice Z14.D.p Z14.D.n Z14.D.c) = w6 := hww6
  have b4_0_w6 := B4.cell (k := 0) rfl
  have b4_1_w6 := B4.cell (k := 1) rfl
  have b4_2_w6 := B4.cell (k := 2) rfl
  have b4_3_w6 := B4.cell (k := 3) rfl
  have lB1_w6 := B1.lt
  have lB2_w6 := B2.lt
  have lB3_w6 := B3.lt
  have lB4_w6 := B4.lt
  go_wp2_with fail
  clear hww6
  clear b1_0_w4 b1_1_w4 b1_2_w4 b2_0_w4 b2_1_w4 b3_0_w4 b3_1_w4 b4_0_w5 fb4_0_w5 b4_1_w5 fb4_1_w5 b4_2_w5 fb4_2_w5 b4_3_w5 fb4_3_w5 lB1_w4 lB2_w4 lB3_w4 lB4_w4 lB1_w5 lB2_w5 lB3_w5 lB4_w5
  have yw6 := Nat.le_of_eq zw6
  replace zw6 := Nat.le_of_eq zw6.symm
  refine bodyPost_ret (v := .tuple #[.agg #[.bool Z14.N.b, .slice Z14.N.p Z14.N.n Z14.N.c, .bool Z14.D.b, .slice Z14.D.p Z14.D.n Z14.D.c], .int .i64 0]) (by simp [results, Tryz.results20, go_sem, b4_0_w6, b4_1_w6, b4_2_w6, b4_3_w6]) rfl ?_
  exact Gv.of_fe (X := Z14) (hZ14) (oZ14) hEw6

set_option maxRecDepth 100000 in
theorem lEither (T : Tb) (R : Nat → Nat → Rat) (e y : Int) (e2 y2 : Int) (n : Int) (w : World) (hT : TQ w T R) (hok : okL T e y = true) (hok2 : okL T e2 y2 = true) (hn : 0 ≤ n) :
    Calls Tryz.prog 21 #[.agg #[.int .i64 T.first, .int .i64 T.sel, .slice T.P T.N T.C], .agg #[.int .i64 e, .int .i64 y], .agg #[.int .i64 e2, .int .i64 y2], .int .i64 n] w (Gv (.fe (eiQ (lal T R e y n.toNat) (lal T R e2 y2 n.toNat)) 0) w) := by
  have Hok := Lib.hid hok
  have Hok2 := Lib.hid hok2
  have Hn := Lib.hid hn
  clear hok hok2 hn
  have hEw : Ext w w := Below.refl _ _
  obtain ⟨w1, hww1⟩ : ∃ W, w.alloc (.cells #[.int .i64 T.first, .int .i64 T.sel, .slice T.P T.N T.C] 24) = W := ⟨_, rfl⟩
  have ew1 : Ext w w1 := by rw [← hww1]; exact ea _ _
  have B1 : Cells w1 (w.heap.size) 24 #[.int .i64 T.first, .int .i64 T.sel, .slice T.P T.N T.C] := by rw [← hww1]; exact Cells.newAt _ _ (by omega)
  have zw1 := alloc_lt hww1
  have hEw1 := eg hEw ew1
  have lB1_w1 := B1.lt
  obtain ⟨w2, hww2⟩ : ∃ W, w1.alloc (.cells #[.int .i64 e, .int .i64 y] 26) = W := ⟨_, rfl⟩
  have ew2 : Ext w1 w2 := by rw [← hww2]; exact ea _ _
  have B2 : Cells w2 (w.heap.size + 1) 26 #[.int .i64 e, .int .i64 y] := by rw [← hww2]; exact Cells.newAt _ _ (by omega)
  replace B1 := B1.ext ew2
  have zw2 := alloc_lt hww2
  have hEw2 := eg hEw1 ew2
  have lB1_w2 := B1.lt
  have lB2_w2 := B2.lt
  obtain ⟨w3, hww3⟩ : ∃ W, w2.alloc (.cells #[.int .i64 e2, .int .i64 y2] 26) = W := ⟨_, rfl⟩
  have ew3 : Ext w2 w3 := by rw [← hww3]; exact ea _ _
  have B3 : Cells w3 (w.heap.size + 1 + 1) 26 #[.int .i64 e2, .int .i64 y2] := by rw [← hww3]; exact Cells.newAt _ _ (by omega)
  replace B1 := B1.ext ew3
  replace B2 := B2.ext ew3
  have zw3 := alloc_lt hww3
  have hEw3 := eg hEw2 ew3
  have lB1_w3 := B1.lt
  have lB2_w3 := B2.lt
  have lB3_w3 := B3.lt
  obtain ⟨w4, hww4⟩ : ∃ W, w3.alloc (.cells #[.bool false, .slice none 0 0, .bool false, .slice none 0 0] 40) = W := ⟨_, rfl⟩
  have ew4 : Ext w3 w4 := by rw [← hww4]; exact ea _ _
  have B4 : Cells w4 (w.heap.size + 1 + 1 + 1) 40 #[.bool false, .slice none 0 0, .bool false, .slice none 0 0] := by rw [← hww4]; exact Cells.newAt _ _ (by omega)
  replace B1 := B1.ext ew4
  replace B2 := B2.ext ew4
  replace B3 := B3.ext ew4
  have zw4 := alloc_lt hww4
  have hEw4 := eg hEw3 ew4
  have b1_0_w4 := B1.cell (k := 0) rfl
  have b1_1_w4 := B1.cell (k := 1) rfl
  have b1_2_w4 := B1.cell (k := 2) rfl
  have b2_0_w4 := B2.cell (k := 0) rfl
  have b2_1_w4 := B2.cell (k := 1) rfl
  have b3_0_w4 := B3.cell (k := 0) rfl
  have b3_1_w4 := B3.cell (k := 1) rfl
  have lB1_w4 := B1.lt
  have lB2_w4 := B2.lt
  have lB3_w4 := B3.lt
  have lB4_w4 := B4.lt
  go_enter Tryz.func21, Tryz.ntmps21
  go_wp2_with fail
  clear hww1
  clear hww2
  clear hww3
  clear hww4
  clear lB1_w1 lB1_w2 lB2_w2 lB1_w3 lB2_w3 lB3_w3
  have yw1 := Nat.le_of_eq zw1
  replace zw1 := Nat.le_of_eq zw1.symm
  have yw2 := Nat.le_of_eq zw2
  replace zw2 := Nat.le_of_eq zw2.symm
  have yw3 := Nat.le_of_eq zw3
  replace zw3 := Nat.le_of_eq zw3.symm
  have yw4 := Nat.le_of_eq zw4
  replace zw4 := Nat.le_of_eq zw4.symm
  refine (lpair T R e y e2 y2 n 63 _ cf63 (hT.ext hEw4) Hok.out Hok2.out Hn.out _ (fun A B w1 ha hb => have p := pal_ps hT Hok.out Hok2.out n.toNat; lEither1 A B _ _ w1 ha hb p.sx p.sy p.nx p.ny p.nm p.ei)).mono ?_
  intro ee w5 gg
  obtain ⟨Z14, rfl, hZ14, oZ14, ew5⟩ := Gv.fe gg
  replace B1 := B1.ext ew5
  replace B2 := B2.ext ew5
  replace B3 := B3.ext ew5
  replace B4 := B4.ext ew5
  have hEw5 := eg hEw4 ew5
  have zw5 := ew5.size
  replace oZ14 := oZ14.mono hEw4.size
  have b4_0_w5 := B4.cell (k := 0) rfl
  have fb4_0_w5 := B4.frozen 0
  have b4_1_w5 := B4.cell (k := 1) rfl
  have fb4_1_w5 := B4.frozen 1
  have b4_2_w5 := B4.cell (k := 2) rfl
  have fb4_2_w5 := B4.frozen 2
  have b4_3_w5 := B4.cell (k := 3) rfl
  have fb4_3_w5 := B4.frozen 3
  have lB1_w5 := B1.lt
  have lB2_w5 := B2.lt
  have lB3_w5 := B3.lt
  have lB4_w5 := B4.lt
  obtain ⟨w6, hww6⟩ : ∃ W, ((((w5).setCell ⟨w.heap.size + 1 + 1 + 1, 0, none⟩ (.bool Z14.N.b)).setCell ⟨w.heap.size + 1 + 1 + 1, 1, none⟩ (.slice Z14.N.p Z14.N.n Z14.N.c)).setCell ⟨w.heap.size + 1 + 1 + 1, 2, none⟩ (.bool Z14.D.b)).setCell ⟨w.heap.size + 1 + 1 + 1, 3, none⟩ (.slice Z14.D.p Z14.D.n Z14.D.c) = W := ⟨_, rfl⟩
  have nuw6 : NoU #[.bool false, .slice none 0 0, .bool false, .slice none 0 0] := by simp [NoU]
  replace hZ14 := FR.sets hZ14 B4 nuw6 0 [.bool Z14.N.b, .slice Z14.N.p Z14.N.n Z14.N.c, .bool Z14.D.b, .slice Z14.D.p Z14.D.n Z14.D.c]
  replace oZ14 := OF.sets oZ14 B4 (by decide) 0 [.bool Z14.N.b, .slice Z14.N.p Z14.N.n Z14.N.c, .bool Z14.D.b, .slice Z14.D.p Z14.D.n Z14.D.c]
  have hEw6 := Ext.sets hEw5 (b := w.heap.size + 1 + 1 + 1) (by omega) 0 [.bool Z14.N.b, .slice Z14.N.p Z14.N.n Z14.N.c, .bool Z14.D.b, .slice Z14.D.p Z14.D.n Z14.D.c]
  replace B1 := Cells.off B1 (b' := w.heap.size + 1 + 1 + 1) (by omega) 0 [.bool Z14.N.b, .slice Z14.N.p Z14.N.n Z14.N.c, .bool Z14.D.b, .slice Z14.D.p Z14.D.n Z14.D.c]
  replace B2 := Cells.off B2 (b' := w.heap.size + 1 + 1 + 1) (by omega) 0 [.bool Z14.N.b, .slice Z14.N.p Z14.N.n Z14.N.c, .bool Z14.D.b, .slice Z14.D.p Z14.D.n Z14.D.c]
  replace B3 := Cells.off B3 (b' := w.heap.size + 1 + 1 + 1) (by omega) 0 [.bool Z14.N.b, .slice Z14.N.p Z14.N.n Z14.N.c, .bool Z14.D.b, .slice Z14.D.p Z14.D.n Z14.D.c]
  replace B4 : Cells (sets w5 (w.heap.size + 1 + 1 + 1) 0 [.bool Z14.N.b, .slice Z14.N.p Z14.N.n Z14.N.c, .bool Z14.D.b, .slice Z14.D.p Z14.D.n Z14.D.c]) (w.heap.size + 1 + 1 + 1) 40 #[.bool Z14.N.b, .slice Z14.N.p Z14.N.n Z14.N.c, .bool Z14.D.b, .slice Z14.D.p Z14.D.n Z14.D.c] := Cells.sets [.bool Z14.N.b, .slice Z14.N.p Z14.N.n Z14.N.c, .bool Z14.D.b, .slice Z14.D.p Z14.D.n Z14.D.c] B4 0
  have zw6 := size_sets (w.heap.size + 1 + 1 + 1) [.bool Z14.N.b, .slice Z14.N.p Z14.N.n Z14.N.c, .bool Z14.D.b, .slice Z14.D.p Z14.D.n Z14.D.c] w5 0
  replace hww6 : sets w5 (w.heap.size + 1 + 1 + 1) 0 [.bool Z14.N.b, .slice Z14.N.p Z14.N.n Z14.N.c, .bool Z14.D.b, .slice Z14.D.p Z14.D.n Z14.D.c] = w6 := hww6
  rw [hww6] at hZ14 oZ14 B1 B2 B3 B4 hEw6 zw6
  replace hww6 : ((((w5).setCell ⟨w.heap.size + 1 + 1 + 1, 0, none⟩ (.bool Z14.N.b)).setCell ⟨w.heap.size + 1 + 1 + 1, 1, none⟩ (.slice Z14.N.p Z14.N.n Z14.N.c)).setCell ⟨w.heap.size + 1 + 1 + 1, 2, none⟩ (.bool Z14.D.b)).setCell ⟨w.heap.size + 1 + 1 + 1, 3, none⟩ (.slice Z14.D.p Z14.D.n Z14.D.c) = w6 := hww6
  have b4_0_w6 := B4.cell (k := 0) rfl
  have b4_1_w6 := B4.cell (k := 1) rfl
  have b4_2_w6 := B4.cell (k := 2) rfl
  have b4_3_w6 := B4.cell (k := 3) rfl
  have lB1_w6 := B1.lt
  have lB2_w6 := B2.lt
  have lB3_w6 := B3.lt
  have lB4_w6 := B4.lt
  go_wp2_with fail
  clear hww6
  clear b1_0_w4 b1_1_w4 b1_2_w4 b2_0_w4 b2_1_w4 b3_0_w4 b3_1_w4 b4_0_w5 fb4_0_w5 b4_1_w5 fb4_1_w5 b4_2_w5 fb4_2_w5 b4_3_w5 fb4_3_w5 lB1_w4 lB2_w4 lB3_w4 lB4_w4 lB1_w5 lB2_w5 lB3_w5 lB4_w5
  have yw6 := Nat.le_of_eq zw6
  replace zw6 := Nat.le_of_eq zw6.symm
  refine bodyPost_ret (v := .tuple #[.agg #[.bool Z14.N.b, .slice Z14.N.p Z14.N.n Z14.N.c, .bool Z14.D.b, .slice Z14.D.p Z14.D.n Z14.D.c], .int .i64 0]) (by simp [results, Tryz.results21, go_sem, b4_0_w6, b4_1_w6, b4_2_w6, b4_3_w6]) rfl ?_
  exact Gv.of_fe (X := Z14) (hZ14) (oZ14) hEw6

set_option maxRecDepth 100000 in
theorem lLeft (T : Tb) (R : Nat → Nat → Rat) (e y : Int) (e2 y2 : Int) (n : Int) (w : World) (hT : TQ w T R) (hok : okL T e y = true) (hok2 : okL T e2 y2 = true) (hn : 0 ≤ n) :
    Calls Tryz.prog 22 #[.agg #[.int .i64 T.first, .int .i64 T.sel, .slice T.P T.N T.C], .agg #[.int .i64 e, .int .i64 y], .agg #[.int .i64 e2, .int .i64 y2], .int .i64 n] w (Gv (.fe (leQ (lal T R e y n.toNat) (lal T R e2 y2 n.toNat)) 0) w) := by
  have Hok := Lib.hid hok
  have Hok2 := Lib.hid hok2
  have Hn := Lib.hid hn
  clear hok hok2 hn
  have hEw : Ext w w := Below.refl _ _
  obtain ⟨w1, hww1⟩ : ∃ W, w.alloc (.cells #[.int .i64 T.first, .int .i64 T.sel, .slice T.P T.N T.C] 24) = W := ⟨_, rfl⟩
  have ew1 : Ext w w1 := by rw [← hww1]; exact ea _ _
  have B1 : Cells w1 (w.heap.size) 24 #[.int .i64 T.first, .int .i64 T.sel, .slice T.P T.N T.C] := by rw [← hww1]; exact Cells.newAt _ _ (by omega)
  have zw1 := alloc_lt hww1
  have hEw1 := eg hEw ew1
  have lB1_w1 := B1.lt
  obtain ⟨w2, hww2⟩ : ∃ W, w1.alloc (.cells #[.int .i64 e, .int .i64 y] 26) = W := ⟨_, rfl⟩
  have ew2 : Ext w1 w2 := by rw [← hww2]; exact ea _ _
  have B2 : Cells w2 (w.heap.size + 1) 26 #[.int .i64 e, .int .i64 y] := by rw [← hww2]; exact Cells.newAt _ _ (by omega)
  replace B1 := B1.ext ew2
  have zw2 := alloc_lt hww2
  have hEw2 := eg hEw1 ew2
  have lB1_w2 := B1.lt
  have lB2_w2 := B2.lt
  obtain ⟨w3, hww3⟩ : ∃ W, w2.alloc (.cells #[.int .i64 e2, .int .i64 y2] 26) = W := ⟨_, rfl⟩
  have ew3 : Ext w2 w3 := by rw [← hww3]; exact ea _ _
  have B3 : Cells w3 (w.heap.size + 1 + 1) 26 #[.int .i64 e2, .int .i64 y2] := by rw [← hww3]; exact Cells.newAt _ _ (by omega)
  replace B1 := B1.ext ew3
  replace B2 := B2.ext ew3
  have zw3 := alloc_lt hww3
  have hEw3 := eg hEw2 ew3
  have lB1_w3 := B1.lt
  have lB2_w3 := B2.lt
  have lB3_w3 := B3.lt
  obtain ⟨w4, hww4⟩ : ∃ W, w3.alloc (.cells #[.bool false, .slice none 0 0, .bool false, .slice none 0 0] 40) = W := ⟨_, rfl⟩
  have ew4 : Ext w3 w4 := by rw [← hww4]; exact ea _ _
  have B4 : Cells w4 (w.heap.size + 1 + 1 + 1) 40 #[.bool false, .slice none 0 0, .bool false, .slice none 0 0] := by rw [← hww4]; exact Cells.newAt _ _ (by omega)
  replace B1 := B1.ext ew4
  replace B2 := B2.ext ew4
  replace B3 := B3.ext ew4
  have zw4 := alloc_lt hww4
  have hEw4 := eg hEw3 ew4
  have b1_0_w4 := B1.cell (k := 0) rfl
  have b1_1_w4 := B1.cell (k := 1) rfl
  have b1_2_w4 := B1.cell (k := 2) rfl
  have b2_0_w4 := B2.cell (k := 0) rfl
  have b2_1_w4 := B2.cell (k := 1) rfl
  have b3_0_w4 := B3.cell (k := 0) rfl
  have b3_1_w4 := B3.cell (k := 1) rfl
  have lB1_w4 := B1.lt
  have lB2_w4 := B2.lt
  have lB3_w4 := B3.lt
  have lB4_w4 := B4.lt
  go_enter Tryz.func22, Tryz.ntmps22
  go_wp2_with fail
  clear hww1
  clear hww2
  clear hww3
  clear hww4
  clear lB1_w1 lB1_w2 lB2_w2 lB1_w3 lB2_w3 lB3_w3
  have yw1 := Nat.le_of_eq zw1
  replace zw1 := Nat.le_of_eq zw1.symm
  have yw2 := Nat.le_of_eq zw2
  replace zw2 := Nat.le_of_eq zw2.symm
  have yw3 := Nat.le_of_eq zw3
  replace zw3 := Nat.le_of_eq zw3.symm
  have yw4 := Nat.le_of_eq zw4
  replace zw4 := Nat.le_of_eq zw4.symm
  refine (lpair T R e y e2 y2 n 64 _ cf64 (hT.ext hEw4) Hok.out Hok2.out Hn.out _ (fun A B w1 ha hb => have p := pal_ps hT Hok.out Hok2.out n.toNat; lLeft1 A B _ _ w1 ha hb p.sx p.sy p.nx p.le)).mono ?_
  intro ee w5 gg
  obtain ⟨Z14, rfl, hZ14, oZ14, ew5⟩ := Gv.fe gg
  replace B1 := B1.ext ew5
  replace B2 := B2.ext ew5
  replace B3 := B3.ext ew5
  replace B4 := B4.ext ew5
  have hEw5 := eg hEw4 ew5
  have zw5 := ew5.size
  replace oZ14 := oZ14.mono hEw4.size
  have b4_0_w5 := B4.cell (k := 0) rfl
  have fb4_0_w5 := B4.frozen 0
  have b4_1_w5 := B4.cell (k := 1) rfl
  have fb4_1_w5 := B4.frozen 1
  have b4_2_w5 := B4.cell (k := 2) rfl
  have fb4_2_w5 := B4.frozen 2
  have b4_3_w5 := B4.cell (k := 3) rfl
  have fb4_3_w5 := B4.frozen 3
  have lB1_w5 := B1.lt
  have lB2_w5 := B2.lt
  have lB3_w5 := B3.lt
  have lB4_w5 := B4.lt
  obtain ⟨w6, hww6⟩ : ∃ W, ((((w5).setCell ⟨w.heap.size + 1 + 1 + 1, 0, none⟩ (.bool Z14.N.b)).setCell ⟨w.heap.size + 1 + 1 + 1, 1, none⟩ (.slice Z14.N.p Z14.N.n Z14.N.c)).setCell ⟨w.heap.size + 1 + 1 + 1, 2, none⟩ (.bool Z14.D.b)).setCell ⟨w.heap.size + 1 + 1 + 1, 3, none⟩ (.slice Z14.D.p Z14.D.n Z14.D.c) = W := ⟨_, rfl⟩
  have nuw6 : NoU #[.bool false, .slice none 0 0, .bool false, .slice none 0 0] := by simp [NoU]
  replace hZ14 := FR.sets hZ14 B4 nuw6 0 [.bool Z14.N.b, .slice Z14.N.p Z14.N.n Z14.N.c, .bool Z14.D.b, .slice Z14.D.p Z14.D.n Z14.D.c]
  replace oZ14 := OF.sets oZ14 B4 (by decide) 0 [.bool Z14.N.b, .slice Z14.N.p Z14.N.n Z14.N.c, .bool Z14.D.b, .slice Z14.D.p Z14.D.n Z14.D.c]
  have hEw6 := Ext.sets hEw5 (b := w.heap.size + 1 + 1 + 1) (by omega) 0 [.bool Z14.N.b, .slice Z14.N.p Z14.N.n Z14.N.c, .bool Z14.D.b, .slice Z14.D.p Z14.D.n Z14.D.c]
  replace B1 := Cells.off B1 (b' := w.heap.size + 1 + 1 + 1) (by omega) 0 [.bool Z14.N.b, .slice Z14.N.p Z14.N.n Z14.N.c, .bool Z14.D.b, .slice Z14.D.p Z14.D.n Z14.D.c]
  replace B2 := Cells.off B2 (b' := w.heap.size + 1 + 1 + 1) (by omega) 0 [.bool Z14.N.b, .slice Z14.N.p Z14.N.n Z14.N.c, .bool Z14.D.b, .slice Z14.D.p Z14.D.n Z14.D.c]
  replace B3 := Cells.off B3 (b' := w.heap.size + 1 + 1 + 1) (by omega) 0 [.bool Z14.N.b, .slice Z14.N.p Z14.N.n Z14.N.c, .bool Z14.D.b, .slice Z14.D.p Z14.D.n Z14.D.c]
  replace B4 : Cells (sets w5 (w.heap.size + 1 + 1 + 1) 0 [.bool Z14.N.b, .slice Z14.N.p Z14.N.n Z14.N.c, .bool Z14.D.b, .slice Z14.D.p Z14.D.n Z14.D.c]) (w.heap.size + 1 + 1 + 1) 40 #[.bool Z14.N.b, .slice Z14.N.p Z14.N.n Z14.N.c, .bool Z14.D.b, .slice Z14.D.p Z14.D.n Z14.D.c] := Cells.sets [.bool Z14.N.b, .slice Z14.N.p Z14.N.n Z14.N.c, .bool Z14.D.b, .slice Z14.D.p Z14.D.n Z14.D.c] B4 0
  have zw6 := size_sets (w.heap.size + 1 + 1 + 1) [.bool Z14.N.b, .slice Z14.N.p Z14.N.n Z14.N.c, .bool Z14.D.b, .slice Z14.D.p Z14.D.n Z14.D.c] w5 0
  replace hww6 : sets w5 (w.heap.size + 1 + 1 + 1) 0 [.bool Z14.N.b, .slice Z14.N.p Z14.N.n Z14.N.c, .bool Z14.D.b, .slice Z14.D.p Z14.D.n Z14.D.c] = w6 := hww6
  rw [hww6] at hZ14 oZ14 B1 B2 B3 B4 hEw6 zw6
  replace hww6 : ((((w5).setCell ⟨w.heap.size + 1 + 1 + 1, 0, none⟩ (.bool Z14.N.b)).setCell ⟨w.heap.size + 1 + 1 + 1, 1, none⟩ (.slice Z14.N.p Z14.N.n Z14.N.c)).setCell ⟨w.heap.size + 1 + 1 + 1, 2, none⟩ (.bool Z14.D.b)).setCell ⟨w.heap.size + 1 + 1 + 1, 3, none⟩ (.slice Z14.D.p Z14.D.n Z14.D.c) = w6 := hww6
  have b4_0_w6 := B4.cell (k := 0) rfl
  have b4_1_w6 := B4.cell (k := 1) rfl
  have b4_2_w6 := B4.cell (k := 2) rfl
  have b4_3_w6 := B4.cell (k := 3) rfl
  have lB1_w6 := B1.lt
  have lB2_w6 := B2.lt
  have lB3_w6 := B3.lt
  have lB4_w6 := B4.lt
  go_wp2_with fail
  clear hww6
  clear b1_0_w4 b1_1_w4 b1_2_w4 b2_0_w4 b2_1_w4 b3_0_w4 b3_1_w4 b4_0_w5 fb4_0_w5 b4_1_w5 fb4_1_w5 b4_2_w5 fb4_2_w5 b4_3_w5 fb4_3_w5 lB1_w4 lB2_w4 lB3_w4 lB4_w4 lB1_w5 lB2_w5 lB3_w5 lB4_w5
  have yw6 := Nat.le_of_eq zw6
  replace zw6 := Nat.le_of_eq zw6.symm
  refine bodyPost_ret (v := .tuple #[.agg #[.bool Z14.N.b, .slice Z14.N.p Z14.N.n Z14.N.c, .bool Z14.D.b, .slice Z14.D.p Z14.D.n Z14.D.c], .int .i64 0]) (by simp [results, Tryz.results22, go_sem, b4_0_w6, b4_1_w6, b4_2_w6, b4_3_w6]) rfl ?_
  exact Gv.of_fe (X := Z14) (hZ14) (oZ14) hEw6
end Go.Proofs.YtndgaecfeaedeaaGreat
