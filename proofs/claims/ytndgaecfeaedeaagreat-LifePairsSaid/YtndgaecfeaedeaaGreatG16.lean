/- Walks of package frac: Add, Sub, Mul, Cmp. Walks of the document's answer on fractions: Same, one. -/
import Derived.Test.YtndgaecfeaedeaaGreatG15
namespace Go.Proofs.YtndgaecfeaedeaaGreat
set_option linter.unusedSimpArgs false
set_option linter.unusedVariables false
open Go.RowKit Lex Mth
attribute [local go_sem] run_indexAt_at add_zero_map Oper.semAt_some at_zero

theorem nle {w : World} {X : Fr} {q : Rat} (h : FR w X q) (s : Sz q) : X.N.n ≤ 256 := by rw [h.1.n]; exact s.1
theorem dle {w : World} {X : Fr} {q : Rat} (h : FR w X q) (s : Sz q) : X.D.n ≤ 256 := by
  rw [h.2.n, Int.natAbs_natCast]; exact s.2
theorem sp5 {a b : Int} (ha : siz a.natAbs ≤ 256) (hb : siz b.natAbs ≤ 256) : siz a.natAbs + siz b.natAbs ≤ 1024 := by omega
theorem sp6 {a b : Int} (ha : siz a.natAbs ≤ 256) (hb : siz b.natAbs ≤ 256) : siz (a * b).natAbs ≤ 1024 := by have := siz_imul a b; omega
/-- How two fractions compare. -/
def cmpQ (x y : Rat) : Int := cmpZ (x.num * y.den) (y.num * x.den)
theorem neg_sz {q : Rat} (h : Sz q) : Sz (-q) := ⟨by show siz (-q.num).natAbs ≤ 256; rw [Int.natAbs_neg]; exact h.1, h.2⟩
theorem add_neg' (x y : Rat) : x + -y = x - y := (Rat.sub_eq_add_neg x y).symm

set_option maxRecDepth 100000 in
theorem fAdd (X : Fr) (Y : Fr) (x : Rat) (y : Rat) (w : World) (hX : FR w X x) (hY : FR w Y y) (bx : Sz x) (by_ : Sz y) (bz : Sz (x + y)) :
    Calls Tryz.prog 71 #[.agg #[.bool X.N.b, .slice X.N.p X.N.n X.N.c, .bool X.D.b, .slice X.D.p X.D.n X.D.c], .agg #[.bool Y.N.b, .slice Y.N.p Y.N.n Y.N.c, .bool Y.D.b, .slice Y.D.p Y.D.n Y.D.c]] w (Gv (.fe (x + y) 0) w) := by
  have hEw : Ext w w := Below.refl _ _
  obtain ⟨w1, hww1⟩ : ∃ W, w.alloc (.cells #[.bool X.N.b, .slice X.N.p X.N.n X.N.c, .bool X.D.b, .slice X.D.p X.D.n X.D.c] 40) = W := ⟨_, rfl⟩
  have ew1 : Ext w w1 := by rw [← hww1]; exact ea _ _
  have B1 : Cells w1 (w.heap.size) 40 #[.bool X.N.b, .slice X.N.p X.N.n X.N.c, .bool X.D.b, .slice X.D.p X.D.n X.D.c] := by rw [← hww1]; exact Cells.newAt _ _ (by omega)
  replace hX := hX.ext ew1
  replace hY := hY.ext ew1
  have zw1 := alloc_lt hww1
  have hEw1 := eg hEw ew1
  have lB1_w1 := B1.lt
  obtain ⟨w2, hww2⟩ : ∃ W, w1.alloc (.cells #[.bool Y.N.b, .slice Y.N.p Y.N.n Y.N.c, .bool Y.D.b, .slice Y.D.p Y.D.n Y.D.c] 40) = W := ⟨_, rfl⟩
  have ew2 : Ext w1 w2 := by rw [← hww2]; exact ea _ _
  have B2 : Cells w2 (w.heap.size + 1) 40 #[.bool Y.N.b, .slice Y.N.p Y.N.n Y.N.c, .bool Y.D.b, .slice Y.D.p Y.D.n Y.D.c] := by rw [← hww2]; exact Cells.newAt _ _ (by omega)
  replace hX := hX.ext ew2
  replace hY := hY.ext ew2
  replace B1 := B1.ext ew2
  have zw2 := alloc_lt hww2
  have hEw2 := eg hEw1 ew2
  have lB1_w2 := B1.lt
  have lB2_w2 := B2.lt
  obtain ⟨w3, hww3⟩ : ∃ W, w2.alloc (.cells #[.bool false, .slice none 0 0, .bool false, .slice none 0 0] 40) = W := ⟨_, rfl⟩
  have ew3 : Ext w2 w3 := by rw [← hww3]; exact ea _ _
  have B3 : Cells w3 (w.heap.size + 1 + 1) 40 #[.bool false, .slice none 0 0, .bool false, .slice none 0 0] := by rw [← hww3]; exact Cells.newAt _ _ (by omega)
  replace hX := hX.ext ew3
  replace hY := hY.ext ew3
  replace B1 := B1.ext ew3
  replace B2 := B2.ext ew3
  have zw3 := alloc_lt hww3
  have hEw3 := eg hEw2 ew3
  have b1_0_w3 := B1.cell (k := 0) rfl
  have b1_1_w3 := B1.cell (k := 1) rfl
  have b1_2_w3 := B1.cell (k := 2) rfl
  have b1_3_w3 := B1.cell (k := 3) rfl
  have b2_0_w3 := B2.cell (k := 0) rfl
  have b2_1_w3 := B2.cell (k := 1) rfl
  have b2_2_w3 := B2.cell (k := 2) rfl
  have b2_3_w3 := B2.cell (k := 3) rfl
  have lB1_w3 := B1.lt
  have lB2_w3 := B2.lt
  have lB3_w3 := B3.lt
  obtain ⟨w4, hww4⟩ : ∃ W, w3.alloc (.cells #[.bool X.N.b, .slice X.N.p X.N.n X.N.c, .bool X.D.b, .slice X.D.p X.D.n X.D.c, .bool Y.N.b, .slice Y.N.p Y.N.n Y.N.c, .bool Y.D.b, .slice Y.D.p Y.D.n Y.D.c] 40) = W := ⟨_, rfl⟩
  have ew4 : Ext w3 w4 := by rw [← hww4]; exact ea _ _
  have B4 : Cells w4 (w.heap.size + 1 + 1 + 1) 40 #[.bool X.N.b, .slice X.N.p X.N.n X.N.c, .bool X.D.b, .slice X.D.p X.D.n X.D.c, .bool Y.N.b, .slice Y.N.p Y.N.n Y.N.c, .bool Y.D.b, .slice Y.D.p Y.D.n Y.D.c] := by rw [← hww4]; exact Cells.newAt _ _ (by omega)
  replace hX := hX.ext ew4
  replace hY := hY.ext ew4
  replace B1 := B1.ext ew4
  replace B2 := B2.ext ew4
  replace B3 := B3.ext ew4
  have zw4 := alloc_lt hww4
  have hEw4 := eg hEw3 ew4
  have lB1_w4 := B1.lt
  have lB2_w4 := B2.lt
  have lB3_w4 := B3.lt
  have lB4_w4 := B4.lt
  go_enter Tryz.func71, Tryz.ntmps71
  go_wp2_with fail
  clear hww1
  clear hww2
  clear hww3
  clear hww4
  clear b1_0_w3 b1_1_w3 b1_2_w3 b1_3_w3 b2_0_w3 b2_1_w3 b2_2_w3 b2_3_w3 lB1_w1 lB1_w2 lB2_w2 lB1_w3 lB2_w3 lB3_w3
  have yw1 := Nat.le_of_eq zw1
  replace zw1 := Nat.le_of_eq zw1.symm
  have yw2 := Nat.le_of_eq zw2
  replace zw2 := Nat.le_of_eq zw2.symm
  have yw3 := Nat.le_of_eq zw3
  replace zw3 := Nat.le_of_eq zw3.symm
  have yw4 := Nat.le_of_eq zw4
  replace zw4 := Nat.le_of_eq zw4.symm
  refine (fvalid2 _ X Y _ _ _ B4 hX hY bx by_).mono ?_
  intro ee w5 gg
  obtain ⟨rfl, ew5⟩ := Gv.v gg
  replace hX := hX.ext ew5
  replace hY := hY.ext ew5
  replace B1 := B1.ext ew5
  replace B2 := B2.ext ew5
  replace B3 := B3.ext ew5
  replace B4 := B4.ext ew5
  have hEw5 := eg hEw4 ew5
  have zw5 := ew5.size
  have b1_0_w5 := B1.cell (k := 0) rfl
  have b1_1_w5 := B1.cell (k := 1) rfl
  have b1_2_w5 := B1.cell (k := 2) rfl
  have b1_3_w5 := B1.cell (k := 3) rfl
  have b2_0_w5 := B2.cell (k := 0) rfl
  have b2_1_w5 := B2.cell (k := 1) rfl
  have b2_2_w5 := B2.cell (k := 2) rfl
  have b2_3_w5 := B2.cell (k := 3) rfl
  have lB1_w5 := B1.lt
  have lB2_w5 := B2.lt
  have lB3_w5 := B3.lt
  have lB4_w5 := B4.lt
  go_wp2_with fail
  clear lB1_w4 lB2_w4 lB3_w4 lB4_w4
  refine (fplus X Y _ _ _ (hX) (hY) (bx) (by_)).mono ?_
  intro ee w6 gg
  obtain ⟨Z16, rfl, hZ16, oZ16, ew6⟩ := Gv.f gg
  replace hX := hX.ext ew6
  replace hY := hY.ext ew6
  replace B1 := B1.ext ew6
  replace B2 := B2.ext ew6
  replace B3 := B3.ext ew6
  replace B4 := B4.ext ew6
  have hEw6 := eg hEw5 ew6
  have zw6 := ew6.size
  replace oZ16 := oZ16.mono hEw5.size
  have lB1_w6 := B1.lt
  have lB2_w6 := B2.lt
  have lB3_w6 := B3.lt
  have lB4_w6 := B4.lt
  go_wp2_with fail
  clear b1_0_w5 b1_1_w5 b1_2_w5 b1_3_w5 b2_0_w5 b2_1_w5 b2_2_w5 b2_3_w5 lB1_w5 lB2_w5 lB3_w5 lB4_w5
  refine (told_t Z16 _ (nle (hZ16) bz) (dle (hZ16) bz)).mono ?_
  intro ee w7 gg
  obtain ⟨rfl, ew7⟩ := Gv.v gg
  replace hX := hX.ext ew7
  replace hY := hY.ext ew7
  replace hZ16 := hZ16.ext ew7
  replace oZ16 := oZ16.ext ew7
  replace B1 := B1.ext ew7
  replace B2 := B2.ext ew7
  replace B3 := B3.ext ew7
  replace B4 := B4.ext ew7
  have hEw7 := eg hEw6 ew7
  have zw7 := ew7.size
  have b3_0_w7 := B3.cell (k := 0) rfl
  have fb3_0_w7 := B3.frozen 0
  have b3_1_w7 := B3.cell (k := 1) rfl
  have fb3_1_w7 := B3.frozen 1
  have b3_2_w7 := B3.cell (k := 2) rfl
  have fb3_2_w7 := B3.frozen 2
  have b3_3_w7 := B3.cell (k := 3) rfl
  have fb3_3_w7 := B3.frozen 3
  have lB1_w7 := B1.lt
  have lB2_w7 := B2.lt
  have lB3_w7 := B3.lt
  have lB4_w7 := B4.lt
  obtain ⟨w8, hww8⟩ : ∃ W, ((((w7).setCell ⟨w.heap.size + 1 + 1, 0, none⟩ (.bool Z16.N.b)).setCell ⟨w.heap.size + 1 + 1, 1, none⟩ (.slice Z16.N.p Z16.N.n Z16.N.c)).setCell ⟨w.heap.size + 1 + 1, 2, none⟩ (.bool Z16.D.b)).setCell ⟨w.heap.size + 1 + 1, 3, none⟩ (.slice Z16.D.p Z16.D.n Z16.D.c) = W := ⟨_, rfl⟩
  have nuw8 : NoU #[.bool false, .slice none 0 0, .bool false, .slice none 0 0] := by simp [NoU]
  replace hX := FR.sets hX B3 nuw8 0 [.bool Z16.N.b, .slice Z16.N.p Z16.N.n Z16.N.c, .bool Z16.D.b, .slice Z16.D.p Z16.D.n Z16.D.c]
  replace hY := FR.sets hY B3 nuw8 0 [.bool Z16.N.b, .slice Z16.N.p Z16.N.n Z16.N.c, .bool Z16.D.b, .slice Z16.D.p Z16.D.n Z16.D.c]
  replace hZ16 := FR.sets hZ16 B3 nuw8 0 [.bool Z16.N.b, .slice Z16.N.p Z16.N.n Z16.N.c, .bool Z16.D.b, .slice Z16.D.p Z16.D.n Z16.D.c]
  replace oZ16 := OF.sets oZ16 B3 (by decide) 0 [.bool Z16.N.b, .slice Z16.N.p Z16.N.n Z16.N.c, .bool Z16.D.b, .slice Z16.D.p Z16.D.n Z16.D.c]
  have hEw8 := Ext.sets hEw7 (b := w.heap.size + 1 + 1) (by omega) 0 [.bool Z16.N.b, .slice Z16.N.p Z16.N.n Z16.N.c, .bool Z16.D.b, .slice Z16.D.p Z16.D.n Z16.D.c]
  replace B1 := Cells.off B1 (b' := w.heap.size + 1 + 1) (by omega) 0 [.bool Z16.N.b, .slice Z16.N.p Z16.N.n Z16.N.c, .bool Z16.D.b, .slice Z16.D.p Z16.D.n Z16.D.c]
  replace B2 := Cells.off B2 (b' := w.heap.size + 1 + 1) (by omega) 0 [.bool Z16.N.b, .slice Z16.N.p Z16.N.n Z16.N.c, .bool Z16.D.b, .slice Z16.D.p Z16.D.n Z16.D.c]
  replace B4 := Cells.off B4 (b' := w.heap.size + 1 + 1) (by omega) 0 [.bool Z16.N.b, .slice Z16.N.p Z16.N.n Z16.N.c, .bool Z16.D.b, .slice Z16.D.p Z16.D.n Z16.D.c]
  replace B3 : Cells (sets w7 (w.heap.size + 1 + 1) 0 [.bool Z16.N.b, .slice Z16.N.p Z16.N.n Z16.N.c, .bool Z16.D.b, .slice Z16.D.p Z16.D.n Z16.D.c]) (w.heap.size + 1 + 1) 40 #[.bool Z16.N.b, .slice Z16.N.p Z16.N.n Z16.N.c, .bool Z16.D.b, .slice Z16.D.p Z16.D.n Z16.D.c] := Cells.sets [.bool Z16.N.b, .slice Z16.N.p Z16.N.n Z16.N.c, .bool Z16.D.b, .slice Z16.D.p Z16.D.n Z16.D.c] B3 0
  have zw8 := size_sets (w.heap.size + 1 + 1) [.bool Z16.N.b, .slice Z16.N.p Z16.N.n Z16.N.c, .bool Z16.D.b, .slice Z16.D.p Z16.D.n Z16.D.c] w7 0
  replace hww8 : sets w7 (w.heap.size + 1 + 1) 0 [.bool Z16.N.b, .slice Z16.N.p Z16.N.n Z16.N.c, .bool Z16.D.b, .slice Z16.D.p Z16.D.n Z16.D.c] = w8 := hww8
  rw [hww8] at hX hY hZ16 oZ16 B1 B2 B3 B4 hEw8 zw8
  replace hww8 : ((((w7).setCell ⟨w.heap.size + 1 + 1, 0, none⟩ (.bool Z16.N.b)).setCell ⟨w.heap.size + 1 + 1, 1, none⟩ (.slice Z16.N.p Z16.N.n Z16.N.c)).setCell ⟨w.heap.size + 1 + 1, 2, none⟩ (.bool Z16.D.b)).setCell ⟨w.heap.size + 1 + 1, 3, none⟩ (.slice Z16.D.p Z16.D.n Z16.D.c) = w8 := hww8
  have b3_0_w8 := B3.cell (k := 0) rfl
  have b3_1_w8 := B3.cell (k := 1) rfl
  have b3_2_w8 := B3.cell (k := 2) rfl
  have b3_3_w8 := B3.cell (k := 3) rfl
  have lB1_w8 := B1.lt
  have lB2_w8 := B2.lt
  have lB3_w8 := B3.lt
  have lB4_w8 := B4.lt
  go_wp2_with fail
  clear hww8
  clear b3_0_w7 fb3_0_w7 b3_1_w7 fb3_1_w7 b3_2_w7 fb3_2_w7 b3_3_w7 fb3_3_w7 lB1_w6 lB2_w6 lB3_w6 lB4_w6 lB1_w7 lB2_w7 lB3_w7 lB4_w7
  have yw8 := Nat.le_of_eq zw8
  replace zw8 := Nat.le_of_eq zw8.symm
  refine bodyPost_ret (v := .tuple #[.agg #[.bool Z16.N.b, .slice Z16.N.p Z16.N.n Z16.N.c, .bool Z16.D.b, .slice Z16.D.p Z16.D.n Z16.D.c], .int .i64 0]) (by simp [results, Tryz.results71, go_sem, b3_0_w8, b3_1_w8, b3_2_w8, b3_3_w8]) rfl ?_
  exact Gv.of_fe (X := Z16) (hZ16) (oZ16) hEw8

set_option maxRecDepth 100000 in
theorem fMul (X : Fr) (Y : Fr) (x : Rat) (y : Rat) (w : World) (hX : FR w X x) (hY : FR w Y y) (bx : Sz x) (by_ : Sz y) (bz : Sz (x * y)) :
    Calls Tryz.prog 73 #[.agg #[.bool X.N.b, .slice X.N.p X.N.n X.N.c, .bool X.D.b, .slice X.D.p X.D.n X.D.c], .agg #[.bool Y.N.b, .slice Y.N.p Y.N.n Y.N.c, .bool Y.D.b, .slice Y.D.p Y.D.n Y.D.c]] w (Gv (.fe (x * y) 0) w) := by
  have hEw : Ext w w := Below.refl _ _
  obtain ⟨w1, hww1⟩ : ∃ W, w.alloc (.cells #[.bool X.N.b, .slice X.N.p X.N.n X.N.c, .bool X.D.b, .slice X.D.p X.D.n X.D.c] 40) = W := ⟨_, rfl⟩
  have ew1 : Ext w w1 := by rw [← hww1]; exact ea _ _
  have B1 : Cells w1 (w.heap.size) 40 #[.bool X.N.b, .slice X.N.p X.N.n X.N.c, .bool X.D.b, .slice X.D.p X.D.n X.D.c] := by rw [← hww1]; exact Cells.newAt _ _ (by omega)
  replace hX := hX.ext ew1
  replace hY := hY.ext ew1
  have zw1 := alloc_lt hww1
  have hEw1 := eg hEw ew1
  have lB1_w1 := B1.lt
  obtain ⟨w2, hww2⟩ : ∃ W, w1.alloc (.cells #[.bool Y.N.b, .slice Y.N.p Y.N.n Y.N.c, .bool Y.D.b, .slice Y.D.p Y.D.n Y.D.c] 40) = W := ⟨_, rfl⟩
  have ew2 : Ext w1 w2 := by rw [← hww2]; exact ea _ _
  have B2 : Cells w2 (w.heap.size + 1) 40 #[.bool Y.N.b, .slice Y.N.p Y.N.n Y.N.c, .bool Y.D.b, .slice Y.D.p Y.D.n Y.D.c] := by rw [← hww2]; exact Cells.newAt _ _ (by omega)
  replace hX := hX.ext ew2
  replace hY := hY.ext ew2
  replace B1 := B1.ext ew2
  have zw2 := alloc_lt hww2
  have hEw2 := eg hEw1 ew2
  have lB1_w2 := B1.lt
  have lB2_w2 := B2.lt
  obtain ⟨w3, hww3⟩ : ∃ W, w2.alloc (.cells #[.bool false, .slice none 0 0, .bool false, .slice none 0 0] 40) = W := ⟨_, rfl⟩
  have ew3 : Ext w2 w3 := by rw [← hww3]; exact ea _ _
  have B3 : Cells w3 (w.heap.size + 1 + 1) 40 #[.bool false, .slice none 0 0, .bool false, .slice none 0 0] := by rw [← hww3]; exact Cells.newAt _ _ (by omega)
  replace hX := hX.ext ew3
  replace hY := hY.ext ew3
  replace B1 := B1.ext ew3
  replace B2 := B2.ext ew3
  have zw3 := alloc_lt hww3
  have hEw3 := eg hEw2 ew3
  have b1_0_w3 := B1.cell (k := 0) rfl
  have b1_1_w3 := B1.cell (k := 1) rfl
  have b1_2_w3 := B1.cell (k := 2) rfl
  have b1_3_w3 := B1.cell (k := 3) rfl
  have b2_0_w3 := B2.cell (k := 0) rfl
  have b2_1_w3 := B2.cell (k := 1) rfl
  have b2_2_w3 := B2.cell (k := 2) rfl
  have b2_3_w3 := B2.cell (k := 3) rfl
  have lB1_w3 := B1.lt
  have lB2_w3 := B2.lt
  have lB3_w3 := B3.lt
  obtain ⟨w4, hww4⟩ : ∃ W, w3.alloc (.cells #[.bool X.N.b, .slice X.N.p X.N.n X.N.c, .bool X.D.b, .slice X.D.p X.D.n X.D.c, .bool Y.N.b, .slice Y.N.p Y.N.n Y.N.c, .bool Y.D.b, .slice Y.D.p Y.D.n Y.D.c] 40) = W := ⟨_, rfl⟩
  have ew4 : Ext w3 w4 := by rw [← hww4]; exact ea _ _
  have B4 : Cells w4 (w.heap.size + 1 + 1 + 1) 40 #[.bool X.N.b, .slice X.N.p X.N.n X.N.c, .bool X.D.b, .slice X.D.p X.D.n X.D.c, .bool Y.N.b, .slice Y.N.p Y.N.n Y.N.c, .bool Y.D.b, .slice Y.D.p Y.D.n Y.D.c] := by rw [← hww4]; exact Cells.newAt _ _ (by omega)
  replace hX := hX.ext ew4
  replace hY := hY.ext ew4
  replace B1 := B1.ext ew4
  replace B2 := B2.ext ew4
  replace B3 := B3.ext ew4
  have zw4 := alloc_lt hww4
  have hEw4 := eg hEw3 ew4
  have lB1_w4 := B1.lt
  have lB2_w4 := B2.lt
  have lB3_w4 := B3.lt
  have lB4_w4 := B4.lt
  go_enter Tryz.func73, Tryz.ntmps73
  go_wp2_with fail
  clear hww1
  clear hww2
  clear hww3
  clear hww4
  clear b1_0_w3 b1_1_w3 b1_2_w3 b1_3_w3 b2_0_w3 b2_1_w3 b2_2_w3 b2_3_w3 lB1_w1 lB1_w2 lB2_w2 lB1_w3 lB2_w3 lB3_w3
  have yw1 := Nat.le_of_eq zw1
  replace zw1 := Nat.le_of_eq zw1.symm
  have yw2 := Nat.le_of_eq zw2
  replace zw2 := Nat.le_of_eq zw2.symm
  have yw3 := Nat.le_of_eq zw3
  replace zw3 := Nat.le_of_eq zw3.symm
  have yw4 := Nat.le_of_eq zw4
  replace zw4 := Nat.le_of_eq zw4.symm
  refine (fvalid2 _ X Y _ _ _ B4 hX hY bx by_).mono ?_
  intro ee w5 gg
  obtain ⟨rfl, ew5⟩ := Gv.v gg
  replace hX := hX.ext ew5
  replace hY := hY.ext ew5
  replace B1 := B1.ext ew5
  replace B2 := B2.ext ew5
  replace B3 := B3.ext ew5
  replace B4 := B4.ext ew5
  have hEw5 := eg hEw4 ew5
  have zw5 := ew5.size
  have b1_0_w5 := B1.cell (k := 0) rfl
  have b1_1_w5 := B1.cell (k := 1) rfl
  have b1_2_w5 := B1.cell (k := 2) rfl
  have b1_3_w5 := B1.cell (k := 3) rfl
  have b2_0_w5 := B2.cell (k := 0) rfl
  have b2_1_w5 := B2.cell (k := 1) rfl
  have b2_2_w5 := B2.cell (k := 2) rfl
  have b2_3_w5 := B2.cell (k := 3) rfl
  have lB1_w5 := B1.lt
  have lB2_w5 := B2.lt
  have lB3_w5 := B3.lt
  have lB4_w5 := B4.lt
  go_wp2_with fail
  clear lB1_w4 lB2_w4 lB3_w4 lB4_w4
  refine (ftimes X Y _ _ _ (hX) (hY) (bx) (by_)).mono ?_
  intro ee w6 gg
  obtain ⟨Z16, rfl, hZ16, oZ16, ew6⟩ := Gv.f gg
  replace hX := hX.ext ew6
  replace hY := hY.ext ew6
  replace B1 := B1.ext ew6
  replace B2 := B2.ext ew6
  replace B3 := B3.ext ew6
  replace B4 := B4.ext ew6
  have hEw6 := eg hEw5 ew6
  have zw6 := ew6.size
  replace oZ16 := oZ16.mono hEw5.size
  have lB1_w6 := B1.lt
  have lB2_w6 := B2.lt
  have lB3_w6 := B3.lt
  have lB4_w6 := B4.lt
  go_wp2_with fail
  clear b1_0_w5 b1_1_w5 b1_2_w5 b1_3_w5 b2_0_w5 b2_1_w5 b2_2_w5 b2_3_w5 lB1_w5 lB2_w5 lB3_w5 lB4_w5
  refine (told_t Z16 _ (nle (hZ16) bz) (dle (hZ16) bz)).mono ?_
  intro ee w7 gg
  obtain ⟨rfl, ew7⟩ := Gv.v gg
  replace hX := hX.ext ew7
  replace hY := hY.ext ew7
  replace hZ16 := hZ16.ext ew7
  replace oZ16 := oZ16.ext ew7
  replace B1 := B1.ext ew7
  replace B2 := B2.ext ew7
  replace B3 := B3.ext ew7
  replace B4 := B4.ext ew7
  have hEw7 := eg hEw6 ew7
  have zw7 := ew7.size
  have b3_0_w7 := B3.cell (k := 0) rfl
  have fb3_0_w7 := B3.frozen 0
  have b3_1_w7 := B3.cell (k := 1) rfl
  have fb3_1_w7 := B3.frozen 1
  have b3_2_w7 := B3.cell (k := 2) rfl
  have fb3_2_w7 := B3.frozen 2
  have b3_3_w7 := B3.cell (k := 3) rfl
  have fb3_3_w7 := B3.frozen 3
  have lB1_w7 := B1.lt
  have lB2_w7 := B2.lt
  have lB3_w7 := B3.lt
  have lB4_w7 := B4.lt
  obtain ⟨w8, hww8⟩ : ∃ W, ((((w7).setCell ⟨w.heap.size + 1 + 1, 0, none⟩ (.bool Z16.N.b)).setCell ⟨w.heap.size + 1 + 1, 1, none⟩ (.slice Z16.N.p Z16.N.n Z16.N.c)).setCell ⟨w.heap.size + 1 + 1, 2, none⟩ (.bool Z16.D.b)).setCell ⟨w.heap.size + 1 + 1, 3, none⟩ (.slice Z16.D.p Z16.D.n Z16.D.c) = W := ⟨_, rfl⟩
  have nuw8 : NoU #[.bool false, .slice none 0 0, .bool false, .slice none 0 0] := by simp [NoU]
  replace hX := FR.sets hX B3 nuw8 0 [.bool Z16.N.b, .slice Z16.N.p Z16.N.n Z16.N.c, .bool Z16.D.b, .slice Z16.D.p Z16.D.n Z16.D.c]
  replace hY := FR.sets hY B3 nuw8 0 [.bool Z16.N.b, .slice Z16.N.p Z16.N.n Z16.N.c, .bool Z16.D.b, .slice Z16.D.p Z16.D.n Z16.D.c]
  replace hZ16 := FR.sets hZ16 B3 nuw8 0 [.bool Z16.N.b, .slice Z16.N.p Z16.N.n Z16.N.c, .bool Z16.D.b, .slice Z16.D.p Z16.D.n Z16.D.c]
  replace oZ16 := OF.sets oZ16 B3 (by decide) 0 [.bool Z16.N.b, .slice Z16.N.p Z16.N.n Z16.N.c, .bool Z16.D.b, .slice Z16.D.p Z16.D.n Z16.D.c]
  have hEw8 := Ext.sets hEw7 (b := w.heap.size + 1 + 1) (by omega) 0 [.bool Z16.N.b, .slice Z16.N.p Z16.N.n Z16.N.c, .bool Z16.D.b, .slice Z16.D.p Z16.D.n Z16.D.c]
  replace B1 := Cells.off B1 (b' := w.heap.size + 1 + 1) (by omega) 0 [.bool Z16.N.b, .slice Z16.N.p Z16.N.n Z16.N.c, .bool Z16.D.b, .slice Z16.D.p Z16.D.n Z16.D.c]
  replace B2 := Cells.off B2 (b' := w.heap.size + 1 + 1) (by omega) 0 [.bool Z16.N.b, .slice Z16.N.p Z16.N.n Z16.N.c, .bool Z16.D.b, .slice Z16.D.p Z16.D.n Z16.D.c]
  replace B4 := Cells.off B4 (b' := w.heap.size + 1 + 1) (by omega) 0 [.bool Z16.N.b, .slice Z16.N.p Z16.N.n Z16.N.c, .bool Z16.D.b, .slice Z16.D.p Z16.D.n Z16.D.c]
  replace B3 : Cells (sets w7 (w.heap.size + 1 + 1) 0 [.bool Z16.N.b, .slice Z16.N.p Z16.N.n Z16.N.c, .bool Z16.D.b, .slice Z16.D.p Z16.D.n Z16.D.c]) (w.heap.size + 1 + 1) 40 #[.bool Z16.N.b, .slice Z16.N.p Z16.N.n Z16.N.c, .bool Z16.D.b, .slice Z16.D.p Z16.D.n Z16.D.c] := Cells.sets [.bool Z16.N.b, .slice Z16.N.p Z16.N.n Z16.N.c, .bool Z16.D.b, .slice Z16.D.p Z16.D.n Z16.D.c] B3 0
  have zw8 := size_sets (w.heap.size + 1 + 1) [.bool Z16.N.b, .slice Z16.N.p Z16.N.n Z16.N.c, .bool Z16.D.b, .slice Z16.D.p Z16.D.n Z16.D.c] w7 0
  replace hww8 : sets w7 (w.heap.size + 1 + 1) 0 [.bool Z16.N.b, .slice Z16.N.p Z16.N.n Z16.N.c, .bool Z16.D.b, .slice Z16.D.p Z16.D.n Z16.D.c] = w8 := hww8
  rw [hww8] at hX hY hZ16 oZ16 B1 B2 B3 B4 hEw8 zw8
  replace hww8 : ((((w7).setCell ⟨w.heap.size + 1 + 1, 0, none⟩ (.bool Z16.N.b)).setCell ⟨w.heap.size + 1 + 1, 1, none⟩ (.slice Z16.N.p Z16.N.n Z16.N.c)).setCell ⟨w.heap.size + 1 + 1, 2, none⟩ (.bool Z16.D.b)).setCell ⟨w.heap.size + 1 + 1, 3, none⟩ (.slice Z16.D.p Z16.D.n Z16.D.c) = w8 := hww8
  have b3_0_w8 := B3.cell (k := 0) rfl
  have b3_1_w8 := B3.cell (k := 1) rfl
  have b3_2_w8 := B3.cell (k := 2) rfl
  have b3_3_w8 := B3.cell (k := 3) rfl
  have lB1_w8 := B1.lt
  have lB2_w8 := B2.lt
  have lB3_w8 := B3.lt
  have lB4_w8 := B4.lt
  go_wp2_with fail
  clear hww8
  clear b3_0_w7 fb3_0_w7 b3_1_w7 fb3_1_w7 b3_2_w7 fb3_2_w7 b3_3_w7 fb3_3_w7 lB1_w6 lB2_w6 lB3_w6 lB4_w6 lB1_w7 lB2_w7 lB3_w7 lB4_w7
  have yw8 := Nat.le_of_eq zw8
  replace zw8 := Nat.le_of_eq zw8.symm
  refine bodyPost_ret (v := .tuple #[.agg #[.bool Z16.N.b, .slice Z16.N.p Z16.N.n Z16.N.c, .bool Z16.D.b, .slice Z16.D.p Z16.D.n Z16.D.c], .int .i64 0]) (by simp [results, Tryz.results73, go_sem, b3_0_w8, b3_1_w8, b3_2_w8, b3_3_w8]) rfl ?_
  exact Gv.of_fe (X := Z16) (hZ16) (oZ16) hEw8

set_option maxRecDepth 100000 in
theorem fSub (X : Fr) (Y : Fr) (x : Rat) (y : Rat) (w : World) (hX : FR w X x) (hY : FR w Y y) (bx : Sz x) (by_ : Sz y) (bz : Sz (x + -y)) :
    Calls Tryz.prog 72 #[.agg #[.bool X.N.b, .slice X.N.p X.N.n X.N.c, .bool X.D.b, .slice X.D.p X.D.n X.D.c], .agg #[.bool Y.N.b, .slice Y.N.p Y.N.n Y.N.c, .bool Y.D.b, .slice Y.D.p Y.D.n Y.D.c]] w (Gv (.fe (x + -y) 0) w) := by
  have hEw : Ext w w := Below.refl _ _
  obtain ⟨w1, hww1⟩ : ∃ W, w.alloc (.cells #[.bool X.N.b, .slice X.N.p X.N.n X.N.c, .bool X.D.b, .slice X.D.p X.D.n X.D.c] 40) = W := ⟨_, rfl⟩
  have ew1 : Ext w w1 := by rw [← hww1]; exact ea _ _
  have B1 : Cells w1 (w.heap.size) 40 #[.bool X.N.b, .slice X.N.p X.N.n X.N.c, .bool X.D.b, .slice X.D.p X.D.n X.D.c] := by rw [← hww1]; exact Cells.newAt _ _ (by omega)
  replace hX := hX.ext ew1
  replace hY := hY.ext ew1
  have zw1 := alloc_lt hww1
  have hEw1 := eg hEw ew1
  have lB1_w1 := B1.lt
  obtain ⟨w2, hww2⟩ : ∃ W, w1.alloc (.cells #[.bool Y.N.b, .slice Y.N.p Y.N.n Y.N.c, .bool Y.D.b, .slice Y.D.p Y.D.n Y.D.c] 40) = W := ⟨_, rfl⟩
  have ew2 : Ext w1 w2 := by rw [← hww2]; exact ea _ _
  have B2 : Cells w2 (w.heap.size + 1) 40 #[.bool Y.N.b, .slice Y.N.p Y.N.n Y.N.c, .bool Y.D.b, .slice Y.D.p Y.D.n Y.D.c] := by rw [← hww2]; exact Cells.newAt _ _ (by omega)
  replace hX := hX.ext ew2
  replace hY := hY.ext ew2
  replace B1 := B1.ext ew2
  have zw2 := alloc_lt hww2
  have hEw2 := eg hEw1 ew2
  have lB1_w2 := B1.lt
  have lB2_w2 := B2.lt
  obtain ⟨w3, hww3⟩ : ∃ W, w2.alloc (.cells #[.bool false, .slice none 0 0, .bool false, .slice none 0 0] 40) = W := ⟨_, rfl⟩
  have ew3 : Ext w2 w3 := by rw [← hww3]; exact ea _ _
  have B3 : Cells w3 (w.heap.size + 1 + 1) 40 #[.bool false, .slice none 0 0, .bool false, .slice none 0 0] := by rw [← hww3]; exact Cells.newAt _ _ (by omega)
  replace hX := hX.ext ew3
  replace hY := hY.ext ew3
  replace B1 := B1.ext ew3
  replace B2 := B2.ext ew3
  have zw3 := alloc_lt hww3
  have hEw3 := eg hEw2 ew3
  have b1_0_w3 := B1.cell (k := 0) rfl
  have b1_1_w3 := B1.cell (k := 1) rfl
  have b1_2_w3 := B1.cell (k := 2) rfl
  have b1_3_w3 := B1.cell (k := 3) rfl
  have b2_0_w3 := B2.cell (k := 0) rfl
  have b2_1_w3 := B2.cell (k := 1) rfl
  have b2_2_w3 := B2.cell (k := 2) rfl
  have b2_3_w3 := B2.cell (k := 3) rfl
  have lB1_w3 := B1.lt
  have lB2_w3 := B2.lt
  have lB3_w3 := B3.lt
  obtain ⟨w4, hww4⟩ : ∃ W, w3.alloc (.cells #[.bool X.N.b, .slice X.N.p X.N.n X.N.c, .bool X.D.b, .slice X.D.p X.D.n X.D.c, .bool Y.N.b, .slice Y.N.p Y.N.n Y.N.c, .bool Y.D.b, .slice Y.D.p Y.D.n Y.D.c] 40) = W := ⟨_, rfl⟩
  have ew4 : Ext w3 w4 := by rw [← hww4]; exact ea _ _
  have B4 : Cells w4 (w.heap.size + 1 + 1 + 1) 40 #[.bool X.N.b, .slice X.N.p X.N.n X.N.c, .bool X.D.b, .slice X.D.p X.D.n X.D.c, .bool Y.N.b, .slice Y.N.p Y.N.n Y.N.c, .bool Y.D.b, .slice Y.D.p Y.D.n Y.D.c] := by rw [← hww4]; exact Cells.newAt _ _ (by omega)
  replace hX := hX.ext ew4
  replace hY := hY.ext ew4
  replace B1 := B1.ext ew4
  replace B2 := B2.ext ew4
  replace B3 := B3.ext ew4
  have zw4 := alloc_lt hww4
  have hEw4 := eg hEw3 ew4
  have lB1_w4 := B1.lt
  have lB2_w4 := B2.lt
  have lB3_w4 := B3.lt
  have lB4_w4 := B4.lt
  go_enter Tryz.func72, Tryz.ntmps72
  go_wp2_with fail
  clear hww1
  clear hww2
  clear hww3
  clear hww4
  clear b1_0_w3 b1_1_w3 b1_2_w3 b1_3_w3 b2_0_w3 b2_1_w3 b2_2_w3 b2_3_w3 lB1_w1 lB1_w2 lB2_w2 lB1_w3 lB2_w3 lB3_w3
  have yw1 := Nat.le_of_eq zw1
  replace zw1 := Nat.le_of_eq zw1.symm
  have yw2 := Nat.le_of_eq zw2
  replace zw2 := Nat.le_of_eq zw2.symm
  have yw3 := Nat.le_of_eq zw3
  replace zw3 := Nat.le_of_eq zw3.symm
  have yw4 := Nat.le_of_eq zw4
  replace zw4 := Nat.le_of_eq zw4.symm
  refine (fvalid2 _ X Y _ _ _ B4 hX hY bx by_).mono ?_
  intro ee w5 gg
  obtain ⟨rfl, ew5⟩ := Gv.v gg
  replace hX := hX.ext ew5
  replace hY := hY.ext ew5
  replace B1 := B1.ext ew5
  replace B2 := B2.ext ew5
  replace B3 := B3.ext ew5
  replace B4 := B4.ext ew5
  have hEw5 := eg hEw4 ew5
  have zw5 := ew5.size
  have b1_0_w5 := B1.cell (k := 0) rfl
  have b1_1_w5 := B1.cell (k := 1) rfl
  have b1_2_w5 := B1.cell (k := 2) rfl
  have b1_3_w5 := B1.cell (k := 3) rfl
  have b2_0_w5 := B2.cell (k := 0) rfl
  have b2_1_w5 := B2.cell (k := 1) rfl
  have b2_2_w5 := B2.cell (k := 2) rfl
  have b2_3_w5 := B2.cell (k := 3) rfl
  have lB1_w5 := B1.lt
  have lB2_w5 := B2.lt
  have lB3_w5 := B3.lt
  have lB4_w5 := B4.lt
  go_wp2_with fail
  clear lB1_w4 lB2_w4 lB3_w4 lB4_w4
  refine regionT 13 (fun k => match k with | 4 => some (.w (-(y).num)) | 9 => some (.f (x + -y)) | 10 => some (.fe0 (x + -y) 0) | _ => none) (by kernel_rfl) (by kernel_rfl) ?_
  iterate 4
    refine Walk.one (x := ?_) rfl rfl (fun w1 hI hL K hK => ?_) ?_
    rotate_left
    · obtain ⟨hc, hf⟩ := bcell hI
      go_simp
      repeat (first | (go_ints; try go_simp) | (simp only [↓IntWalk.iteOmega]; try go_simp))
      exact hK
    simp only [Act.put, List.setIfInBounds_toArray, List.set_cons_zero, List.set_cons_succ]
  refine Walk.tell rfl rfl (fun w1 hI hL K hK => ?_) ?_
  · go_simp
    exact (fneg Y.N _ w1 ((hY.1).ext hI)).mono (tell hK)
  rintro _ ⟨Z16, rfl⟩
  simp only [Act.put, List.setIfInBounds_toArray, List.set_cons_zero, List.set_cons_succ]
  iterate 4
    refine Walk.one (x := ?_) rfl rfl (fun w1 hI hL K hK => ?_) ?_
    rotate_left
    · obtain ⟨hc, hf⟩ := bcell hI
      go_simp
      repeat (first | (go_ints; try go_simp) | (simp only [↓IntWalk.iteOmega]; try go_simp))
      exact hK
    simp only [Act.put, List.setIfInBounds_toArray, List.set_cons_zero, List.set_cons_succ]
  refine Walk.tell rfl rfl (fun w1 hI hL K hK => ?_) ?_
  · go_simp
    exact (fplus X ⟨Z16, Y.D⟩ _ _ w1 ((hX).ext hI) (mkFR (q := -y) ((Tl.getW (kn (i := 4) (v := .agg #[.bool Z16.b, .slice Z16.p Z16.n Z16.c]) rfl (by simp) (by kernel_rfl) hL)).1) ((hY.2).ext hI)) (bx) (neg_sz by_)).mono (tell hK)
  rintro _ ⟨Z21, rfl⟩
  simp only [Act.put, List.setIfInBounds_toArray, List.set_cons_zero, List.set_cons_succ]
  refine Walk.tell0 rfl rfl rfl (fun w1 hI hL K hK => ?_) ?_
  · go_simp
    exact (told_t Z21 w1 (nle ((Tl.getF (kn (i := 9) (v := .agg #[.bool Z21.N.b, .slice Z21.N.p Z21.N.n Z21.N.c, .bool Z21.D.b, .slice Z21.D.p Z21.D.n Z21.D.c]) rfl (by simp) (by kernel_rfl) hL)).1) bz) (dle ((Tl.getF (kn (i := 9) (v := .agg #[.bool Z21.N.b, .slice Z21.N.p Z21.N.n Z21.N.c, .bool Z21.D.b, .slice Z21.D.p Z21.D.n Z21.D.c]) rfl (by simp) (by kernel_rfl) hL)).1) bz)).mono (tellTold hK (Tl.getF (kn (i := 9) (v := .agg #[.bool Z21.N.b, .slice Z21.N.p Z21.N.n Z21.N.c, .bool Z21.D.b, .slice Z21.D.p Z21.D.n Z21.D.c]) rfl (by simp) (by kernel_rfl) hL)).1 (Tl.getF (kn (i := 9) (v := .agg #[.bool Z21.N.b, .slice Z21.N.p Z21.N.n Z21.N.c, .bool Z21.D.b, .slice Z21.D.p Z21.D.n Z21.D.c]) rfl (by simp) (by kernel_rfl) hL)).2)
  rintro _ ⟨Z22, rfl⟩
  simp only [Act.put, List.setIfInBounds_toArray, List.set_cons_zero, List.set_cons_succ]
  iterate 2
    refine Walk.one (x := ?_) rfl rfl (fun w1 hI hL K hK => ?_) ?_
    rotate_left
    · obtain ⟨hc, hf⟩ := bcell hI
      go_simp
      repeat (first | (go_ints; try go_simp) | (simp only [↓IntWalk.iteOmega]; try go_simp))
      exact hK
    simp only [Act.put, List.setIfInBounds_toArray, List.set_cons_zero, List.set_cons_succ]
  refine Walk.nilF fun w6 ew6 kzL kzX => ?_
  replace hX := hX.ext ew6
  replace hY := hY.ext ew6
  replace B1 := B1.ext ew6
  replace B2 := B2.ext ew6
  replace B3 := B3.ext ew6
  replace B4 := B4.ext ew6
  have hEw6 := eg hEw5 ew6
  have zw6 := ew6.size
  obtain ⟨hZ16, oZ16⟩ := Tl.getW (kz (i := 4) (v := .agg #[.bool Z16.b, .slice Z16.p Z16.n Z16.c]) rfl (by simp) kzL)
  replace oZ16 := oZ16.mono hEw5.size
  obtain ⟨hZ21, oZ21⟩ := Tl.getF (kz (i := 9) (v := .agg #[.bool Z21.N.b, .slice Z21.N.p Z21.N.n Z21.N.c, .bool Z21.D.b, .slice Z21.D.p Z21.D.n Z21.D.c]) rfl (by simp) kzL)
  replace oZ21 := oZ21.mono hEw5.size
  obtain ⟨hZ22, oZ22⟩ := Tl.getFe0 (kz (i := 10) (v := .tuple #[.agg #[.bool Z22.N.b, .slice Z22.N.p Z22.N.n Z22.N.c, .bool Z22.D.b, .slice Z22.D.p Z22.D.n Z22.D.c], .int .i64 0]) rfl (by simp) kzL)
  replace oZ22 := oZ22.mono hEw5.size
  clear kzL kzX
  have b3_0_w6 := B3.cell (k := 0) rfl
  have fb3_0_w6 := B3.frozen 0
  have b3_1_w6 := B3.cell (k := 1) rfl
  have fb3_1_w6 := B3.frozen 1
  have b3_2_w6 := B3.cell (k := 2) rfl
  have fb3_2_w6 := B3.frozen 2
  have b3_3_w6 := B3.cell (k := 3) rfl
  have fb3_3_w6 := B3.frozen 3
  have lB1_w6 := B1.lt
  have lB2_w6 := B2.lt
  have lB3_w6 := B3.lt
  have lB4_w6 := B4.lt
  simp only [List.drop_succ_cons, List.drop_zero, List.drop_nil]
  obtain ⟨w7, hww7⟩ : ∃ W, ((((w6).setCell ⟨w.heap.size + 1 + 1, 0, none⟩ (.bool Z22.N.b)).setCell ⟨w.heap.size + 1 + 1, 1, none⟩ (.slice Z22.N.p Z22.N.n Z22.N.c)).setCell ⟨w.heap.size + 1 + 1, 2, none⟩ (.bool Z22.D.b)).setCell ⟨w.heap.size + 1 + 1, 3, none⟩ (.slice Z22.D.p Z22.D.n Z22.D.c) = W := ⟨_, rfl⟩
  have nuw7 : NoU #[.bool false, .slice none 0 0, .bool false, .slice none 0 0] := by simp [NoU]
  replace hX := FR.sets hX B3 nuw7 0 [.bool Z22.N.b, .slice Z22.N.p Z22.N.n Z22.N.c, .bool Z22.D.b, .slice Z22.D.p Z22.D.n Z22.D.c]
  replace hY := FR.sets hY B3 nuw7 0 [.bool Z22.N.b, .slice Z22.N.p Z22.N.n Z22.N.c, .bool Z22.D.b, .slice Z22.D.p Z22.D.n Z22.D.c]
  replace hZ16 := WR.sets hZ16 B3 nuw7 0 [.bool Z22.N.b, .slice Z22.N.p Z22.N.n Z22.N.c, .bool Z22.D.b, .slice Z22.D.p Z22.D.n Z22.D.c]
  replace hZ21 := FR.sets hZ21 B3 nuw7 0 [.bool Z22.N.b, .slice Z22.N.p Z22.N.n Z22.N.c, .bool Z22.D.b, .slice Z22.D.p Z22.D.n Z22.D.c]
  replace hZ22 := FR.sets hZ22 B3 nuw7 0 [.bool Z22.N.b, .slice Z22.N.p Z22.N.n Z22.N.c, .bool Z22.D.b, .slice Z22.D.p Z22.D.n Z22.D.c]
  replace oZ16 := OW.sets oZ16 B3 (by decide) 0 [.bool Z22.N.b, .slice Z22.N.p Z22.N.n Z22.N.c, .bool Z22.D.b, .slice Z22.D.p Z22.D.n Z22.D.c]
  replace oZ21 := OF.sets oZ21 B3 (by decide) 0 [.bool Z22.N.b, .slice Z22.N.p Z22.N.n Z22.N.c, .bool Z22.D.b, .slice Z22.D.p Z22.D.n Z22.D.c]
  replace oZ22 := OF.sets oZ22 B3 (by decide) 0 [.bool Z22.N.b, .slice Z22.N.p Z22.N.n Z22.N.c, .bool Z22.D.b, .slice Z22.D.p Z22.D.n Z22.D.c]
  have hEw7 := Ext.sets hEw6 (b := w.heap.size + 1 + 1) (by omega) 0 [.bool Z22.N.b, .slice Z22.N.p Z22.N.n Z22.N.c, .bool Z22.D.b, .slice Z22.D.p Z22.D.n Z22.D.c]
  replace B1 := Cells.off B1 (b' := w.heap.size + 1 + 1) (by omega) 0 [.bool Z22.N.b, .slice Z22.N.p Z22.N.n Z22.N.c, .bool Z22.D.b, .slice Z22.D.p Z22.D.n Z22.D.c]
  replace B2 := Cells.off B2 (b' := w.heap.size + 1 + 1) (by omega) 0 [.bool Z22.N.b, .slice Z22.N.p Z22.N.n Z22.N.c, .bool Z22.D.b, .slice Z22.D.p Z22.D.n Z22.D.c]
  replace B4 := Cells.off B4 (b' := w.heap.size + 1 + 1) (by omega) 0 [.bool Z22.N.b, .slice Z22.N.p Z22.N.n Z22.N.c, .bool Z22.D.b, .slice Z22.D.p Z22.D.n Z22.D.c]
  replace B3 : Cells (sets w6 (w.heap.size + 1 + 1) 0 [.bool Z22.N.b, .slice Z22.N.p Z22.N.n Z22.N.c, .bool Z22.D.b, .slice Z22.D.p Z22.D.n Z22.D.c]) (w.heap.size + 1 + 1) 40 #[.bool Z22.N.b, .slice Z22.N.p Z22.N.n Z22.N.c, .bool Z22.D.b, .slice Z22.D.p Z22.D.n Z22.D.c] := Cells.sets [.bool Z22.N.b, .slice Z22.N.p Z22.N.n Z22.N.c, .bool Z22.D.b, .slice Z22.D.p Z22.D.n Z22.D.c] B3 0
  have zw7 := size_sets (w.heap.size + 1 + 1) [.bool Z22.N.b, .slice Z22.N.p Z22.N.n Z22.N.c, .bool Z22.D.b, .slice Z22.D.p Z22.D.n Z22.D.c] w6 0
  replace hww7 : sets w6 (w.heap.size + 1 + 1) 0 [.bool Z22.N.b, .slice Z22.N.p Z22.N.n Z22.N.c, .bool Z22.D.b, .slice Z22.D.p Z22.D.n Z22.D.c] = w7 := hww7
  rw [hww7] at hX hY hZ16 hZ21 hZ22 oZ16 oZ21 oZ22 B1 B2 B3 B4 hEw7 zw7
  replace hww7 : ((((w6).setCell ⟨w.heap.size + 1 + 1, 0, none⟩ (.bool Z22.N.b)).setCell ⟨w.heap.size + 1 + 1, 1, none⟩ (.slice Z22.N.p Z22.N.n Z22.N.c)).setCell ⟨w.heap.size + 1 + 1, 2, none⟩ (.bool Z22.D.b)).setCell ⟨w.heap.size + 1 + 1, 3, none⟩ (.slice Z22.D.p Z22.D.n Z22.D.c) = w7 := hww7
  have b3_0_w7 := B3.cell (k := 0) rfl
  have b3_1_w7 := B3.cell (k := 1) rfl
  have b3_2_w7 := B3.cell (k := 2) rfl
  have b3_3_w7 := B3.cell (k := 3) rfl
  have lB1_w7 := B1.lt
  have lB2_w7 := B2.lt
  have lB3_w7 := B3.lt
  have lB4_w7 := B4.lt
  go_wp2_with fail
  clear hww7
  clear b1_0_w5 b1_1_w5 b1_2_w5 b1_3_w5 b2_0_w5 b2_1_w5 b2_2_w5 b2_3_w5 b3_0_w6 fb3_0_w6 b3_1_w6 fb3_1_w6 b3_2_w6 fb3_2_w6 b3_3_w6 fb3_3_w6 lB1_w5 lB2_w5 lB3_w5 lB4_w5 lB1_w6 lB2_w6 lB3_w6 lB4_w6
  have yw7 := Nat.le_of_eq zw7
  replace zw7 := Nat.le_of_eq zw7.symm
  refine bodyPost_ret (v := .tuple #[.agg #[.bool Z22.N.b, .slice Z22.N.p Z22.N.n Z22.N.c, .bool Z22.D.b, .slice Z22.D.p Z22.D.n Z22.D.c], .int .i64 0]) (by simp [results, Tryz.results72, go_sem, b3_0_w7, b3_1_w7, b3_2_w7, b3_3_w7]) rfl ?_
  exact Gv.of_fe (X := Z22) (hZ22) (oZ22) hEw7

set_option maxRecDepth 100000 in
theorem fCmp (X : Fr) (Y : Fr) (x : Rat) (y : Rat) (w : World) (hX : FR w X x) (hY : FR w Y y) (bx : Sz x) (by_ : Sz y) :
    Calls Tryz.prog 34 #[.agg #[.bool X.N.b, .slice X.N.p X.N.n X.N.c, .bool X.D.b, .slice X.D.p X.D.n X.D.c], .agg #[.bool Y.N.b, .slice Y.N.p Y.N.n Y.N.c, .bool Y.D.b, .slice Y.D.p Y.D.n Y.D.c]] w (Gv (.v (.int .i64 (cmpQ x y))) w) := by
  have hEw : Ext w w := Below.refl _ _
  obtain ⟨w1, hww1⟩ : ∃ W, w.alloc (.cells #[.bool X.N.b, .slice X.N.p X.N.n X.N.c, .bool X.D.b, .slice X.D.p X.D.n X.D.c] 40) = W := ⟨_, rfl⟩
  have ew1 : Ext w w1 := by rw [← hww1]; exact ea _ _
  have B1 : Cells w1 (w.heap.size) 40 #[.bool X.N.b, .slice X.N.p X.N.n X.N.c, .bool X.D.b, .slice X.D.p X.D.n X.D.c] := by rw [← hww1]; exact Cells.newAt _ _ (by omega)
  replace hX := hX.ext ew1
  replace hY := hY.ext ew1
  have zw1 := alloc_lt hww1
  have hEw1 := eg hEw ew1
  have lB1_w1 := B1.lt
  obtain ⟨w2, hww2⟩ : ∃ W, w1.alloc (.cells #[.bool Y.N.b, .slice Y.N.p Y.N.n Y.N.c, .bool Y.D.b, .slice Y.D.p Y.D.n Y.D.c] 40) = W := ⟨_, rfl⟩
  have ew2 : Ext w1 w2 := by rw [← hww2]; exact ea _ _
  have B2 : Cells w2 (w.heap.size + 1) 40 #[.bool Y.N.b, .slice Y.N.p Y.N.n Y.N.c, .bool Y.D.b, .slice Y.D.p Y.D.n Y.D.c] := by rw [← hww2]; exact Cells.newAt _ _ (by omega)
  replace hX := hX.ext ew2
  replace hY := hY.ext ew2
  replace B1 := B1.ext ew2
  have zw2 := alloc_lt hww2
  have hEw2 := eg hEw1 ew2
  have b1_0_w2 := B1.cell (k := 0) rfl
  have b1_1_w2 := B1.cell (k := 1) rfl
  have b1_2_w2 := B1.cell (k := 2) rfl
  have b1_3_w2 := B1.cell (k := 3) rfl
  have b2_0_w2 := B2.cell (k := 0) rfl
  have b2_1_w2 := B2.cell (k := 1) rfl
  have b2_2_w2 := B2.cell (k := 2) rfl
  have b2_3_w2 := B2.cell (k := 3) rfl
  have lB1_w2 := B1.lt
  have lB2_w2 := B2.lt
  obtain ⟨w3, hww3⟩ : ∃ W, w2.alloc (.cells #[.bool X.N.b, .slice X.N.p X.N.n X.N.c, .bool X.D.b, .slice X.D.p X.D.n X.D.c, .bool Y.N.b, .slice Y.N.p Y.N.n Y.N.c, .bool Y.D.b, .slice Y.D.p Y.D.n Y.D.c] 40) = W := ⟨_, rfl⟩
  have ew3 : Ext w2 w3 := by rw [← hww3]; exact ea _ _
  have B3 : Cells w3 (w.heap.size + 1 + 1) 40 #[.bool X.N.b, .slice X.N.p X.N.n X.N.c, .bool X.D.b, .slice X.D.p X.D.n X.D.c, .bool Y.N.b, .slice Y.N.p Y.N.n Y.N.c, .bool Y.D.b, .slice Y.D.p Y.D.n Y.D.c] := by rw [← hww3]; exact Cells.newAt _ _ (by omega)
  replace hX := hX.ext ew3
  replace hY := hY.ext ew3
  replace B1 := B1.ext ew3
  replace B2 := B2.ext ew3
  have zw3 := alloc_lt hww3
  have hEw3 := eg hEw2 ew3
  have lB1_w3 := B1.lt
  have lB2_w3 := B2.lt
  have lB3_w3 := B3.lt
  go_enter Tryz.func34, Tryz.ntmps34
  go_wp2_with fail
  clear hww1
  clear hww2
  clear hww3
  clear b1_0_w2 b1_1_w2 b1_2_w2 b1_3_w2 b2_0_w2 b2_1_w2 b2_2_w2 b2_3_w2 lB1_w1 lB1_w2 lB2_w2
  have yw1 := Nat.le_of_eq zw1
  replace zw1 := Nat.le_of_eq zw1.symm
  have yw2 := Nat.le_of_eq zw2
  replace zw2 := Nat.le_of_eq zw2.symm
  have yw3 := Nat.le_of_eq zw3
  replace zw3 := Nat.le_of_eq zw3.symm
  refine (fvalid2 _ X Y _ _ _ B3 hX hY bx by_).mono ?_
  intro ee w4 gg
  obtain ⟨rfl, ew4⟩ := Gv.v gg
  replace hX := hX.ext ew4
  replace hY := hY.ext ew4
  replace B1 := B1.ext ew4
  replace B2 := B2.ext ew4
  replace B3 := B3.ext ew4
  have hEw4 := eg hEw3 ew4
  have zw4 := ew4.size
  have b1_0_w4 := B1.cell (k := 0) rfl
  have b1_1_w4 := B1.cell (k := 1) rfl
  have b2_2_w4 := B2.cell (k := 2) rfl
  have b2_3_w4 := B2.cell (k := 3) rfl
  have b2_0_w4 := B2.cell (k := 0) rfl
  have b2_1_w4 := B2.cell (k := 1) rfl
  have b1_2_w4 := B1.cell (k := 2) rfl
  have b1_3_w4 := B1.cell (k := 3) rfl
  have lB1_w4 := B1.lt
  have lB2_w4 := B2.lt
  have lB3_w4 := B3.lt
  go_wp2_with fail
  clear lB1_w3 lB2_w3 lB3_w3
  refine regionT 11 (fun k => match k with | 4 => some (.w ((x).num * ((y).den : Int))) | 9 => some (.w ((y).num * ((x).den : Int))) | 10 => some (.v (.int .i64 (cmpZ (x.num * y.den) (y.num * x.den)))) | _ => none) (by kernel_rfl) (by kernel_rfl) ?_
  iterate 4
    refine Walk.one (x := ?_) rfl rfl (fun w1 hI hL K hK => ?_) ?_
    rotate_left
    · obtain ⟨hc, hf⟩ := bcell hI
      go_simp
      repeat (first | (go_ints; try go_simp) | (simp only [↓IntWalk.iteOmega]; try go_simp))
      exact hK
    simp only [Act.put, List.setIfInBounds_toArray, List.set_cons_zero, List.set_cons_succ]
  refine Walk.tell rfl rfl (fun w1 hI hL K hK => ?_) ?_
  · go_simp
    exact (fproduct X.N Y.D _ _ w1 ((hX.1).ext hI) ((hY.2).ext hI) (sp5 bx.n by_.d)).mono (tell hK)
  rintro _ ⟨Z14, rfl⟩
  simp only [Act.put, List.setIfInBounds_toArray, List.set_cons_zero, List.set_cons_succ]
  iterate 4
    refine Walk.one (x := ?_) rfl rfl (fun w1 hI hL K hK => ?_) ?_
    rotate_left
    · obtain ⟨hc, hf⟩ := bcell hI
      go_simp
      repeat (first | (go_ints; try go_simp) | (simp only [↓IntWalk.iteOmega]; try go_simp))
      exact hK
    simp only [Act.put, List.setIfInBounds_toArray, List.set_cons_zero, List.set_cons_succ]
  refine Walk.tell rfl rfl (fun w1 hI hL K hK => ?_) ?_
  · go_simp
    exact (fproduct Y.N X.D _ _ w1 ((hY.1).ext hI) ((hX.2).ext hI) (sp5 by_.n bx.d)).mono (tell hK)
  rintro _ ⟨Z19, rfl⟩
  simp only [Act.put, List.setIfInBounds_toArray, List.set_cons_zero, List.set_cons_succ]
  refine Walk.tell rfl rfl (fun w1 hI hL K hK => ?_) ?_
  · go_simp
    exact (kCmp Z14 Z19 _ _ w1 ((Tl.getW (kn (i := 4) (v := .agg #[.bool Z14.b, .slice Z14.p Z14.n Z14.c]) rfl (by simp) (by kernel_rfl) hL)).1) ((Tl.getW (kn (i := 9) (v := .agg #[.bool Z19.b, .slice Z19.p Z19.n Z19.c]) rfl (by simp) (by kernel_rfl) hL)).1) (sp6 bx.n by_.d) (sp6 by_.n bx.d)).mono (tell hK)
  rintro _ rfl
  simp only [Act.put, List.setIfInBounds_toArray, List.set_cons_zero, List.set_cons_succ]
  refine Walk.nilF fun w5 ew5 kzL kzX => ?_
  replace hX := hX.ext ew5
  replace hY := hY.ext ew5
  replace B1 := B1.ext ew5
  replace B2 := B2.ext ew5
  replace B3 := B3.ext ew5
  have hEw5 := eg hEw4 ew5
  have zw5 := ew5.size
  obtain ⟨hZ14, oZ14⟩ := Tl.getW (kz (i := 4) (v := .agg #[.bool Z14.b, .slice Z14.p Z14.n Z14.c]) rfl (by simp) kzL)
  replace oZ14 := oZ14.mono hEw4.size
  obtain ⟨hZ19, oZ19⟩ := Tl.getW (kz (i := 9) (v := .agg #[.bool Z19.b, .slice Z19.p Z19.n Z19.c]) rfl (by simp) kzL)
  replace oZ19 := oZ19.mono hEw4.size
  clear kzL kzX
  have lB1_w5 := B1.lt
  have lB2_w5 := B2.lt
  have lB3_w5 := B3.lt
  simp only [List.drop_succ_cons, List.drop_zero, List.drop_nil]
  go_wp2_with fail
  clear b1_0_w4 b1_1_w4 b2_2_w4 b2_3_w4 b2_0_w4 b2_1_w4 b1_2_w4 b1_3_w4 lB1_w4 lB2_w4 lB3_w4
  refine bodyPost_ret (v := .int .i64 (cmpZ (x.num * y.den) (y.num * x.den))) (by simp [results, Tryz.results34, go_sem]) rfl ?_
  exact Gv.of_v hEw5
end Go.Proofs.YtndgaecfeaedeaaGreat

namespace Go.Proofs.YtndgaecfeaedeaaGreat
set_option linter.unusedSimpArgs false
set_option linter.unusedVariables false
open Go.RowKit Lex Mth
attribute [local go_sem] run_indexAt_at add_zero_map Oper.semAt_some at_zero

theorem rFromInt (n : Int) (w : World) (h1 : -9223372036854775808 ≤ n) (h2 : n ≤ 9223372036854775807) : Calls Tryz.prog 124 #[.int .i64 n] w (Gv (.w n) w) :=
  (rFromInt_any n w h1 h2).mono fun _ _ ⟨b, p, n, c, he, h1, h2, h3⟩ => by subst he; exact Gv.of_w (X := ⟨b, p, n, c⟩) h1 h2 h3
theorem rSame1_t (X Y : Wh) (x y : Int) (w : World) (hx : WR w X x) (hy : WR w Y y) (h : x = y) : Calls Tryz.prog 87 #[X.val, Y.val] w (Gv (.v (.bool true)) w) :=
  (rSame_any _ _ _ _ _ _ _ _ _ _ w hx.u16.2 hy.u16.2).mono fun _ _ ⟨he, h3⟩ => by
    subst h he
    rw [show X.b = Y.b by rw [hx.neg, hy.neg]]
    simp
    exact Gv.of_v h3
theorem rSame1_f (X Y : Wh) (x y : Int) (w : World) (hx : WR w X x) (hy : WR w Y y) (h : x ≠ y) : Calls Tryz.prog 87 #[X.val, Y.val] w (Gv (.v (.bool false)) w) :=
  (rSame_any _ _ _ _ _ _ _ _ _ _ w hx.u16.2 hy.u16.2).mono fun _ _ ⟨he, h3⟩ => by
    subst he
    rw [hx.neg, hy.neg, natAbs_dec h]
    exact Gv.of_v h3
theorem rCommon (X Y : Wh) (l m : List Nat) (w : World) (hX : U16 w X.p X.n X.c l) (hY : U16 w Y.p Y.n Y.c m) (x y : Nat) (hl : l = limbs x) (hm : m = limbs y) (b : X.n ≤ 1048576) (b' : Y.n ≤ 1048576) :
    Calls Tryz.prog 83 #[.slice X.p X.n X.c, .slice Y.p Y.n Y.c] w (Gv (.c0 (limbs (Nat.gcd x y))) w) := by
  subst hl hm
  exact (Common_any _ _ _ _ _ _ x y w hX hY b b').mono fun _ _ ⟨p, n, c, he, h1, h3⟩ => by subst he; exact Gv.of_c0 (X := ⟨false, p, n, c⟩) h1 h3
theorem rDivided (X Y : Wh) (l m : List Nat) (w : World) (hX : U16 w X.p X.n X.c l) (hY : U16 w Y.p Y.n Y.c m) (x y : Nat) (hl : l = limbs x) (hm : m = limbs y) (h0 : y ≠ 0) (b : X.n ≤ 1048576) (b' : Y.n ≤ 1048576) :
    Calls Tryz.prog 141 #[.slice X.p X.n X.c, .slice Y.p Y.n Y.c] w fun e w' => ∃ Z R : Wh, e = .returned (.tuple #[.slice Z.p Z.n Z.c, .slice R.p R.n R.c]) ∧ UW w' Z (limbs (x / y)) ∧ UW w' R (limbs (x % y)) ∧ OW w.heap.size w' Z ∧ OW w.heap.size w' R ∧ Ext w w' := by
  subst hl hm
  exact (Divided_any _ _ _ _ _ _ x y w hX hY h0 b b').mono fun _ _ ⟨hd, h3⟩ => by
    obtain ⟨p, n, c, p', n', c', he, h1, h2, o1, o2⟩ := hd
    exact ⟨⟨false, p, n, c⟩, ⟨false, p', n', c'⟩, he, h1, h2, o1, o2, h3⟩
theorem rMake (b : Bool) (X : Wh) (w : World) (h : X.n ≤ 70368744177664) {s : Bool} (hs : (b && decide (0 < X.n)) = s) : Calls Tryz.prog 144 #[.bool b, .slice X.p X.n X.c] w (Gv (.v (.agg #[.bool s, .slice X.p X.n X.c])) w) :=
  (Make_any b X.p X.n X.c w h).mono fun _ _ ⟨he, h3⟩ => by subst he hs; exact Gv.of_v h3

set_option maxRecDepth 100000 in
theorem rSame_t (X : Fr) (Y : Fr) (a : Int) (b : Int) (c : Int) (d : Int) (w : World) (hX : PR w X a b) (hY : PR w Y c d) (h1 : a = c) (h2 : b = d) :
    Calls Tryz.prog 44 #[.agg #[.bool X.N.b, .slice X.N.p X.N.n X.N.c, .bool X.D.b, .slice X.D.p X.D.n X.D.c], .agg #[.bool Y.N.b, .slice Y.N.p Y.N.n Y.N.c, .bool Y.D.b, .slice Y.D.p Y.D.n Y.D.c]] w (Gv (.v (.bool true)) w) := by
  have H1 := Lib.hid h1
  clear h1
  have H2 := Lib.hid h2
  clear h2
  have hEw : Ext w w := Below.refl _ _
  obtain ⟨w1, hww1⟩ : ∃ W, w.alloc (.cells #[.bool X.N.b, .slice X.N.p X.N.n X.N.c, .bool X.D.b, .slice X.D.p X.D.n X.D.c] 40) = W := ⟨_, rfl⟩
  have ew1 : Ext w w1 := by rw [← hww1]; exact ea _ _
  have B1 : Cells w1 (w.heap.size) 40 #[.bool X.N.b, .slice X.N.p X.N.n X.N.c, .bool X.D.b, .slice X.D.p X.D.n X.D.c] := by rw [← hww1]; exact Cells.newAt _ _ (by omega)
  replace hX := hX.ext ew1
  replace hY := hY.ext ew1
  have zw1 := alloc_lt hww1
  have hEw1 := eg hEw ew1
  have lB1_w1 := B1.lt
  obtain ⟨w2, hww2⟩ : ∃ W, w1.alloc (.cells #[.bool Y.N.b, .slice Y.N.p Y.N.n Y.N.c, .bool Y.D.b, .slice Y.D.p Y.D.n Y.D.c] 40) = W := ⟨_, rfl⟩
  have ew2 : Ext w1 w2 := by rw [← hww2]; exact ea _ _
  have B2 : Cells w2 (w.heap.size + 1) 40 #[.bool Y.N.b, .slice Y.N.p Y.N.n Y.N.c, .bool Y.D.b, .slice Y.D.p Y.D.n Y.D.c] := by rw [← hww2]; exact Cells.newAt _ _ (by omega)
  replace hX := hX.ext ew2
  replace hY := hY.ext ew2
  replace B1 := B1.ext ew2
  have zw2 := alloc_lt hww2
  have hEw2 := eg hEw1 ew2
  have b1_0_w2 := B1.cell (k := 0) rfl
  have b1_1_w2 := B1.cell (k := 1) rfl
  have b2_0_w2 := B2.cell (k := 0) rfl
  have b2_1_w2 := B2.cell (k := 1) rfl
  have lB1_w2 := B1.lt
  have lB2_w2 := B2.lt
  go_enter Tryz.func44, Tryz.ntmps44
  go_wp2_with fail
  clear hww1
  clear hww2
  clear lB1_w1
  have yw1 := Nat.le_of_eq zw1
  replace zw1 := Nat.le_of_eq zw1.symm
  have yw2 := Nat.le_of_eq zw2
  replace zw2 := Nat.le_of_eq zw2.symm
  refine (rSame1_t X.N Y.N _ _ _ (hX.1) (hY.1) (H1.out)).mono ?_
  intro ee w3 gg
  obtain ⟨rfl, ew3⟩ := Gv.v gg
  replace hX := hX.ext ew3
  replace hY := hY.ext ew3
  replace B1 := B1.ext ew3
  replace B2 := B2.ext ew3
  have hEw3 := eg hEw2 ew3
  have zw3 := ew3.size
  have b1_2_w3 := B1.cell (k := 2) rfl
  have b1_3_w3 := B1.cell (k := 3) rfl
  have b2_2_w3 := B2.cell (k := 2) rfl
  have b2_3_w3 := B2.cell (k := 3) rfl
  have lB1_w3 := B1.lt
  have lB2_w3 := B2.lt
  go_wp2_with fail
  clear b1_0_w2 b1_1_w2 b2_0_w2 b2_1_w2 lB1_w2 lB2_w2
  refine (rSame1_t X.D Y.D _ _ _ (hX.2) (hY.2) (H2.out)).mono ?_
  intro ee w4 gg
  obtain ⟨rfl, ew4⟩ := Gv.v gg
  replace hX := hX.ext ew4
  replace hY := hY.ext ew4
  replace B1 := B1.ext ew4
  replace B2 := B2.ext ew4
  have hEw4 := eg hEw3 ew4
  have zw4 := ew4.size
  have lB1_w4 := B1.lt
  have lB2_w4 := B2.lt
  go_wp2_with fail
  clear b1_2_w3 b1_3_w3 b2_2_w3 b2_3_w3 lB1_w3 lB2_w3
  refine bodyPost_ret (v := .bool true) (by simp [results, Tryz.results44, go_sem]) rfl ?_
  exact Gv.of_v hEw4

set_option maxRecDepth 100000 in
theorem rSame_n (X : Fr) (Y : Fr) (a : Int) (b : Int) (c : Int) (d : Int) (w : World) (hX : PR w X a b) (hY : PR w Y c d) (h1 : a ≠ c) :
    Calls Tryz.prog 44 #[.agg #[.bool X.N.b, .slice X.N.p X.N.n X.N.c, .bool X.D.b, .slice X.D.p X.D.n X.D.c], .agg #[.bool Y.N.b, .slice Y.N.p Y.N.n Y.N.c, .bool Y.D.b, .slice Y.D.p Y.D.n Y.D.c]] w (Gv (.v (.bool false)) w) := by
  have H1 := Lib.hid h1
  clear h1
  have hEw : Ext w w := Below.refl _ _
  obtain ⟨w1, hww1⟩ : ∃ W, w.alloc (.cells #[.bool X.N.b, .slice X.N.p X.N.n X.N.c, .bool X.D.b, .slice X.D.p X.D.n X.D.c] 40) = W := ⟨_, rfl⟩
  have ew1 : Ext w w1 := by rw [← hww1]; exact ea _ _
  have B1 : Cells w1 (w.heap.size) 40 #[.bool X.N.b, .slice X.N.p X.N.n X.N.c, .bool X.D.b, .slice X.D.p X.D.n X.D.c] := by rw [← hww1]; exact Cells.newAt _ _ (by omega)
  replace hX := hX.ext ew1
  replace hY := hY.ext ew1
  have zw1 := alloc_lt hww1
  have hEw1 := eg hEw ew1
  have lB1_w1 := B1.lt
  obtain ⟨w2, hww2⟩ : ∃ W, w1.alloc (.cells #[.bool Y.N.b, .slice Y.N.p Y.N.n Y.N.c, .bool Y.D.b, .slice Y.D.p Y.D.n Y.D.c] 40) = W := ⟨_, rfl⟩
  have ew2 : Ext w1 w2 := by rw [← hww2]; exact ea _ _
  have B2 : Cells w2 (w.heap.size + 1) 40 #[.bool Y.N.b, .slice Y.N.p Y.N.n Y.N.c, .bool Y.D.b, .slice Y.D.p Y.D.n Y.D.c] := by rw [← hww2]; exact Cells.newAt _ _ (by omega)
  replace hX := hX.ext ew2
  replace hY := hY.ext ew2
  replace B1 := B1.ext ew2
  have zw2 := alloc_lt hww2
  have hEw2 := eg hEw1 ew2
  have b1_0_w2 := B1.cell (k := 0) rfl
  have b1_1_w2 := B1.cell (k := 1) rfl
  have b2_0_w2 := B2.cell (k := 0) rfl
  have b2_1_w2 := B2.cell (k := 1) rfl
  have lB1_w2 := B1.lt
  have lB2_w2 := B2.lt
  go_enter Tryz.func44, Tryz.ntmps44
  go_wp2_with fail
  clear hww1
  clear hww2
  clear lB1_w1
  have yw1 := Nat.le_of_eq zw1
  replace zw1 := Nat.le_of_eq zw1.symm
  have yw2 := Nat.le_of_eq zw2
  replace zw2 := Nat.le_of_eq zw2.symm
  refine (rSame1_f X.N Y.N _ _ _ (hX.1) (hY.1) (H1.out)).mono ?_
  intro ee w3 gg
  obtain ⟨rfl, ew3⟩ := Gv.v gg
  replace hX := hX.ext ew3
  replace hY := hY.ext ew3
  replace B1 := B1.ext ew3
  replace B2 := B2.ext ew3
  have hEw3 := eg hEw2 ew3
  have zw3 := ew3.size
  have lB1_w3 := B1.lt
  have lB2_w3 := B2.lt
  go_wp2_with fail
  clear b1_0_w2 b1_1_w2 b2_0_w2 b2_1_w2 lB1_w2 lB2_w2
  refine bodyPost_ret (v := .bool false) (by simp [results, Tryz.results44, go_sem]) rfl ?_
  exact Gv.of_v hEw3

set_option maxRecDepth 100000 in
theorem rSame_d (X : Fr) (Y : Fr) (a : Int) (b : Int) (c : Int) (d : Int) (w : World) (hX : PR w X a b) (hY : PR w Y c d) (h1 : a = c) (h2 : b ≠ d) :
    Calls Tryz.prog 44 #[.agg #[.bool X.N.b, .slice X.N.p X.N.n X.N.c, .bool X.D.b, .slice X.D.p X.D.n X.D.c], .agg #[.bool Y.N.b, .slice Y.N.p Y.N.n Y.N.c, .bool Y.D.b, .slice Y.D.p Y.D.n Y.D.c]] w (Gv (.v (.bool false)) w) := by
  have H1 := Lib.hid h1
  clear h1
  have H2 := Lib.hid h2
  clear h2
  have hEw : Ext w w := Below.refl _ _
  obtain ⟨w1, hww1⟩ : ∃ W, w.alloc (.cells #[.bool X.N.b, .slice X.N.p X.N.n X.N.c, .bool X.D.b, .slice X.D.p X.D.n X.D.c] 40) = W := ⟨_, rfl⟩
  have ew1 : Ext w w1 := by rw [← hww1]; exact ea _ _
  have B1 : Cells w1 (w.heap.size) 40 #[.bool X.N.b, .slice X.N.p X.N.n X.N.c, .bool X.D.b, .slice X.D.p X.D.n X.D.c] := by rw [← hww1]; exact Cells.newAt _ _ (by omega)
  replace hX := hX.ext ew1
  replace hY := hY.ext ew1
  have zw1 := alloc_lt hww1
  have hEw1 := eg hEw ew1
  have lB1_w1 := B1.lt
  obtain ⟨w2, hww2⟩ : ∃ W, w1.alloc (.cells #[.bool Y.N.b, .slice Y.N.p Y.N.n Y.N.c, .bool Y.D.b, .slice Y.D.p Y.D.n Y.D.c] 40) = W := ⟨_, rfl⟩
  have ew2 : Ext w1 w2 := by rw [← hww2]; exact ea _ _
  have B2 : Cells w2 (w.heap.size + 1) 40 #[.bool Y.N.b, .slice Y.N.p Y.N.n Y.N.c, .bool Y.D.b, .slice Y.D.p Y.D.n Y.D.c] := by rw [← hww2]; exact Cells.newAt _ _ (by omega)
  replace hX := hX.ext ew2
  replace hY := hY.ext ew2
  replace B1 := B1.ext ew2
  have zw2 := alloc_lt hww2
  have hEw2 := eg hEw1 ew2
  have b1_0_w2 := B1.cell (k := 0) rfl
  have b1_1_w2 := B1.cell (k := 1) rfl
  have b2_0_w2 := B2.cell (k := 0) rfl
  have b2_1_w2 := B2.cell (k := 1) rfl
  have lB1_w2 := B1.lt
  have lB2_w2 := B2.lt
  go_enter Tryz.func44, Tryz.ntmps44
  go_wp2_with fail
  clear hww1
  clear hww2
  clear lB1_w1
  have yw1 := Nat.le_of_eq zw1
  replace zw1 := Nat.le_of_eq zw1.symm
  have yw2 := Nat.le_of_eq zw2
  replace zw2 := Nat.le_of_eq zw2.symm
  refine (rSame1_t X.N Y.N _ _ _ (hX.1) (hY.1) (H1.out)).mono ?_
  intro ee w3 gg
  obtain ⟨rfl, ew3⟩ := Gv.v gg
  replace hX := hX.ext ew3
  replace hY := hY.ext ew3
  replace B1 := B1.ext ew3
  replace B2 := B2.ext ew3
  have hEw3 := eg hEw2 ew3
  have zw3 := ew3.size
  have b1_2_w3 := B1.cell (k := 2) rfl
  have b1_3_w3 := B1.cell (k := 3) rfl
  have b2_2_w3 := B2.cell (k := 2) rfl
  have b2_3_w3 := B2.cell (k := 3) rfl
  have lB1_w3 := B1.lt
  have lB2_w3 := B2.lt
  go_wp2_with fail
  clear b1_0_w2 b1_1_w2 b2_0_w2 b2_1_w2 lB1_w2 lB2_w2
  refine (rSame1_f X.D Y.D _ _ _ (hX.2) (hY.2) (H2.out)).mono ?_
  intro ee w4 gg
  obtain ⟨rfl, ew4⟩ := Gv.v gg
  replace hX := hX.ext ew4
  replace hY := hY.ext ew4
  replace B1 := B1.ext ew4
  replace B2 := B2.ext ew4
  have hEw4 := eg hEw3 ew4
  have zw4 := ew4.size
  have lB1_w4 := B1.lt
  have lB2_w4 := B2.lt
  go_wp2_with fail
  clear b1_2_w3 b1_3_w3 b2_2_w3 b2_3_w3 lB1_w3 lB2_w3
  refine bodyPost_ret (v := .bool false) (by simp [results, Tryz.results44, go_sem]) rfl ?_
  exact Gv.of_v hEw4

theorem rSame (X Y : Fr) (a b c d : Int) (w : World) (hX : PR w X a b) (hY : PR w Y c d) : Calls Tryz.prog 44 #[X.val, Y.val] w (Gv (.v (.bool (decide (a = c) && decide (b = d)))) w) := by
  by_cases h1 : a = c
  · by_cases h2 : b = d
    · simpa only [h1, h2, decide_true, Bool.and_self] using rSame_t X Y a b c d w hX hY h1 h2
    · simpa only [h1, h2, decide_true, decide_false, Bool.and_false] using rSame_d X Y a b c d w hX hY h1 h2
  · simpa only [h1, decide_false, Bool.false_and] using rSame_n X Y a b c d w hX hY h1
/-- Two fractions are the same. -/
def eqQ (x y : Rat) : Bool := decide (x.num = y.num) && decide ((x.den : Int) = y.den)
theorem eqQ_iff {x y : Rat} : eqQ x y = true ↔ x = y := by
  unfold eqQ
  simp only [Bool.and_eq_true, decide_eq_true_eq]
  exact ⟨fun h => Rat.ext h.1 (by omega), fun h => by subst h; exact ⟨rfl, rfl⟩⟩
theorem rSameQ (X Y : Fr) (x y : Rat) (w : World) (hX : FR w X x) (hY : FR w Y y) : Calls Tryz.prog 44 #[X.val, Y.val] w (Gv (.v (.bool (eqQ x y))) w) := rSame X Y _ _ _ _ w hX hY
theorem fSameQ (X Y : Fr) (x y : Rat) (w : World) (hX : FR w X x) (hY : FR w Y y) : Calls Tryz.prog 39 #[X.val, Y.val] w (Gv (.v (.bool (eqQ x y))) w) := fSame X Y _ _ _ _ w hX hY

set_option maxRecDepth 100000 in
theorem rone_b (X : Wh) (w : World) (h0 : X.n ≠ 1) :
    Calls Tryz.prog 82 #[.slice X.p X.n X.c] w (Gv (.v (.bool false)) w) := by
  have h0d : ((X.n : Int) == 1) = false := by simp; omega
  clear h0
  have hEw : Ext w w := Below.refl _ _
  go_enter Tryz.func82, Tryz.ntmps82
  go_wp2_with fail
  refine bodyPost_ret (v := .bool false) (by simp [results, Tryz.results82, go_sem]) rfl ?_
  exact Gv.of_v hEw

set_option maxRecDepth 100000 in
theorem rone_c (X : Wh) (w : World) (x : Nat) (hX : U16 w X.p X.n X.c (limbs x)) (h0 : X.n = 1) (hd : x = 1) :
    Calls Tryz.prog 82 #[.slice X.p X.n X.c] w (Gv (.v (.bool true)) w) := by
  obtain ⟨u, hu⟩ : ∃ u, u = dig (limbs x) 0 := ⟨_, rfl⟩
  have hx0 : dig (limbs x) 0 = x := by
    have h1 : siz x = X.n := hX.len
    have h2 : x ≠ 0 := fun e => by rw [e, siz_zero] at h1; omega
    have h3 := siz_one.1 (Nat.le_of_eq (h1.trans h0))
    rw [limbs_pos h2]; simp [dig]; omega
  have hud : (((u : Nat) : Int) == 1) = true := by rw [hu, hx0]; simp; omega
  have c0 : w.cell? (at_ X.p 0) = some (.int .u16 (u : Nat)) := by rw [hu]; exact hX.cell 0 (by omega)
  have hh := hX.has
  have h0d : ((X.n : Int) == 1) = true := by simp; omega
  have h0p : 0 < X.n := by omega
  clear hu hx0 hd h0 hX
  have hEw : Ext w w := Below.refl _ _
  go_enter Tryz.func82, Tryz.ntmps82
  go_wp2_with fail
  refine bodyPost_ret (v := .bool true) (by simp [results, Tryz.results82, go_sem]) rfl ?_
  exact Gv.of_v hEw

set_option maxRecDepth 100000 in
theorem rone_d (X : Wh) (w : World) (x : Nat) (hX : U16 w X.p X.n X.c (limbs x)) (h0 : X.n = 1) (hd : x ≠ 1) :
    Calls Tryz.prog 82 #[.slice X.p X.n X.c] w (Gv (.v (.bool false)) w) := by
  obtain ⟨u, hu⟩ : ∃ u, u = dig (limbs x) 0 := ⟨_, rfl⟩
  have hx0 : dig (limbs x) 0 = x := by
    have h1 : siz x = X.n := hX.len
    have h2 : x ≠ 0 := fun e => by rw [e, siz_zero] at h1; omega
    have h3 := siz_one.1 (Nat.le_of_eq (h1.trans h0))
    rw [limbs_pos h2]; simp [dig]; omega
  have hud : (((u : Nat) : Int) == 1) = false := by rw [hu, hx0]; simp; omega
  have c0 : w.cell? (at_ X.p 0) = some (.int .u16 (u : Nat)) := by rw [hu]; exact hX.cell 0 (by omega)
  have hh := hX.has
  have h0d : ((X.n : Int) == 1) = true := by simp; omega
  have h0p : 0 < X.n := by omega
  clear hu hx0 hd h0 hX
  have hEw : Ext w w := Below.refl _ _
  go_enter Tryz.func82, Tryz.ntmps82
  go_wp2_with fail
  refine bodyPost_ret (v := .bool false) (by simp [results, Tryz.results82, go_sem]) rfl ?_
  exact Gv.of_v hEw

theorem rone (X : Wh) (x : Nat) (w : World) (hX : U16 w X.p X.n X.c (limbs x)) {b : Bool} (hb : decide (x = 1) = b) : Calls Tryz.prog 82 #[.slice X.p X.n X.c] w (Gv (.v (.bool b)) w) := by
  subst hb
  by_cases h0 : X.n = 1
  · by_cases hd : x = 1
    · simpa only [hd, decide_true] using rone_c X w x hX h0 hd
    · simpa only [hd, decide_false] using rone_d X w x hX h0 hd
  · have hd : x ≠ 1 := fun e => h0 (by have := hX.len; rw [← this, e]; simp [limbs])
    simpa only [hd, decide_false] using rone_b X w h0
end Go.Proofs.YtndgaecfeaedeaaGreat
