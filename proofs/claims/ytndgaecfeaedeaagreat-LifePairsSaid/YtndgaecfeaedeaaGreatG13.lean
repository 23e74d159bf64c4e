/- Walks of package frac: sums and products of fractions. -/
import Derived.Test.YtndgaecfeaedeaaGreatG11
import Derived.Test.YtndgaecfeaedeaaGreatG12
namespace Go.Proofs.YtndgaecfeaedeaaGreat
set_option linter.unusedSimpArgs false
set_option linter.unusedVariables false
open Go.RowKit Lex Mth
attribute [local go_sem] run_indexAt_at add_zero_map Oper.semAt_some at_zero

theorem Sz.n {q : Rat} (h : Sz q) : siz q.num.natAbs ≤ 256 := h.1
theorem Sz.d {q : Rat} (h : Sz q) : siz ((q.den : Nat) : Int).natAbs ≤ 256 := h.2
theorem sp {a b : Int} {g h : Nat} (ha : siz a.natAbs ≤ 256) (hb : siz b.natAbs ≤ 256) : siz (Int.fdiv a g).natAbs + siz (Int.fdiv b h).natAbs ≤ 1024 := by
  have := siz_fdiv a (y := (g : Int)) (by omega)
  have := siz_fdiv b (y := (h : Int)) (by omega)
  omega
theorem up4 {n : Nat} (h : n ≤ 256) : n ≤ 1024 := by omega
theorem sp2 {a b : Int} {h : Nat} (ha : siz a.natAbs ≤ 256) (hb : siz b.natAbs ≤ 256) : siz a.natAbs + siz (Int.fdiv b h).natAbs ≤ 1024 := by
  have := siz_fdiv b (y := (h : Int)) (by omega)
  omega
theorem sp3 {a b : Int} {h : Nat} (ha : siz a.natAbs ≤ 256) (hb : siz b.natAbs ≤ 256) : siz (a * Int.fdiv b h).natAbs ≤ 1000 := by
  have := siz_fdiv b (y := (h : Int)) (by omega)
  have := siz_imul a (Int.fdiv b h)
  omega
theorem sp4 {x y : Rat} (hx : Sz x) (hy : Sz y) : siz (sN x y).natAbs ≤ 1024 := by
  have h1 := siz_iadd (x.num * Int.fdiv (y.den : Int) (Int.gcd x.den y.den : Nat)) (y.num * Int.fdiv (x.den : Int) (Int.gcd x.den y.den : Nat))
  have h2 := sp3 (h := Int.gcd x.den y.den) hx.n hy.d
  have h3 := sp3 (h := Int.gcd x.den y.den) hy.n hx.d
  unfold sN
  omega
theorem g2_ne (x y : Rat) : ((Int.gcd (sN x y) (Int.gcd x.den y.den : Nat) : Nat) : Int) ≠ 0 := gcd_ne_left (gcd_ne_left (den_ne y))
theorem kClone (X : Wh) (l : List Nat) (w : World) (h : U16 w X.p X.n X.c l) : Calls Tryz.prog 139 #[.slice X.p X.n X.c] w (Gv (.c l) w) :=
  (clone_any X.p X.n X.c l w h).mono fun _ _ ⟨p', c', he, h1, h2, h3⟩ => by subst he; exact Gv.of_c (X := ⟨false, p', X.n, c'⟩) h1 h2 h3

set_option maxRecDepth 100000 in
theorem fits_t (X : Fr) (w : World) (h1 : X.N.n ≤ 256) (h2 : X.D.n ≤ 256) :
    Calls Tryz.prog 125 #[.agg #[.bool X.N.b, .slice X.N.p X.N.n X.N.c, .bool X.D.b, .slice X.D.p X.D.n X.D.c]] w (Gv (.v (.bool true)) w) := by
  have d1 : decide ((X.N.n : Int) ≤ 256) = true := by simp; omega
  have d2 : decide ((X.D.n : Int) ≤ 256) = true := by simp; omega
  have hEw : Ext w w := Below.refl _ _
  obtain ⟨w1, hww1⟩ : ∃ W, w.alloc (.cells #[.bool X.N.b, .slice X.N.p X.N.n X.N.c, .bool X.D.b, .slice X.D.p X.D.n X.D.c] 143) = W := ⟨_, rfl⟩
  have ew1 : Ext w w1 := by rw [← hww1]; exact ea _ _
  have B1 : Cells w1 (w.heap.size) 143 #[.bool X.N.b, .slice X.N.p X.N.n X.N.c, .bool X.D.b, .slice X.D.p X.D.n X.D.c] := by rw [← hww1]; exact Cells.newAt _ _ (by omega)
  have zw1 := alloc_lt hww1
  have hEw1 := eg hEw ew1
  have b1_1_w1 := B1.cell (k := 1) rfl
  have b1_3_w1 := B1.cell (k := 3) rfl
  have lB1_w1 := B1.lt
  go_enter Tryz.func125, Tryz.ntmps125
  go_wp2_with fail
  clear hww1
  have yw1 := Nat.le_of_eq zw1
  replace zw1 := Nat.le_of_eq zw1.symm
  refine bodyPost_ret (v := .bool true) (by simp [results, Tryz.results125, go_sem]) rfl ?_
  exact Gv.of_v hEw1

set_option maxRecDepth 100000 in
theorem fits_n (X : Fr) (w : World) (h1 : ¬ X.N.n ≤ 256) :
    Calls Tryz.prog 125 #[.agg #[.bool X.N.b, .slice X.N.p X.N.n X.N.c, .bool X.D.b, .slice X.D.p X.D.n X.D.c]] w (Gv (.v (.bool false)) w) := by
  have hEw : Ext w w := Below.refl _ _
  obtain ⟨w1, hww1⟩ : ∃ W, w.alloc (.cells #[.bool X.N.b, .slice X.N.p X.N.n X.N.c, .bool X.D.b, .slice X.D.p X.D.n X.D.c] 143) = W := ⟨_, rfl⟩
  have ew1 : Ext w w1 := by rw [← hww1]; exact ea _ _
  have B1 : Cells w1 (w.heap.size) 143 #[.bool X.N.b, .slice X.N.p X.N.n X.N.c, .bool X.D.b, .slice X.D.p X.D.n X.D.c] := by rw [← hww1]; exact Cells.newAt _ _ (by omega)
  have zw1 := alloc_lt hww1
  have hEw1 := eg hEw ew1
  have b1_1_w1 := B1.cell (k := 1) rfl
  have lB1_w1 := B1.lt
  go_enter Tryz.func125, Tryz.ntmps125
  go_wp2_with fail
  clear hww1
  have yw1 := Nat.le_of_eq zw1
  replace zw1 := Nat.le_of_eq zw1.symm
  refine bodyPost_ret (v := .bool false) (by simp [results, Tryz.results125, go_sem]) rfl ?_
  exact Gv.of_v hEw1

set_option maxRecDepth 100000 in
theorem fits_d (X : Fr) (w : World) (h1 : X.N.n ≤ 256) (h2 : ¬ X.D.n ≤ 256) :
    Calls Tryz.prog 125 #[.agg #[.bool X.N.b, .slice X.N.p X.N.n X.N.c, .bool X.D.b, .slice X.D.p X.D.n X.D.c]] w (Gv (.v (.bool false)) w) := by
  have d1 : decide ((X.N.n : Int) ≤ 256) = true := by simp; omega
  have d2 : decide ((X.D.n : Int) ≤ 256) = false := by simp; omega
  have hEw : Ext w w := Below.refl _ _
  obtain ⟨w1, hww1⟩ : ∃ W, w.alloc (.cells #[.bool X.N.b, .slice X.N.p X.N.n X.N.c, .bool X.D.b, .slice X.D.p X.D.n X.D.c] 143) = W := ⟨_, rfl⟩
  have ew1 : Ext w w1 := by rw [← hww1]; exact ea _ _
  have B1 : Cells w1 (w.heap.size) 143 #[.bool X.N.b, .slice X.N.p X.N.n X.N.c, .bool X.D.b, .slice X.D.p X.D.n X.D.c] := by rw [← hww1]; exact Cells.newAt _ _ (by omega)
  have zw1 := alloc_lt hww1
  have hEw1 := eg hEw ew1
  have b1_1_w1 := B1.cell (k := 1) rfl
  have b1_3_w1 := B1.cell (k := 3) rfl
  have lB1_w1 := B1.lt
  go_enter Tryz.func125, Tryz.ntmps125
  go_wp2_with fail
  clear hww1
  have yw1 := Nat.le_of_eq zw1
  replace zw1 := Nat.le_of_eq zw1.symm
  refine bodyPost_ret (v := .bool false) (by simp [results, Tryz.results125, go_sem]) rfl ?_
  exact Gv.of_v hEw1

set_option maxRecDepth 100000 in
theorem told_t (X : Fr) (w : World) (h1 : X.N.n ≤ 256) (h2 : X.D.n ≤ 256) :
    Calls Tryz.prog 130 #[.agg #[.bool X.N.b, .slice X.N.p X.N.n X.N.c, .bool X.D.b, .slice X.D.p X.D.n X.D.c]] w (Gv (.v (.tuple #[.agg #[.bool X.N.b, .slice X.N.p X.N.n X.N.c, .bool X.D.b, .slice X.D.p X.D.n X.D.c], .int .i64 0])) w) := by
  have hEw : Ext w w := Below.refl _ _
  obtain ⟨w1, hww1⟩ : ∃ W, w.alloc (.cells #[.bool X.N.b, .slice X.N.p X.N.n X.N.c, .bool X.D.b, .slice X.D.p X.D.n X.D.c] 143) = W := ⟨_, rfl⟩
  have ew1 : Ext w w1 := by rw [← hww1]; exact ea _ _
  have B1 : Cells w1 (w.heap.size) 143 #[.bool X.N.b, .slice X.N.p X.N.n X.N.c, .bool X.D.b, .slice X.D.p X.D.n X.D.c] := by rw [← hww1]; exact Cells.newAt _ _ (by omega)
  have zw1 := alloc_lt hww1
  have hEw1 := eg hEw ew1
  have lB1_w1 := B1.lt
  obtain ⟨w2, hww2⟩ : ∃ W, w1.alloc (.cells #[.bool false, .slice none 0 0, .bool false, .slice none 0 0] 40) = W := ⟨_, rfl⟩
  have ew2 : Ext w1 w2 := by rw [← hww2]; exact ea _ _
  have B2 : Cells w2 (w.heap.size + 1) 40 #[.bool false, .slice none 0 0, .bool false, .slice none 0 0] := by rw [← hww2]; exact Cells.newAt _ _ (by omega)
  replace B1 := B1.ext ew2
  have zw2 := alloc_lt hww2
  have hEw2 := eg hEw1 ew2
  have b1_0_w2 := B1.cell (k := 0) rfl
  have b1_1_w2 := B1.cell (k := 1) rfl
  have b1_2_w2 := B1.cell (k := 2) rfl
  have b1_3_w2 := B1.cell (k := 3) rfl
  have lB1_w2 := B1.lt
  have lB2_w2 := B2.lt
  go_enter Tryz.func130, Tryz.ntmps130
  go_wp2_with fail
  clear hww1
  clear hww2
  clear lB1_w1
  have yw1 := Nat.le_of_eq zw1
  replace zw1 := Nat.le_of_eq zw1.symm
  have yw2 := Nat.le_of_eq zw2
  replace zw2 := Nat.le_of_eq zw2.symm
  refine (fits_t X _ (h1) (h2)).mono ?_
  intro ee w3 gg
  obtain ⟨rfl, ew3⟩ := Gv.v gg
  replace B1 := B1.ext ew3
  replace B2 := B2.ext ew3
  have hEw3 := eg hEw2 ew3
  have zw3 := ew3.size
  have b1_0_w3 := B1.cell (k := 0) rfl
  have b1_1_w3 := B1.cell (k := 1) rfl
  have b1_2_w3 := B1.cell (k := 2) rfl
  have b1_3_w3 := B1.cell (k := 3) rfl
  have b2_0_w3 := B2.cell (k := 0) rfl
  have fb2_0_w3 := B2.frozen 0
  have b2_1_w3 := B2.cell (k := 1) rfl
  have fb2_1_w3 := B2.frozen 1
  have b2_2_w3 := B2.cell (k := 2) rfl
  have fb2_2_w3 := B2.frozen 2
  have b2_3_w3 := B2.cell (k := 3) rfl
  have fb2_3_w3 := B2.frozen 3
  have lB1_w3 := B1.lt
  have lB2_w3 := B2.lt
  obtain ⟨w4, hww4⟩ : ∃ W, ((((w3).setCell ⟨w.heap.size + 1, 0, none⟩ (.bool X.N.b)).setCell ⟨w.heap.size + 1, 1, none⟩ (.slice X.N.p X.N.n X.N.c)).setCell ⟨w.heap.size + 1, 2, none⟩ (.bool X.D.b)).setCell ⟨w.heap.size + 1, 3, none⟩ (.slice X.D.p X.D.n X.D.c) = W := ⟨_, rfl⟩
  have nuw4 : NoU #[.bool false, .slice none 0 0, .bool false, .slice none 0 0] := by simp [NoU]
  have hEw4 := Ext.sets hEw3 (b := w.heap.size + 1) (by omega) 0 [.bool X.N.b, .slice X.N.p X.N.n X.N.c, .bool X.D.b, .slice X.D.p X.D.n X.D.c]
  replace B1 := Cells.off B1 (b' := w.heap.size + 1) (by omega) 0 [.bool X.N.b, .slice X.N.p X.N.n X.N.c, .bool X.D.b, .slice X.D.p X.D.n X.D.c]
  replace B2 : Cells (sets w3 (w.heap.size + 1) 0 [.bool X.N.b, .slice X.N.p X.N.n X.N.c, .bool X.D.b, .slice X.D.p X.D.n X.D.c]) (w.heap.size + 1) 40 #[.bool X.N.b, .slice X.N.p X.N.n X.N.c, .bool X.D.b, .slice X.D.p X.D.n X.D.c] := Cells.sets [.bool X.N.b, .slice X.N.p X.N.n X.N.c, .bool X.D.b, .slice X.D.p X.D.n X.D.c] B2 0
  have zw4 := size_sets (w.heap.size + 1) [.bool X.N.b, .slice X.N.p X.N.n X.N.c, .bool X.D.b, .slice X.D.p X.D.n X.D.c] w3 0
  replace hww4 : sets w3 (w.heap.size + 1) 0 [.bool X.N.b, .slice X.N.p X.N.n X.N.c, .bool X.D.b, .slice X.D.p X.D.n X.D.c] = w4 := hww4
  rw [hww4] at B1 B2 hEw4 zw4
  replace hww4 : ((((w3).setCell ⟨w.heap.size + 1, 0, none⟩ (.bool X.N.b)).setCell ⟨w.heap.size + 1, 1, none⟩ (.slice X.N.p X.N.n X.N.c)).setCell ⟨w.heap.size + 1, 2, none⟩ (.bool X.D.b)).setCell ⟨w.heap.size + 1, 3, none⟩ (.slice X.D.p X.D.n X.D.c) = w4 := hww4
  have b2_0_w4 := B2.cell (k := 0) rfl
  have b2_1_w4 := B2.cell (k := 1) rfl
  have b2_2_w4 := B2.cell (k := 2) rfl
  have b2_3_w4 := B2.cell (k := 3) rfl
  have lB1_w4 := B1.lt
  have lB2_w4 := B2.lt
  go_wp2_with fail
  clear hww4
  clear b1_0_w2 b1_1_w2 b1_2_w2 b1_3_w2 b1_0_w3 b1_1_w3 b1_2_w3 b1_3_w3 b2_0_w3 fb2_0_w3 b2_1_w3 fb2_1_w3 b2_2_w3 fb2_2_w3 b2_3_w3 fb2_3_w3 lB1_w2 lB2_w2 lB1_w3 lB2_w3
  have yw4 := Nat.le_of_eq zw4
  replace zw4 := Nat.le_of_eq zw4.symm
  refine bodyPost_ret (v := .tuple #[.agg #[.bool X.N.b, .slice X.N.p X.N.n X.N.c, .bool X.D.b, .slice X.D.p X.D.n X.D.c], .int .i64 0]) (by simp [results, Tryz.results130, go_sem, b2_0_w4, b2_1_w4, b2_2_w4, b2_3_w4]) rfl ?_
  exact Gv.of_v hEw4

set_option maxRecDepth 100000 in
theorem ftimes (X : Fr) (Y : Fr) (x : Rat) (y : Rat) (w : World) (hX : FR w X x) (hY : FR w Y y) (bx : Sz x) (by_ : Sz y) :
    Calls Tryz.prog 132 #[.agg #[.bool X.N.b, .slice X.N.p X.N.n X.N.c, .bool X.D.b, .slice X.D.p X.D.n X.D.c], .agg #[.bool Y.N.b, .slice Y.N.p Y.N.n Y.N.c, .bool Y.D.b, .slice Y.D.p Y.D.n Y.D.c]] w (Gv (.f (x * y)) w) := by
  have hEw : Ext w w := Below.refl _ _
  obtain ⟨w1, hww1⟩ : ∃ W, w.alloc (.cells #[.bool X.N.b, .slice X.N.p X.N.n X.N.c, .bool X.D.b, .slice X.D.p X.D.n X.D.c] 143) = W := ⟨_, rfl⟩
  have ew1 : Ext w w1 := by rw [← hww1]; exact ea _ _
  have B1 : Cells w1 (w.heap.size) 143 #[.bool X.N.b, .slice X.N.p X.N.n X.N.c, .bool X.D.b, .slice X.D.p X.D.n X.D.c] := by rw [← hww1]; exact Cells.newAt _ _ (by omega)
  replace hX := hX.ext ew1
  replace hY := hY.ext ew1
  have zw1 := alloc_lt hww1
  have hEw1 := eg hEw ew1
  have lB1_w1 := B1.lt
  obtain ⟨w2, hww2⟩ : ∃ W, w1.alloc (.cells #[.bool Y.N.b, .slice Y.N.p Y.N.n Y.N.c, .bool Y.D.b, .slice Y.D.p Y.D.n Y.D.c] 143) = W := ⟨_, rfl⟩
  have ew2 : Ext w1 w2 := by rw [← hww2]; exact ea _ _
  have B2 : Cells w2 (w.heap.size + 1) 143 #[.bool Y.N.b, .slice Y.N.p Y.N.n Y.N.c, .bool Y.D.b, .slice Y.D.p Y.D.n Y.D.c] := by rw [← hww2]; exact Cells.newAt _ _ (by omega)
  replace hX := hX.ext ew2
  replace hY := hY.ext ew2
  replace B1 := B1.ext ew2
  have zw2 := alloc_lt hww2
  have hEw2 := eg hEw1 ew2
  have lB1_w2 := B1.lt
  have lB2_w2 := B2.lt
  obtain ⟨w3, hww3⟩ : ∃ W, w2.alloc (.cells #[.bool false, .slice none 0 0, .bool false, .slice none 0 0] 143) = W := ⟨_, rfl⟩
  have ew3 : Ext w2 w3 := by rw [← hww3]; exact ea _ _
  have B3 : Cells w3 (w.heap.size + 1 + 1) 143 #[.bool false, .slice none 0 0, .bool false, .slice none 0 0] := by rw [← hww3]; exact Cells.newAt _ _ (by omega)
  replace hX := hX.ext ew3
  replace hY := hY.ext ew3
  replace B1 := B1.ext ew3
  replace B2 := B2.ext ew3
  have zw3 := alloc_lt hww3
  have hEw3 := eg hEw2 ew3
  have b1_0_w3 := B1.cell (k := 0) rfl
  have b1_1_w3 := B1.cell (k := 1) rfl
  have b2_2_w3 := B2.cell (k := 2) rfl
  have b2_3_w3 := B2.cell (k := 3) rfl
  have b2_0_w3 := B2.cell (k := 0) rfl
  have b2_1_w3 := B2.cell (k := 1) rfl
  have b1_2_w3 := B1.cell (k := 2) rfl
  have b1_3_w3 := B1.cell (k := 3) rfl
  have lB1_w3 := B1.lt
  have lB2_w3 := B2.lt
  have lB3_w3 := B3.lt
  go_enter Tryz.func132, Tryz.ntmps132
  go_wp2_with fail
  clear hww1
  clear hww2
  clear hww3
  clear lB1_w1 lB1_w2 lB2_w2
  have yw1 := Nat.le_of_eq zw1
  replace zw1 := Nat.le_of_eq zw1.symm
  have yw2 := Nat.le_of_eq zw2
  replace zw2 := Nat.le_of_eq zw2.symm
  have yw3 := Nat.le_of_eq zw3
  replace zw3 := Nat.le_of_eq zw3.symm
  refine regionT 16 (fun k => match k with | 6 => some (.w ((Int.gcd ((x).num) (((y).den : Int)) : Nat))) | 13 => some (.w ((Int.gcd ((y).num) (((x).den : Int)) : Nat))) | 14 => some (.box 38 #[.bool false, .slice none 0 0]) | 15 => some (.box 38 #[.bool false, .slice none 0 0]) | _ => none) (by kernel_rfl) (by kernel_rfl) ?_
  iterate 6
    refine Walk.one (x := ?_) rfl rfl (fun w1 hI hL K hK => ?_) ?_
    rotate_left
    · obtain ⟨hc, hf⟩ := bcell hI
      go_simp
      repeat (first | (go_ints; try go_simp) | (simp only [↓IntWalk.iteOmega]; try go_simp))
      exact hK
    simp only [Act.put, List.setIfInBounds_toArray, List.set_cons_zero, List.set_cons_succ]
  refine Walk.tell rfl rfl (fun w1 hI hL K hK => ?_) ?_
  · go_simp
    exact (fcommon X.N Y.D _ _ w1 ((hX.1).ext hI) ((hY.2).ext hI) (up4 bx.n) (up4 by_.d)).mono (tell hK)
  rintro _ ⟨Z13, rfl⟩
  simp only [Act.put, List.setIfInBounds_toArray, List.set_cons_zero, List.set_cons_succ]
  iterate 6
    refine Walk.one (x := ?_) rfl rfl (fun w1 hI hL K hK => ?_) ?_
    rotate_left
    · obtain ⟨hc, hf⟩ := bcell hI
      go_simp
      repeat (first | (go_ints; try go_simp) | (simp only [↓IntWalk.iteOmega]; try go_simp))
      exact hK
    simp only [Act.put, List.setIfInBounds_toArray, List.set_cons_zero, List.set_cons_succ]
  refine Walk.tell rfl rfl (fun w1 hI hL K hK => ?_) ?_
  · go_simp
    exact (fcommon Y.N X.D _ _ w1 ((hY.1).ext hI) ((hX.2).ext hI) (up4 by_.n) (up4 bx.d)).mono (tell hK)
  rintro _ ⟨Z20, rfl⟩
  simp only [Act.put, List.setIfInBounds_toArray, List.set_cons_zero, List.set_cons_succ]
  refine Walk.tell rfl rfl (fun w1 hI hL K hK => ?_) ?_
  · go_simp
    exact tellB hK
  rintro _ ⟨g5, rfl⟩
  simp only [Act.put, List.setIfInBounds_toArray, List.set_cons_zero, List.set_cons_succ]
  refine Walk.tell rfl rfl (fun w1 hI hL K hK => ?_) ?_
  · go_simp
    exact tellB hK
  rintro _ ⟨g6, rfl⟩
  simp only [Act.put, List.setIfInBounds_toArray, List.set_cons_zero, List.set_cons_succ]
  refine Walk.nilF fun w4 ew4 kzL kzX => ?_
  replace hX := hX.ext ew4
  replace hY := hY.ext ew4
  replace B1 := B1.ext ew4
  replace B2 := B2.ext ew4
  replace B3 := B3.ext ew4
  have hEw4 := eg hEw3 ew4
  have zw4 := ew4.size
  obtain ⟨hZ13, oZ13⟩ := Tl.getW (kz (i := 6) (v := .agg #[.bool Z13.b, .slice Z13.p Z13.n Z13.c]) rfl (by simp) kzL)
  replace oZ13 := oZ13.mono hEw3.size
  obtain ⟨hZ20, oZ20⟩ := Tl.getW (kz (i := 13) (v := .agg #[.bool Z20.b, .slice Z20.p Z20.n Z20.c]) rfl (by simp) kzL)
  replace oZ20 := oZ20.mono hEw3.size
  obtain ⟨B4, yB4⟩ := Tl.getB (kz (i := 14) (v := .pointer (some ⟨g5, 0, none⟩)) rfl (by simp) kzL)
  obtain ⟨B5, yB5⟩ := Tl.getB (kz (i := 15) (v := .pointer (some ⟨g6, 0, none⟩)) rfl (by simp) kzL)
  have dB4B5 : g5 ≠ g6 := by
    have := kzX (14, .pointer (some ⟨g5, 0, none⟩)) (by simp) (15, .pointer (some ⟨g6, 0, none⟩)) (by simp) (by simp)
    simpa [TB, Tl.box, Bl, Bl1] using this
  clear kzL kzX
  have b4_0_w4 := B4.cell (k := 0) rfl
  have fb4_0_w4 := B4.frozen 0
  have b4_1_w4 := B4.cell (k := 1) rfl
  have fb4_1_w4 := B4.frozen 1
  have lB1_w4 := B1.lt
  have lB2_w4 := B2.lt
  have lB3_w4 := B3.lt
  have lB4_w4 := B4.lt
  have lB5_w4 := B5.lt
  simp only [List.drop_succ_cons, List.drop_zero, List.drop_nil]
  obtain ⟨w5, hww5⟩ : ∃ W, ((w4).setCell ⟨g5, 0, none⟩ (.bool Z13.b)).setCell ⟨g5, 1, none⟩ (.slice Z13.p Z13.n Z13.c) = W := ⟨_, rfl⟩
  have nuw5 : NoU #[.bool false, .slice none 0 0] := by simp [NoU]
  replace hX := FR.sets hX B4 nuw5 0 [.bool Z13.b, .slice Z13.p Z13.n Z13.c]
  replace hY := FR.sets hY B4 nuw5 0 [.bool Z13.b, .slice Z13.p Z13.n Z13.c]
  replace hZ13 := WR.sets hZ13 B4 nuw5 0 [.bool Z13.b, .slice Z13.p Z13.n Z13.c]
  replace hZ20 := WR.sets hZ20 B4 nuw5 0 [.bool Z13.b, .slice Z13.p Z13.n Z13.c]
  replace oZ13 := OW.sets oZ13 B4 (by decide) 0 [.bool Z13.b, .slice Z13.p Z13.n Z13.c]
  replace oZ20 := OW.sets oZ20 B4 (by decide) 0 [.bool Z13.b, .slice Z13.p Z13.n Z13.c]
  have hEw5 := Ext.sets hEw4 (b := g5) (by omega) 0 [.bool Z13.b, .slice Z13.p Z13.n Z13.c]
  replace B1 := Cells.off B1 (b' := g5) (by omega) 0 [.bool Z13.b, .slice Z13.p Z13.n Z13.c]
  replace B2 := Cells.off B2 (b' := g5) (by omega) 0 [.bool Z13.b, .slice Z13.p Z13.n Z13.c]
  replace B3 := Cells.off B3 (b' := g5) (by omega) 0 [.bool Z13.b, .slice Z13.p Z13.n Z13.c]
  replace B5 := Cells.off B5 (b' := g5) (by omega) 0 [.bool Z13.b, .slice Z13.p Z13.n Z13.c]
  replace B4 : Cells (sets w4 (g5) 0 [.bool Z13.b, .slice Z13.p Z13.n Z13.c]) (g5) 38 #[.bool Z13.b, .slice Z13.p Z13.n Z13.c] := Cells.sets [.bool Z13.b, .slice Z13.p Z13.n Z13.c] B4 0
  have zw5 := size_sets (g5) [.bool Z13.b, .slice Z13.p Z13.n Z13.c] w4 0
  replace hww5 : sets w4 (g5) 0 [.bool Z13.b, .slice Z13.p Z13.n Z13.c] = w5 := hww5
  rw [hww5] at hX hY hZ13 hZ20 oZ13 oZ20 B1 B2 B3 B4 B5 hEw5 zw5
  replace hww5 : ((w4).setCell ⟨g5, 0, none⟩ (.bool Z13.b)).setCell ⟨g5, 1, none⟩ (.slice Z13.p Z13.n Z13.c) = w5 := hww5
  have b5_0_w5 := B5.cell (k := 0) rfl
  have fb5_0_w5 := B5.frozen 0
  have b5_1_w5 := B5.cell (k := 1) rfl
  have fb5_1_w5 := B5.frozen 1
  have lB1_w5 := B1.lt
  have lB2_w5 := B2.lt
  have lB3_w5 := B3.lt
  have lB4_w5 := B4.lt
  have lB5_w5 := B5.lt
  obtain ⟨w6, hww6⟩ : ∃ W, ((w5).setCell ⟨g6, 0, none⟩ (.bool Z20.b)).setCell ⟨g6, 1, none⟩ (.slice Z20.p Z20.n Z20.c) = W := ⟨_, rfl⟩
  have nuw6 : NoU #[.bool false, .slice none 0 0] := by simp [NoU]
  replace hX := FR.sets hX B5 nuw6 0 [.bool Z20.b, .slice Z20.p Z20.n Z20.c]
  replace hY := FR.sets hY B5 nuw6 0 [.bool Z20.b, .slice Z20.p Z20.n Z20.c]
  replace hZ13 := WR.sets hZ13 B5 nuw6 0 [.bool Z20.b, .slice Z20.p Z20.n Z20.c]
  replace hZ20 := WR.sets hZ20 B5 nuw6 0 [.bool Z20.b, .slice Z20.p Z20.n Z20.c]
  replace oZ13 := OW.sets oZ13 B5 (by decide) 0 [.bool Z20.b, .slice Z20.p Z20.n Z20.c]
  replace oZ20 := OW.sets oZ20 B5 (by decide) 0 [.bool Z20.b, .slice Z20.p Z20.n Z20.c]
  have hEw6 := Ext.sets hEw5 (b := g6) (by omega) 0 [.bool Z20.b, .slice Z20.p Z20.n Z20.c]
  replace B1 := Cells.off B1 (b' := g6) (by omega) 0 [.bool Z20.b, .slice Z20.p Z20.n Z20.c]
  replace B2 := Cells.off B2 (b' := g6) (by omega) 0 [.bool Z20.b, .slice Z20.p Z20.n Z20.c]
  replace B3 := Cells.off B3 (b' := g6) (by omega) 0 [.bool Z20.b, .slice Z20.p Z20.n Z20.c]
  replace B4 := Cells.off B4 (b' := g6) (by omega) 0 [.bool Z20.b, .slice Z20.p Z20.n Z20.c]
  replace B5 : Cells (sets w5 (g6) 0 [.bool Z20.b, .slice Z20.p Z20.n Z20.c]) (g6) 38 #[.bool Z20.b, .slice Z20.p Z20.n Z20.c] := Cells.sets [.bool Z20.b, .slice Z20.p Z20.n Z20.c] B5 0
  have zw6 := size_sets (g6) [.bool Z20.b, .slice Z20.p Z20.n Z20.c] w5 0
  replace hww6 : sets w5 (g6) 0 [.bool Z20.b, .slice Z20.p Z20.n Z20.c] = w6 := hww6
  rw [hww6] at hX hY hZ13 hZ20 oZ13 oZ20 B1 B2 B3 B4 B5 hEw6 zw6
  replace hww6 : ((w5).setCell ⟨g6, 0, none⟩ (.bool Z20.b)).setCell ⟨g6, 1, none⟩ (.slice Z20.p Z20.n Z20.c) = w6 := hww6
  have b1_0_w6 := B1.cell (k := 0) rfl
  have b1_1_w6 := B1.cell (k := 1) rfl
  have b4_0_w6 := B4.cell (k := 0) rfl
  have b4_1_w6 := B4.cell (k := 1) rfl
  have b2_0_w6 := B2.cell (k := 0) rfl
  have b2_1_w6 := B2.cell (k := 1) rfl
  have b5_0_w6 := B5.cell (k := 0) rfl
  have b5_1_w6 := B5.cell (k := 1) rfl
  have b1_2_w6 := B1.cell (k := 2) rfl
  have b1_3_w6 := B1.cell (k := 3) rfl
  have b2_2_w6 := B2.cell (k := 2) rfl
  have b2_3_w6 := B2.cell (k := 3) rfl
  have lB1_w6 := B1.lt
  have lB2_w6 := B2.lt
  have lB3_w6 := B3.lt
  have lB4_w6 := B4.lt
  have lB5_w6 := B5.lt
  go_wp2_with fail
  clear hww5
  clear hww6
  clear b1_0_w3 b1_1_w3 b2_2_w3 b2_3_w3 b2_0_w3 b2_1_w3 b1_2_w3 b1_3_w3 b4_0_w4 fb4_0_w4 b4_1_w4 fb4_1_w4 b5_0_w5 fb5_0_w5 b5_1_w5 fb5_1_w5 lB1_w3 lB2_w3 lB3_w3 lB1_w4 lB2_w4 lB3_w4 lB4_w4 lB5_w4 lB1_w5 lB2_w5 lB3_w5 lB4_w5 lB5_w5
  have yw5 := Nat.le_of_eq zw5
  replace zw5 := Nat.le_of_eq zw5.symm
  have yw6 := Nat.le_of_eq zw6
  replace zw6 := Nat.le_of_eq zw6.symm
  refine regionT 24 (fun k => match k with | 4 => some (.w (Int.fdiv ((x).num) ((Int.gcd ((x).num) (((y).den : Int)) : Nat)))) | 9 => some (.w (Int.fdiv ((y).num) ((Int.gcd ((y).num) (((x).den : Int)) : Nat)))) | 10 => some (.w (Int.fdiv ((x).num) ((Int.gcd ((x).num) (((y).den : Int)) : Nat)) * Int.fdiv ((y).num) ((Int.gcd ((y).num) (((x).den : Int)) : Nat)))) | 15 => some (.w (Int.fdiv (((x).den : Int)) ((Int.gcd ((y).num) (((x).den : Int)) : Nat)))) | 20 => some (.w (Int.fdiv (((y).den : Int)) ((Int.gcd ((x).num) (((y).den : Int)) : Nat)))) | 21 => some (.w (Int.fdiv (((x).den : Int)) ((Int.gcd ((y).num) (((x).den : Int)) : Nat)) * Int.fdiv (((y).den : Int)) ((Int.gcd ((x).num) (((y).den : Int)) : Nat)))) | _ => none) (by kernel_rfl) (by kernel_rfl) ?_
  iterate 4
    refine Walk.one (x := ?_) rfl rfl (fun w1 hI hL K hK => ?_) ?_
    rotate_left
    · obtain ⟨hc, hf⟩ := bcell hI
      go_simp
      repeat (first | (go_ints; try go_simp) | (simp only [↓IntWalk.iteOmega]; try go_simp))
      exact hK
    simp only [Act.put, List.setIfInBounds_toArray, List.set_cons_zero, List.set_cons_succ]
  refine Walk.tell rfl rfl (fun w1 hI hL K hK => ?_) ?_
  · go_simp
    exact (fover X.N Z13 _ _ w1 ((hX.1).ext hI) ((hZ13).ext hI) (up4 bx.n) (Nat.le_trans (siz_gcd (den_ne y)) (up4 by_.d)) (gcd_ne_left (den_ne y))).mono (tell hK)
  rintro _ ⟨Z25, rfl⟩
  simp only [Act.put, List.setIfInBounds_toArray, List.set_cons_zero, List.set_cons_succ]
  iterate 4
    refine Walk.one (x := ?_) rfl rfl (fun w1 hI hL K hK => ?_) ?_
    rotate_left
    · obtain ⟨hc, hf⟩ := bcell hI
      go_simp
      repeat (first | (go_ints; try go_simp) | (simp only [↓IntWalk.iteOmega]; try go_simp))
      exact hK
    simp only [Act.put, List.setIfInBounds_toArray, List.set_cons_zero, List.set_cons_succ]
  refine Walk.tell rfl rfl (fun w1 hI hL K hK => ?_) ?_
  · go_simp
    exact (fover Y.N Z20 _ _ w1 ((hY.1).ext hI) ((hZ20).ext hI) (up4 by_.n) (Nat.le_trans (siz_gcd (den_ne x)) (up4 bx.d)) (gcd_ne_left (den_ne x))).mono (tell hK)
  rintro _ ⟨Z30, rfl⟩
  simp only [Act.put, List.setIfInBounds_toArray, List.set_cons_zero, List.set_cons_succ]
  refine Walk.tell rfl rfl (fun w1 hI hL K hK => ?_) ?_
  · go_simp
    exact (fproduct Z25 Z30 _ _ w1 ((Tl.getW (kn (i := 4) (v := .agg #[.bool Z25.b, .slice Z25.p Z25.n Z25.c]) rfl (by simp) (by kernel_rfl) hL)).1) ((Tl.getW (kn (i := 9) (v := .agg #[.bool Z30.b, .slice Z30.p Z30.n Z30.c]) rfl (by simp) (by kernel_rfl) hL)).1) (sp bx.n by_.n)).mono (tell hK)
  rintro _ ⟨Z31, rfl⟩
  simp only [Act.put, List.setIfInBounds_toArray, List.set_cons_zero, List.set_cons_succ]
  iterate 4
    refine Walk.one (x := ?_) rfl rfl (fun w1 hI hL K hK => ?_) ?_
    rotate_left
    · obtain ⟨hc, hf⟩ := bcell hI
      go_simp
      repeat (first | (go_ints; try go_simp) | (simp only [↓IntWalk.iteOmega]; try go_simp))
      exact hK
    simp only [Act.put, List.setIfInBounds_toArray, List.set_cons_zero, List.set_cons_succ]
  refine Walk.tell rfl rfl (fun w1 hI hL K hK => ?_) ?_
  · go_simp
    exact (fover X.D Z20 _ _ w1 ((hX.2).ext hI) ((hZ20).ext hI) (up4 bx.d) (Nat.le_trans (siz_gcd (den_ne x)) (up4 bx.d)) (gcd_ne_left (den_ne x))).mono (tell hK)
  rintro _ ⟨Z36, rfl⟩
  simp only [Act.put, List.setIfInBounds_toArray, List.set_cons_zero, List.set_cons_succ]
  iterate 4
    refine Walk.one (x := ?_) rfl rfl (fun w1 hI hL K hK => ?_) ?_
    rotate_left
    · obtain ⟨hc, hf⟩ := bcell hI
      go_simp
      repeat (first | (go_ints; try go_simp) | (simp only [↓IntWalk.iteOmega]; try go_simp))
      exact hK
    simp only [Act.put, List.setIfInBounds_toArray, List.set_cons_zero, List.set_cons_succ]
  refine Walk.tell rfl rfl (fun w1 hI hL K hK => ?_) ?_
  · go_simp
    exact (fover Y.D Z13 _ _ w1 ((hY.2).ext hI) ((hZ13).ext hI) (up4 by_.d) (Nat.le_trans (siz_gcd (den_ne y)) (up4 by_.d)) (gcd_ne_left (den_ne y))).mono (tell hK)
  rintro _ ⟨Z41, rfl⟩
  simp only [Act.put, List.setIfInBounds_toArray, List.set_cons_zero, List.set_cons_succ]
  refine Walk.tell rfl rfl (fun w1 hI hL K hK => ?_) ?_
  · go_simp
    exact (fproduct Z36 Z41 _ _ w1 ((Tl.getW (kn (i := 15) (v := .agg #[.bool Z36.b, .slice Z36.p Z36.n Z36.c]) rfl (by simp) (by kernel_rfl) hL)).1) ((Tl.getW (kn (i := 20) (v := .agg #[.bool Z41.b, .slice Z41.p Z41.n Z41.c]) rfl (by simp) (by kernel_rfl) hL)).1) (sp bx.d by_.d)).mono (tell hK)
  rintro _ ⟨Z42, rfl⟩
  simp only [Act.put, List.setIfInBounds_toArray, List.set_cons_zero, List.set_cons_succ]
  iterate 2
    refine Walk.one (x := ?_) rfl rfl (fun w1 hI hL K hK => ?_) ?_
    rotate_left
    · obtain ⟨hc, hf⟩ := bcell hI
      go_simp
      repeat (first | (go_ints; try go_simp) | (simp only [↓IntWalk.iteOmega]; try go_simp))
      exact hK
    simp only [Act.put, List.setIfInBounds_toArray, List.set_cons_zero, List.set_cons_succ]
  refine Walk.nilF fun w7 ew7 kzL kzX => ?_
  replace hX := hX.ext ew7
  replace hY := hY.ext ew7
  replace hZ13 := hZ13.ext ew7
  replace hZ20 := hZ20.ext ew7
  replace oZ13 := oZ13.ext ew7
  replace oZ20 := oZ20.ext ew7
  replace B1 := B1.ext ew7
  replace B2 := B2.ext ew7
  replace B3 := B3.ext ew7
  replace B4 := B4.ext ew7
  replace B5 := B5.ext ew7
  have hEw7 := eg hEw6 ew7
  have zw7 := ew7.size
  obtain ⟨hZ25, oZ25⟩ := Tl.getW (kz (i := 4) (v := .agg #[.bool Z25.b, .slice Z25.p Z25.n Z25.c]) rfl (by simp) kzL)
  replace oZ25 := oZ25.mono hEw6.size
  obtain ⟨hZ30, oZ30⟩ := Tl.getW (kz (i := 9) (v := .agg #[.bool Z30.b, .slice Z30.p Z30.n Z30.c]) rfl (by simp) kzL)
  replace oZ30 := oZ30.mono hEw6.size
  obtain ⟨hZ31, oZ31⟩ := Tl.getW (kz (i := 10) (v := .agg #[.bool Z31.b, .slice Z31.p Z31.n Z31.c]) rfl (by simp) kzL)
  replace oZ31 := oZ31.mono hEw6.size
  obtain ⟨hZ36, oZ36⟩ := Tl.getW (kz (i := 15) (v := .agg #[.bool Z36.b, .slice Z36.p Z36.n Z36.c]) rfl (by simp) kzL)
  replace oZ36 := oZ36.mono hEw6.size
  obtain ⟨hZ41, oZ41⟩ := Tl.getW (kz (i := 20) (v := .agg #[.bool Z41.b, .slice Z41.p Z41.n Z41.c]) rfl (by simp) kzL)
  replace oZ41 := oZ41.mono hEw6.size
  obtain ⟨hZ42, oZ42⟩ := Tl.getW (kz (i := 21) (v := .agg #[.bool Z42.b, .slice Z42.p Z42.n Z42.c]) rfl (by simp) kzL)
  replace oZ42 := oZ42.mono hEw6.size
  have aZ31_Z42 : Apt Z31 Z42 := Apt.of (kzX (10, .agg #[.bool Z31.b, .slice Z31.p Z31.n Z31.c]) (by simp) (21, .agg #[.bool Z42.b, .slice Z42.p Z42.n Z42.c]) (by simp) (by simp))
  clear kzL kzX
  have b3_0_w7 := B3.cell (k := 0) rfl
  have fb3_0_w7 := B3.frozen 0
  have b3_1_w7 := B3.cell (k := 1) rfl
  have fb3_1_w7 := B3.frozen 1
  have b3_2_w7 := B3.cell (k := 2) rfl
  have fb3_2_w7 := B3.frozen 2
  have b3_3_w7 := B3.cell (k := 3) rfl
  have fb3_3_w7 := B3.frozen 3
  have lB1_w7 := B1.lt
  have lB2_w7 := B2.lt
  have lB3_w7 := B3.lt
  have lB4_w7 := B4.lt
  have lB5_w7 := B5.lt
  simp only [List.drop_succ_cons, List.drop_zero, List.drop_nil]
  obtain ⟨w8, hww8⟩ : ∃ W, ((((w7).setCell ⟨w.heap.size + 1 + 1, 0, none⟩ (.bool Z31.b)).setCell ⟨w.heap.size + 1 + 1, 1, none⟩ (.slice Z31.p Z31.n Z31.c)).setCell ⟨w.heap.size + 1 + 1, 2, none⟩ (.bool Z42.b)).setCell ⟨w.heap.size + 1 + 1, 3, none⟩ (.slice Z42.p Z42.n Z42.c) = W := ⟨_, rfl⟩
  have nuw8 : NoU #[.bool false, .slice none 0 0, .bool false, .slice none 0 0] := by simp [NoU]
  replace hX := FR.sets hX B3 nuw8 0 [.bool Z31.b, .slice Z31.p Z31.n Z31.c, .bool Z42.b, .slice Z42.p Z42.n Z42.c]
  replace hY := FR.sets hY B3 nuw8 0 [.bool Z31.b, .slice Z31.p Z31.n Z31.c, .bool Z42.b, .slice Z42.p Z42.n Z42.c]
  replace hZ13 := WR.sets hZ13 B3 nuw8 0 [.bool Z31.b, .slice Z31.p Z31.n Z31.c, .bool Z42.b, .slice Z42.p Z42.n Z42.c]
  replace hZ20 := WR.sets hZ20 B3 nuw8 0 [.bool Z31.b, .slice Z31.p Z31.n Z31.c, .bool Z42.b, .slice Z42.p Z42.n Z42.c]
  replace hZ25 := WR.sets hZ25 B3 nuw8 0 [.bool Z31.b, .slice Z31.p Z31.n Z31.c, .bool Z42.b, .slice Z42.p Z42.n Z42.c]
  replace hZ30 := WR.sets hZ30 B3 nuw8 0 [.bool Z31.b, .slice Z31.p Z31.n Z31.c, .bool Z42.b, .slice Z42.p Z42.n Z42.c]
  replace hZ31 := WR.sets hZ31 B3 nuw8 0 [.bool Z31.b, .slice Z31.p Z31.n Z31.c, .bool Z42.b, .slice Z42.p Z42.n Z42.c]
  replace hZ36 := WR.sets hZ36 B3 nuw8 0 [.bool Z31.b, .slice Z31.p Z31.n Z31.c, .bool Z42.b, .slice Z42.p Z42.n Z42.c]
  replace hZ41 := WR.sets hZ41 B3 nuw8 0 [.bool Z31.b, .slice Z31.p Z31.n Z31.c, .bool Z42.b, .slice Z42.p Z42.n Z42.c]
  replace hZ42 := WR.sets hZ42 B3 nuw8 0 [.bool Z31.b, .slice Z31.p Z31.n Z31.c, .bool Z42.b, .slice Z42.p Z42.n Z42.c]
  replace oZ13 := OW.sets oZ13 B3 (by decide) 0 [.bool Z31.b, .slice Z31.p Z31.n Z31.c, .bool Z42.b, .slice Z42.p Z42.n Z42.c]
  replace oZ20 := OW.sets oZ20 B3 (by decide) 0 [.bool Z31.b, .slice Z31.p Z31.n Z31.c, .bool Z42.b, .slice Z42.p Z42.n Z42.c]
  replace oZ25 := OW.sets oZ25 B3 (by decide) 0 [.bool Z31.b, .slice Z31.p Z31.n Z31.c, .bool Z42.b, .slice Z42.p Z42.n Z42.c]
  replace oZ30 := OW.sets oZ30 B3 (by decide) 0 [.bool Z31.b, .slice Z31.p Z31.n Z31.c, .bool Z42.b, .slice Z42.p Z42.n Z42.c]
  replace oZ31 := OW.sets oZ31 B3 (by decide) 0 [.bool Z31.b, .slice Z31.p Z31.n Z31.c, .bool Z42.b, .slice Z42.p Z42.n Z42.c]
  replace oZ36 := OW.sets oZ36 B3 (by decide) 0 [.bool Z31.b, .slice Z31.p Z31.n Z31.c, .bool Z42.b, .slice Z42.p Z42.n Z42.c]
  replace oZ41 := OW.sets oZ41 B3 (by decide) 0 [.bool Z31.b, .slice Z31.p Z31.n Z31.c, .bool Z42.b, .slice Z42.p Z42.n Z42.c]
  replace oZ42 := OW.sets oZ42 B3 (by decide) 0 [.bool Z31.b, .slice Z31.p Z31.n Z31.c, .bool Z42.b, .slice Z42.p Z42.n Z42.c]
  have hEw8 := Ext.sets hEw7 (b := w.heap.size + 1 + 1) (by omega) 0 [.bool Z31.b, .slice Z31.p Z31.n Z31.c, .bool Z42.b, .slice Z42.p Z42.n Z42.c]
  replace B1 := Cells.off B1 (b' := w.heap.size + 1 + 1) (by omega) 0 [.bool Z31.b, .slice Z31.p Z31.n Z31.c, .bool Z42.b, .slice Z42.p Z42.n Z42.c]
  replace B2 := Cells.off B2 (b' := w.heap.size + 1 + 1) (by omega) 0 [.bool Z31.b, .slice Z31.p Z31.n Z31.c, .bool Z42.b, .slice Z42.p Z42.n Z42.c]
  replace B4 := Cells.off B4 (b' := w.heap.size + 1 + 1) (by omega) 0 [.bool Z31.b, .slice Z31.p Z31.n Z31.c, .bool Z42.b, .slice Z42.p Z42.n Z42.c]
  replace B5 := Cells.off B5 (b' := w.heap.size + 1 + 1) (by omega) 0 [.bool Z31.b, .slice Z31.p Z31.n Z31.c, .bool Z42.b, .slice Z42.p Z42.n Z42.c]
  replace B3 : Cells (sets w7 (w.heap.size + 1 + 1) 0 [.bool Z31.b, .slice Z31.p Z31.n Z31.c, .bool Z42.b, .slice Z42.p Z42.n Z42.c]) (w.heap.size + 1 + 1) 143 #[.bool Z31.b, .slice Z31.p Z31.n Z31.c, .bool Z42.b, .slice Z42.p Z42.n Z42.c] := Cells.sets [.bool Z31.b, .slice Z31.p Z31.n Z31.c, .bool Z42.b, .slice Z42.p Z42.n Z42.c] B3 0
  have zw8 := size_sets (w.heap.size + 1 + 1) [.bool Z31.b, .slice Z31.p Z31.n Z31.c, .bool Z42.b, .slice Z42.p Z42.n Z42.c] w7 0
  replace hww8 : sets w7 (w.heap.size + 1 + 1) 0 [.bool Z31.b, .slice Z31.p Z31.n Z31.c, .bool Z42.b, .slice Z42.p Z42.n Z42.c] = w8 := hww8
  rw [hww8] at hX hY hZ13 hZ20 hZ25 hZ30 hZ31 hZ36 hZ41 hZ42 oZ13 oZ20 oZ25 oZ30 oZ31 oZ36 oZ41 oZ42 B1 B2 B3 B4 B5 hEw8 zw8
  replace hww8 : ((((w7).setCell ⟨w.heap.size + 1 + 1, 0, none⟩ (.bool Z31.b)).setCell ⟨w.heap.size + 1 + 1, 1, none⟩ (.slice Z31.p Z31.n Z31.c)).setCell ⟨w.heap.size + 1 + 1, 2, none⟩ (.bool Z42.b)).setCell ⟨w.heap.size + 1 + 1, 3, none⟩ (.slice Z42.p Z42.n Z42.c) = w8 := hww8
  have b3_0_w8 := B3.cell (k := 0) rfl
  have b3_1_w8 := B3.cell (k := 1) rfl
  have b3_2_w8 := B3.cell (k := 2) rfl
  have b3_3_w8 := B3.cell (k := 3) rfl
  have lB1_w8 := B1.lt
  have lB2_w8 := B2.lt
  have lB3_w8 := B3.lt
  have lB4_w8 := B4.lt
  have lB5_w8 := B5.lt
  go_wp2_with fail
  clear hww8
  clear b1_0_w6 b1_1_w6 b4_0_w6 b4_1_w6 b2_0_w6 b2_1_w6 b5_0_w6 b5_1_w6 b1_2_w6 b1_3_w6 b2_2_w6 b2_3_w6 b3_0_w7 fb3_0_w7 b3_1_w7 fb3_1_w7 b3_2_w7 fb3_2_w7 b3_3_w7 fb3_3_w7 lB1_w6 lB2_w6 lB3_w6 lB4_w6 lB5_w6 lB1_w7 lB2_w7 lB3_w7 lB4_w7 lB5_w7
  have yw8 := Nat.le_of_eq zw8
  replace zw8 := Nat.le_of_eq zw8.symm
  refine bodyPost_ret (v := .agg #[.bool Z31.b, .slice Z31.p Z31.n Z31.c, .bool Z42.b, .slice Z42.p Z42.n Z42.c]) (by simp [results, Tryz.results132, go_sem, b3_0_w8, b3_1_w8, b3_2_w8, b3_3_w8]) rfl ?_
  exact Gv.of_f (X := ⟨Z31, Z42⟩) (mkFR (WR.cast hZ31 (mul_num x y)) (WR.cast hZ42 (mul_den x y))) (mkOF oZ31 oZ42 aZ31_Z42) hEw8

set_option maxRecDepth 100000 in
theorem fplus (X : Fr) (Y : Fr) (x : Rat) (y : Rat) (w : World) (hX : FR w X x) (hY : FR w Y y) (bx : Sz x) (by_ : Sz y) :
    Calls Tryz.prog 129 #[.agg #[.bool X.N.b, .slice X.N.p X.N.n X.N.c, .bool X.D.b, .slice X.D.p X.D.n X.D.c], .agg #[.bool Y.N.b, .slice Y.N.p Y.N.n Y.N.c, .bool Y.D.b, .slice Y.D.p Y.D.n Y.D.c]] w (Gv (.f (x + y)) w) := by
  have hEw : Ext w w := Below.refl _ _
  obtain ⟨w1, hww1⟩ : ∃ W, w.alloc (.cells #[.bool X.N.b, .slice X.N.p X.N.n X.N.c, .bool X.D.b, .slice X.D.p X.D.n X.D.c] 143) = W := ⟨_, rfl⟩
  have ew1 : Ext w w1 := by rw [← hww1]; exact ea _ _
  have B1 : Cells w1 (w.heap.size) 143 #[.bool X.N.b, .slice X.N.p X.N.n X.N.c, .bool X.D.b, .slice X.D.p X.D.n X.D.c] := by rw [← hww1]; exact Cells.newAt _ _ (by omega)
  replace hX := hX.ext ew1
  replace hY := hY.ext ew1
  have zw1 := alloc_lt hww1
  have hEw1 := eg hEw ew1
  have lB1_w1 := B1.lt
  obtain ⟨w2, hww2⟩ : ∃ W, w1.alloc (.cells #[.bool Y.N.b, .slice Y.N.p Y.N.n Y.N.c, .bool Y.D.b, .slice Y.D.p Y.D.n Y.D.c] 143) = W := ⟨_, rfl⟩
  have ew2 : Ext w1 w2 := by rw [← hww2]; exact ea _ _
  have B2 : Cells w2 (w.heap.size + 1) 143 #[.bool Y.N.b, .slice Y.N.p Y.N.n Y.N.c, .bool Y.D.b, .slice Y.D.p Y.D.n Y.D.c] := by rw [← hww2]; exact Cells.newAt _ _ (by omega)
  replace hX := hX.ext ew2
  replace hY := hY.ext ew2
  replace B1 := B1.ext ew2
  have zw2 := alloc_lt hww2
  have hEw2 := eg hEw1 ew2
  have lB1_w2 := B1.lt
  have lB2_w2 := B2.lt
  obtain ⟨w3, hww3⟩ : ∃ W, w2.alloc (.cells #[.bool false, .slice none 0 0, .bool false, .slice none 0 0] 143) = W := ⟨_, rfl⟩
  have ew3 : Ext w2 w3 := by rw [← hww3]; exact ea _ _
  have B3 : Cells w3 (w.heap.size + 1 + 1) 143 #[.bool false, .slice none 0 0, .bool false, .slice none 0 0] := by rw [← hww3]; exact Cells.newAt _ _ (by omega)
  replace hX := hX.ext ew3
  replace hY := hY.ext ew3
  replace B1 := B1.ext ew3
  replace B2 := B2.ext ew3
  have zw3 := alloc_lt hww3
  have hEw3 := eg hEw2 ew3
  have b1_2_w3 := B1.cell (k := 2) rfl
  have b1_3_w3 := B1.cell (k := 3) rfl
  have b2_2_w3 := B2.cell (k := 2) rfl
  have b2_3_w3 := B2.cell (k := 3) rfl
  have lB1_w3 := B1.lt
  have lB2_w3 := B2.lt
  have lB3_w3 := B3.lt
  go_enter Tryz.func129, Tryz.ntmps129
  go_wp2_with fail
  clear hww1
  clear hww2
  clear hww3
  clear lB1_w1 lB1_w2 lB2_w2
  have yw1 := Nat.le_of_eq zw1
  replace zw1 := Nat.le_of_eq zw1.symm
  have yw2 := Nat.le_of_eq zw2
  replace zw2 := Nat.le_of_eq zw2.symm
  have yw3 := Nat.le_of_eq zw3
  replace zw3 := Nat.le_of_eq zw3.symm
  refine (fcommon X.D Y.D _ _ _ (hX.2) (hY.2) (up4 bx.d) (up4 by_.d)).mono ?_
  intro ee w4 gg
  obtain ⟨Z15, rfl, hZ15, oZ15, ew4⟩ := Gv.w gg
  replace hX := hX.ext ew4
  replace hY := hY.ext ew4
  replace B1 := B1.ext ew4
  replace B2 := B2.ext ew4
  replace B3 := B3.ext ew4
  have hEw4 := eg hEw3 ew4
  have zw4 := ew4.size
  replace oZ15 := oZ15.mono hEw3.size
  have lB1_w4 := B1.lt
  have lB2_w4 := B2.lt
  have lB3_w4 := B3.lt
  obtain ⟨w5, hww5⟩ : ∃ W, w4.alloc (.cells #[.bool Z15.b, .slice Z15.p Z15.n Z15.c] 38) = W := ⟨_, rfl⟩
  have ew5 : Ext w4 w5 := by rw [← hww5]; exact ea _ _
  have B4 : Cells w5 (w4.heap.size) 38 #[.bool Z15.b, .slice Z15.p Z15.n Z15.c] := by rw [← hww5]; exact Cells.newAt _ _ (by omega)
  replace hX := hX.ext ew5
  replace hY := hY.ext ew5
  replace hZ15 := hZ15.ext ew5
  replace oZ15 := oZ15.ext ew5
  replace B1 := B1.ext ew5
  replace B2 := B2.ext ew5
  replace B3 := B3.ext ew5
  have zw5 := alloc_lt hww5
  have hEw5 := eg hEw4 ew5
  have b1_2_w5 := B1.cell (k := 2) rfl
  have b1_3_w5 := B1.cell (k := 3) rfl
  have b4_0_w5 := B4.cell (k := 0) rfl
  have b4_1_w5 := B4.cell (k := 1) rfl
  have lB1_w5 := B1.lt
  have lB2_w5 := B2.lt
  have lB3_w5 := B3.lt
  have lB4_w5 := B4.lt
  go_wp2_with fail
  clear hww5
  clear b1_2_w3 b1_3_w3 b2_2_w3 b2_3_w3 lB1_w3 lB2_w3 lB3_w3 lB1_w4 lB2_w4 lB3_w4
  have yw5 := Nat.le_of_eq zw5
  replace zw5 := Nat.le_of_eq zw5.symm
  refine (fover X.D Z15 _ _ _ (hX.2) (hZ15) (up4 bx.d) (Nat.le_trans (siz_gcd (den_ne y)) (up4 by_.d)) (gcd_ne_left (den_ne y))).mono ?_
  intro ee w6 gg
  obtain ⟨Z20, rfl, hZ20, oZ20, ew6⟩ := Gv.w gg
  have aZ15_Z20 : Apt Z15 Z20 := Apt.seq oZ15 oZ20
  replace hX := hX.ext ew6
  replace hY := hY.ext ew6
  replace hZ15 := hZ15.ext ew6
  replace oZ15 := oZ15.ext ew6
  replace B1 := B1.ext ew6
  replace B2 := B2.ext ew6
  replace B3 := B3.ext ew6
  replace B4 := B4.ext ew6
  have hEw6 := eg hEw5 ew6
  have zw6 := ew6.size
  replace oZ20 := oZ20.mono hEw5.size
  have lB1_w6 := B1.lt
  have lB2_w6 := B2.lt
  have lB3_w6 := B3.lt
  have lB4_w6 := B4.lt
  obtain ⟨w7, hww7⟩ : ∃ W, w6.alloc (.cells #[.bool Z20.b, .slice Z20.p Z20.n Z20.c] 38) = W := ⟨_, rfl⟩
  have ew7 : Ext w6 w7 := by rw [← hww7]; exact ea _ _
  have B5 : Cells w7 (w6.heap.size) 38 #[.bool Z20.b, .slice Z20.p Z20.n Z20.c] := by rw [← hww7]; exact Cells.newAt _ _ (by omega)
  replace hX := hX.ext ew7
  replace hY := hY.ext ew7
  replace hZ15 := hZ15.ext ew7
  replace hZ20 := hZ20.ext ew7
  replace oZ15 := oZ15.ext ew7
  replace oZ20 := oZ20.ext ew7
  replace B1 := B1.ext ew7
  replace B2 := B2.ext ew7
  replace B3 := B3.ext ew7
  replace B4 := B4.ext ew7
  have zw7 := alloc_lt hww7
  have hEw7 := eg hEw6 ew7
  have b1_0_w7 := B1.cell (k := 0) rfl
  have b1_1_w7 := B1.cell (k := 1) rfl
  have b2_2_w7 := B2.cell (k := 2) rfl
  have b2_3_w7 := B2.cell (k := 3) rfl
  have b4_0_w7 := B4.cell (k := 0) rfl
  have b4_1_w7 := B4.cell (k := 1) rfl
  have b2_0_w7 := B2.cell (k := 0) rfl
  have b2_1_w7 := B2.cell (k := 1) rfl
  have b5_0_w7 := B5.cell (k := 0) rfl
  have b5_1_w7 := B5.cell (k := 1) rfl
  have lB1_w7 := B1.lt
  have lB2_w7 := B2.lt
  have lB3_w7 := B3.lt
  have lB4_w7 := B4.lt
  have lB5_w7 := B5.lt
  go_wp2_with fail
  clear hww7
  clear b1_2_w5 b1_3_w5 b4_0_w5 b4_1_w5 lB1_w5 lB2_w5 lB3_w5 lB4_w5 lB1_w6 lB2_w6 lB3_w6 lB4_w6
  have yw7 := Nat.le_of_eq zw7
  replace zw7 := Nat.le_of_eq zw7.symm
  refine regionT 16 (fun k => match k with | 7 => some (.w (Int.fdiv (((y).den : Int)) ((Int.gcd (((x).den : Int)) (((y).den : Int)) : Nat)))) | 8 => some (.w ((x).num * Int.fdiv (((y).den : Int)) ((Int.gcd (((x).den : Int)) (((y).den : Int)) : Nat)))) | 13 => some (.w ((y).num * Int.fdiv (((x).den : Int)) ((Int.gcd (((x).den : Int)) (((y).den : Int)) : Nat)))) | 14 => some (.w (sN x y)) | 15 => some (.box 38 #[.bool false, .slice none 0 0]) | _ => none) (by kernel_rfl) (by kernel_rfl) ?_
  iterate 7
    refine Walk.one (x := ?_) rfl rfl (fun w1 hI hL K hK => ?_) ?_
    rotate_left
    · obtain ⟨hc, hf⟩ := bcell hI
      go_simp
      repeat (first | (go_ints; try go_simp) | (simp only [↓IntWalk.iteOmega]; try go_simp))
      exact hK
    simp only [Act.put, List.setIfInBounds_toArray, List.set_cons_zero, List.set_cons_succ]
  refine Walk.tell rfl rfl (fun w1 hI hL K hK => ?_) ?_
  · go_simp
    exact (fover Y.D Z15 _ _ w1 ((hY.2).ext hI) ((hZ15).ext hI) (up4 by_.d) (Nat.le_trans (siz_gcd (den_ne y)) (up4 by_.d)) (gcd_ne_left (den_ne y))).mono (tell hK)
  rintro _ ⟨Z28, rfl⟩
  simp only [Act.put, List.setIfInBounds_toArray, List.set_cons_zero, List.set_cons_succ]
  refine Walk.tell rfl rfl (fun w1 hI hL K hK => ?_) ?_
  · go_simp
    exact (fproduct X.N Z28 _ _ w1 ((hX.1).ext hI) ((Tl.getW (kn (i := 7) (v := .agg #[.bool Z28.b, .slice Z28.p Z28.n Z28.c]) rfl (by simp) (by kernel_rfl) hL)).1) (sp2 bx.n by_.d)).mono (tell hK)
  rintro _ ⟨Z29, rfl⟩
  simp only [Act.put, List.setIfInBounds_toArray, List.set_cons_zero, List.set_cons_succ]
  iterate 4
    refine Walk.one (x := ?_) rfl rfl (fun w1 hI hL K hK => ?_) ?_
    rotate_left
    · obtain ⟨hc, hf⟩ := bcell hI
      go_simp
      repeat (first | (go_ints; try go_simp) | (simp only [↓IntWalk.iteOmega]; try go_simp))
      exact hK
    simp only [Act.put, List.setIfInBounds_toArray, List.set_cons_zero, List.set_cons_succ]
  refine Walk.tell rfl rfl (fun w1 hI hL K hK => ?_) ?_
  · go_simp
    exact (fproduct Y.N Z20 _ _ w1 ((hY.1).ext hI) ((hZ20).ext hI) (sp2 by_.n bx.d)).mono (tell hK)
  rintro _ ⟨Z34, rfl⟩
  simp only [Act.put, List.setIfInBounds_toArray, List.set_cons_zero, List.set_cons_succ]
  refine Walk.tell rfl rfl (fun w1 hI hL K hK => ?_) ?_
  · go_simp
    exact (fsum Z29 Z34 _ _ w1 ((Tl.getW (kn (i := 8) (v := .agg #[.bool Z29.b, .slice Z29.p Z29.n Z29.c]) rfl (by simp) (by kernel_rfl) hL)).1) ((Tl.getW (kn (i := 13) (v := .agg #[.bool Z34.b, .slice Z34.p Z34.n Z34.c]) rfl (by simp) (by kernel_rfl) hL)).1) (sp3 bx.n by_.d) (sp3 by_.n bx.d)).mono (tell hK)
  rintro _ ⟨Z35, rfl⟩
  simp only [Act.put, List.setIfInBounds_toArray, List.set_cons_zero, List.set_cons_succ]
  refine Walk.tell rfl rfl (fun w1 hI hL K hK => ?_) ?_
  · go_simp
    exact tellB hK
  rintro _ ⟨g7, rfl⟩
  simp only [Act.put, List.setIfInBounds_toArray, List.set_cons_zero, List.set_cons_succ]
  refine Walk.nilF fun w8 ew8 kzL kzX => ?_
  replace hX := hX.ext ew8
  replace hY := hY.ext ew8
  replace hZ15 := hZ15.ext ew8
  replace hZ20 := hZ20.ext ew8
  replace oZ15 := oZ15.ext ew8
  replace oZ20 := oZ20.ext ew8
  replace B1 := B1.ext ew8
  replace B2 := B2.ext ew8
  replace B3 := B3.ext ew8
  replace B4 := B4.ext ew8
  replace B5 := B5.ext ew8
  have hEw8 := eg hEw7 ew8
  have zw8 := ew8.size
  obtain ⟨hZ28, oZ28⟩ := Tl.getW (kz (i := 7) (v := .agg #[.bool Z28.b, .slice Z28.p Z28.n Z28.c]) rfl (by simp) kzL)
  replace oZ28 := oZ28.mono hEw7.size
  obtain ⟨hZ29, oZ29⟩ := Tl.getW (kz (i := 8) (v := .agg #[.bool Z29.b, .slice Z29.p Z29.n Z29.c]) rfl (by simp) kzL)
  replace oZ29 := oZ29.mono hEw7.size
  obtain ⟨hZ34, oZ34⟩ := Tl.getW (kz (i := 13) (v := .agg #[.bool Z34.b, .slice Z34.p Z34.n Z34.c]) rfl (by simp) kzL)
  replace oZ34 := oZ34.mono hEw7.size
  obtain ⟨hZ35, oZ35⟩ := Tl.getW (kz (i := 14) (v := .agg #[.bool Z35.b, .slice Z35.p Z35.n Z35.c]) rfl (by simp) kzL)
  replace oZ35 := oZ35.mono hEw7.size
  obtain ⟨B6, yB6⟩ := Tl.getB (kz (i := 15) (v := .pointer (some ⟨g7, 0, none⟩)) rfl (by simp) kzL)
  clear kzL kzX
  have b6_0_w8 := B6.cell (k := 0) rfl
  have fb6_0_w8 := B6.frozen 0
  have b6_1_w8 := B6.cell (k := 1) rfl
  have fb6_1_w8 := B6.frozen 1
  have lB1_w8 := B1.lt
  have lB2_w8 := B2.lt
  have lB3_w8 := B3.lt
  have lB4_w8 := B4.lt
  have lB5_w8 := B5.lt
  have lB6_w8 := B6.lt
  simp only [List.drop_succ_cons, List.drop_zero, List.drop_nil]
  obtain ⟨w9, hww9⟩ : ∃ W, ((w8).setCell ⟨g7, 0, none⟩ (.bool Z35.b)).setCell ⟨g7, 1, none⟩ (.slice Z35.p Z35.n Z35.c) = W := ⟨_, rfl⟩
  have nuw9 : NoU #[.bool false, .slice none 0 0] := by simp [NoU]
  replace hX := FR.sets hX B6 nuw9 0 [.bool Z35.b, .slice Z35.p Z35.n Z35.c]
  replace hY := FR.sets hY B6 nuw9 0 [.bool Z35.b, .slice Z35.p Z35.n Z35.c]
  replace hZ15 := WR.sets hZ15 B6 nuw9 0 [.bool Z35.b, .slice Z35.p Z35.n Z35.c]
  replace hZ20 := WR.sets hZ20 B6 nuw9 0 [.bool Z35.b, .slice Z35.p Z35.n Z35.c]
  replace hZ28 := WR.sets hZ28 B6 nuw9 0 [.bool Z35.b, .slice Z35.p Z35.n Z35.c]
  replace hZ29 := WR.sets hZ29 B6 nuw9 0 [.bool Z35.b, .slice Z35.p Z35.n Z35.c]
  replace hZ34 := WR.sets hZ34 B6 nuw9 0 [.bool Z35.b, .slice Z35.p Z35.n Z35.c]
  replace hZ35 := WR.sets hZ35 B6 nuw9 0 [.bool Z35.b, .slice Z35.p Z35.n Z35.c]
  replace oZ15 := OW.sets oZ15 B6 (by decide) 0 [.bool Z35.b, .slice Z35.p Z35.n Z35.c]
  replace oZ20 := OW.sets oZ20 B6 (by decide) 0 [.bool Z35.b, .slice Z35.p Z35.n Z35.c]
  replace oZ28 := OW.sets oZ28 B6 (by decide) 0 [.bool Z35.b, .slice Z35.p Z35.n Z35.c]
  replace oZ29 := OW.sets oZ29 B6 (by decide) 0 [.bool Z35.b, .slice Z35.p Z35.n Z35.c]
  replace oZ34 := OW.sets oZ34 B6 (by decide) 0 [.bool Z35.b, .slice Z35.p Z35.n Z35.c]
  replace oZ35 := OW.sets oZ35 B6 (by decide) 0 [.bool Z35.b, .slice Z35.p Z35.n Z35.c]
  have hEw9 := Ext.sets hEw8 (b := g7) (by omega) 0 [.bool Z35.b, .slice Z35.p Z35.n Z35.c]
  replace B1 := Cells.off B1 (b' := g7) (by omega) 0 [.bool Z35.b, .slice Z35.p Z35.n Z35.c]
  replace B2 := Cells.off B2 (b' := g7) (by omega) 0 [.bool Z35.b, .slice Z35.p Z35.n Z35.c]
  replace B3 := Cells.off B3 (b' := g7) (by omega) 0 [.bool Z35.b, .slice Z35.p Z35.n Z35.c]
  replace B4 := Cells.off B4 (b' := g7) (by omega) 0 [.bool Z35.b, .slice Z35.p Z35.n Z35.c]
  replace B5 := Cells.off B5 (b' := g7) (by omega) 0 [.bool Z35.b, .slice Z35.p Z35.n Z35.c]
  replace B6 : Cells (sets w8 (g7) 0 [.bool Z35.b, .slice Z35.p Z35.n Z35.c]) (g7) 38 #[.bool Z35.b, .slice Z35.p Z35.n Z35.c] := Cells.sets [.bool Z35.b, .slice Z35.p Z35.n Z35.c] B6 0
  have zw9 := size_sets (g7) [.bool Z35.b, .slice Z35.p Z35.n Z35.c] w8 0
  replace hww9 : sets w8 (g7) 0 [.bool Z35.b, .slice Z35.p Z35.n Z35.c] = w9 := hww9
  rw [hww9] at hX hY hZ15 hZ20 hZ28 hZ29 hZ34 hZ35 oZ15 oZ20 oZ28 oZ29 oZ34 oZ35 B1 B2 B3 B4 B5 B6 hEw9 zw9
  replace hww9 : ((w8).setCell ⟨g7, 0, none⟩ (.bool Z35.b)).setCell ⟨g7, 1, none⟩ (.slice Z35.p Z35.n Z35.c) = w9 := hww9
  have b6_0_w9 := B6.cell (k := 0) rfl
  have b6_1_w9 := B6.cell (k := 1) rfl
  have b4_0_w9 := B4.cell (k := 0) rfl
  have b4_1_w9 := B4.cell (k := 1) rfl
  have lB1_w9 := B1.lt
  have lB2_w9 := B2.lt
  have lB3_w9 := B3.lt
  have lB4_w9 := B4.lt
  have lB5_w9 := B5.lt
  have lB6_w9 := B6.lt
  go_wp2_with fail
  clear hww9
  clear b1_0_w7 b1_1_w7 b2_2_w7 b2_3_w7 b4_0_w7 b4_1_w7 b2_0_w7 b2_1_w7 b5_0_w7 b5_1_w7 b6_0_w8 fb6_0_w8 b6_1_w8 fb6_1_w8 lB1_w7 lB2_w7 lB3_w7 lB4_w7 lB5_w7 lB1_w8 lB2_w8 lB3_w8 lB4_w8 lB5_w8 lB6_w8
  have yw9 := Nat.le_of_eq zw9
  replace zw9 := Nat.le_of_eq zw9.symm
  refine (fcommon Z35 Z15 _ _ _ (hZ35) (hZ15) (sp4 bx by_) (Nat.le_trans (siz_gcd (den_ne y)) (up4 by_.d))).mono ?_
  intro ee w10 gg
  obtain ⟨Z38, rfl, hZ38, oZ38, ew10⟩ := Gv.w gg
  have aZ15_Z38 : Apt Z15 Z38 := Apt.seq oZ15 oZ38
  have aZ20_Z38 : Apt Z20 Z38 := Apt.seq oZ20 oZ38
  have aZ28_Z38 : Apt Z28 Z38 := Apt.seq oZ28 oZ38
  have aZ29_Z38 : Apt Z29 Z38 := Apt.seq oZ29 oZ38
  have aZ34_Z38 : Apt Z34 Z38 := Apt.seq oZ34 oZ38
  have aZ35_Z38 : Apt Z35 Z38 := Apt.seq oZ35 oZ38
  replace hX := hX.ext ew10
  replace hY := hY.ext ew10
  replace hZ15 := hZ15.ext ew10
  replace hZ20 := hZ20.ext ew10
  replace hZ28 := hZ28.ext ew10
  replace hZ29 := hZ29.ext ew10
  replace hZ34 := hZ34.ext ew10
  replace hZ35 := hZ35.ext ew10
  replace oZ15 := oZ15.ext ew10
  replace oZ20 := oZ20.ext ew10
  replace oZ28 := oZ28.ext ew10
  replace oZ29 := oZ29.ext ew10
  replace oZ34 := oZ34.ext ew10
  replace oZ35 := oZ35.ext ew10
  replace B1 := B1.ext ew10
  replace B2 := B2.ext ew10
  replace B3 := B3.ext ew10
  replace B4 := B4.ext ew10
  replace B5 := B5.ext ew10
  replace B6 := B6.ext ew10
  have hEw10 := eg hEw9 ew10
  have zw10 := ew10.size
  replace oZ38 := oZ38.mono hEw9.size
  have lB1_w10 := B1.lt
  have lB2_w10 := B2.lt
  have lB3_w10 := B3.lt
  have lB4_w10 := B4.lt
  have lB5_w10 := B5.lt
  have lB6_w10 := B6.lt
  obtain ⟨w11, hww11⟩ : ∃ W, w10.alloc (.cells #[.bool Z38.b, .slice Z38.p Z38.n Z38.c] 38) = W := ⟨_, rfl⟩
  have ew11 : Ext w10 w11 := by rw [← hww11]; exact ea _ _
  have B7 : Cells w11 (w10.heap.size) 38 #[.bool Z38.b, .slice Z38.p Z38.n Z38.c] := by rw [← hww11]; exact Cells.newAt _ _ (by omega)
  replace hX := hX.ext ew11
  replace hY := hY.ext ew11
  replace hZ15 := hZ15.ext ew11
  replace hZ20 := hZ20.ext ew11
  replace hZ28 := hZ28.ext ew11
  replace hZ29 := hZ29.ext ew11
  replace hZ34 := hZ34.ext ew11
  replace hZ35 := hZ35.ext ew11
  replace hZ38 := hZ38.ext ew11
  replace oZ15 := oZ15.ext ew11
  replace oZ20 := oZ20.ext ew11
  replace oZ28 := oZ28.ext ew11
  replace oZ29 := oZ29.ext ew11
  replace oZ34 := oZ34.ext ew11
  replace oZ35 := oZ35.ext ew11
  replace oZ38 := oZ38.ext ew11
  replace B1 := B1.ext ew11
  replace B2 := B2.ext ew11
  replace B3 := B3.ext ew11
  replace B4 := B4.ext ew11
  replace B5 := B5.ext ew11
  replace B6 := B6.ext ew11
  have zw11 := alloc_lt hww11
  have hEw11 := eg hEw10 ew11
  have b6_0_w11 := B6.cell (k := 0) rfl
  have b6_1_w11 := B6.cell (k := 1) rfl
  have b7_0_w11 := B7.cell (k := 0) rfl
  have b7_1_w11 := B7.cell (k := 1) rfl
  have b5_0_w11 := B5.cell (k := 0) rfl
  have b5_1_w11 := B5.cell (k := 1) rfl
  have b2_2_w11 := B2.cell (k := 2) rfl
  have b2_3_w11 := B2.cell (k := 3) rfl
  have lB1_w11 := B1.lt
  have lB2_w11 := B2.lt
  have lB3_w11 := B3.lt
  have lB4_w11 := B4.lt
  have lB5_w11 := B5.lt
  have lB6_w11 := B6.lt
  have lB7_w11 := B7.lt
  go_wp2_with fail
  clear hww11
  clear b6_0_w9 b6_1_w9 b4_0_w9 b4_1_w9 lB1_w9 lB2_w9 lB3_w9 lB4_w9 lB5_w9 lB6_w9 lB1_w10 lB2_w10 lB3_w10 lB4_w10 lB5_w10 lB6_w10
  have yw11 := Nat.le_of_eq zw11
  replace zw11 := Nat.le_of_eq zw11.symm
  refine regionT 12 (fun k => match k with | 2 => some (.w (Int.fdiv (sN x y) ((Int.gcd (sN x y) ((Int.gcd (((x).den : Int)) (((y).den : Int)) : Nat)) : Nat)))) | 8 => some (.w (Int.fdiv (((y).den : Int)) ((Int.gcd (sN x y) ((Int.gcd (((x).den : Int)) (((y).den : Int)) : Nat)) : Nat)))) | 9 => some (.w (Int.fdiv (((x).den : Int)) ((Int.gcd (((x).den : Int)) (((y).den : Int)) : Nat)) * Int.fdiv (((y).den : Int)) ((Int.gcd (sN x y) ((Int.gcd (((x).den : Int)) (((y).den : Int)) : Nat)) : Nat)))) | _ => none) (by kernel_rfl) (by kernel_rfl) ?_
  iterate 2
    refine Walk.one (x := ?_) rfl rfl (fun w1 hI hL K hK => ?_) ?_
    rotate_left
    · obtain ⟨hc, hf⟩ := bcell hI
      go_simp
      repeat (first | (go_ints; try go_simp) | (simp only [↓IntWalk.iteOmega]; try go_simp))
      exact hK
    simp only [Act.put, List.setIfInBounds_toArray, List.set_cons_zero, List.set_cons_succ]
  refine Walk.tell rfl rfl (fun w1 hI hL K hK => ?_) ?_
  · go_simp
    exact (fover Z35 Z38 _ _ w1 ((hZ35).ext hI) ((hZ38).ext hI) (sp4 bx by_) (Nat.le_trans (siz_gcd (gcd_ne_left (den_ne y))) (Nat.le_trans (siz_gcd (den_ne y)) (up4 by_.d))) (g2_ne x y)).mono (tell hK)
  rintro _ ⟨Z41, rfl⟩
  simp only [Act.put, List.setIfInBounds_toArray, List.set_cons_zero, List.set_cons_succ]
  iterate 5
    refine Walk.one (x := ?_) rfl rfl (fun w1 hI hL K hK => ?_) ?_
    rotate_left
    · obtain ⟨hc, hf⟩ := bcell hI
      go_simp
      repeat (first | (go_ints; try go_simp) | (simp only [↓IntWalk.iteOmega]; try go_simp))
      exact hK
    simp only [Act.put, List.setIfInBounds_toArray, List.set_cons_zero, List.set_cons_succ]
  refine Walk.tell rfl rfl (fun w1 hI hL K hK => ?_) ?_
  · go_simp
    exact (fover Y.D Z38 _ _ w1 ((hY.2).ext hI) ((hZ38).ext hI) (up4 by_.d) (Nat.le_trans (siz_gcd (gcd_ne_left (den_ne y))) (Nat.le_trans (siz_gcd (den_ne y)) (up4 by_.d))) (g2_ne x y)).mono (tell hK)
  rintro _ ⟨Z47, rfl⟩
  simp only [Act.put, List.setIfInBounds_toArray, List.set_cons_zero, List.set_cons_succ]
  refine Walk.tell rfl rfl (fun w1 hI hL K hK => ?_) ?_
  · go_simp
    exact (fproduct Z20 Z47 _ _ w1 ((hZ20).ext hI) ((Tl.getW (kn (i := 8) (v := .agg #[.bool Z47.b, .slice Z47.p Z47.n Z47.c]) rfl (by simp) (by kernel_rfl) hL)).1) (sp bx.d by_.d)).mono (tell hK)
  rintro _ ⟨Z48, rfl⟩
  simp only [Act.put, List.setIfInBounds_toArray, List.set_cons_zero, List.set_cons_succ]
  iterate 2
    refine Walk.one (x := ?_) rfl rfl (fun w1 hI hL K hK => ?_) ?_
    rotate_left
    · obtain ⟨hc, hf⟩ := bcell hI
      go_simp
      repeat (first | (go_ints; try go_simp) | (simp only [↓IntWalk.iteOmega]; try go_simp))
      exact hK
    simp only [Act.put, List.setIfInBounds_toArray, List.set_cons_zero, List.set_cons_succ]
  refine Walk.nilF fun w12 ew12 kzL kzX => ?_
  replace hX := hX.ext ew12
  replace hY := hY.ext ew12
  replace hZ15 := hZ15.ext ew12
  replace hZ20 := hZ20.ext ew12
  replace hZ28 := hZ28.ext ew12
  replace hZ29 := hZ29.ext ew12
  replace hZ34 := hZ34.ext ew12
  replace hZ35 := hZ35.ext ew12
  replace hZ38 := hZ38.ext ew12
  replace oZ15 := oZ15.ext ew12
  replace oZ20 := oZ20.ext ew12
  replace oZ28 := oZ28.ext ew12
  replace oZ29 := oZ29.ext ew12
  replace oZ34 := oZ34.ext ew12
  replace oZ35 := oZ35.ext ew12
  replace oZ38 := oZ38.ext ew12
  replace B1 := B1.ext ew12
  replace B2 := B2.ext ew12
  replace B3 := B3.ext ew12
  replace B4 := B4.ext ew12
  replace B5 := B5.ext ew12
  replace B6 := B6.ext ew12
  replace B7 := B7.ext ew12
  have hEw12 := eg hEw11 ew12
  have zw12 := ew12.size
  obtain ⟨hZ41, oZ41⟩ := Tl.getW (kz (i := 2) (v := .agg #[.bool Z41.b, .slice Z41.p Z41.n Z41.c]) rfl (by simp) kzL)
  replace oZ41 := oZ41.mono hEw11.size
  obtain ⟨hZ47, oZ47⟩ := Tl.getW (kz (i := 8) (v := .agg #[.bool Z47.b, .slice Z47.p Z47.n Z47.c]) rfl (by simp) kzL)
  replace oZ47 := oZ47.mono hEw11.size
  obtain ⟨hZ48, oZ48⟩ := Tl.getW (kz (i := 9) (v := .agg #[.bool Z48.b, .slice Z48.p Z48.n Z48.c]) rfl (by simp) kzL)
  replace oZ48 := oZ48.mono hEw11.size
  have aZ41_Z48 : Apt Z41 Z48 := Apt.of (kzX (2, .agg #[.bool Z41.b, .slice Z41.p Z41.n Z41.c]) (by simp) (9, .agg #[.bool Z48.b, .slice Z48.p Z48.n Z48.c]) (by simp) (by simp))
  clear kzL kzX
  have b3_0_w12 := B3.cell (k := 0) rfl
  have fb3_0_w12 := B3.frozen 0
  have b3_1_w12 := B3.cell (k := 1) rfl
  have fb3_1_w12 := B3.frozen 1
  have b3_2_w12 := B3.cell (k := 2) rfl
  have fb3_2_w12 := B3.frozen 2
  have b3_3_w12 := B3.cell (k := 3) rfl
  have fb3_3_w12 := B3.frozen 3
  have lB1_w12 := B1.lt
  have lB2_w12 := B2.lt
  have lB3_w12 := B3.lt
  have lB4_w12 := B4.lt
  have lB5_w12 := B5.lt
  have lB6_w12 := B6.lt
  have lB7_w12 := B7.lt
  simp only [List.drop_succ_cons, List.drop_zero, List.drop_nil]
  obtain ⟨w13, hww13⟩ : ∃ W, ((((w12).setCell ⟨w.heap.size + 1 + 1, 0, none⟩ (.bool Z41.b)).setCell ⟨w.heap.size + 1 + 1, 1, none⟩ (.slice Z41.p Z41.n Z41.c)).setCell ⟨w.heap.size + 1 + 1, 2, none⟩ (.bool Z48.b)).setCell ⟨w.heap.size + 1 + 1, 3, none⟩ (.slice Z48.p Z48.n Z48.c) = W := ⟨_, rfl⟩
  have nuw13 : NoU #[.bool false, .slice none 0 0, .bool false, .slice none 0 0] := by simp [NoU]
  replace hX := FR.sets hX B3 nuw13 0 [.bool Z41.b, .slice Z41.p Z41.n Z41.c, .bool Z48.b, .slice Z48.p Z48.n Z48.c]
  replace hY := FR.sets hY B3 nuw13 0 [.bool Z41.b, .slice Z41.p Z41.n Z41.c, .bool Z48.b, .slice Z48.p Z48.n Z48.c]
  replace hZ15 := WR.sets hZ15 B3 nuw13 0 [.bool Z41.b, .slice Z41.p Z41.n Z41.c, .bool Z48.b, .slice Z48.p Z48.n Z48.c]
  replace hZ20 := WR.sets hZ20 B3 nuw13 0 [.bool Z41.b, .slice Z41.p Z41.n Z41.c, .bool Z48.b, .slice Z48.p Z48.n Z48.c]
  replace hZ28 := WR.sets hZ28 B3 nuw13 0 [.bool Z41.b, .slice Z41.p Z41.n Z41.c, .bool Z48.b, .slice Z48.p Z48.n Z48.c]
  replace hZ29 := WR.sets hZ29 B3 nuw13 0 [.bool Z41.b, .slice Z41.p Z41.n Z41.c, .bool Z48.b, .slice Z48.p Z48.n Z48.c]
  replace hZ34 := WR.sets hZ34 B3 nuw13 0 [.bool Z41.b, .slice Z41.p Z41.n Z41.c, .bool Z48.b, .slice Z48.p Z48.n Z48.c]
  replace hZ35 := WR.sets hZ35 B3 nuw13 0 [.bool Z41.b, .slice Z41.p Z41.n Z41.c, .bool Z48.b, .slice Z48.p Z48.n Z48.c]
  replace hZ38 := WR.sets hZ38 B3 nuw13 0 [.bool Z41.b, .slice Z41.p Z41.n Z41.c, .bool Z48.b, .slice Z48.p Z48.n Z48.c]
  replace hZ41 := WR.sets hZ41 B3 nuw13 0 [.bool Z41.b, .slice Z41.p Z41.n Z41.c, .bool Z48.b, .slice Z48.p Z48.n Z48.c]
  replace hZ47 := WR.sets hZ47 B3 nuw13 0 [.bool Z41.b, .slice Z41.p Z41.n Z41.c, .bool Z48.b, .slice Z48.p Z48.n Z48.c]
  replace hZ48 := WR.sets hZ48 B3 nuw13 0 [.bool Z41.b, .slice Z41.p Z41.n Z41.c, .bool Z48.b, .slice Z48.p Z48.n Z48.c]
  replace oZ15 := OW.sets oZ15 B3 (by decide) 0 [.bool Z41.b, .slice Z41.p Z41.n Z41.c, .bool Z48.b, .slice Z48.p Z48.n Z48.c]
  replace oZ20 := OW.sets oZ20 B3 (by decide) 0 [.bool Z41.b, .slice Z41.p Z41.n Z41.c, .bool Z48.b, .slice Z48.p Z48.n Z48.c]
  replace oZ28 := OW.sets oZ28 B3 (by decide) 0 [.bool Z41.b, .slice Z41.p Z41.n Z41.c, .bool Z48.b, .slice Z48.p Z48.n Z48.c]
  replace oZ29 := OW.sets oZ29 B3 (by decide) 0 [.bool Z41.b, .slice Z41.p Z41.n Z41.c, .bool Z48.b, .slice Z48.p Z48.n Z48.c]
  replace oZ34 := OW.sets oZ34 B3 (by decide) 0 [.bool Z41.b, .slice Z41.p Z41.n Z41.c, .bool Z48.b, .slice Z48.p Z48.n Z48.c]
  replace oZ35 := OW.sets oZ35 B3 (by decide) 0 [.bool Z41.b, .slice Z41.p Z41.n Z41.c, .bool Z48.b, .slice Z48.p Z48.n Z48.c]
  replace oZ38 := OW.sets oZ38 B3 (by decide) 0 [.bool Z41.b, .slice Z41.p Z41.n Z41.c, .bool Z48.b, .slice Z48.p Z48.n Z48.c]
  replace oZ41 := OW.sets oZ41 B3 (by decide) 0 [.bool Z41.b, .slice Z41.p Z41.n Z41.c, .bool Z48.b, .slice Z48.p Z48.n Z48.c]
  replace oZ47 := OW.sets oZ47 B3 (by decide) 0 [.bool Z41.b, .slice Z41.p Z41.n Z41.c, .bool Z48.b, .slice Z48.p Z48.n Z48.c]
  replace oZ48 := OW.sets oZ48 B3 (by decide) 0 [.bool Z41.b, .slice Z41.p Z41.n Z41.c, .bool Z48.b, .slice Z48.p Z48.n Z48.c]
  have hEw13 := Ext.sets hEw12 (b := w.heap.size + 1 + 1) (by omega) 0 [.bool Z41.b, .slice Z41.p Z41.n Z41.c, .bool Z48.b, .slice Z48.p Z48.n Z48.c]
  replace B1 := Cells.off B1 (b' := w.heap.size + 1 + 1) (by omega) 0 [.bool Z41.b, .slice Z41.p Z41.n Z41.c, .bool Z48.b, .slice Z48.p Z48.n Z48.c]
  replace B2 := Cells.off B2 (b' := w.heap.size + 1 + 1) (by omega) 0 [.bool Z41.b, .slice Z41.p Z41.n Z41.c, .bool Z48.b, .slice Z48.p Z48.n Z48.c]
  replace B4 := Cells.off B4 (b' := w.heap.size + 1 + 1) (by omega) 0 [.bool Z41.b, .slice Z41.p Z41.n Z41.c, .bool Z48.b, .slice Z48.p Z48.n Z48.c]
  replace B5 := Cells.off B5 (b' := w.heap.size + 1 + 1) (by omega) 0 [.bool Z41.b, .slice Z41.p Z41.n Z41.c, .bool Z48.b, .slice Z48.p Z48.n Z48.c]
  replace B6 := Cells.off B6 (b' := w.heap.size + 1 + 1) (by omega) 0 [.bool Z41.b, .slice Z41.p Z41.n Z41.c, .bool Z48.b, .slice Z48.p Z48.n Z48.c]
  replace B7 := Cells.off B7 (b' := w.heap.size + 1 + 1) (by omega) 0 [.bool Z41.b, .slice Z41.p Z41.n Z41.c, .bool Z48.b, .slice Z48.p Z48.n Z48.c]
  replace B3 : Cells (sets w12 (w.heap.size + 1 + 1) 0 [.bool Z41.b, .slice Z41.p Z41.n Z41.c, .bool Z48.b, .slice Z48.p Z48.n Z48.c]) (w.heap.size + 1 + 1) 143 #[.bool Z41.b, .slice Z41.p Z41.n Z41.c, .bool Z48.b, .slice Z48.p Z48.n Z48.c] := Cells.sets [.bool Z41.b, .slice Z41.p Z41.n Z41.c, .bool Z48.b, .slice Z48.p Z48.n Z48.c] B3 0
  have zw13 := size_sets (w.heap.size + 1 + 1) [.bool Z41.b, .slice Z41.p Z41.n Z41.c, .bool Z48.b, .slice Z48.p Z48.n Z48.c] w12 0
  replace hww13 : sets w12 (w.heap.size + 1 + 1) 0 [.bool Z41.b, .slice Z41.p Z41.n Z41.c, .bool Z48.b, .slice Z48.p Z48.n Z48.c] = w13 := hww13
  rw [hww13] at hX hY hZ15 hZ20 hZ28 hZ29 hZ34 hZ35 hZ38 hZ41 hZ47 hZ48 oZ15 oZ20 oZ28 oZ29 oZ34 oZ35 oZ38 oZ41 oZ47 oZ48 B1 B2 B3 B4 B5 B6 B7 hEw13 zw13
  replace hww13 : ((((w12).setCell ⟨w.heap.size + 1 + 1, 0, none⟩ (.bool Z41.b)).setCell ⟨w.heap.size + 1 + 1, 1, none⟩ (.slice Z41.p Z41.n Z41.c)).setCell ⟨w.heap.size + 1 + 1, 2, none⟩ (.bool Z48.b)).setCell ⟨w.heap.size + 1 + 1, 3, none⟩ (.slice Z48.p Z48.n Z48.c) = w13 := hww13
  have b3_0_w13 := B3.cell (k := 0) rfl
  have b3_1_w13 := B3.cell (k := 1) rfl
  have b3_2_w13 := B3.cell (k := 2) rfl
  have b3_3_w13 := B3.cell (k := 3) rfl
  have lB1_w13 := B1.lt
  have lB2_w13 := B2.lt
  have lB3_w13 := B3.lt
  have lB4_w13 := B4.lt
  have lB5_w13 := B5.lt
  have lB6_w13 := B6.lt
  have lB7_w13 := B7.lt
  go_wp2_with fail
  clear hww13
  clear b6_0_w11 b6_1_w11 b7_0_w11 b7_1_w11 b5_0_w11 b5_1_w11 b2_2_w11 b2_3_w11 b3_0_w12 fb3_0_w12 b3_1_w12 fb3_1_w12 b3_2_w12 fb3_2_w12 b3_3_w12 fb3_3_w12 lB1_w11 lB2_w11 lB3_w11 lB4_w11 lB5_w11 lB6_w11 lB7_w11 lB1_w12 lB2_w12 lB3_w12 lB4_w12 lB5_w12 lB6_w12 lB7_w12
  have yw13 := Nat.le_of_eq zw13
  replace zw13 := Nat.le_of_eq zw13.symm
  refine bodyPost_ret (v := .agg #[.bool Z41.b, .slice Z41.p Z41.n Z41.c, .bool Z48.b, .slice Z48.p Z48.n Z48.c]) (by simp [results, Tryz.results129, go_sem, b3_0_w13, b3_1_w13, b3_2_w13, b3_3_w13]) rfl ?_
  exact Gv.of_f (X := ⟨Z41, Z48⟩) (mkFR (WR.cast hZ41 (add_num x y)) (WR.cast hZ48 (add_den x y))) (mkOF oZ41 oZ48 aZ41_Z48) hEw13
end Go.Proofs.YtndgaecfeaedeaaGreat
