/- Walks of package frac: division. -/
import Derived.Test.YtndgaecfeaedeaaGreatG11
namespace Go.Proofs.YtndgaecfeaedeaaGreat
set_option linter.unusedSimpArgs false
set_option linter.unusedVariables false
open Go.RowKit Lex Mth
attribute [local go_sem] run_indexAt_at add_zero_map Oper.semAt_some at_zero

theorem fd_unique {x y q r : Int} (hy : y ≠ 0) (h : FD x y q r) : q = Int.fdiv x y ∧ r = Int.fmod x y := by
  obtain ⟨h1, h2⟩ := h
  have e1 : Int.fmod x y + y * Int.fdiv x y = x := Int.fmod_add_mul_fdiv x y
  rcases (by omega : 0 < y ∨ y < 0) with h | h
  · have e2 := Int.fmod_nonneg_of_pos x h
    have e3 := Int.fmod_lt_of_pos x h
    have e4 : 0 ≤ r ∧ r < y := by omega
    have e5 : r - Int.fmod x y = y * (Int.fdiv x y - q) := by rw [Int.mul_sub]; omega
    have e6 : Int.fdiv x y - q = 0 := by
      rcases (by omega : Int.fdiv x y - q = 0 ∨ 1 ≤ Int.fdiv x y - q ∨ Int.fdiv x y - q ≤ -1) with h | h | h
      · exact h
      · have := Int.mul_le_mul_of_nonneg_left h (Int.le_of_lt ‹0 < y›); omega
      · have := Int.mul_le_mul_of_nonneg_left h (Int.le_of_lt ‹0 < y›); omega
    rw [e6] at e5
    omega
  · have e0 : Int.fdiv (-x) (-y) = Int.fdiv x y := Int.neg_fdiv_neg x y
    have e9 : Int.fmod (-x) (-y) + (-y) * Int.fdiv (-x) (-y) = -x := Int.fmod_add_mul_fdiv (-x) (-y)
    rw [e0, Int.neg_mul] at e9
    have e2 := Int.fmod_nonneg_of_pos (-x) (show 0 < -y by omega)
    have e3 := Int.fmod_lt_of_pos (-x) (show 0 < -y by omega)
    have e4 : y < r ∧ r ≤ 0 := by omega
    have e5 : r - Int.fmod x y = y * (Int.fdiv x y - q) := by rw [Int.mul_sub]; omega
    have e6 : Int.fdiv x y - q = 0 := by
      have e7 : (-y) * (Int.fdiv x y - q) = -(r - Int.fmod x y) := by rw [Int.neg_mul, ← e5]
      rcases (by omega : Int.fdiv x y - q = 0 ∨ 1 ≤ Int.fdiv x y - q ∨ Int.fdiv x y - q ≤ -1) with h | h | h
      · exact h
      · have := Int.mul_le_mul_of_nonneg_left h (show 0 ≤ -y by omega); omega
      · have := Int.mul_le_mul_of_nonneg_left h (show 0 ≤ -y by omega); omega
    rw [e6] at e5
    omega
theorem kDivMod (X Y : Wh) (x y : Int) (w : World) (hx : WR w X x) (hy : WR w Y y) (b : siz x.natAbs ≤ 1024) (b' : siz y.natAbs ≤ 1024) (h0 : y ≠ 0) :
    Calls Tryz.prog 205 #[X.val, Y.val] w fun e w' => ∃ Z R : Wh, e = .returned (.tuple #[.agg #[.bool Z.b, .slice Z.p Z.n Z.c], .agg #[.bool R.b, .slice R.p R.n R.c], .int .i64 0]) ∧ WR w' Z (Int.fdiv x y) ∧ WR w' R (Int.fmod x y) ∧ OW w.heap.size w' Z ∧ OW w.heap.size w' R ∧ Ext w w' :=
  (DivMod_any _ _ _ _ _ _ _ _ x y w hx hy b b' h0).mono fun _ _ ⟨b, p, n, c, b', p', n', c', q, r, he, hf, h1, h2, h3, h4, h5⟩ => by
    obtain ⟨rfl, rfl⟩ := fd_unique h0 hf
    exact ⟨⟨b, p, n, c⟩, ⟨b', p', n', c'⟩, he, h1, h2, h3, h4, h5⟩

set_option maxRecDepth 100000 in
theorem fover (X : Wh) (Y : Wh) (x : Int) (y : Int) (w : World) (hX : WR w X x) (hY : WR w Y y) (b : siz x.natAbs ≤ 1024) (b' : siz y.natAbs ≤ 1024) (h0 : y ≠ 0) :
    Calls Tryz.prog 183 #[.agg #[.bool X.b, .slice X.p X.n X.c], .agg #[.bool Y.b, .slice Y.p Y.n Y.c]] w (Gv (.w (Int.fdiv x y)) w) := by
  have hEw : Ext w w := Below.refl _ _
  obtain ⟨w1, hww1⟩ : ∃ W, w.alloc (.cells #[.bool X.b, .slice X.p X.n X.c] 38) = W := ⟨_, rfl⟩
  have ew1 : Ext w w1 := by rw [← hww1]; exact ea _ _
  have B1 : Cells w1 (w.heap.size) 38 #[.bool X.b, .slice X.p X.n X.c] := by rw [← hww1]; exact Cells.newAt _ _ (by omega)
  replace hX := hX.ext ew1
  replace hY := hY.ext ew1
  have zw1 := alloc_lt hww1
  have hEw1 := eg hEw ew1
  have lB1_w1 := B1.lt
  obtain ⟨w2, hww2⟩ : ∃ W, w1.alloc (.cells #[.bool Y.b, .slice Y.p Y.n Y.c] 38) = W := ⟨_, rfl⟩
  have ew2 : Ext w1 w2 := by rw [← hww2]; exact ea _ _
  have B2 : Cells w2 (w.heap.size + 1) 38 #[.bool Y.b, .slice Y.p Y.n Y.c] := by rw [← hww2]; exact Cells.newAt _ _ (by omega)
  replace hX := hX.ext ew2
  replace hY := hY.ext ew2
  replace B1 := B1.ext ew2
  have zw2 := alloc_lt hww2
  have hEw2 := eg hEw1 ew2
  have lB1_w2 := B1.lt
  have lB2_w2 := B2.lt
  obtain ⟨w3, hww3⟩ : ∃ W, w2.alloc (.cells #[.bool false, .slice none 0 0] 38) = W := ⟨_, rfl⟩
  have ew3 : Ext w2 w3 := by rw [← hww3]; exact ea _ _
  have B3 : Cells w3 (w.heap.size + 1 + 1) 38 #[.bool false, .slice none 0 0] := by rw [← hww3]; exact Cells.newAt _ _ (by omega)
  replace hX := hX.ext ew3
  replace hY := hY.ext ew3
  replace B1 := B1.ext ew3
  replace B2 := B2.ext ew3
  have zw3 := alloc_lt hww3
  have hEw3 := eg hEw2 ew3
  have b1_0_w3 := B1.cell (k := 0) rfl
  have b1_1_w3 := B1.cell (k := 1) rfl
  have b2_0_w3 := B2.cell (k := 0) rfl
  have b2_1_w3 := B2.cell (k := 1) rfl
  have lB1_w3 := B1.lt
  have lB2_w3 := B2.lt
  have lB3_w3 := B3.lt
  go_enter Tryz.func183, Tryz.ntmps183
  go_wp2_with fail
  clear hww1
  clear hww2
  clear hww3
  clear lB1_w1 lB1_w2 lB2_w2
  have yw1 := Nat.le_of_eq zw1
  replace zw1 := Nat.le_of_eq zw1.symm
  have yw2 := Nat.le_of_eq zw2
  replace zw2 := Nat.le_of_eq zw2.symm
  have yw3 := Nat.le_of_eq zw3
  replace zw3 := Nat.le_of_eq zw3.symm
  refine (kDivMod X Y _ _ _ (hX) (hY) (b) (b') (h0)).mono ?_
  intro ee w4 gg
  obtain ⟨Z11, Z11r, rfl, hZ11, hZ11r, oZ11, oZ11r, ew4⟩ := gg
  replace hX := hX.ext ew4
  replace hY := hY.ext ew4
  replace B1 := B1.ext ew4
  replace B2 := B2.ext ew4
  replace B3 := B3.ext ew4
  have hEw4 := eg hEw3 ew4
  have zw4 := ew4.size
  replace oZ11 := oZ11.mono hEw3.size
  replace oZ11r := oZ11r.mono hEw3.size
  have lB1_w4 := B1.lt
  have lB2_w4 := B2.lt
  have lB3_w4 := B3.lt
  obtain ⟨w5, hww5⟩ : ∃ W, w4.alloc (.cells #[.bool false, .slice none 0 0] 38) = W := ⟨_, rfl⟩
  have ew5 : Ext w4 w5 := by rw [← hww5]; exact ea _ _
  have B4 : Cells w5 (w4.heap.size) 38 #[.bool false, .slice none 0 0] := by rw [← hww5]; exact Cells.newAt _ _ (by omega)
  replace hX := hX.ext ew5
  replace hY := hY.ext ew5
  replace hZ11 := hZ11.ext ew5
  replace hZ11r := hZ11r.ext ew5
  replace oZ11 := oZ11.ext ew5
  replace oZ11r := oZ11r.ext ew5
  replace B1 := B1.ext ew5
  replace B2 := B2.ext ew5
  replace B3 := B3.ext ew5
  have zw5 := alloc_lt hww5
  have hEw5 := eg hEw4 ew5
  have lB1_w5 := B1.lt
  have lB2_w5 := B2.lt
  have lB3_w5 := B3.lt
  have lB4_w5 := B4.lt
  obtain ⟨w6, hww6⟩ : ∃ W, w5.alloc (.cells #[.bool false, .slice none 0 0] 38) = W := ⟨_, rfl⟩
  have ew6 : Ext w5 w6 := by rw [← hww6]; exact ea _ _
  have B5 : Cells w6 (w4.heap.size + 1) 38 #[.bool false, .slice none 0 0] := by rw [← hww6]; exact Cells.newAt _ _ (by omega)
  replace hX := hX.ext ew6
  replace hY := hY.ext ew6
  replace hZ11 := hZ11.ext ew6
  replace hZ11r := hZ11r.ext ew6
  replace oZ11 := oZ11.ext ew6
  replace oZ11r := oZ11r.ext ew6
  replace B1 := B1.ext ew6
  replace B2 := B2.ext ew6
  replace B3 := B3.ext ew6
  replace B4 := B4.ext ew6
  have zw6 := alloc_lt hww6
  have hEw6 := eg hEw5 ew6
  have b4_0_w6 := B4.cell (k := 0) rfl
  have fb4_0_w6 := B4.frozen 0
  have b4_1_w6 := B4.cell (k := 1) rfl
  have fb4_1_w6 := B4.frozen 1
  have lB1_w6 := B1.lt
  have lB2_w6 := B2.lt
  have lB3_w6 := B3.lt
  have lB4_w6 := B4.lt
  have lB5_w6 := B5.lt
  obtain ⟨w7, hww7⟩ : ∃ W, ((w6).setCell ⟨w4.heap.size, 0, none⟩ (.bool Z11.b)).setCell ⟨w4.heap.size, 1, none⟩ (.slice Z11.p Z11.n Z11.c) = W := ⟨_, rfl⟩
  have nuw7 : NoU #[.bool false, .slice none 0 0] := by simp [NoU]
  replace hX := WR.sets hX B4 nuw7 0 [.bool Z11.b, .slice Z11.p Z11.n Z11.c]
  replace hY := WR.sets hY B4 nuw7 0 [.bool Z11.b, .slice Z11.p Z11.n Z11.c]
  replace hZ11 := WR.sets hZ11 B4 nuw7 0 [.bool Z11.b, .slice Z11.p Z11.n Z11.c]
  replace hZ11r := WR.sets hZ11r B4 nuw7 0 [.bool Z11.b, .slice Z11.p Z11.n Z11.c]
  replace oZ11 := OW.sets oZ11 B4 (by decide) 0 [.bool Z11.b, .slice Z11.p Z11.n Z11.c]
  replace oZ11r := OW.sets oZ11r B4 (by decide) 0 [.bool Z11.b, .slice Z11.p Z11.n Z11.c]
  have hEw7 := Ext.sets hEw6 (b := w4.heap.size) (by omega) 0 [.bool Z11.b, .slice Z11.p Z11.n Z11.c]
  replace B1 := Cells.off B1 (b' := w4.heap.size) (by omega) 0 [.bool Z11.b, .slice Z11.p Z11.n Z11.c]
  replace B2 := Cells.off B2 (b' := w4.heap.size) (by omega) 0 [.bool Z11.b, .slice Z11.p Z11.n Z11.c]
  replace B3 := Cells.off B3 (b' := w4.heap.size) (by omega) 0 [.bool Z11.b, .slice Z11.p Z11.n Z11.c]
  replace B5 := Cells.off B5 (b' := w4.heap.size) (by omega) 0 [.bool Z11.b, .slice Z11.p Z11.n Z11.c]
  replace B4 : Cells (sets w6 (w4.heap.size) 0 [.bool Z11.b, .slice Z11.p Z11.n Z11.c]) (w4.heap.size) 38 #[.bool Z11.b, .slice Z11.p Z11.n Z11.c] := Cells.sets [.bool Z11.b, .slice Z11.p Z11.n Z11.c] B4 0
  have zw7 := size_sets (w4.heap.size) [.bool Z11.b, .slice Z11.p Z11.n Z11.c] w6 0
  replace hww7 : sets w6 (w4.heap.size) 0 [.bool Z11.b, .slice Z11.p Z11.n Z11.c] = w7 := hww7
  rw [hww7] at hX hY hZ11 hZ11r oZ11 oZ11r B1 B2 B3 B4 B5 hEw7 zw7
  replace hww7 : ((w6).setCell ⟨w4.heap.size, 0, none⟩ (.bool Z11.b)).setCell ⟨w4.heap.size, 1, none⟩ (.slice Z11.p Z11.n Z11.c) = w7 := hww7
  have b5_0_w7 := B5.cell (k := 0) rfl
  have fb5_0_w7 := B5.frozen 0
  have b5_1_w7 := B5.cell (k := 1) rfl
  have fb5_1_w7 := B5.frozen 1
  have lB1_w7 := B1.lt
  have lB2_w7 := B2.lt
  have lB3_w7 := B3.lt
  have lB4_w7 := B4.lt
  have lB5_w7 := B5.lt
  obtain ⟨w8, hww8⟩ : ∃ W, ((w7).setCell ⟨w4.heap.size + 1, 0, none⟩ (.bool Z11r.b)).setCell ⟨w4.heap.size + 1, 1, none⟩ (.slice Z11r.p Z11r.n Z11r.c) = W := ⟨_, rfl⟩
  have nuw8 : NoU #[.bool false, .slice none 0 0] := by simp [NoU]
  replace hX := WR.sets hX B5 nuw8 0 [.bool Z11r.b, .slice Z11r.p Z11r.n Z11r.c]
  replace hY := WR.sets hY B5 nuw8 0 [.bool Z11r.b, .slice Z11r.p Z11r.n Z11r.c]
  replace hZ11 := WR.sets hZ11 B5 nuw8 0 [.bool Z11r.b, .slice Z11r.p Z11r.n Z11r.c]
  replace hZ11r := WR.sets hZ11r B5 nuw8 0 [.bool Z11r.b, .slice Z11r.p Z11r.n Z11r.c]
  replace oZ11 := OW.sets oZ11 B5 (by decide) 0 [.bool Z11r.b, .slice Z11r.p Z11r.n Z11r.c]
  replace oZ11r := OW.sets oZ11r B5 (by decide) 0 [.bool Z11r.b, .slice Z11r.p Z11r.n Z11r.c]
  have hEw8 := Ext.sets hEw7 (b := w4.heap.size + 1) (by omega) 0 [.bool Z11r.b, .slice Z11r.p Z11r.n Z11r.c]
  replace B1 := Cells.off B1 (b' := w4.heap.size + 1) (by omega) 0 [.bool Z11r.b, .slice Z11r.p Z11r.n Z11r.c]
  replace B2 := Cells.off B2 (b' := w4.heap.size + 1) (by omega) 0 [.bool Z11r.b, .slice Z11r.p Z11r.n Z11r.c]
  replace B3 := Cells.off B3 (b' := w4.heap.size + 1) (by omega) 0 [.bool Z11r.b, .slice Z11r.p Z11r.n Z11r.c]
  replace B4 := Cells.off B4 (b' := w4.heap.size + 1) (by omega) 0 [.bool Z11r.b, .slice Z11r.p Z11r.n Z11r.c]
  replace B5 : Cells (sets w7 (w4.heap.size + 1) 0 [.bool Z11r.b, .slice Z11r.p Z11r.n Z11r.c]) (w4.heap.size + 1) 38 #[.bool Z11r.b, .slice Z11r.p Z11r.n Z11r.c] := Cells.sets [.bool Z11r.b, .slice Z11r.p Z11r.n Z11r.c] B5 0
  have zw8 := size_sets (w4.heap.size + 1) [.bool Z11r.b, .slice Z11r.p Z11r.n Z11r.c] w7 0
  replace hww8 : sets w7 (w4.heap.size + 1) 0 [.bool Z11r.b, .slice Z11r.p Z11r.n Z11r.c] = w8 := hww8
  rw [hww8] at hX hY hZ11 hZ11r oZ11 oZ11r B1 B2 B3 B4 B5 hEw8 zw8
  replace hww8 : ((w7).setCell ⟨w4.heap.size + 1, 0, none⟩ (.bool Z11r.b)).setCell ⟨w4.heap.size + 1, 1, none⟩ (.slice Z11r.p Z11r.n Z11r.c) = w8 := hww8
  have b4_0_w8 := B4.cell (k := 0) rfl
  have b4_1_w8 := B4.cell (k := 1) rfl
  have b3_0_w8 := B3.cell (k := 0) rfl
  have fb3_0_w8 := B3.frozen 0
  have b3_1_w8 := B3.cell (k := 1) rfl
  have fb3_1_w8 := B3.frozen 1
  have lB1_w8 := B1.lt
  have lB2_w8 := B2.lt
  have lB3_w8 := B3.lt
  have lB4_w8 := B4.lt
  have lB5_w8 := B5.lt
  obtain ⟨w9, hww9⟩ : ∃ W, ((w8).setCell ⟨w.heap.size + 1 + 1, 0, none⟩ (.bool Z11.b)).setCell ⟨w.heap.size + 1 + 1, 1, none⟩ (.slice Z11.p Z11.n Z11.c) = W := ⟨_, rfl⟩
  have nuw9 : NoU #[.bool false, .slice none 0 0] := by simp [NoU]
  replace hX := WR.sets hX B3 nuw9 0 [.bool Z11.b, .slice Z11.p Z11.n Z11.c]
  replace hY := WR.sets hY B3 nuw9 0 [.bool Z11.b, .slice Z11.p Z11.n Z11.c]
  replace hZ11 := WR.sets hZ11 B3 nuw9 0 [.bool Z11.b, .slice Z11.p Z11.n Z11.c]
  replace hZ11r := WR.sets hZ11r B3 nuw9 0 [.bool Z11.b, .slice Z11.p Z11.n Z11.c]
  replace oZ11 := OW.sets oZ11 B3 (by decide) 0 [.bool Z11.b, .slice Z11.p Z11.n Z11.c]
  replace oZ11r := OW.sets oZ11r B3 (by decide) 0 [.bool Z11.b, .slice Z11.p Z11.n Z11.c]
  have hEw9 := Ext.sets hEw8 (b := w.heap.size + 1 + 1) (by omega) 0 [.bool Z11.b, .slice Z11.p Z11.n Z11.c]
  replace B1 := Cells.off B1 (b' := w.heap.size + 1 + 1) (by omega) 0 [.bool Z11.b, .slice Z11.p Z11.n Z11.c]
  replace B2 := Cells.off B2 (b' := w.heap.size + 1 + 1) (by omega) 0 [.bool Z11.b, .slice Z11.p Z11.n Z11.c]
  replace B4 := Cells.off B4 (b' := w.heap.size + 1 + 1) (by omega) 0 [.bool Z11.b, .slice Z11.p Z11.n Z11.c]
  replace B5 := Cells.off B5 (b' := w.heap.size + 1 + 1) (by omega) 0 [.bool Z11.b, .slice Z11.p Z11.n Z11.c]
  replace B3 : Cells (sets w8 (w.heap.size + 1 + 1) 0 [.bool Z11.b, .slice Z11.p Z11.n Z11.c]) (w.heap.size + 1 + 1) 38 #[.bool Z11.b, .slice Z11.p Z11.n Z11.c] := Cells.sets [.bool Z11.b, .slice Z11.p Z11.n Z11.c] B3 0
  have zw9 := size_sets (w.heap.size + 1 + 1) [.bool Z11.b, .slice Z11.p Z11.n Z11.c] w8 0
  replace hww9 : sets w8 (w.heap.size + 1 + 1) 0 [.bool Z11.b, .slice Z11.p Z11.n Z11.c] = w9 := hww9
  rw [hww9] at hX hY hZ11 hZ11r oZ11 oZ11r B1 B2 B3 B4 B5 hEw9 zw9
  replace hww9 : ((w8).setCell ⟨w.heap.size + 1 + 1, 0, none⟩ (.bool Z11.b)).setCell ⟨w.heap.size + 1 + 1, 1, none⟩ (.slice Z11.p Z11.n Z11.c) = w9 := hww9
  have b3_0_w9 := B3.cell (k := 0) rfl
  have b3_1_w9 := B3.cell (k := 1) rfl
  have lB1_w9 := B1.lt
  have lB2_w9 := B2.lt
  have lB3_w9 := B3.lt
  have lB4_w9 := B4.lt
  have lB5_w9 := B5.lt
  go_wp2_with fail
  clear hww5
  clear hww6
  clear hww7
  clear hww8
  clear hww9
  clear b1_0_w3 b1_1_w3 b2_0_w3 b2_1_w3 b4_0_w6 fb4_0_w6 b4_1_w6 fb4_1_w6 b5_0_w7 fb5_0_w7 b5_1_w7 fb5_1_w7 b4_0_w8 b4_1_w8 b3_0_w8 fb3_0_w8 b3_1_w8 fb3_1_w8 lB1_w3 lB2_w3 lB3_w3 lB1_w4 lB2_w4 lB3_w4 lB1_w5 lB2_w5 lB3_w5 lB4_w5 lB1_w6 lB2_w6 lB3_w6 lB4_w6 lB5_w6 lB1_w7 lB2_w7 lB3_w7 lB4_w7 lB5_w7 lB1_w8 lB2_w8 lB3_w8 lB4_w8 lB5_w8
  have yw5 := Nat.le_of_eq zw5
  replace zw5 := Nat.le_of_eq zw5.symm
  have yw6 := Nat.le_of_eq zw6
  replace zw6 := Nat.le_of_eq zw6.symm
  have yw7 := Nat.le_of_eq zw7
  replace zw7 := Nat.le_of_eq zw7.symm
  have yw8 := Nat.le_of_eq zw8
  replace zw8 := Nat.le_of_eq zw8.symm
  have yw9 := Nat.le_of_eq zw9
  replace zw9 := Nat.le_of_eq zw9.symm
  refine bodyPost_ret (v := .agg #[.bool Z11.b, .slice Z11.p Z11.n Z11.c]) (by simp [results, Tryz.results183, go_sem, b3_0_w9, b3_1_w9]) rfl ?_
  exact Gv.of_w (X := Z11) (hZ11) (oZ11) hEw9
end Go.Proofs.YtndgaecfeaedeaaGreat
