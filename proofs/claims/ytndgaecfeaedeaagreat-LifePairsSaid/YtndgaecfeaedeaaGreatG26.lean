/- Walks of the law on lives: the examples. -/
import Derived.Test.YtndgaecfeaedeaaGreatG23
import Derived.Test.YtndgaecfeaedeaaGreatG25
namespace Go.Proofs.YtndgaecfeaedeaaGreat
set_option linter.unusedSimpArgs false
set_option linter.unusedVariables false
open Go.RowKit Lex Mth
attribute [local go_sem] run_indexAt_at add_zero_map Oper.semAt_some at_zero at_add at_mk1 at_mk2 at_mk3

section
variable {T : Tb} {R : Nat → Nat → Rat} (s : Sml T R)
theorem Sml.okL (s : Sml T R) {e y : Int} (h : 60 ≤ e ∧ e ≤ 62 ∧ 0 ≤ y ∧ y ≤ 300) : okL T e y = true := by
  unfold Go.Proofs.YtndgaecfeaedeaaGreat.okL
  rw [s.ok, s.first, s.N]
  simp only [Bool.true_and, Bool.and_eq_true, decide_eq_true_eq]
  omega
theorem Sml.rt_a (s : Sml T R) : rt T R 60 0 = 1 / 10 := by unfold rt; rw [s.first, s.N, s.sel]; simp [s.r00]
theorem Sml.rt_b (s : Sml T R) : rt T R 60 1 = 1 / 2 := by unfold rt; rw [s.first, s.N, s.sel]; simp [s.r11]
theorem Sml.rt_c (s : Sml T R) : rt T R 60 2 = 1 := by unfold rt; rw [s.first, s.N, s.sel]; simp [s.r21]
theorem Sml.rt_d (s : Sml T R) : rt T R 60 3 = 1 := by unfold rt; rw [s.first, s.N, s.sel]; simp
theorem Sml.rt_e (s : Sml T R) : rt T R 62 0 = 1 / 4 := by unfold rt; rw [s.first, s.N, s.sel]; simp [s.r20]
theorem Sml.al1 (s : Sml T R) : lal T R 60 0 1 = 9 / 10 := by simp only [lal, al]; simp only [Int.natCast_zero, Int.add_zero, s.rt_a]; grind
theorem Sml.al2 (s : Sml T R) : lal T R 60 0 2 = 9 / 20 := by
  have h1 := s.al1
  simp only [lal] at h1 ⊢
  rw [al, h1]
  have : rt T R 60 (0 + ((1 : Nat) : Int)) = 1 / 2 := s.rt_b
  rw [this]; grind
theorem Sml.al3 (s : Sml T R) : lal T R 60 0 3 = 0 := by
  have h1 := s.al2
  simp only [lal] at h1 ⊢
  rw [al, h1]
  have : rt T R 60 (0 + ((2 : Nat) : Int)) = 1 := s.rt_c
  rw [this]; grind
theorem Sml.al4 (s : Sml T R) : lal T R 60 0 4 = 0 := by
  have h1 := s.al3
  simp only [lal] at h1 ⊢
  rw [al, h1]; grind
theorem Sml.bl1 (s : Sml T R) : lal T R 62 0 1 = 3 / 4 := by simp only [lal, al]; simp only [Int.natCast_zero, Int.add_zero, s.rt_e]; grind
theorem Sml.dq1 (s : Sml T R) : ldq T R 60 0 1 = 9 / 20 := by
  unfold ldq
  rw [s.al1]
  have : rt T R 60 (0 + ((1 : Nat) : Int)) = 1 / 2 := s.rt_b
  rw [this]; grind
theorem Sml.ex (s : Sml T R) : lex T R 60 0 = 27 / 20 := by
  have h0 : yN T 60 0 = 3 := by unfold yN; rw [s.first, s.N]; rfl
  have h1 := s.al1
  have h2 := s.al2
  have h3 := s.al3
  have h4 := s.al4
  unfold lex
  rw [h0]
  simp only [es]
  simp only [lal] at h1 h2 h3 h4
  rw [h1, h2, h3, h4]; grind
end
theorem eqv {x : Rat} {n d : Int} (h : x = (n : Rat) / (d : Rat)) : eqQ x (Rat.divInt n d) = true := by rw [eqQ_iff, Rat.divInt_eq_div, h]

set_option maxRecDepth 100000 in
set_option maxHeartbeats 4000000 in
theorem nawake  (w : World)  :
    Calls Tryz.prog 9 #[] w (Gv (.v (.bool true)) w) := by
  have hEw : Ext w w := Below.refl _ _
  go_enter Tryz.func9, Tryz.ntmps9
  go_wp2_with fail
  refine (nsmall _).mono ?_
  intro ee w1 gg
  obtain ⟨T, R, rfl, hT, sm, ew1⟩ := gg
  have hEw1 := eg hEw ew1
  have zw1 := ew1.size
  have hFw1 : Ext w1 w1 := Below.refl _ _
  obtain ⟨w2, hww2⟩ : ∃ W, w1.alloc (.cells #[.int .i64 0, .int .i64 0, .slice none 0 0] 24) = W := ⟨_, rfl⟩
  have ew2 : Ext w1 w2 := by rw [← hww2]; exact ea _ _
  have B1 : Cells w2 (w1.heap.size) 24 #[.int .i64 0, .int .i64 0, .slice none 0 0] := by rw [← hww2]; exact Cells.newAt _ _ (by omega)
  have zw2 := alloc_lt hww2
  have hEw2 := eg hEw1 ew2
  have hFw2 := eg hFw1 ew2
  have lB1_w2 := B1.lt
  obtain ⟨w3, hww3⟩ : ∃ W, w2.alloc (.cells #[.int .i64 0, .int .i64 0] 26) = W := ⟨_, rfl⟩
  have ew3 : Ext w2 w3 := by rw [← hww3]; exact ea _ _
  have B2 : Cells w3 (w1.heap.size + 1) 26 #[.int .i64 0, .int .i64 0] := by rw [← hww3]; exact Cells.newAt _ _ (by omega)
  replace B1 := B1.ext ew3
  have zw3 := alloc_lt hww3
  have hEw3 := eg hEw2 ew3
  have hFw3 := eg hFw2 ew3
  have lB1_w3 := B1.lt
  have lB2_w3 := B2.lt
  obtain ⟨w4, hww4⟩ : ∃ W, w3.alloc (.cells #[.int .i64 0, .int .i64 0] 26) = W := ⟨_, rfl⟩
  have ew4 : Ext w3 w4 := by rw [← hww4]; exact ea _ _
  have B3 : Cells w4 (w1.heap.size + 1 + 1) 26 #[.int .i64 0, .int .i64 0] := by rw [← hww4]; exact Cells.newAt _ _ (by omega)
  replace B1 := B1.ext ew4
  replace B2 := B2.ext ew4
  have zw4 := alloc_lt hww4
  have hEw4 := eg hEw3 ew4
  have hFw4 := eg hFw3 ew4
  have b1_0_w4 := B1.cell (k := 0) rfl
  have fb1_0_w4 := B1.frozen 0
  have b1_1_w4 := B1.cell (k := 1) rfl
  have fb1_1_w4 := B1.frozen 1
  have b1_2_w4 := B1.cell (k := 2) rfl
  have fb1_2_w4 := B1.frozen 2
  have lB1_w4 := B1.lt
  have lB2_w4 := B2.lt
  have lB3_w4 := B3.lt
  obtain ⟨w5, hww5⟩ : ∃ W, (((w4).setCell ⟨w1.heap.size, 0, none⟩ (.int .i64 T.first)).setCell ⟨w1.heap.size, 1, none⟩ (.int .i64 T.sel)).setCell ⟨w1.heap.size, 2, none⟩ (.slice T.P T.N T.C) = W := ⟨_, rfl⟩
  have nuw5 : NoU #[.int .i64 0, .int .i64 0, .slice none 0 0] := by simp [NoU]
  have hEw5 := Ext.sets hEw4 (b := w1.heap.size) (by omega) 0 [.int .i64 T.first, .int .i64 T.sel, .slice T.P T.N T.C]
  have hFw5 := Ext.sets hFw4 (b := w1.heap.size) (by omega) 0 [.int .i64 T.first, .int .i64 T.sel, .slice T.P T.N T.C]
  replace B2 := Cells.off B2 (b' := w1.heap.size) (by omega) 0 [.int .i64 T.first, .int .i64 T.sel, .slice T.P T.N T.C]
  replace B3 := Cells.off B3 (b' := w1.heap.size) (by omega) 0 [.int .i64 T.first, .int .i64 T.sel, .slice T.P T.N T.C]
  replace B1 : Cells (sets w4 (w1.heap.size) 0 [.int .i64 T.first, .int .i64 T.sel, .slice T.P T.N T.C]) (w1.heap.size) 24 #[.int .i64 T.first, .int .i64 T.sel, .slice T.P T.N T.C] := Cells.sets [.int .i64 T.first, .int .i64 T.sel, .slice T.P T.N T.C] B1 0
  have zw5 := size_sets (w1.heap.size) [.int .i64 T.first, .int .i64 T.sel, .slice T.P T.N T.C] w4 0
  replace hww5 : sets w4 (w1.heap.size) 0 [.int .i64 T.first, .int .i64 T.sel, .slice T.P T.N T.C] = w5 := hww5
  rw [hww5] at B1 B2 B3 hEw5 zw5 hFw5
  replace hww5 : (((w4).setCell ⟨w1.heap.size, 0, none⟩ (.int .i64 T.first)).setCell ⟨w1.heap.size, 1, none⟩ (.int .i64 T.sel)).setCell ⟨w1.heap.size, 2, none⟩ (.slice T.P T.N T.C) = w5 := hww5
  have b2_0_w5 := B2.cell (k := 0) rfl
  have fb2_0_w5 := B2.frozen 0
  have b2_1_w5 := B2.cell (k := 1) rfl
  have fb2_1_w5 := B2.frozen 1
  have lB1_w5 := B1.lt
  have lB2_w5 := B2.lt
  have lB3_w5 := B3.lt
  obtain ⟨w6, hww6⟩ : ∃ W, ((w5).setCell ⟨w1.heap.size + 1, 0, none⟩ (.int .i64 60)).setCell ⟨w1.heap.size + 1, 1, none⟩ (.int .i64 0) = W := ⟨_, rfl⟩
  have nuw6 : NoU #[.int .i64 0, .int .i64 0] := by simp [NoU]
  have hEw6 := Ext.sets hEw5 (b := w1.heap.size + 1) (by omega) 0 [.int .i64 60, .int .i64 0]
  have hFw6 := Ext.sets hFw5 (b := w1.heap.size + 1) (by omega) 0 [.int .i64 60, .int .i64 0]
  replace B1 := Cells.off B1 (b' := w1.heap.size + 1) (by omega) 0 [.int .i64 60, .int .i64 0]
  replace B3 := Cells.off B3 (b' := w1.heap.size + 1) (by omega) 0 [.int .i64 60, .int .i64 0]
  replace B2 : Cells (sets w5 (w1.heap.size + 1) 0 [.int .i64 60, .int .i64 0]) (w1.heap.size + 1) 26 #[.int .i64 60, .int .i64 0] := Cells.sets [.int .i64 60, .int .i64 0] B2 0
  have zw6 := size_sets (w1.heap.size + 1) [.int .i64 60, .int .i64 0] w5 0
  replace hww6 : sets w5 (w1.heap.size + 1) 0 [.int .i64 60, .int .i64 0] = w6 := hww6
  rw [hww6] at B1 B2 B3 hEw6 zw6 hFw6
  replace hww6 : ((w5).setCell ⟨w1.heap.size + 1, 0, none⟩ (.int .i64 60)).setCell ⟨w1.heap.size + 1, 1, none⟩ (.int .i64 0) = w6 := hww6
  have b3_0_w6 := B3.cell (k := 0) rfl
  have fb3_0_w6 := B3.frozen 0
  have b3_1_w6 := B3.cell (k := 1) rfl
  have fb3_1_w6 := B3.frozen 1
  have lB1_w6 := B1.lt
  have lB2_w6 := B2.lt
  have lB3_w6 := B3.lt
  obtain ⟨w7, hww7⟩ : ∃ W, ((w6).setCell ⟨w1.heap.size + 1 + 1, 0, none⟩ (.int .i64 62)).setCell ⟨w1.heap.size + 1 + 1, 1, none⟩ (.int .i64 0) = W := ⟨_, rfl⟩
  have nuw7 : NoU #[.int .i64 0, .int .i64 0] := by simp [NoU]
  have hEw7 := Ext.sets hEw6 (b := w1.heap.size + 1 + 1) (by omega) 0 [.int .i64 62, .int .i64 0]
  have hFw7 := Ext.sets hFw6 (b := w1.heap.size + 1 + 1) (by omega) 0 [.int .i64 62, .int .i64 0]
  replace B1 := Cells.off B1 (b' := w1.heap.size + 1 + 1) (by omega) 0 [.int .i64 62, .int .i64 0]
  replace B2 := Cells.off B2 (b' := w1.heap.size + 1 + 1) (by omega) 0 [.int .i64 62, .int .i64 0]
  replace B3 : Cells (sets w6 (w1.heap.size + 1 + 1) 0 [.int .i64 62, .int .i64 0]) (w1.heap.size + 1 + 1) 26 #[.int .i64 62, .int .i64 0] := Cells.sets [.int .i64 62, .int .i64 0] B3 0
  have zw7 := size_sets (w1.heap.size + 1 + 1) [.int .i64 62, .int .i64 0] w6 0
  replace hww7 : sets w6 (w1.heap.size + 1 + 1) 0 [.int .i64 62, .int .i64 0] = w7 := hww7
  rw [hww7] at B1 B2 B3 hEw7 zw7 hFw7
  replace hww7 : ((w6).setCell ⟨w1.heap.size + 1 + 1, 0, none⟩ (.int .i64 62)).setCell ⟨w1.heap.size + 1 + 1, 1, none⟩ (.int .i64 0) = w7 := hww7
  have b1_0_w7 := B1.cell (k := 0) rfl
  have b1_1_w7 := B1.cell (k := 1) rfl
  have b1_2_w7 := B1.cell (k := 2) rfl
  have lB1_w7 := B1.lt
  have lB2_w7 := B2.lt
  have lB3_w7 := B3.lt
  go_wp2_with fail
  clear hww2
  clear hww3
  clear hww4
  clear hww5
  clear hww6
  clear hww7
  clear b1_0_w4 fb1_0_w4 b1_1_w4 fb1_1_w4 b1_2_w4 fb1_2_w4 b2_0_w5 fb2_0_w5 b2_1_w5 fb2_1_w5 b3_0_w6 fb3_0_w6 b3_1_w6 fb3_1_w6 lB1_w2 lB1_w3 lB2_w3 lB1_w4 lB2_w4 lB3_w4 lB1_w5 lB2_w5 lB3_w5 lB1_w6 lB2_w6 lB3_w6
  have yw2 := Nat.le_of_eq zw2
  replace zw2 := Nat.le_of_eq zw2.symm
  have yw3 := Nat.le_of_eq zw3
  replace zw3 := Nat.le_of_eq zw3.symm
  have yw4 := Nat.le_of_eq zw4
  replace zw4 := Nat.le_of_eq zw4.symm
  have yw5 := Nat.le_of_eq zw5
  replace zw5 := Nat.le_of_eq zw5.symm
  have yw6 := Nat.le_of_eq zw6
  replace zw6 := Nat.le_of_eq zw6.symm
  have yw7 := Nat.le_of_eq zw7
  replace zw7 := Nat.le_of_eq zw7.symm
  refine (lRate T R 60 1 _ (hT.ext hFw7) (sm.okL (by decide))).mono ?_
  intro ee w8 gg
  obtain ⟨Z28, rfl, hZ28, oZ28, ew8⟩ := Gv.fe gg
  replace B1 := B1.ext ew8
  replace B2 := B2.ext ew8
  replace B3 := B3.ext ew8
  have hEw8 := eg hEw7 ew8
  have hFw8 := eg hFw7 ew8
  have zw8 := ew8.size
  replace oZ28 := oZ28.mono hEw7.size
  have lB1_w8 := B1.lt
  have lB2_w8 := B2.lt
  have lB3_w8 := B3.lt
  obtain ⟨w9, hww9⟩ : ∃ W, w8.alloc (.cells #[.bool Z28.N.b, .slice Z28.N.p Z28.N.n Z28.N.c, .bool Z28.D.b, .slice Z28.D.p Z28.D.n Z28.D.c] 40) = W := ⟨_, rfl⟩
  have ew9 : Ext w8 w9 := by rw [← hww9]; exact ea _ _
  have B4 : Cells w9 (w8.heap.size) 40 #[.bool Z28.N.b, .slice Z28.N.p Z28.N.n Z28.N.c, .bool Z28.D.b, .slice Z28.D.p Z28.D.n Z28.D.c] := by rw [← hww9]; exact Cells.newAt _ _ (by omega)
  replace hZ28 := hZ28.ext ew9
  replace oZ28 := oZ28.ext ew9
  replace B1 := B1.ext ew9
  replace B2 := B2.ext ew9
  replace B3 := B3.ext ew9
  have zw9 := alloc_lt hww9
  have hEw9 := eg hEw8 ew9
  have hFw9 := eg hFw8 ew9
  have b1_0_w9 := B1.cell (k := 0) rfl
  have b1_1_w9 := B1.cell (k := 1) rfl
  have b1_2_w9 := B1.cell (k := 2) rfl
  have b2_0_w9 := B2.cell (k := 0) rfl
  have b2_1_w9 := B2.cell (k := 1) rfl
  have lB1_w9 := B1.lt
  have lB2_w9 := B2.lt
  have lB3_w9 := B3.lt
  have lB4_w9 := B4.lt
  go_wp2_with fail
  clear hww9
  clear b1_0_w7 b1_1_w7 b1_2_w7 lB1_w7 lB2_w7 lB3_w7 lB1_w8 lB2_w8 lB3_w8
  have yw9 := Nat.le_of_eq zw9
  replace zw9 := Nat.le_of_eq zw9.symm
  refine (lAlive T R 60 0 2 _ (hT.ext hFw9) (sm.okL (by decide)) (by decide)).mono ?_
  intro ee w10 gg
  obtain ⟨Z34, rfl, hZ34, oZ34, ew10⟩ := Gv.fe gg
  replace hZ28 := hZ28.ext ew10
  replace oZ28 := oZ28.ext ew10
  replace B1 := B1.ext ew10
  replace B2 := B2.ext ew10
  replace B3 := B3.ext ew10
  replace B4 := B4.ext ew10
  have hEw10 := eg hEw9 ew10
  have hFw10 := eg hFw9 ew10
  have zw10 := ew10.size
  replace oZ34 := oZ34.mono hEw9.size
  have lB1_w10 := B1.lt
  have lB2_w10 := B2.lt
  have lB3_w10 := B3.lt
  have lB4_w10 := B4.lt
  obtain ⟨w11, hww11⟩ : ∃ W, w10.alloc (.cells #[.bool Z34.N.b, .slice Z34.N.p Z34.N.n Z34.N.c, .bool Z34.D.b, .slice Z34.D.p Z34.D.n Z34.D.c] 40) = W := ⟨_, rfl⟩
  have ew11 : Ext w10 w11 := by rw [← hww11]; exact ea _ _
  have B5 : Cells w11 (w10.heap.size) 40 #[.bool Z34.N.b, .slice Z34.N.p Z34.N.n Z34.N.c, .bool Z34.D.b, .slice Z34.D.p Z34.D.n Z34.D.c] := by rw [← hww11]; exact Cells.newAt _ _ (by omega)
  replace hZ28 := hZ28.ext ew11
  replace hZ34 := hZ34.ext ew11
  replace oZ28 := oZ28.ext ew11
  replace oZ34 := oZ34.ext ew11
  replace B1 := B1.ext ew11
  replace B2 := B2.ext ew11
  replace B3 := B3.ext ew11
  replace B4 := B4.ext ew11
  have zw11 := alloc_lt hww11
  have hEw11 := eg hEw10 ew11
  have hFw11 := eg hFw10 ew11
  have b1_0_w11 := B1.cell (k := 0) rfl
  have b1_1_w11 := B1.cell (k := 1) rfl
  have b1_2_w11 := B1.cell (k := 2) rfl
  have b2_0_w11 := B2.cell (k := 0) rfl
  have b2_1_w11 := B2.cell (k := 1) rfl
  have lB1_w11 := B1.lt
  have lB2_w11 := B2.lt
  have lB3_w11 := B3.lt
  have lB4_w11 := B4.lt
  have lB5_w11 := B5.lt
  go_wp2_with fail
  clear hww11
  clear b1_0_w9 b1_1_w9 b1_2_w9 b2_0_w9 b2_1_w9 lB1_w9 lB2_w9 lB3_w9 lB4_w9 lB1_w10 lB2_w10 lB3_w10 lB4_w10
  have yw11 := Nat.le_of_eq zw11
  replace zw11 := Nat.le_of_eq zw11.symm
  refine (lAlive T R 60 0 3 _ (hT.ext hFw11) (sm.okL (by decide)) (by decide)).mono ?_
  intro ee w12 gg
  obtain ⟨Z40, rfl, hZ40, oZ40, ew12⟩ := Gv.fe gg
  replace hZ28 := hZ28.ext ew12
  replace hZ34 := hZ34.ext ew12
  replace oZ28 := oZ28.ext ew12
  replace oZ34 := oZ34.ext ew12
  replace B1 := B1.ext ew12
  replace B2 := B2.ext ew12
  replace B3 := B3.ext ew12
  replace B4 := B4.ext ew12
  replace B5 := B5.ext ew12
  have hEw12 := eg hEw11 ew12
  have hFw12 := eg hFw11 ew12
  have zw12 := ew12.size
  replace oZ40 := oZ40.mono hEw11.size
  have lB1_w12 := B1.lt
  have lB2_w12 := B2.lt
  have lB3_w12 := B3.lt
  have lB4_w12 := B4.lt
  have lB5_w12 := B5.lt
  obtain ⟨w13, hww13⟩ : ∃ W, w12.alloc (.cells #[.bool Z40.N.b, .slice Z40.N.p Z40.N.n Z40.N.c, .bool Z40.D.b, .slice Z40.D.p Z40.D.n Z40.D.c] 40) = W := ⟨_, rfl⟩
  have ew13 : Ext w12 w13 := by rw [← hww13]; exact ea _ _
  have B6 : Cells w13 (w12.heap.size) 40 #[.bool Z40.N.b, .slice Z40.N.p Z40.N.n Z40.N.c, .bool Z40.D.b, .slice Z40.D.p Z40.D.n Z40.D.c] := by rw [← hww13]; exact Cells.newAt _ _ (by omega)
  replace hZ28 := hZ28.ext ew13
  replace hZ34 := hZ34.ext ew13
  replace hZ40 := hZ40.ext ew13
  replace oZ28 := oZ28.ext ew13
  replace oZ34 := oZ34.ext ew13
  replace oZ40 := oZ40.ext ew13
  replace B1 := B1.ext ew13
  replace B2 := B2.ext ew13
  replace B3 := B3.ext ew13
  replace B4 := B4.ext ew13
  replace B5 := B5.ext ew13
  have zw13 := alloc_lt hww13
  have hEw13 := eg hEw12 ew13
  have hFw13 := eg hFw12 ew13
  have b1_0_w13 := B1.cell (k := 0) rfl
  have b1_1_w13 := B1.cell (k := 1) rfl
  have b1_2_w13 := B1.cell (k := 2) rfl
  have b2_0_w13 := B2.cell (k := 0) rfl
  have b2_1_w13 := B2.cell (k := 1) rfl
  have lB1_w13 := B1.lt
  have lB2_w13 := B2.lt
  have lB3_w13 := B3.lt
  have lB4_w13 := B4.lt
  have lB5_w13 := B5.lt
  have lB6_w13 := B6.lt
  go_wp2_with fail
  clear hww13
  clear b1_0_w11 b1_1_w11 b1_2_w11 b2_0_w11 b2_1_w11 lB1_w11 lB2_w11 lB3_w11 lB4_w11 lB5_w11 lB1_w12 lB2_w12 lB3_w12 lB4_w12 lB5_w12
  have yw13 := Nat.le_of_eq zw13
  replace zw13 := Nat.le_of_eq zw13.symm
  refine (lDies T R 60 0 1 _ (hT.ext hFw13) (sm.okL (by decide)) (by decide)).mono ?_
  intro ee w14 gg
  obtain ⟨Z46, rfl, hZ46, oZ46, ew14⟩ := Gv.fe gg
  replace hZ28 := hZ28.ext ew14
  replace hZ34 := hZ34.ext ew14
  replace hZ40 := hZ40.ext ew14
  replace oZ28 := oZ28.ext ew14
  replace oZ34 := oZ34.ext ew14
  replace oZ40 := oZ40.ext ew14
  replace B1 := B1.ext ew14
  replace B2 := B2.ext ew14
  replace B3 := B3.ext ew14
  replace B4 := B4.ext ew14
  replace B5 := B5.ext ew14
  replace B6 := B6.ext ew14
  have hEw14 := eg hEw13 ew14
  have hFw14 := eg hFw13 ew14
  have zw14 := ew14.size
  replace oZ46 := oZ46.mono hEw13.size
  have lB1_w14 := B1.lt
  have lB2_w14 := B2.lt
  have lB3_w14 := B3.lt
  have lB4_w14 := B4.lt
  have lB5_w14 := B5.lt
  have lB6_w14 := B6.lt
  obtain ⟨w15, hww15⟩ : ∃ W, w14.alloc (.cells #[.bool Z46.N.b, .slice Z46.N.p Z46.N.n Z46.N.c, .bool Z46.D.b, .slice Z46.D.p Z46.D.n Z46.D.c] 40) = W := ⟨_, rfl⟩
  have ew15 : Ext w14 w15 := by rw [← hww15]; exact ea _ _
  have B7 : Cells w15 (w14.heap.size) 40 #[.bool Z46.N.b, .slice Z46.N.p Z46.N.n Z46.N.c, .bool Z46.D.b, .slice Z46.D.p Z46.D.n Z46.D.c] := by rw [← hww15]; exact Cells.newAt _ _ (by omega)
  replace hZ28 := hZ28.ext ew15
  replace hZ34 := hZ34.ext ew15
  replace hZ40 := hZ40.ext ew15
  replace hZ46 := hZ46.ext ew15
  replace oZ28 := oZ28.ext ew15
  replace oZ34 := oZ34.ext ew15
  replace oZ40 := oZ40.ext ew15
  replace oZ46 := oZ46.ext ew15
  replace B1 := B1.ext ew15
  replace B2 := B2.ext ew15
  replace B3 := B3.ext ew15
  replace B4 := B4.ext ew15
  replace B5 := B5.ext ew15
  replace B6 := B6.ext ew15
  have zw15 := alloc_lt hww15
  have hEw15 := eg hEw14 ew15
  have hFw15 := eg hFw14 ew15
  have b1_0_w15 := B1.cell (k := 0) rfl
  have b1_1_w15 := B1.cell (k := 1) rfl
  have b1_2_w15 := B1.cell (k := 2) rfl
  have b2_0_w15 := B2.cell (k := 0) rfl
  have b2_1_w15 := B2.cell (k := 1) rfl
  have lB1_w15 := B1.lt
  have lB2_w15 := B2.lt
  have lB3_w15 := B3.lt
  have lB4_w15 := B4.lt
  have lB5_w15 := B5.lt
  have lB6_w15 := B6.lt
  have lB7_w15 := B7.lt
  go_wp2_with fail
  clear hww15
  clear b1_0_w13 b1_1_w13 b1_2_w13 b2_0_w13 b2_1_w13 lB1_w13 lB2_w13 lB3_w13 lB4_w13 lB5_w13 lB6_w13 lB1_w14 lB2_w14 lB3_w14 lB4_w14 lB5_w14 lB6_w14
  have yw15 := Nat.le_of_eq zw15
  replace zw15 := Nat.le_of_eq zw15.symm
  refine (lExpect T R 60 0 _ (hT.ext hFw15) (sm.okL (by decide))).mono ?_
  intro ee w16 gg
  obtain ⟨Z52, rfl, hZ52, oZ52, ew16⟩ := Gv.fe gg
  replace hZ28 := hZ28.ext ew16
  replace hZ34 := hZ34.ext ew16
  replace hZ40 := hZ40.ext ew16
  replace hZ46 := hZ46.ext ew16
  replace oZ28 := oZ28.ext ew16
  replace oZ34 := oZ34.ext ew16
  replace oZ40 := oZ40.ext ew16
  replace oZ46 := oZ46.ext ew16
  replace B1 := B1.ext ew16
  replace B2 := B2.ext ew16
  replace B3 := B3.ext ew16
  replace B4 := B4.ext ew16
  replace B5 := B5.ext ew16
  replace B6 := B6.ext ew16
  replace B7 := B7.ext ew16
  have hEw16 := eg hEw15 ew16
  have hFw16 := eg hFw15 ew16
  have zw16 := ew16.size
  replace oZ52 := oZ52.mono hEw15.size
  have lB1_w16 := B1.lt
  have lB2_w16 := B2.lt
  have lB3_w16 := B3.lt
  have lB4_w16 := B4.lt
  have lB5_w16 := B5.lt
  have lB6_w16 := B6.lt
  have lB7_w16 := B7.lt
  obtain ⟨w17, hww17⟩ : ∃ W, w16.alloc (.cells #[.bool Z52.N.b, .slice Z52.N.p Z52.N.n Z52.N.c, .bool Z52.D.b, .slice Z52.D.p Z52.D.n Z52.D.c] 40) = W := ⟨_, rfl⟩
  have ew17 : Ext w16 w17 := by rw [← hww17]; exact ea _ _
  have B8 : Cells w17 (w16.heap.size) 40 #[.bool Z52.N.b, .slice Z52.N.p Z52.N.n Z52.N.c, .bool Z52.D.b, .slice Z52.D.p Z52.D.n Z52.D.c] := by rw [← hww17]; exact Cells.newAt _ _ (by omega)
  replace hZ28 := hZ28.ext ew17
  replace hZ34 := hZ34.ext ew17
  replace hZ40 := hZ40.ext ew17
  replace hZ46 := hZ46.ext ew17
  replace hZ52 := hZ52.ext ew17
  replace oZ28 := oZ28.ext ew17
  replace oZ34 := oZ34.ext ew17
  replace oZ40 := oZ40.ext ew17
  replace oZ46 := oZ46.ext ew17
  replace oZ52 := oZ52.ext ew17
  replace B1 := B1.ext ew17
  replace B2 := B2.ext ew17
  replace B3 := B3.ext ew17
  replace B4 := B4.ext ew17
  replace B5 := B5.ext ew17
  replace B6 := B6.ext ew17
  replace B7 := B7.ext ew17
  have zw17 := alloc_lt hww17
  have hEw17 := eg hEw16 ew17
  have hFw17 := eg hFw16 ew17
  have b1_0_w17 := B1.cell (k := 0) rfl
  have b1_1_w17 := B1.cell (k := 1) rfl
  have b1_2_w17 := B1.cell (k := 2) rfl
  have b3_0_w17 := B3.cell (k := 0) rfl
  have b3_1_w17 := B3.cell (k := 1) rfl
  have lB1_w17 := B1.lt
  have lB2_w17 := B2.lt
  have lB3_w17 := B3.lt
  have lB4_w17 := B4.lt
  have lB5_w17 := B5.lt
  have lB6_w17 := B6.lt
  have lB7_w17 := B7.lt
  have lB8_w17 := B8.lt
  go_wp2_with fail
  clear hww17
  clear b1_0_w15 b1_1_w15 b1_2_w15 b2_0_w15 b2_1_w15 lB1_w15 lB2_w15 lB3_w15 lB4_w15 lB5_w15 lB6_w15 lB7_w15 lB1_w16 lB2_w16 lB3_w16 lB4_w16 lB5_w16 lB6_w16 lB7_w16
  have yw17 := Nat.le_of_eq zw17
  replace zw17 := Nat.le_of_eq zw17.symm
  refine (lRate T R 62 0 _ (hT.ext hFw17) (sm.okL (by decide))).mono ?_
  intro ee w18 gg
  obtain ⟨Z58, rfl, hZ58, oZ58, ew18⟩ := Gv.fe gg
  replace hZ28 := hZ28.ext ew18
  replace hZ34 := hZ34.ext ew18
  replace hZ40 := hZ40.ext ew18
  replace hZ46 := hZ46.ext ew18
  replace hZ52 := hZ52.ext ew18
  replace oZ28 := oZ28.ext ew18
  replace oZ34 := oZ34.ext ew18
  replace oZ40 := oZ40.ext ew18
  replace oZ46 := oZ46.ext ew18
  replace oZ52 := oZ52.ext ew18
  replace B1 := B1.ext ew18
  replace B2 := B2.ext ew18
  replace B3 := B3.ext ew18
  replace B4 := B4.ext ew18
  replace B5 := B5.ext ew18
  replace B6 := B6.ext ew18
  replace B7 := B7.ext ew18
  replace B8 := B8.ext ew18
  have hEw18 := eg hEw17 ew18
  have hFw18 := eg hFw17 ew18
  have zw18 := ew18.size
  replace oZ58 := oZ58.mono hEw17.size
  have lB1_w18 := B1.lt
  have lB2_w18 := B2.lt
  have lB3_w18 := B3.lt
  have lB4_w18 := B4.lt
  have lB5_w18 := B5.lt
  have lB6_w18 := B6.lt
  have lB7_w18 := B7.lt
  have lB8_w18 := B8.lt
  obtain ⟨w19, hww19⟩ : ∃ W, w18.alloc (.cells #[.bool Z58.N.b, .slice Z58.N.p Z58.N.n Z58.N.c, .bool Z58.D.b, .slice Z58.D.p Z58.D.n Z58.D.c] 40) = W := ⟨_, rfl⟩
  have ew19 : Ext w18 w19 := by rw [← hww19]; exact ea _ _
  have B9 : Cells w19 (w18.heap.size) 40 #[.bool Z58.N.b, .slice Z58.N.p Z58.N.n Z58.N.c, .bool Z58.D.b, .slice Z58.D.p Z58.D.n Z58.D.c] := by rw [← hww19]; exact Cells.newAt _ _ (by omega)
  replace hZ28 := hZ28.ext ew19
  replace hZ34 := hZ34.ext ew19
  replace hZ40 := hZ40.ext ew19
  replace hZ46 := hZ46.ext ew19
  replace hZ52 := hZ52.ext ew19
  replace hZ58 := hZ58.ext ew19
  replace oZ28 := oZ28.ext ew19
  replace oZ34 := oZ34.ext ew19
  replace oZ40 := oZ40.ext ew19
  replace oZ46 := oZ46.ext ew19
  replace oZ52 := oZ52.ext ew19
  replace oZ58 := oZ58.ext ew19
  replace B1 := B1.ext ew19
  replace B2 := B2.ext ew19
  replace B3 := B3.ext ew19
  replace B4 := B4.ext ew19
  replace B5 := B5.ext ew19
  replace B6 := B6.ext ew19
  replace B7 := B7.ext ew19
  replace B8 := B8.ext ew19
  have zw19 := alloc_lt hww19
  have hEw19 := eg hEw18 ew19
  have hFw19 := eg hFw18 ew19
  have b1_0_w19 := B1.cell (k := 0) rfl
  have b1_1_w19 := B1.cell (k := 1) rfl
  have b1_2_w19 := B1.cell (k := 2) rfl
  have b2_0_w19 := B2.cell (k := 0) rfl
  have b2_1_w19 := B2.cell (k := 1) rfl
  have b3_0_w19 := B3.cell (k := 0) rfl
  have b3_1_w19 := B3.cell (k := 1) rfl
  have lB1_w19 := B1.lt
  have lB2_w19 := B2.lt
  have lB3_w19 := B3.lt
  have lB4_w19 := B4.lt
  have lB5_w19 := B5.lt
  have lB6_w19 := B6.lt
  have lB7_w19 := B7.lt
  have lB8_w19 := B8.lt
  have lB9_w19 := B9.lt
  go_wp2_with fail
  clear hww19
  clear b1_0_w17 b1_1_w17 b1_2_w17 b3_0_w17 b3_1_w17 lB1_w17 lB2_w17 lB3_w17 lB4_w17 lB5_w17 lB6_w17 lB7_w17 lB8_w17 lB1_w18 lB2_w18 lB3_w18 lB4_w18 lB5_w18 lB6_w18 lB7_w18 lB8_w18
  have yw19 := Nat.le_of_eq zw19
  replace zw19 := Nat.le_of_eq zw19.symm
  refine (lBoth T R 60 0 62 0 1 _ (hT.ext hFw19) (sm.okL (by decide)) (sm.okL (by decide)) (by decide)).mono ?_
  intro ee w20 gg
  obtain ⟨Z65, rfl, hZ65, oZ65, ew20⟩ := Gv.fe gg
  replace hZ28 := hZ28.ext ew20
  replace hZ34 := hZ34.ext ew20
  replace hZ40 := hZ40.ext ew20
  replace hZ46 := hZ46.ext ew20
  replace hZ52 := hZ52.ext ew20
  replace hZ58 := hZ58.ext ew20
  replace oZ28 := oZ28.ext ew20
  replace oZ34 := oZ34.ext ew20
  replace oZ40 := oZ40.ext ew20
  replace oZ46 := oZ46.ext ew20
  replace oZ52 := oZ52.ext ew20
  replace oZ58 := oZ58.ext ew20
  replace B1 := B1.ext ew20
  replace B2 := B2.ext ew20
  replace B3 := B3.ext ew20
  replace B4 := B4.ext ew20
  replace B5 := B5.ext ew20
  replace B6 := B6.ext ew20
  replace B7 := B7.ext ew20
  replace B8 := B8.ext ew20
  replace B9 := B9.ext ew20
  have hEw20 := eg hEw19 ew20
  have hFw20 := eg hFw19 ew20
  have zw20 := ew20.size
  replace oZ65 := oZ65.mono hEw19.size
  have lB1_w20 := B1.lt
  have lB2_w20 := B2.lt
  have lB3_w20 := B3.lt
  have lB4_w20 := B4.lt
  have lB5_w20 := B5.lt
  have lB6_w20 := B6.lt
  have lB7_w20 := B7.lt
  have lB8_w20 := B8.lt
  have lB9_w20 := B9.lt
  obtain ⟨w21, hww21⟩ : ∃ W, w20.alloc (.cells #[.bool Z65.N.b, .slice Z65.N.p Z65.N.n Z65.N.c, .bool Z65.D.b, .slice Z65.D.p Z65.D.n Z65.D.c] 40) = W := ⟨_, rfl⟩
  have ew21 : Ext w20 w21 := by rw [← hww21]; exact ea _ _
  have B10 : Cells w21 (w20.heap.size) 40 #[.bool Z65.N.b, .slice Z65.N.p Z65.N.n Z65.N.c, .bool Z65.D.b, .slice Z65.D.p Z65.D.n Z65.D.c] := by rw [← hww21]; exact Cells.newAt _ _ (by omega)
  replace hZ28 := hZ28.ext ew21
  replace hZ34 := hZ34.ext ew21
  replace hZ40 := hZ40.ext ew21
  replace hZ46 := hZ46.ext ew21
  replace hZ52 := hZ52.ext ew21
  replace hZ58 := hZ58.ext ew21
  replace hZ65 := hZ65.ext ew21
  replace oZ28 := oZ28.ext ew21
  replace oZ34 := oZ34.ext ew21
  replace oZ40 := oZ40.ext ew21
  replace oZ46 := oZ46.ext ew21
  replace oZ52 := oZ52.ext ew21
  replace oZ58 := oZ58.ext ew21
  replace oZ65 := oZ65.ext ew21
  replace B1 := B1.ext ew21
  replace B2 := B2.ext ew21
  replace B3 := B3.ext ew21
  replace B4 := B4.ext ew21
  replace B5 := B5.ext ew21
  replace B6 := B6.ext ew21
  replace B7 := B7.ext ew21
  replace B8 := B8.ext ew21
  replace B9 := B9.ext ew21
  have zw21 := alloc_lt hww21
  have hEw21 := eg hEw20 ew21
  have hFw21 := eg hFw20 ew21
  have b1_0_w21 := B1.cell (k := 0) rfl
  have b1_1_w21 := B1.cell (k := 1) rfl
  have b1_2_w21 := B1.cell (k := 2) rfl
  have b2_0_w21 := B2.cell (k := 0) rfl
  have b2_1_w21 := B2.cell (k := 1) rfl
  have b3_0_w21 := B3.cell (k := 0) rfl
  have b3_1_w21 := B3.cell (k := 1) rfl
  have lB1_w21 := B1.lt
  have lB2_w21 := B2.lt
  have lB3_w21 := B3.lt
  have lB4_w21 := B4.lt
  have lB5_w21 := B5.lt
  have lB6_w21 := B6.lt
  have lB7_w21 := B7.lt
  have lB8_w21 := B8.lt
  have lB9_w21 := B9.lt
  have lB10_w21 := B10.lt
  go_wp2_with fail
  clear hww21
  clear b1_0_w19 b1_1_w19 b1_2_w19 b2_0_w19 b2_1_w19 b3_0_w19 b3_1_w19 lB1_w19 lB2_w19 lB3_w19 lB4_w19 lB5_w19 lB6_w19 lB7_w19 lB8_w19 lB9_w19 lB1_w20 lB2_w20 lB3_w20 lB4_w20 lB5_w20 lB6_w20 lB7_w20 lB8_w20 lB9_w20
  have yw21 := Nat.le_of_eq zw21
  replace zw21 := Nat.le_of_eq zw21.symm
  refine (lEither T R 60 0 62 0 1 _ (hT.ext hFw21) (sm.okL (by decide)) (sm.okL (by decide)) (by decide)).mono ?_
  intro ee w22 gg
  obtain ⟨Z72, rfl, hZ72, oZ72, ew22⟩ := Gv.fe gg
  replace hZ28 := hZ28.ext ew22
  replace hZ34 := hZ34.ext ew22
  replace hZ40 := hZ40.ext ew22
  replace hZ46 := hZ46.ext ew22
  replace hZ52 := hZ52.ext ew22
  replace hZ58 := hZ58.ext ew22
  replace hZ65 := hZ65.ext ew22
  replace oZ28 := oZ28.ext ew22
  replace oZ34 := oZ34.ext ew22
  replace oZ40 := oZ40.ext ew22
  replace oZ46 := oZ46.ext ew22
  replace oZ52 := oZ52.ext ew22
  replace oZ58 := oZ58.ext ew22
  replace oZ65 := oZ65.ext ew22
  replace B1 := B1.ext ew22
  replace B2 := B2.ext ew22
  replace B3 := B3.ext ew22
  replace B4 := B4.ext ew22
  replace B5 := B5.ext ew22
  replace B6 := B6.ext ew22
  replace B7 := B7.ext ew22
  replace B8 := B8.ext ew22
  replace B9 := B9.ext ew22
  replace B10 := B10.ext ew22
  have hEw22 := eg hEw21 ew22
  have hFw22 := eg hFw21 ew22
  have zw22 := ew22.size
  replace oZ72 := oZ72.mono hEw21.size
  have lB1_w22 := B1.lt
  have lB2_w22 := B2.lt
  have lB3_w22 := B3.lt
  have lB4_w22 := B4.lt
  have lB5_w22 := B5.lt
  have lB6_w22 := B6.lt
  have lB7_w22 := B7.lt
  have lB8_w22 := B8.lt
  have lB9_w22 := B9.lt
  have lB10_w22 := B10.lt
  obtain ⟨w23, hww23⟩ : ∃ W, w22.alloc (.cells #[.bool Z72.N.b, .slice Z72.N.p Z72.N.n Z72.N.c, .bool Z72.D.b, .slice Z72.D.p Z72.D.n Z72.D.c] 40) = W := ⟨_, rfl⟩
  have ew23 : Ext w22 w23 := by rw [← hww23]; exact ea _ _
  have B11 : Cells w23 (w22.heap.size) 40 #[.bool Z72.N.b, .slice Z72.N.p Z72.N.n Z72.N.c, .bool Z72.D.b, .slice Z72.D.p Z72.D.n Z72.D.c] := by rw [← hww23]; exact Cells.newAt _ _ (by omega)
  replace hZ28 := hZ28.ext ew23
  replace hZ34 := hZ34.ext ew23
  replace hZ40 := hZ40.ext ew23
  replace hZ46 := hZ46.ext ew23
  replace hZ52 := hZ52.ext ew23
  replace hZ58 := hZ58.ext ew23
  replace hZ65 := hZ65.ext ew23
  replace hZ72 := hZ72.ext ew23
  replace oZ28 := oZ28.ext ew23
  replace oZ34 := oZ34.ext ew23
  replace oZ40 := oZ40.ext ew23
  replace oZ46 := oZ46.ext ew23
  replace oZ52 := oZ52.ext ew23
  replace oZ58 := oZ58.ext ew23
  replace oZ65 := oZ65.ext ew23
  replace oZ72 := oZ72.ext ew23
  replace B1 := B1.ext ew23
  replace B2 := B2.ext ew23
  replace B3 := B3.ext ew23
  replace B4 := B4.ext ew23
  replace B5 := B5.ext ew23
  replace B6 := B6.ext ew23
  replace B7 := B7.ext ew23
  replace B8 := B8.ext ew23
  replace B9 := B9.ext ew23
  replace B10 := B10.ext ew23
  have zw23 := alloc_lt hww23
  have hEw23 := eg hEw22 ew23
  have hFw23 := eg hFw22 ew23
  have b1_0_w23 := B1.cell (k := 0) rfl
  have b1_1_w23 := B1.cell (k := 1) rfl
  have b1_2_w23 := B1.cell (k := 2) rfl
  have b2_0_w23 := B2.cell (k := 0) rfl
  have b2_1_w23 := B2.cell (k := 1) rfl
  have b3_0_w23 := B3.cell (k := 0) rfl
  have b3_1_w23 := B3.cell (k := 1) rfl
  have lB1_w23 := B1.lt
  have lB2_w23 := B2.lt
  have lB3_w23 := B3.lt
  have lB4_w23 := B4.lt
  have lB5_w23 := B5.lt
  have lB6_w23 := B6.lt
  have lB7_w23 := B7.lt
  have lB8_w23 := B8.lt
  have lB9_w23 := B9.lt
  have lB10_w23 := B10.lt
  have lB11_w23 := B11.lt
  go_wp2_with fail
  clear hww23
  clear b1_0_w21 b1_1_w21 b1_2_w21 b2_0_w21 b2_1_w21 b3_0_w21 b3_1_w21 lB1_w21 lB2_w21 lB3_w21 lB4_w21 lB5_w21 lB6_w21 lB7_w21 lB8_w21 lB9_w21 lB10_w21 lB1_w22 lB2_w22 lB3_w22 lB4_w22 lB5_w22 lB6_w22 lB7_w22 lB8_w22 lB9_w22 lB10_w22
  have yw23 := Nat.le_of_eq zw23
  replace zw23 := Nat.le_of_eq zw23.symm
  refine (lLeft T R 60 0 62 0 1 _ (hT.ext hFw23) (sm.okL (by decide)) (sm.okL (by decide)) (by decide)).mono ?_
  intro ee w24 gg
  obtain ⟨Z79, rfl, hZ79, oZ79, ew24⟩ := Gv.fe gg
  replace hZ28 := hZ28.ext ew24
  replace hZ34 := hZ34.ext ew24
  replace hZ40 := hZ40.ext ew24
  replace hZ46 := hZ46.ext ew24
  replace hZ52 := hZ52.ext ew24
  replace hZ58 := hZ58.ext ew24
  replace hZ65 := hZ65.ext ew24
  replace hZ72 := hZ72.ext ew24
  replace oZ28 := oZ28.ext ew24
  replace oZ34 := oZ34.ext ew24
  replace oZ40 := oZ40.ext ew24
  replace oZ46 := oZ46.ext ew24
  replace oZ52 := oZ52.ext ew24
  replace oZ58 := oZ58.ext ew24
  replace oZ65 := oZ65.ext ew24
  replace oZ72 := oZ72.ext ew24
  replace B1 := B1.ext ew24
  replace B2 := B2.ext ew24
  replace B3 := B3.ext ew24
  replace B4 := B4.ext ew24
  replace B5 := B5.ext ew24
  replace B6 := B6.ext ew24
  replace B7 := B7.ext ew24
  replace B8 := B8.ext ew24
  replace B9 := B9.ext ew24
  replace B10 := B10.ext ew24
  replace B11 := B11.ext ew24
  have hEw24 := eg hEw23 ew24
  have hFw24 := eg hFw23 ew24
  have zw24 := ew24.size
  replace oZ79 := oZ79.mono hEw23.size
  have lB1_w24 := B1.lt
  have lB2_w24 := B2.lt
  have lB3_w24 := B3.lt
  have lB4_w24 := B4.lt
  have lB5_w24 := B5.lt
  have lB6_w24 := B6.lt
  have lB7_w24 := B7.lt
  have lB8_w24 := B8.lt
  have lB9_w24 := B9.lt
  have lB10_w24 := B10.lt
  have lB11_w24 := B11.lt
  obtain ⟨w25, hww25⟩ : ∃ W, w24.alloc (.cells #[.bool Z79.N.b, .slice Z79.N.p Z79.N.n Z79.N.c, .bool Z79.D.b, .slice Z79.D.p Z79.D.n Z79.D.c] 40) = W := ⟨_, rfl⟩
  have ew25 : Ext w24 w25 := by rw [← hww25]; exact ea _ _
  have B12 : Cells w25 (w24.heap.size) 40 #[.bool Z79.N.b, .slice Z79.N.p Z79.N.n Z79.N.c, .bool Z79.D.b, .slice Z79.D.p Z79.D.n Z79.D.c] := by rw [← hww25]; exact Cells.newAt _ _ (by omega)
  replace hZ28 := hZ28.ext ew25
  replace hZ34 := hZ34.ext ew25
  replace hZ40 := hZ40.ext ew25
  replace hZ46 := hZ46.ext ew25
  replace hZ52 := hZ52.ext ew25
  replace hZ58 := hZ58.ext ew25
  replace hZ65 := hZ65.ext ew25
  replace hZ72 := hZ72.ext ew25
  replace hZ79 := hZ79.ext ew25
  replace oZ28 := oZ28.ext ew25
  replace oZ34 := oZ34.ext ew25
  replace oZ40 := oZ40.ext ew25
  replace oZ46 := oZ46.ext ew25
  replace oZ52 := oZ52.ext ew25
  replace oZ58 := oZ58.ext ew25
  replace oZ65 := oZ65.ext ew25
  replace oZ72 := oZ72.ext ew25
  replace oZ79 := oZ79.ext ew25
  replace B1 := B1.ext ew25
  replace B2 := B2.ext ew25
  replace B3 := B3.ext ew25
  replace B4 := B4.ext ew25
  replace B5 := B5.ext ew25
  replace B6 := B6.ext ew25
  replace B7 := B7.ext ew25
  replace B8 := B8.ext ew25
  replace B9 := B9.ext ew25
  replace B10 := B10.ext ew25
  replace B11 := B11.ext ew25
  have zw25 := alloc_lt hww25
  have hEw25 := eg hEw24 ew25
  have hFw25 := eg hFw24 ew25
  have b4_0_w25 := B4.cell (k := 0) rfl
  have b4_1_w25 := B4.cell (k := 1) rfl
  have b4_2_w25 := B4.cell (k := 2) rfl
  have b4_3_w25 := B4.cell (k := 3) rfl
  have lB1_w25 := B1.lt
  have lB2_w25 := B2.lt
  have lB3_w25 := B3.lt
  have lB4_w25 := B4.lt
  have lB5_w25 := B5.lt
  have lB6_w25 := B6.lt
  have lB7_w25 := B7.lt
  have lB8_w25 := B8.lt
  have lB9_w25 := B9.lt
  have lB10_w25 := B10.lt
  have lB11_w25 := B11.lt
  have lB12_w25 := B12.lt
  go_upto_region 11 with (fail)
  clear hww25
  clear b1_0_w23 b1_1_w23 b1_2_w23 b2_0_w23 b2_1_w23 b3_0_w23 b3_1_w23 lB1_w23 lB2_w23 lB3_w23 lB4_w23 lB5_w23 lB6_w23 lB7_w23 lB8_w23 lB9_w23 lB10_w23 lB11_w23 lB1_w24 lB2_w24 lB3_w24 lB4_w24 lB5_w24 lB6_w24 lB7_w24 lB8_w24 lB9_w24 lB10_w24 lB11_w24
  have yw25 := Nat.le_of_eq zw25
  replace zw25 := Nat.le_of_eq zw25.symm
  refine wp_region_lit ?_
  iterate 2
    refine wpList_one (x := ?_) (by as_aux_lemma => kernel_rfl) (fun K hK => ?_) ?_
    rotate_left
    · go_simp
      repeat (first | (go_ints; try go_simp) | (simp only [↓IntWalk.iteOmega]; try go_simp))
      exact hK
    simp only [Act.put, List.setIfInBounds_toArray, List.set_cons_zero, List.set_cons_succ]
  refine wpList_tell (t := .v (.bool true)) (by kernel_rfl) (fun K hK => ?_) ?_
  · go_simp
    exact (nis Z28 1 2 _ _ (hZ28) (by decide) (by decide) (by decide) (eqv (by rw [sm.rt_b]; decide +kernel))).mono (tell hK)
  rintro _ w26 rfl - ew26
  simp only [Act.put, List.setIfInBounds_toArray, List.set_cons_zero, List.set_cons_succ]
  replace hZ28 := hZ28.ext ew26
  replace hZ34 := hZ34.ext ew26
  replace hZ40 := hZ40.ext ew26
  replace hZ46 := hZ46.ext ew26
  replace hZ52 := hZ52.ext ew26
  replace hZ58 := hZ58.ext ew26
  replace hZ65 := hZ65.ext ew26
  replace hZ72 := hZ72.ext ew26
  replace hZ79 := hZ79.ext ew26
  replace oZ28 := oZ28.ext ew26
  replace oZ34 := oZ34.ext ew26
  replace oZ40 := oZ40.ext ew26
  replace oZ46 := oZ46.ext ew26
  replace oZ52 := oZ52.ext ew26
  replace oZ58 := oZ58.ext ew26
  replace oZ65 := oZ65.ext ew26
  replace oZ72 := oZ72.ext ew26
  replace oZ79 := oZ79.ext ew26
  replace B1 := B1.ext ew26
  replace B2 := B2.ext ew26
  replace B3 := B3.ext ew26
  replace B4 := B4.ext ew26
  replace B5 := B5.ext ew26
  replace B6 := B6.ext ew26
  replace B7 := B7.ext ew26
  replace B8 := B8.ext ew26
  replace B9 := B9.ext ew26
  replace B10 := B10.ext ew26
  replace B11 := B11.ext ew26
  replace B12 := B12.ext ew26
  have hEw26 := eg hEw25 ew26
  have hFw26 := eg hFw25 ew26
  have zw26 := ew26.size
  clear b4_0_w25 b4_1_w25 b4_2_w25 b4_3_w25 lB1_w25 lB2_w25 lB3_w25 lB4_w25 lB5_w25 lB6_w25 lB7_w25 lB8_w25 lB9_w25 lB10_w25 lB11_w25 lB12_w25
  have b5_0_w26 := B5.cell (k := 0) rfl
  have b5_1_w26 := B5.cell (k := 1) rfl
  have b5_2_w26 := B5.cell (k := 2) rfl
  have b5_3_w26 := B5.cell (k := 3) rfl
  have lB1_w26 := B1.lt
  have lB2_w26 := B2.lt
  have lB3_w26 := B3.lt
  have lB4_w26 := B4.lt
  have lB5_w26 := B5.lt
  have lB6_w26 := B6.lt
  have lB7_w26 := B7.lt
  have lB8_w26 := B8.lt
  have lB9_w26 := B9.lt
  have lB10_w26 := B10.lt
  have lB11_w26 := B11.lt
  have lB12_w26 := B12.lt
  iterate 3
    refine wpList_one (x := ?_) (by as_aux_lemma => kernel_rfl) (fun K hK => ?_) ?_
    rotate_left
    · go_simp
      repeat (first | (go_ints; try go_simp) | (simp only [↓IntWalk.iteOmega]; try go_simp))
      exact hK
    simp only [Act.put, List.setIfInBounds_toArray, List.set_cons_zero, List.set_cons_succ]
  refine wpList_tell (t := .v (.bool true)) (by kernel_rfl) (fun K hK => ?_) ?_
  · go_simp
    exact (nis Z34 9 20 _ _ (hZ34) (by decide) (by decide) (by decide) (eqv (by rw [show lal T R 60 0 (2 : Int).toNat = _ from sm.al2]; decide +kernel))).mono (tell hK)
  rintro _ w27 rfl - ew27
  simp only [Act.put, List.setIfInBounds_toArray, List.set_cons_zero, List.set_cons_succ]
  replace hZ28 := hZ28.ext ew27
  replace hZ34 := hZ34.ext ew27
  replace hZ40 := hZ40.ext ew27
  replace hZ46 := hZ46.ext ew27
  replace hZ52 := hZ52.ext ew27
  replace hZ58 := hZ58.ext ew27
  replace hZ65 := hZ65.ext ew27
  replace hZ72 := hZ72.ext ew27
  replace hZ79 := hZ79.ext ew27
  replace oZ28 := oZ28.ext ew27
  replace oZ34 := oZ34.ext ew27
  replace oZ40 := oZ40.ext ew27
  replace oZ46 := oZ46.ext ew27
  replace oZ52 := oZ52.ext ew27
  replace oZ58 := oZ58.ext ew27
  replace oZ65 := oZ65.ext ew27
  replace oZ72 := oZ72.ext ew27
  replace oZ79 := oZ79.ext ew27
  replace B1 := B1.ext ew27
  replace B2 := B2.ext ew27
  replace B3 := B3.ext ew27
  replace B4 := B4.ext ew27
  replace B5 := B5.ext ew27
  replace B6 := B6.ext ew27
  replace B7 := B7.ext ew27
  replace B8 := B8.ext ew27
  replace B9 := B9.ext ew27
  replace B10 := B10.ext ew27
  replace B11 := B11.ext ew27
  replace B12 := B12.ext ew27
  have hEw27 := eg hEw26 ew27
  have hFw27 := eg hFw26 ew27
  have zw27 := ew27.size
  clear b5_0_w26 b5_1_w26 b5_2_w26 b5_3_w26 lB1_w26 lB2_w26 lB3_w26 lB4_w26 lB5_w26 lB6_w26 lB7_w26 lB8_w26 lB9_w26 lB10_w26 lB11_w26 lB12_w26
  have b6_0_w27 := B6.cell (k := 0) rfl
  have b6_1_w27 := B6.cell (k := 1) rfl
  have b6_2_w27 := B6.cell (k := 2) rfl
  have b6_3_w27 := B6.cell (k := 3) rfl
  have lB1_w27 := B1.lt
  have lB2_w27 := B2.lt
  have lB3_w27 := B3.lt
  have lB4_w27 := B4.lt
  have lB5_w27 := B5.lt
  have lB6_w27 := B6.lt
  have lB7_w27 := B7.lt
  have lB8_w27 := B8.lt
  have lB9_w27 := B9.lt
  have lB10_w27 := B10.lt
  have lB11_w27 := B11.lt
  have lB12_w27 := B12.lt
  iterate 4
    refine wpList_one (x := ?_) (by as_aux_lemma => kernel_rfl) (fun K hK => ?_) ?_
    rotate_left
    · go_simp
      repeat (first | (go_ints; try go_simp) | (simp only [↓IntWalk.iteOmega]; try go_simp))
      exact hK
    simp only [Act.put, List.setIfInBounds_toArray, List.set_cons_zero, List.set_cons_succ]
  refine wpList_tell (t := .v (.bool true)) (by kernel_rfl) (fun K hK => ?_) ?_
  · go_simp
    exact (nis Z40 0 1 _ _ (hZ40) (by decide) (by decide) (by decide) (eqv (by rw [show lal T R 60 0 (3 : Int).toNat = _ from sm.al3]; decide +kernel))).mono (tell hK)
  rintro _ w28 rfl - ew28
  simp only [Act.put, List.setIfInBounds_toArray, List.set_cons_zero, List.set_cons_succ]
  replace hZ28 := hZ28.ext ew28
  replace hZ34 := hZ34.ext ew28
  replace hZ40 := hZ40.ext ew28
  replace hZ46 := hZ46.ext ew28
  replace hZ52 := hZ52.ext ew28
  replace hZ58 := hZ58.ext ew28
  replace hZ65 := hZ65.ext ew28
  replace hZ72 := hZ72.ext ew28
  replace hZ79 := hZ79.ext ew28
  replace oZ28 := oZ28.ext ew28
  replace oZ34 := oZ34.ext ew28
  replace oZ40 := oZ40.ext ew28
  replace oZ46 := oZ46.ext ew28
  replace oZ52 := oZ52.ext ew28
  replace oZ58 := oZ58.ext ew28
  replace oZ65 := oZ65.ext ew28
  replace oZ72 := oZ72.ext ew28
  replace oZ79 := oZ79.ext ew28
  replace B1 := B1.ext ew28
  replace B2 := B2.ext ew28
  replace B3 := B3.ext ew28
  replace B4 := B4.ext ew28
  replace B5 := B5.ext ew28
  replace B6 := B6.ext ew28
  replace B7 := B7.ext ew28
  replace B8 := B8.ext ew28
  replace B9 := B9.ext ew28
  replace B10 := B10.ext ew28
  replace B11 := B11.ext ew28
  replace B12 := B12.ext ew28
  have hEw28 := eg hEw27 ew28
  have hFw28 := eg hFw27 ew28
  have zw28 := ew28.size
  clear b6_0_w27 b6_1_w27 b6_2_w27 b6_3_w27 lB1_w27 lB2_w27 lB3_w27 lB4_w27 lB5_w27 lB6_w27 lB7_w27 lB8_w27 lB9_w27 lB10_w27 lB11_w27 lB12_w27
  have b7_0_w28 := B7.cell (k := 0) rfl
  have b7_1_w28 := B7.cell (k := 1) rfl
  have b7_2_w28 := B7.cell (k := 2) rfl
  have b7_3_w28 := B7.cell (k := 3) rfl
  have lB1_w28 := B1.lt
  have lB2_w28 := B2.lt
  have lB3_w28 := B3.lt
  have lB4_w28 := B4.lt
  have lB5_w28 := B5.lt
  have lB6_w28 := B6.lt
  have lB7_w28 := B7.lt
  have lB8_w28 := B8.lt
  have lB9_w28 := B9.lt
  have lB10_w28 := B10.lt
  have lB11_w28 := B11.lt
  have lB12_w28 := B12.lt
  iterate 4
    refine wpList_one (x := ?_) (by as_aux_lemma => kernel_rfl) (fun K hK => ?_) ?_
    rotate_left
    · go_simp
      repeat (first | (go_ints; try go_simp) | (simp only [↓IntWalk.iteOmega]; try go_simp))
      exact hK
    simp only [Act.put, List.setIfInBounds_toArray, List.set_cons_zero, List.set_cons_succ]
  refine wpList_tell (t := .v (.bool true)) (by kernel_rfl) (fun K hK => ?_) ?_
  · go_simp
    exact (nis Z46 9 20 _ _ (hZ46) (by decide) (by decide) (by decide) (eqv (by rw [show ldq T R 60 0 (1 : Int).toNat = _ from sm.dq1]; decide +kernel))).mono (tell hK)
  rintro _ w29 rfl - ew29
  simp only [Act.put, List.setIfInBounds_toArray, List.set_cons_zero, List.set_cons_succ]
  replace hZ28 := hZ28.ext ew29
  replace hZ34 := hZ34.ext ew29
  replace hZ40 := hZ40.ext ew29
  replace hZ46 := hZ46.ext ew29
  replace hZ52 := hZ52.ext ew29
  replace hZ58 := hZ58.ext ew29
  replace hZ65 := hZ65.ext ew29
  replace hZ72 := hZ72.ext ew29
  replace hZ79 := hZ79.ext ew29
  replace oZ28 := oZ28.ext ew29
  replace oZ34 := oZ34.ext ew29
  replace oZ40 := oZ40.ext ew29
  replace oZ46 := oZ46.ext ew29
  replace oZ52 := oZ52.ext ew29
  replace oZ58 := oZ58.ext ew29
  replace oZ65 := oZ65.ext ew29
  replace oZ72 := oZ72.ext ew29
  replace oZ79 := oZ79.ext ew29
  replace B1 := B1.ext ew29
  replace B2 := B2.ext ew29
  replace B3 := B3.ext ew29
  replace B4 := B4.ext ew29
  replace B5 := B5.ext ew29
  replace B6 := B6.ext ew29
  replace B7 := B7.ext ew29
  replace B8 := B8.ext ew29
  replace B9 := B9.ext ew29
  replace B10 := B10.ext ew29
  replace B11 := B11.ext ew29
  replace B12 := B12.ext ew29
  have hEw29 := eg hEw28 ew29
  have hFw29 := eg hFw28 ew29
  have zw29 := ew29.size
  clear b7_0_w28 b7_1_w28 b7_2_w28 b7_3_w28 lB1_w28 lB2_w28 lB3_w28 lB4_w28 lB5_w28 lB6_w28 lB7_w28 lB8_w28 lB9_w28 lB10_w28 lB11_w28 lB12_w28
  have b8_0_w29 := B8.cell (k := 0) rfl
  have b8_1_w29 := B8.cell (k := 1) rfl
  have b8_2_w29 := B8.cell (k := 2) rfl
  have b8_3_w29 := B8.cell (k := 3) rfl
  have lB1_w29 := B1.lt
  have lB2_w29 := B2.lt
  have lB3_w29 := B3.lt
  have lB4_w29 := B4.lt
  have lB5_w29 := B5.lt
  have lB6_w29 := B6.lt
  have lB7_w29 := B7.lt
  have lB8_w29 := B8.lt
  have lB9_w29 := B9.lt
  have lB10_w29 := B10.lt
  have lB11_w29 := B11.lt
  have lB12_w29 := B12.lt
  iterate 4
    refine wpList_one (x := ?_) (by as_aux_lemma => kernel_rfl) (fun K hK => ?_) ?_
    rotate_left
    · go_simp
      repeat (first | (go_ints; try go_simp) | (simp only [↓IntWalk.iteOmega]; try go_simp))
      exact hK
    simp only [Act.put, List.setIfInBounds_toArray, List.set_cons_zero, List.set_cons_succ]
  refine wpList_tell (t := .v (.bool true)) (by kernel_rfl) (fun K hK => ?_) ?_
  · go_simp
    exact (nis Z52 27 20 _ _ (hZ52) (by decide) (by decide) (by decide) (eqv (by rw [sm.ex]; decide +kernel))).mono (tell hK)
  rintro _ w30 rfl - ew30
  simp only [Act.put, List.setIfInBounds_toArray, List.set_cons_zero, List.set_cons_succ]
  replace hZ28 := hZ28.ext ew30
  replace hZ34 := hZ34.ext ew30
  replace hZ40 := hZ40.ext ew30
  replace hZ46 := hZ46.ext ew30
  replace hZ52 := hZ52.ext ew30
  replace hZ58 := hZ58.ext ew30
  replace hZ65 := hZ65.ext ew30
  replace hZ72 := hZ72.ext ew30
  replace hZ79 := hZ79.ext ew30
  replace oZ28 := oZ28.ext ew30
  replace oZ34 := oZ34.ext ew30
  replace oZ40 := oZ40.ext ew30
  replace oZ46 := oZ46.ext ew30
  replace oZ52 := oZ52.ext ew30
  replace oZ58 := oZ58.ext ew30
  replace oZ65 := oZ65.ext ew30
  replace oZ72 := oZ72.ext ew30
  replace oZ79 := oZ79.ext ew30
  replace B1 := B1.ext ew30
  replace B2 := B2.ext ew30
  replace B3 := B3.ext ew30
  replace B4 := B4.ext ew30
  replace B5 := B5.ext ew30
  replace B6 := B6.ext ew30
  replace B7 := B7.ext ew30
  replace B8 := B8.ext ew30
  replace B9 := B9.ext ew30
  replace B10 := B10.ext ew30
  replace B11 := B11.ext ew30
  replace B12 := B12.ext ew30
  have hEw30 := eg hEw29 ew30
  have hFw30 := eg hFw29 ew30
  have zw30 := ew30.size
  clear b8_0_w29 b8_1_w29 b8_2_w29 b8_3_w29 lB1_w29 lB2_w29 lB3_w29 lB4_w29 lB5_w29 lB6_w29 lB7_w29 lB8_w29 lB9_w29 lB10_w29 lB11_w29 lB12_w29
  have b9_0_w30 := B9.cell (k := 0) rfl
  have b9_1_w30 := B9.cell (k := 1) rfl
  have b9_2_w30 := B9.cell (k := 2) rfl
  have b9_3_w30 := B9.cell (k := 3) rfl
  have lB1_w30 := B1.lt
  have lB2_w30 := B2.lt
  have lB3_w30 := B3.lt
  have lB4_w30 := B4.lt
  have lB5_w30 := B5.lt
  have lB6_w30 := B6.lt
  have lB7_w30 := B7.lt
  have lB8_w30 := B8.lt
  have lB9_w30 := B9.lt
  have lB10_w30 := B10.lt
  have lB11_w30 := B11.lt
  have lB12_w30 := B12.lt
  iterate 4
    refine wpList_one (x := ?_) (by as_aux_lemma => kernel_rfl) (fun K hK => ?_) ?_
    rotate_left
    · go_simp
      repeat (first | (go_ints; try go_simp) | (simp only [↓IntWalk.iteOmega]; try go_simp))
      exact hK
    simp only [Act.put, List.setIfInBounds_toArray, List.set_cons_zero, List.set_cons_succ]
  refine wpList_tell (t := .v (.bool true)) (by kernel_rfl) (fun K hK => ?_) ?_
  · go_simp
    exact (nis Z58 1 4 _ _ (hZ58) (by decide) (by decide) (by decide) (eqv (by rw [sm.rt_e]; decide +kernel))).mono (tell hK)
  rintro _ w31 rfl - ew31
  simp only [Act.put, List.setIfInBounds_toArray, List.set_cons_zero, List.set_cons_succ]
  replace hZ28 := hZ28.ext ew31
  replace hZ34 := hZ34.ext ew31
  replace hZ40 := hZ40.ext ew31
  replace hZ46 := hZ46.ext ew31
  replace hZ52 := hZ52.ext ew31
  replace hZ58 := hZ58.ext ew31
  replace hZ65 := hZ65.ext ew31
  replace hZ72 := hZ72.ext ew31
  replace hZ79 := hZ79.ext ew31
  replace oZ28 := oZ28.ext ew31
  replace oZ34 := oZ34.ext ew31
  replace oZ40 := oZ40.ext ew31
  replace oZ46 := oZ46.ext ew31
  replace oZ52 := oZ52.ext ew31
  replace oZ58 := oZ58.ext ew31
  replace oZ65 := oZ65.ext ew31
  replace oZ72 := oZ72.ext ew31
  replace oZ79 := oZ79.ext ew31
  replace B1 := B1.ext ew31
  replace B2 := B2.ext ew31
  replace B3 := B3.ext ew31
  replace B4 := B4.ext ew31
  replace B5 := B5.ext ew31
  replace B6 := B6.ext ew31
  replace B7 := B7.ext ew31
  replace B8 := B8.ext ew31
  replace B9 := B9.ext ew31
  replace B10 := B10.ext ew31
  replace B11 := B11.ext ew31
  replace B12 := B12.ext ew31
  have hEw31 := eg hEw30 ew31
  have hFw31 := eg hFw30 ew31
  have zw31 := ew31.size
  clear b9_0_w30 b9_1_w30 b9_2_w30 b9_3_w30 lB1_w30 lB2_w30 lB3_w30 lB4_w30 lB5_w30 lB6_w30 lB7_w30 lB8_w30 lB9_w30 lB10_w30 lB11_w30 lB12_w30
  have b10_0_w31 := B10.cell (k := 0) rfl
  have b10_1_w31 := B10.cell (k := 1) rfl
  have b10_2_w31 := B10.cell (k := 2) rfl
  have b10_3_w31 := B10.cell (k := 3) rfl
  have lB1_w31 := B1.lt
  have lB2_w31 := B2.lt
  have lB3_w31 := B3.lt
  have lB4_w31 := B4.lt
  have lB5_w31 := B5.lt
  have lB6_w31 := B6.lt
  have lB7_w31 := B7.lt
  have lB8_w31 := B8.lt
  have lB9_w31 := B9.lt
  have lB10_w31 := B10.lt
  have lB11_w31 := B11.lt
  have lB12_w31 := B12.lt
  iterate 4
    refine wpList_one (x := ?_) (by as_aux_lemma => kernel_rfl) (fun K hK => ?_) ?_
    rotate_left
    · go_simp
      repeat (first | (go_ints; try go_simp) | (simp only [↓IntWalk.iteOmega]; try go_simp))
      exact hK
    simp only [Act.put, List.setIfInBounds_toArray, List.set_cons_zero, List.set_cons_succ]
  refine wpList_tell (t := .v (.bool true)) (by kernel_rfl) (fun K hK => ?_) ?_
  · go_simp
    exact (nis Z65 27 40 _ _ (hZ65) (by decide) (by decide) (by decide) (eqv (by rw [show lal T R 60 0 (1 : Int).toNat = _ from sm.al1, show lal T R 62 0 (1 : Int).toNat = _ from sm.bl1]; decide +kernel))).mono (tell hK)
  rintro _ w32 rfl - ew32
  simp only [Act.put, List.setIfInBounds_toArray, List.set_cons_zero, List.set_cons_succ]
  replace hZ28 := hZ28.ext ew32
  replace hZ34 := hZ34.ext ew32
  replace hZ40 := hZ40.ext ew32
  replace hZ46 := hZ46.ext ew32
  replace hZ52 := hZ52.ext ew32
  replace hZ58 := hZ58.ext ew32
  replace hZ65 := hZ65.ext ew32
  replace hZ72 := hZ72.ext ew32
  replace hZ79 := hZ79.ext ew32
  replace oZ28 := oZ28.ext ew32
  replace oZ34 := oZ34.ext ew32
  replace oZ40 := oZ40.ext ew32
  replace oZ46 := oZ46.ext ew32
  replace oZ52 := oZ52.ext ew32
  replace oZ58 := oZ58.ext ew32
  replace oZ65 := oZ65.ext ew32
  replace oZ72 := oZ72.ext ew32
  replace oZ79 := oZ79.ext ew32
  replace B1 := B1.ext ew32
  replace B2 := B2.ext ew32
  replace B3 := B3.ext ew32
  replace B4 := B4.ext ew32
  replace B5 := B5.ext ew32
  replace B6 := B6.ext ew32
  replace B7 := B7.ext ew32
  replace B8 := B8.ext ew32
  replace B9 := B9.ext ew32
  replace B10 := B10.ext ew32
  replace B11 := B11.ext ew32
  replace B12 := B12.ext ew32
  have hEw32 := eg hEw31 ew32
  have hFw32 := eg hFw31 ew32
  have zw32 := ew32.size
  clear b10_0_w31 b10_1_w31 b10_2_w31 b10_3_w31 lB1_w31 lB2_w31 lB3_w31 lB4_w31 lB5_w31 lB6_w31 lB7_w31 lB8_w31 lB9_w31 lB10_w31 lB11_w31 lB12_w31
  have b11_0_w32 := B11.cell (k := 0) rfl
  have b11_1_w32 := B11.cell (k := 1) rfl
  have b11_2_w32 := B11.cell (k := 2) rfl
  have b11_3_w32 := B11.cell (k := 3) rfl
  have lB1_w32 := B1.lt
  have lB2_w32 := B2.lt
  have lB3_w32 := B3.lt
  have lB4_w32 := B4.lt
  have lB5_w32 := B5.lt
  have lB6_w32 := B6.lt
  have lB7_w32 := B7.lt
  have lB8_w32 := B8.lt
  have lB9_w32 := B9.lt
  have lB10_w32 := B10.lt
  have lB11_w32 := B11.lt
  have lB12_w32 := B12.lt
  iterate 4
    refine wpList_one (x := ?_) (by as_aux_lemma => kernel_rfl) (fun K hK => ?_) ?_
    rotate_left
    · go_simp
      repeat (first | (go_ints; try go_simp) | (simp only [↓IntWalk.iteOmega]; try go_simp))
      exact hK
    simp only [Act.put, List.setIfInBounds_toArray, List.set_cons_zero, List.set_cons_succ]
  refine wpList_tell (t := .v (.bool true)) (by kernel_rfl) (fun K hK => ?_) ?_
  · go_simp
    exact (nis Z72 39 40 _ _ (hZ72) (by decide) (by decide) (by decide) (eqv (by rw [show lal T R 60 0 (1 : Int).toNat = _ from sm.al1, show lal T R 62 0 (1 : Int).toNat = _ from sm.bl1]; unfold eiQ; decide +kernel))).mono (tell hK)
  rintro _ w33 rfl - ew33
  simp only [Act.put, List.setIfInBounds_toArray, List.set_cons_zero, List.set_cons_succ]
  replace hZ28 := hZ28.ext ew33
  replace hZ34 := hZ34.ext ew33
  replace hZ40 := hZ40.ext ew33
  replace hZ46 := hZ46.ext ew33
  replace hZ52 := hZ52.ext ew33
  replace hZ58 := hZ58.ext ew33
  replace hZ65 := hZ65.ext ew33
  replace hZ72 := hZ72.ext ew33
  replace hZ79 := hZ79.ext ew33
  replace oZ28 := oZ28.ext ew33
  replace oZ34 := oZ34.ext ew33
  replace oZ40 := oZ40.ext ew33
  replace oZ46 := oZ46.ext ew33
  replace oZ52 := oZ52.ext ew33
  replace oZ58 := oZ58.ext ew33
  replace oZ65 := oZ65.ext ew33
  replace oZ72 := oZ72.ext ew33
  replace oZ79 := oZ79.ext ew33
  replace B1 := B1.ext ew33
  replace B2 := B2.ext ew33
  replace B3 := B3.ext ew33
  replace B4 := B4.ext ew33
  replace B5 := B5.ext ew33
  replace B6 := B6.ext ew33
  replace B7 := B7.ext ew33
  replace B8 := B8.ext ew33
  replace B9 := B9.ext ew33
  replace B10 := B10.ext ew33
  replace B11 := B11.ext ew33
  replace B12 := B12.ext ew33
  have hEw33 := eg hEw32 ew33
  have hFw33 := eg hFw32 ew33
  have zw33 := ew33.size
  clear b11_0_w32 b11_1_w32 b11_2_w32 b11_3_w32 lB1_w32 lB2_w32 lB3_w32 lB4_w32 lB5_w32 lB6_w32 lB7_w32 lB8_w32 lB9_w32 lB10_w32 lB11_w32 lB12_w32
  have b12_0_w33 := B12.cell (k := 0) rfl
  have b12_1_w33 := B12.cell (k := 1) rfl
  have b12_2_w33 := B12.cell (k := 2) rfl
  have b12_3_w33 := B12.cell (k := 3) rfl
  have lB1_w33 := B1.lt
  have lB2_w33 := B2.lt
  have lB3_w33 := B3.lt
  have lB4_w33 := B4.lt
  have lB5_w33 := B5.lt
  have lB6_w33 := B6.lt
  have lB7_w33 := B7.lt
  have lB8_w33 := B8.lt
  have lB9_w33 := B9.lt
  have lB10_w33 := B10.lt
  have lB11_w33 := B11.lt
  have lB12_w33 := B12.lt
  iterate 4
    refine wpList_one (x := ?_) (by as_aux_lemma => kernel_rfl) (fun K hK => ?_) ?_
    rotate_left
    · go_simp
      repeat (first | (go_ints; try go_simp) | (simp only [↓IntWalk.iteOmega]; try go_simp))
      exact hK
    simp only [Act.put, List.setIfInBounds_toArray, List.set_cons_zero, List.set_cons_succ]
  refine wpList_tell (t := .v (.bool true)) (by kernel_rfl) (fun K hK => ?_) ?_
  · go_simp
    exact (nis Z79 3 40 _ _ (hZ79) (by decide) (by decide) (by decide) (eqv (by rw [show lal T R 60 0 (1 : Int).toNat = _ from sm.al1, show lal T R 62 0 (1 : Int).toNat = _ from sm.bl1]; unfold leQ; decide +kernel))).mono (tell hK)
  rintro _ w34 rfl - ew34
  simp only [Act.put, List.setIfInBounds_toArray, List.set_cons_zero, List.set_cons_succ]
  replace hZ28 := hZ28.ext ew34
  replace hZ34 := hZ34.ext ew34
  replace hZ40 := hZ40.ext ew34
  replace hZ46 := hZ46.ext ew34
  replace hZ52 := hZ52.ext ew34
  replace hZ58 := hZ58.ext ew34
  replace hZ65 := hZ65.ext ew34
  replace hZ72 := hZ72.ext ew34
  replace hZ79 := hZ79.ext ew34
  replace oZ28 := oZ28.ext ew34
  replace oZ34 := oZ34.ext ew34
  replace oZ40 := oZ40.ext ew34
  replace oZ46 := oZ46.ext ew34
  replace oZ52 := oZ52.ext ew34
  replace oZ58 := oZ58.ext ew34
  replace oZ65 := oZ65.ext ew34
  replace oZ72 := oZ72.ext ew34
  replace oZ79 := oZ79.ext ew34
  replace B1 := B1.ext ew34
  replace B2 := B2.ext ew34
  replace B3 := B3.ext ew34
  replace B4 := B4.ext ew34
  replace B5 := B5.ext ew34
  replace B6 := B6.ext ew34
  replace B7 := B7.ext ew34
  replace B8 := B8.ext ew34
  replace B9 := B9.ext ew34
  replace B10 := B10.ext ew34
  replace B11 := B11.ext ew34
  replace B12 := B12.ext ew34
  have hEw34 := eg hEw33 ew34
  have hFw34 := eg hFw33 ew34
  have zw34 := ew34.size
  clear b12_0_w33 b12_1_w33 b12_2_w33 b12_3_w33 lB1_w33 lB2_w33 lB3_w33 lB4_w33 lB5_w33 lB6_w33 lB7_w33 lB8_w33 lB9_w33 lB10_w33 lB11_w33 lB12_w33
  have lB1_w34 := B1.lt
  have lB2_w34 := B2.lt
  have lB3_w34 := B3.lt
  have lB4_w34 := B4.lt
  have lB5_w34 := B5.lt
  have lB6_w34 := B6.lt
  have lB7_w34 := B7.lt
  have lB8_w34 := B8.lt
  have lB9_w34 := B9.lt
  have lB10_w34 := B10.lt
  have lB11_w34 := B11.lt
  have lB12_w34 := B12.lt
  iterate 2
    refine wpList_one (x := ?_) (by as_aux_lemma => kernel_rfl) (fun K hK => ?_) ?_
    rotate_left
    · go_simp
      repeat (first | (go_ints; try go_simp) | (simp only [↓IntWalk.iteOmega]; try go_simp))
      exact hK
    simp only [Act.put, List.setIfInBounds_toArray, List.set_cons_zero, List.set_cons_succ]
  go_wp2_with fail
  refine bodyPost_ret (v := .bool true) (by simp [results, Tryz.results9, go_sem]) rfl ?_
  exact Gv.of_v hEw34
end Go.Proofs.YtndgaecfeaedeaaGreat
