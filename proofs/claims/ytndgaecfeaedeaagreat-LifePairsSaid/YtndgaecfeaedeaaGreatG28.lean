/- The walk of LifePairs. -/
import Derived.Test.YtndgaecfeaedeaaGreatG11
import Derived.Test.YtndgaecfeaedeaaGreatG27
namespace Go.Proofs.YtndgaecfeaedeaaGreat
set_option linter.unusedSimpArgs false
set_option linter.unusedVariables false
open Go.RowKit Lex Mth
attribute [local go_sem] run_indexAt_at add_zero_map Oper.semAt_some at_zero at_add at_mk1 at_mk2 at_mk3
set_option linter.unusedSimpArgs false
set_option linter.unusedVariables false

/-- What the law on two lives reckons with, and that all of it is short enough. -/
structure PP (x y : Rat) : Prop where
  ps : PS x y
  my : Sz (y * x)
  ly : Sz (leQ y x)
  ey : Sz (eiQ y x)
  s1 : Sz (leQ y x + leQ x y)
  s2 : Sz (x * y + (leQ y x + leQ x y))
  s3 : Sz (1 - eiQ x y)
  s4 : Sz (x * y + leQ y x)
  s5 : Sz (x * y + leQ x y)
  c1 : 0 ≤ x * y ∧ x * y ≤ 1
  c2 : 0 ≤ leQ y x ∧ leQ y x ≤ 1
  c3 : 0 ≤ leQ x y ∧ leQ x y ≤ 1
  c4 : 0 ≤ eiQ x y ∧ eiQ x y ≤ 1
theorem Sm.szE {q : Rat} {D m : Nat} (h : Sm q D m) (hm : m < 65536) (hD : 0 < D) (hs : siz D ≤ 224) : Sz q := h.sz hD (by have : siz m ≤ 1 := siz_one.2 hm; omega)
theorem Sm.in1 {q : Rat} {D : Nat} (h : Sm q D 1) : 0 ≤ q ∧ q ≤ 1 := ⟨h.nonneg, by have := h.le; rwa [natCast_one] at this⟩
theorem ei_sym (x y : Rat) : eiQ x y = eiQ y x := by unfold eiQ; grind
theorem ei_parts (x y : Rat) : eiQ x y = x * y + (leQ y x + leQ x y) := by unfold eiQ leQ; grind
theorem ei_none (x y : Rat) : 1 - eiQ x y = (1 - x) * (1 - y) := by unfold eiQ; grind
theorem one_x (x y : Rat) : x = x * y + leQ y x := by unfold leQ; grind
theorem one_y (x y : Rat) : y = x * y + leQ x y := by unfold leQ; grind
theorem PP.of {x y : Rat} {D E : Nat} (hD : 0 < D) (hE : 0 < E) (sD : siz D ≤ 112) (sE : siz E ≤ 112) (hx : Sm x D 1) (hy : Sm y E 1) : PP x y := by
  have nx := hx.not (by omega)
  have ny := hy.not (by omega)
  have hDE : 0 < D * E := Nat.mul_pos hD hE
  have sDE : siz (D * E) ≤ 224 := by have := siz_mul D E; omega
  have m : Sm (x * y) (D * E) 1 := hx.mul hy
  have l : Sm (leQ x y) (D * E) 1 := nx.mul hy
  have l2 : Sm (leQ y x) (D * E) 1 := Nat.mul_comm E D ▸ ny.mul hx
  have nn : Sm ((1 - x) * (1 - y)) (D * E) 1 := nx.mul ny
  have ei : Sm (eiQ x y) (D * E) 1 := nn.not (by omega)
  exact ⟨PS.of hD hE sD sE hx hy, by rw [Rat.mul_comm]; exact m.szD hDE sDE, l2.szD hDE sDE, by rw [ei_sym]; exact ei.szD hDE sDE, (l2.add (by omega) l).szE (by decide) hDE sDE, by rw [← ei_parts]; exact ei.szD hDE sDE, by rw [ei_none]; exact nn.szD hDE sDE, by rw [← one_x]; exact hx.szD hD (by omega), by rw [← one_y]; exact hy.szD hE (by omega), m.in1, l2.in1, l.in1, ei.in1⟩
theorem pal_pp {w : World} {T : Tb} {R : Nat → Nat → Rat} (hT : TQ w T R) {e y e2 y2 : Int} (ok : okL T e y = true) (ok2 : okL T e2 y2 = true) (n : Nat) : PP (lal T R e y n) (lal T R e2 y2 n) := by
  obtain ⟨D, h1, h2, h3⟩ := pal_sz hT ok n
  obtain ⟨E, k1, k2, k3⟩ := pal_sz hT ok2 n
  exact PP.of h1 k1 h2 k2 h3 k3

theorem pairs_cases (T : Tb) (e y e2 y2 n : Int) : okU T e y = false ∨ (okU T e y = true ∧ okL T e2 y2 = false) ∨ (okU T e y = true ∧ okL T e2 y2 = true ∧ n < 0) ∨ (okU T e y = true ∧ okL T e2 y2 = true ∧ 0 ≤ n) := by
  cases okU T e y
  · exact .inl rfl
  · cases okL T e2 y2
    · exact .inr (.inl ⟨rfl, rfl⟩)
    · rcases Int.lt_or_le n 0 with h | h
      · exact .inr (.inr (.inl ⟨rfl, rfl, h⟩))
      · exact .inr (.inr (.inr ⟨rfl, rfl, h⟩))

set_option maxRecDepth 100000 in
set_option maxHeartbeats 8000000 in
theorem nPairs (T : Tb) (e y : Int) (e2 y2 : Int) (n : Int) (w : World) (hT : TW w T) (ey : -9223372036854775808 ≤ e ∧ e ≤ 9223372036854775807 ∧ -9223372036854775808 ≤ y ∧ y ≤ 9223372036854775807) (ey2 : -9223372036854775808 ≤ e2 ∧ e2 ≤ 9223372036854775807 ∧ -9223372036854775808 ≤ y2 ∧ y2 ≤ 9223372036854775807) :
    Calls Tryz.prog 6 #[.agg #[.int .i64 T.first, .int .i64 T.sel, .slice T.P T.N T.C], .agg #[.int .i64 e, .int .i64 y], .agg #[.int .i64 e2, .int .i64 y2], .int .i64 n] w (Gv (.v (.bool true)) w) := by
  obtain ⟨w1, hww1⟩ : ∃ W, w.alloc (.cells #[.int .i64 T.first, .int .i64 T.sel, .slice T.P T.N T.C] 24) = W := ⟨_, rfl⟩
  have ew1 : Ext w w1 := by rw [← hww1]; exact ea _ _
  have B1 : Cells w1 (w.heap.size) 24 #[.int .i64 T.first, .int .i64 T.sel, .slice T.P T.N T.C] := by rw [← hww1]; exact Cells.newAt _ _ (by omega)
  have zw1 := alloc_lt hww1
  obtain ⟨w2, hww2⟩ : ∃ W, w1.alloc (.cells #[.int .i64 e, .int .i64 y] 26) = W := ⟨_, rfl⟩
  have ew2 : Ext w1 w2 := by rw [← hww2]; exact ea _ _
  have B2 : Cells w2 (w.heap.size + 1) 26 #[.int .i64 e, .int .i64 y] := by rw [← hww2]; exact Cells.newAt _ _ (by omega)
  have zw2 := alloc_lt hww2
  obtain ⟨w3, hww3⟩ : ∃ W, w2.alloc (.cells #[.int .i64 e2, .int .i64 y2] 26) = W := ⟨_, rfl⟩
  have ew3 : Ext w2 w3 := by rw [← hww3]; exact ea _ _
  have B3 : Cells w3 (w.heap.size + 1 + 1) 26 #[.int .i64 e2, .int .i64 y2] := by rw [← hww3]; exact Cells.newAt _ _ (by omega)
  have zw3 := alloc_lt hww3
  have xw_w3 := eg (eg ew1 ew2) ew3
  go_enter Tryz.func6, Tryz.ntmps6
  go_wp2_with fail
  clear hww1 hww2 hww3
  have yw1 := Nat.le_of_eq zw1
  replace zw1 := Nat.le_of_eq zw1.symm
  have yw2 := Nat.le_of_eq zw2
  replace zw2 := Nat.le_of_eq zw2.symm
  have yw3 := Nat.le_of_eq zw3
  replace zw3 := Nat.le_of_eq zw3.symm
  refine (nawake  _).mono ?_
  intro ee w4 gg
  obtain ⟨rfl, ew4⟩ := Gv.v gg
  have zw4 := ew4.size
  rcases pairs_cases T e y e2 y2 n with hu | ⟨hu, hr⟩ | ⟨hu, hr, hn⟩ | ⟨hu, hr, hn⟩
  · skip
    have xw1_w4 := eg (eg ew2 ew3) ew4
    replace B1 := B1.ext xw1_w4
    have lb1_w4 := B1.lt
    have b1_0_w4 := B1.cell (k := 0) rfl
    have b1_1_w4 := B1.cell (k := 1) rfl
    have b1_2_w4 := B1.cell (k := 2) rfl
    have xw2_w4 := eg ew3 ew4
    replace B2 := B2.ext xw2_w4
    have lb2_w4 := B2.lt
    have b2_0_w4 := B2.cell (k := 0) rfl
    have b2_1_w4 := B2.cell (k := 1) rfl
    have xw_w4 := eg xw_w3 ew4
    have HU := Lib.hid hu
    clear hu
    go_wp2_with fail
    refine (nusable T e y _ (hT.ext xw_w4) ey HU.out).mono ?_
    intro ee w5 gg
    obtain ⟨rfl, ew5⟩ := Gv.v gg
    have zw5 := ew5.size
    have xw_w5 := eg xw_w4 ew5
    go_wp2_with fail
    clear lb1_w4 b1_0_w4 b1_1_w4 b1_2_w4 lb2_w4 b2_0_w4 b2_1_w4
    refine bodyPost_ret (v := .bool true) (by simp [results, Tryz.results6, go_sem]) rfl ?_
    exact Gv.of_v xw_w5
  · skip
    have xw1_w4 := eg (eg ew2 ew3) ew4
    replace B1 := B1.ext xw1_w4
    have lb1_w4 := B1.lt
    have b1_0_w4 := B1.cell (k := 0) rfl
    have b1_1_w4 := B1.cell (k := 1) rfl
    have b1_2_w4 := B1.cell (k := 2) rfl
    have xw2_w4 := eg ew3 ew4
    replace B2 := B2.ext xw2_w4
    have lb2_w4 := B2.lt
    have b2_0_w4 := B2.cell (k := 0) rfl
    have b2_1_w4 := B2.cell (k := 1) rfl
    have xw_w4 := eg xw_w3 ew4
    have HU := Lib.hid hu
    clear hu
    have HR := Lib.hid hr
    clear hr
    go_wp2_with fail
    refine (nusable T e y _ (hT.ext xw_w4) ey HU.out).mono ?_
    intro ee w6 gg
    obtain ⟨rfl, ew6⟩ := Gv.v gg
    have zw6 := ew6.size
    replace B1 := B1.ext ew6
    have lb1_w6 := B1.lt
    have b1_0_w6 := B1.cell (k := 0) rfl
    have b1_1_w6 := B1.cell (k := 1) rfl
    have b1_2_w6 := B1.cell (k := 2) rfl
    have xw3_w6 := eg ew4 ew6
    replace B3 := B3.ext xw3_w6
    have lb3_w6 := B3.lt
    have b3_0_w6 := B3.cell (k := 0) rfl
    have b3_1_w6 := B3.cell (k := 1) rfl
    have xw_w6 := eg xw_w4 ew6
    go_wp2_with fail
    clear lb1_w4 b1_0_w4 b1_1_w4 b1_2_w4 lb2_w4 b2_0_w4 b2_1_w4
    refine (lRight T e2 y2 _ (hT.ext xw_w6) ey2 HR.out).mono ?_
    intro ee w7 gg
    obtain ⟨rfl, ew7⟩ := Gv.v gg
    have zw7 := ew7.size
    have xw_w7 := eg xw_w6 ew7
    go_wp2_with fail
    clear lb1_w6 b1_0_w6 b1_1_w6 b1_2_w6 lb3_w6 b3_0_w6 b3_1_w6
    refine bodyPost_ret (v := .bool true) (by simp [results, Tryz.results6, go_sem]) rfl ?_
    exact Gv.of_v xw_w7
  · skip
    have xw1_w4 := eg (eg ew2 ew3) ew4
    replace B1 := B1.ext xw1_w4
    have lb1_w4 := B1.lt
    have b1_0_w4 := B1.cell (k := 0) rfl
    have b1_1_w4 := B1.cell (k := 1) rfl
    have b1_2_w4 := B1.cell (k := 2) rfl
    have xw2_w4 := eg ew3 ew4
    replace B2 := B2.ext xw2_w4
    have lb2_w4 := B2.lt
    have b2_0_w4 := B2.cell (k := 0) rfl
    have b2_1_w4 := B2.cell (k := 1) rfl
    have xw_w4 := eg xw_w3 ew4
    have HU := Lib.hid hu
    clear hu
    have HR := Lib.hid hr
    clear hr
    go_wp2_with fail
    refine (nusable T e y _ (hT.ext xw_w4) ey HU.out).mono ?_
    intro ee w8 gg
    obtain ⟨rfl, ew8⟩ := Gv.v gg
    have zw8 := ew8.size
    replace B1 := B1.ext ew8
    have lb1_w8 := B1.lt
    have b1_0_w8 := B1.cell (k := 0) rfl
    have b1_1_w8 := B1.cell (k := 1) rfl
    have b1_2_w8 := B1.cell (k := 2) rfl
    have xw3_w8 := eg ew4 ew8
    replace B3 := B3.ext xw3_w8
    have lb3_w8 := B3.lt
    have b3_0_w8 := B3.cell (k := 0) rfl
    have b3_1_w8 := B3.cell (k := 1) rfl
    have xw_w8 := eg xw_w4 ew8
    go_wp2_with fail
    clear lb1_w4 b1_0_w4 b1_1_w4 b1_2_w4 lb2_w4 b2_0_w4 b2_1_w4
    refine (lRight T e2 y2 _ (hT.ext xw_w8) ey2 HR.out).mono ?_
    intro ee w9 gg
    obtain ⟨rfl, ew9⟩ := Gv.v gg
    have zw9 := ew9.size
    have xw_w9 := eg xw_w8 ew9
    go_wp2_with fail
    clear lb1_w8 b1_0_w8 b1_1_w8 b1_2_w8 lb3_w8 b3_0_w8 b3_1_w8
    refine bodyPost_ret (v := .bool true) (by simp [results, Tryz.results6, go_sem]) rfl ?_
    exact Gv.of_v xw_w9
  · skip
    have xw1_w4 := eg (eg ew2 ew3) ew4
    replace B1 := B1.ext xw1_w4
    have lb1_w4 := B1.lt
    have b1_0_w4 := B1.cell (k := 0) rfl
    have b1_1_w4 := B1.cell (k := 1) rfl
    have b1_2_w4 := B1.cell (k := 2) rfl
    have xw2_w4 := eg ew3 ew4
    replace B2 := B2.ext xw2_w4
    have lb2_w4 := B2.lt
    have b2_0_w4 := B2.cell (k := 0) rfl
    have b2_1_w4 := B2.cell (k := 1) rfl
    have xw_w4 := eg xw_w3 ew4
    obtain ⟨R, hQ, -⟩ := okL_q hT (okU_l hu)
    have Hok := Lib.hid (okU_l hu)
    have HU := Lib.hid hu
    clear hu
    have HR := Lib.hid hr
    clear hr
    have HP : Hid (PP (lal T R e y n.toNat) (lal T R e2 y2 n.toNat)) := pal_pp hQ Hok.out HR.out n.toNat
    go_wp2_with fail
    refine (nusable T e y _ (hT.ext xw_w4) ey HU.out).mono ?_
    intro ee w10 gg
    obtain ⟨rfl, ew10⟩ := Gv.v gg
    have zw10 := ew10.size
    replace B1 := B1.ext ew10
    have lb1_w10 := B1.lt
    have b1_0_w10 := B1.cell (k := 0) rfl
    have b1_1_w10 := B1.cell (k := 1) rfl
    have b1_2_w10 := B1.cell (k := 2) rfl
    have xw3_w10 := eg ew4 ew10
    replace B3 := B3.ext xw3_w10
    have lb3_w10 := B3.lt
    have b3_0_w10 := B3.cell (k := 0) rfl
    have b3_1_w10 := B3.cell (k := 1) rfl
    have xw_w10 := eg xw_w4 ew10
    go_wp2_with fail
    clear lb1_w4 b1_0_w4 b1_1_w4 b1_2_w4 lb2_w4 b2_0_w4 b2_1_w4
    refine (lRight T e2 y2 _ (hT.ext xw_w10) ey2 HR.out).mono ?_
    intro ee w11 gg
    obtain ⟨rfl, ew11⟩ := Gv.v gg
    have zw11 := ew11.size
    replace B1 := B1.ext ew11
    have lb1_w11 := B1.lt
    have b1_0_w11 := B1.cell (k := 0) rfl
    have b1_1_w11 := B1.cell (k := 1) rfl
    have b1_2_w11 := B1.cell (k := 2) rfl
    have xw4_w11 := eg ew10 ew11
    replace B2 := B2.ext xw4_w11
    have lb2_w11 := B2.lt
    have b2_0_w11 := B2.cell (k := 0) rfl
    have b2_1_w11 := B2.cell (k := 1) rfl
    replace B3 := B3.ext ew11
    have lb3_w11 := B3.lt
    have b3_0_w11 := B3.cell (k := 0) rfl
    have b3_1_w11 := B3.cell (k := 1) rfl
    have xw_w11 := eg xw_w10 ew11
    go_wp2_with fail
    clear lb1_w10 b1_0_w10 b1_1_w10 b1_2_w10 lb3_w10 b3_0_w10 b3_1_w10
    refine (lBoth T R e y e2 y2 n _ (hQ.ext xw_w11) Hok.out HR.out hn).mono ?_
    intro ee w12 gg
    obtain ⟨Z46, rfl, hZ46, -, ew12⟩ := Gv.fe gg
    have zw12 := ew12.size
    obtain ⟨w13, hww13⟩ : ∃ W, w12.alloc (.cells #[.bool Z46.N.b, .slice Z46.N.p Z46.N.n Z46.N.c, .bool Z46.D.b, .slice Z46.D.p Z46.D.n Z46.D.c] 40) = W := ⟨_, rfl⟩
    have ew13 : Ext w12 w13 := by rw [← hww13]; exact ea _ _
    have B4 : Cells w13 (w12.heap.size) 40 #[.bool Z46.N.b, .slice Z46.N.p Z46.N.n Z46.N.c, .bool Z46.D.b, .slice Z46.D.p Z46.D.n Z46.D.c] := by rw [← hww13]; exact Cells.newAt _ _ (by omega)
    have zw13 := alloc_lt hww13
    have xw11_w13 := eg ew12 ew13
    replace B1 := B1.ext xw11_w13
    have lb1_w13 := B1.lt
    have b1_0_w13 := B1.cell (k := 0) rfl
    have b1_1_w13 := B1.cell (k := 1) rfl
    have b1_2_w13 := B1.cell (k := 2) rfl
    replace B3 := B3.ext xw11_w13
    have lb3_w13 := B3.lt
    have b3_0_w13 := B3.cell (k := 0) rfl
    have b3_1_w13 := B3.cell (k := 1) rfl
    replace B2 := B2.ext xw11_w13
    have lb2_w13 := B2.lt
    have b2_0_w13 := B2.cell (k := 0) rfl
    have b2_1_w13 := B2.cell (k := 1) rfl
    have xw_w13 := eg (eg xw_w11 ew12) ew13
    go_wp2_with fail
    clear hww13
    clear lb1_w11 b1_0_w11 b1_1_w11 b1_2_w11 lb2_w11 b2_0_w11 b2_1_w11 lb3_w11 b3_0_w11 b3_1_w11
    have yw13 := Nat.le_of_eq zw13
    replace zw13 := Nat.le_of_eq zw13.symm
    refine (lBoth T R e2 y2 e y n _ (hQ.ext xw_w13) HR.out Hok.out hn).mono ?_
    intro ee w14 gg
    obtain ⟨Z54, rfl, hZ54, -, ew14⟩ := Gv.fe gg
    have zw14 := ew14.size
    obtain ⟨w15, hww15⟩ : ∃ W, w14.alloc (.cells #[.bool Z54.N.b, .slice Z54.N.p Z54.N.n Z54.N.c, .bool Z54.D.b, .slice Z54.D.p Z54.D.n Z54.D.c] 40) = W := ⟨_, rfl⟩
    have ew15 : Ext w14 w15 := by rw [← hww15]; exact ea _ _
    have B5 : Cells w15 (w14.heap.size) 40 #[.bool Z54.N.b, .slice Z54.N.p Z54.N.n Z54.N.c, .bool Z54.D.b, .slice Z54.D.p Z54.D.n Z54.D.c] := by rw [← hww15]; exact Cells.newAt _ _ (by omega)
    have zw15 := alloc_lt hww15
    have xw13_w15 := eg ew14 ew15
    replace B1 := B1.ext xw13_w15
    have lb1_w15 := B1.lt
    have b1_0_w15 := B1.cell (k := 0) rfl
    have b1_1_w15 := B1.cell (k := 1) rfl
    have b1_2_w15 := B1.cell (k := 2) rfl
    replace B3 := B3.ext xw13_w15
    have lb3_w15 := B3.lt
    have b3_0_w15 := B3.cell (k := 0) rfl
    have b3_1_w15 := B3.cell (k := 1) rfl
    replace B2 := B2.ext xw13_w15
    have lb2_w15 := B2.lt
    have b2_0_w15 := B2.cell (k := 0) rfl
    have b2_1_w15 := B2.cell (k := 1) rfl
    have xw_w15 := eg (eg xw_w13 ew14) ew15
    go_wp2_with fail
    clear hww15
    clear lb1_w13 b1_0_w13 b1_1_w13 b1_2_w13 lb3_w13 b3_0_w13 b3_1_w13 lb2_w13 b2_0_w13 b2_1_w13
    have yw15 := Nat.le_of_eq zw15
    replace zw15 := Nat.le_of_eq zw15.symm
    refine (lLeft T R e2 y2 e y n _ (hQ.ext xw_w15) HR.out Hok.out hn).mono ?_
    intro ee w16 gg
    obtain ⟨Z62, rfl, hZ62, -, ew16⟩ := Gv.fe gg
    have zw16 := ew16.size
    obtain ⟨w17, hww17⟩ : ∃ W, w16.alloc (.cells #[.bool Z62.N.b, .slice Z62.N.p Z62.N.n Z62.N.c, .bool Z62.D.b, .slice Z62.D.p Z62.D.n Z62.D.c] 40) = W := ⟨_, rfl⟩
    have ew17 : Ext w16 w17 := by rw [← hww17]; exact ea _ _
    have B6 : Cells w17 (w16.heap.size) 40 #[.bool Z62.N.b, .slice Z62.N.p Z62.N.n Z62.N.c, .bool Z62.D.b, .slice Z62.D.p Z62.D.n Z62.D.c] := by rw [← hww17]; exact Cells.newAt _ _ (by omega)
    have zw17 := alloc_lt hww17
    have xw15_w17 := eg ew16 ew17
    replace B1 := B1.ext xw15_w17
    have lb1_w17 := B1.lt
    have b1_0_w17 := B1.cell (k := 0) rfl
    have b1_1_w17 := B1.cell (k := 1) rfl
    have b1_2_w17 := B1.cell (k := 2) rfl
    replace B2 := B2.ext xw15_w17
    have lb2_w17 := B2.lt
    have b2_0_w17 := B2.cell (k := 0) rfl
    have b2_1_w17 := B2.cell (k := 1) rfl
    replace B3 := B3.ext xw15_w17
    have lb3_w17 := B3.lt
    have b3_0_w17 := B3.cell (k := 0) rfl
    have b3_1_w17 := B3.cell (k := 1) rfl
    have xw_w17 := eg (eg xw_w15 ew16) ew17
    go_wp2_with fail
    clear hww17
    clear lb1_w15 b1_0_w15 b1_1_w15 b1_2_w15 lb3_w15 b3_0_w15 b3_1_w15 lb2_w15 b2_0_w15 b2_1_w15
    have yw17 := Nat.le_of_eq zw17
    replace zw17 := Nat.le_of_eq zw17.symm
    refine (lLeft T R e y e2 y2 n _ (hQ.ext xw_w17) Hok.out HR.out hn).mono ?_
    intro ee w18 gg
    obtain ⟨Z70, rfl, hZ70, -, ew18⟩ := Gv.fe gg
    have zw18 := ew18.size
    obtain ⟨w19, hww19⟩ : ∃ W, w18.alloc (.cells #[.bool Z70.N.b, .slice Z70.N.p Z70.N.n Z70.N.c, .bool Z70.D.b, .slice Z70.D.p Z70.D.n Z70.D.c] 40) = W := ⟨_, rfl⟩
    have ew19 : Ext w18 w19 := by rw [← hww19]; exact ea _ _
    have B7 : Cells w19 (w18.heap.size) 40 #[.bool Z70.N.b, .slice Z70.N.p Z70.N.n Z70.N.c, .bool Z70.D.b, .slice Z70.D.p Z70.D.n Z70.D.c] := by rw [← hww19]; exact Cells.newAt _ _ (by omega)
    have zw19 := alloc_lt hww19
    have xw17_w19 := eg ew18 ew19
    replace B1 := B1.ext xw17_w19
    have lb1_w19 := B1.lt
    have b1_0_w19 := B1.cell (k := 0) rfl
    have b1_1_w19 := B1.cell (k := 1) rfl
    have b1_2_w19 := B1.cell (k := 2) rfl
    replace B2 := B2.ext xw17_w19
    have lb2_w19 := B2.lt
    have b2_0_w19 := B2.cell (k := 0) rfl
    have b2_1_w19 := B2.cell (k := 1) rfl
    replace B3 := B3.ext xw17_w19
    have lb3_w19 := B3.lt
    have b3_0_w19 := B3.cell (k := 0) rfl
    have b3_1_w19 := B3.cell (k := 1) rfl
    have xw_w19 := eg (eg xw_w17 ew18) ew19
    go_wp2_with fail
    clear hww19
    clear lb1_w17 b1_0_w17 b1_1_w17 b1_2_w17 lb2_w17 b2_0_w17 b2_1_w17 lb3_w17 b3_0_w17 b3_1_w17
    have yw19 := Nat.le_of_eq zw19
    replace zw19 := Nat.le_of_eq zw19.symm
    refine (lEither T R e y e2 y2 n _ (hQ.ext xw_w19) Hok.out HR.out hn).mono ?_
    intro ee w20 gg
    obtain ⟨Z78, rfl, hZ78, -, ew20⟩ := Gv.fe gg
    have zw20 := ew20.size
    obtain ⟨w21, hww21⟩ : ∃ W, w20.alloc (.cells #[.bool Z78.N.b, .slice Z78.N.p Z78.N.n Z78.N.c, .bool Z78.D.b, .slice Z78.D.p Z78.D.n Z78.D.c] 40) = W := ⟨_, rfl⟩
    have ew21 : Ext w20 w21 := by rw [← hww21]; exact ea _ _
    have B8 : Cells w21 (w20.heap.size) 40 #[.bool Z78.N.b, .slice Z78.N.p Z78.N.n Z78.N.c, .bool Z78.D.b, .slice Z78.D.p Z78.D.n Z78.D.c] := by rw [← hww21]; exact Cells.newAt _ _ (by omega)
    have zw21 := alloc_lt hww21
    have xw19_w21 := eg ew20 ew21
    replace B1 := B1.ext xw19_w21
    have lb1_w21 := B1.lt
    have b1_0_w21 := B1.cell (k := 0) rfl
    have b1_1_w21 := B1.cell (k := 1) rfl
    have b1_2_w21 := B1.cell (k := 2) rfl
    replace B3 := B3.ext xw19_w21
    have lb3_w21 := B3.lt
    have b3_0_w21 := B3.cell (k := 0) rfl
    have b3_1_w21 := B3.cell (k := 1) rfl
    replace B2 := B2.ext xw19_w21
    have lb2_w21 := B2.lt
    have b2_0_w21 := B2.cell (k := 0) rfl
    have b2_1_w21 := B2.cell (k := 1) rfl
    have xw_w21 := eg (eg xw_w19 ew20) ew21
    go_wp2_with fail
    clear hww21
    clear lb1_w19 b1_0_w19 b1_1_w19 b1_2_w19 lb2_w19 b2_0_w19 b2_1_w19 lb3_w19 b3_0_w19 b3_1_w19
    have yw21 := Nat.le_of_eq zw21
    replace zw21 := Nat.le_of_eq zw21.symm
    refine (lEither T R e2 y2 e y n _ (hQ.ext xw_w21) HR.out Hok.out hn).mono ?_
    intro ee w22 gg
    obtain ⟨Z86, rfl, hZ86, -, ew22⟩ := Gv.fe gg
    have zw22 := ew22.size
    obtain ⟨w23, hww23⟩ : ∃ W, w22.alloc (.cells #[.bool Z86.N.b, .slice Z86.N.p Z86.N.n Z86.N.c, .bool Z86.D.b, .slice Z86.D.p Z86.D.n Z86.D.c] 40) = W := ⟨_, rfl⟩
    have ew23 : Ext w22 w23 := by rw [← hww23]; exact ea _ _
    have B9 : Cells w23 (w22.heap.size) 40 #[.bool Z86.N.b, .slice Z86.N.p Z86.N.n Z86.N.c, .bool Z86.D.b, .slice Z86.D.p Z86.D.n Z86.D.c] := by rw [← hww23]; exact Cells.newAt _ _ (by omega)
    have zw23 := alloc_lt hww23
    have xw21_w23 := eg ew22 ew23
    replace B1 := B1.ext xw21_w23
    have lb1_w23 := B1.lt
    have b1_0_w23 := B1.cell (k := 0) rfl
    have b1_1_w23 := B1.cell (k := 1) rfl
    have b1_2_w23 := B1.cell (k := 2) rfl
    replace B2 := B2.ext xw21_w23
    have lb2_w23 := B2.lt
    have b2_0_w23 := B2.cell (k := 0) rfl
    have b2_1_w23 := B2.cell (k := 1) rfl
    have xw_w23 := eg (eg xw_w21 ew22) ew23
    go_wp2_with fail
    clear hww23
    clear lb1_w21 b1_0_w21 b1_1_w21 b1_2_w21 lb3_w21 b3_0_w21 b3_1_w21 lb2_w21 b2_0_w21 b2_1_w21
    have yw23 := Nat.le_of_eq zw23
    replace zw23 := Nat.le_of_eq zw23.symm
    refine (lAlive T R e y n _ (hQ.ext xw_w23) Hok.out hn).mono ?_
    intro ee w24 gg
    obtain ⟨Z93, rfl, hZ93, -, ew24⟩ := Gv.fe gg
    have zw24 := ew24.size
    obtain ⟨w25, hww25⟩ : ∃ W, w24.alloc (.cells #[.bool Z93.N.b, .slice Z93.N.p Z93.N.n Z93.N.c, .bool Z93.D.b, .slice Z93.D.p Z93.D.n Z93.D.c] 40) = W := ⟨_, rfl⟩
    have ew25 : Ext w24 w25 := by rw [← hww25]; exact ea _ _
    have B10 : Cells w25 (w24.heap.size) 40 #[.bool Z93.N.b, .slice Z93.N.p Z93.N.n Z93.N.c, .bool Z93.D.b, .slice Z93.D.p Z93.D.n Z93.D.c] := by rw [← hww25]; exact Cells.newAt _ _ (by omega)
    have zw25 := alloc_lt hww25
    have xw23_w25 := eg ew24 ew25
    replace B1 := B1.ext xw23_w25
    have lb1_w25 := B1.lt
    have b1_0_w25 := B1.cell (k := 0) rfl
    have b1_1_w25 := B1.cell (k := 1) rfl
    have b1_2_w25 := B1.cell (k := 2) rfl
    have xw21_w25 := eg (eg xw21_w23 ew24) ew25
    replace B3 := B3.ext xw21_w25
    have lb3_w25 := B3.lt
    have b3_0_w25 := B3.cell (k := 0) rfl
    have b3_1_w25 := B3.cell (k := 1) rfl
    have xw_w25 := eg (eg xw_w23 ew24) ew25
    go_wp2_with fail
    clear hww25
    clear lb1_w23 b1_0_w23 b1_1_w23 b1_2_w23 lb2_w23 b2_0_w23 b2_1_w23
    have yw25 := Nat.le_of_eq zw25
    replace zw25 := Nat.le_of_eq zw25.symm
    refine (lAlive T R e2 y2 n _ (hQ.ext xw_w25) HR.out hn).mono ?_
    intro ee w26 gg
    obtain ⟨Z100, rfl, hZ100, -, ew26⟩ := Gv.fe gg
    have zw26 := ew26.size
    obtain ⟨w27, hww27⟩ : ∃ W, w26.alloc (.cells #[.bool Z100.N.b, .slice Z100.N.p Z100.N.n Z100.N.c, .bool Z100.D.b, .slice Z100.D.p Z100.D.n Z100.D.c] 40) = W := ⟨_, rfl⟩
    have ew27 : Ext w26 w27 := by rw [← hww27]; exact ea _ _
    have B11 : Cells w27 (w26.heap.size) 40 #[.bool Z100.N.b, .slice Z100.N.p Z100.N.n Z100.N.c, .bool Z100.D.b, .slice Z100.D.p Z100.D.n Z100.D.c] := by rw [← hww27]; exact Cells.newAt _ _ (by omega)
    have zw27 := alloc_lt hww27
    have xw13_w27 := eg (eg (eg (eg (eg (eg (eg (eg (eg (eg (eg (eg xw13_w15 ew16) ew17) ew18) ew19) ew20) ew21) ew22) ew23) ew24) ew25) ew26) ew27
    replace B4 := B4.ext xw13_w27
    have lb4_w27 := B4.lt
    have b4_0_w27 := B4.cell (k := 0) rfl
    have b4_1_w27 := B4.cell (k := 1) rfl
    have b4_2_w27 := B4.cell (k := 2) rfl
    have b4_3_w27 := B4.cell (k := 3) rfl
    have xw12_w27 := eg (eg (eg (eg (eg (eg (eg (eg (eg (eg (eg (eg (eg (eg ew13 ew14) ew15) ew16) ew17) ew18) ew19) ew20) ew21) ew22) ew23) ew24) ew25) ew26) ew27
    replace hZ46 := hZ46.ext xw12_w27
    have xw_w27 := eg (eg xw_w25 ew26) ew27
    go_upto_region 13 with (fail)
    clear hww27
    clear lb1_w25 b1_0_w25 b1_1_w25 b1_2_w25 lb3_w25 b3_0_w25 b3_1_w25
    have yw27 := Nat.le_of_eq zw27
    replace zw27 := Nat.le_of_eq zw27.symm
    refine wp_region_lit ?_
    iterate 32
      refine wpList_one (x := ?_) (by as_aux_lemma => kernel_rfl) (fun K hK => ?_) ?_
      rotate_left
      · go_simp
        repeat (first | (go_ints; try go_simp) | (simp only [↓IntWalk.iteOmega]; try go_simp))
        exact hK
      simp only [Act.put, List.setIfInBounds_toArray, List.set_cons_zero, List.set_cons_succ]
    refine wpList_tell (t := .v (.bool true)) (by as_aux_lemma => kernel_rfl) (fun K hK => ?_) ?_
    · go_simp
      exact (nchance Z46 _ _ (hZ46) (HP.out.ps.m) (HP.out.c1).1 (HP.out.c1).2).mono (tell hK)
    rintro _ w28 rfl - ew28
    simp only [Act.put, List.setIfInBounds_toArray, List.set_cons_zero, List.set_cons_succ]
    have zw28 := ew28.size
    have xw17_w28 := eg (eg (eg (eg (eg (eg (eg (eg (eg xw17_w19 ew20) ew21) ew22) ew23) ew24) ew25) ew26) ew27) ew28
    replace B6 := B6.ext xw17_w28
    have lb6_w28 := B6.lt
    have b6_0_w28 := B6.cell (k := 0) rfl
    have b6_1_w28 := B6.cell (k := 1) rfl
    have b6_2_w28 := B6.cell (k := 2) rfl
    have b6_3_w28 := B6.cell (k := 3) rfl
    have xw16_w28 := eg (eg (eg (eg (eg (eg (eg (eg (eg (eg (eg ew17 ew18) ew19) ew20) ew21) ew22) ew23) ew24) ew25) ew26) ew27) ew28
    replace hZ62 := hZ62.ext xw16_w28
    have xw_w28 := eg xw_w27 ew28
    clear lb4_w27 b4_0_w27 b4_1_w27 b4_2_w27 b4_3_w27
    iterate 4
      refine wpList_one (x := ?_) (by as_aux_lemma => kernel_rfl) (fun K hK => ?_) ?_
      rotate_left
      · go_simp
        repeat (first | (go_ints; try go_simp) | (simp only [↓IntWalk.iteOmega]; try go_simp))
        exact hK
      simp only [Act.put, List.setIfInBounds_toArray, List.set_cons_zero, List.set_cons_succ]
    refine wpList_tell (t := .v (.bool true)) (by as_aux_lemma => kernel_rfl) (fun K hK => ?_) ?_
    · go_simp
      exact (nchance Z62 _ _ (hZ62) (HP.out.ly) (HP.out.c2).1 (HP.out.c2).2).mono (tell hK)
    rintro _ w29 rfl - ew29
    simp only [Act.put, List.setIfInBounds_toArray, List.set_cons_zero, List.set_cons_succ]
    have zw29 := ew29.size
    have xw19_w29 := eg (eg (eg (eg (eg (eg (eg (eg xw19_w21 ew22) ew23) ew24) ew25) ew26) ew27) ew28) ew29
    replace B7 := B7.ext xw19_w29
    have lb7_w29 := B7.lt
    have b7_0_w29 := B7.cell (k := 0) rfl
    have b7_1_w29 := B7.cell (k := 1) rfl
    have b7_2_w29 := B7.cell (k := 2) rfl
    have b7_3_w29 := B7.cell (k := 3) rfl
    have xw18_w29 := eg (eg (eg (eg (eg (eg (eg (eg (eg (eg ew19 ew20) ew21) ew22) ew23) ew24) ew25) ew26) ew27) ew28) ew29
    replace hZ70 := hZ70.ext xw18_w29
    have xw_w29 := eg xw_w28 ew29
    clear lb6_w28 b6_0_w28 b6_1_w28 b6_2_w28 b6_3_w28
    iterate 4
      refine wpList_one (x := ?_) (by as_aux_lemma => kernel_rfl) (fun K hK => ?_) ?_
      rotate_left
      · go_simp
        repeat (first | (go_ints; try go_simp) | (simp only [↓IntWalk.iteOmega]; try go_simp))
        exact hK
      simp only [Act.put, List.setIfInBounds_toArray, List.set_cons_zero, List.set_cons_succ]
    refine wpList_tell (t := .v (.bool true)) (by as_aux_lemma => kernel_rfl) (fun K hK => ?_) ?_
    · go_simp
      exact (nchance Z70 _ _ (hZ70) (HP.out.ps.le) (HP.out.c3).1 (HP.out.c3).2).mono (tell hK)
    rintro _ w30 rfl - ew30
    simp only [Act.put, List.setIfInBounds_toArray, List.set_cons_zero, List.set_cons_succ]
    have zw30 := ew30.size
    have xw21_w30 := eg (eg (eg (eg (eg xw21_w25 ew26) ew27) ew28) ew29) ew30
    replace B8 := B8.ext xw21_w30
    have lb8_w30 := B8.lt
    have b8_0_w30 := B8.cell (k := 0) rfl
    have b8_1_w30 := B8.cell (k := 1) rfl
    have b8_2_w30 := B8.cell (k := 2) rfl
    have b8_3_w30 := B8.cell (k := 3) rfl
    have xw20_w30 := eg (eg (eg (eg (eg (eg (eg (eg (eg ew21 ew22) ew23) ew24) ew25) ew26) ew27) ew28) ew29) ew30
    replace hZ78 := hZ78.ext xw20_w30
    have xw_w30 := eg xw_w29 ew30
    clear lb7_w29 b7_0_w29 b7_1_w29 b7_2_w29 b7_3_w29
    iterate 4
      refine wpList_one (x := ?_) (by as_aux_lemma => kernel_rfl) (fun K hK => ?_) ?_
      rotate_left
      · go_simp
        repeat (first | (go_ints; try go_simp) | (simp only [↓IntWalk.iteOmega]; try go_simp))
        exact hK
      simp only [Act.put, List.setIfInBounds_toArray, List.set_cons_zero, List.set_cons_succ]
    refine wpList_tell (t := .v (.bool true)) (by as_aux_lemma => kernel_rfl) (fun K hK => ?_) ?_
    · go_simp
      exact (nchance Z78 _ _ (hZ78) (HP.out.ps.ei) (HP.out.c4).1 (HP.out.c4).2).mono (tell hK)
    rintro _ w31 rfl - ew31
    simp only [Act.put, List.setIfInBounds_toArray, List.set_cons_zero, List.set_cons_succ]
    have zw31 := ew31.size
    have xw27_w31 := eg (eg (eg ew28 ew29) ew30) ew31
    replace B4 := B4.ext xw27_w31
    have lb4_w31 := B4.lt
    have b4_0_w31 := B4.cell (k := 0) rfl
    have b4_1_w31 := B4.cell (k := 1) rfl
    have b4_2_w31 := B4.cell (k := 2) rfl
    have b4_3_w31 := B4.cell (k := 3) rfl
    have xw15_w31 := eg (eg (eg (eg (eg (eg (eg (eg (eg (eg (eg (eg (eg (eg xw15_w17 ew18) ew19) ew20) ew21) ew22) ew23) ew24) ew25) ew26) ew27) ew28) ew29) ew30) ew31
    replace B5 := B5.ext xw15_w31
    have lb5_w31 := B5.lt
    have b5_0_w31 := B5.cell (k := 0) rfl
    have b5_1_w31 := B5.cell (k := 1) rfl
    have b5_2_w31 := B5.cell (k := 2) rfl
    have b5_3_w31 := B5.cell (k := 3) rfl
    replace hZ46 := hZ46.ext xw27_w31
    have xw14_w31 := eg (eg (eg (eg (eg (eg (eg (eg (eg (eg (eg (eg (eg (eg (eg (eg ew15 ew16) ew17) ew18) ew19) ew20) ew21) ew22) ew23) ew24) ew25) ew26) ew27) ew28) ew29) ew30) ew31
    replace hZ54 := hZ54.ext xw14_w31
    replace B8 := B8.ext ew31
    have lb8_w31 := B8.lt
    have b8_0_w31 := B8.cell (k := 0) rfl
    have b8_1_w31 := B8.cell (k := 1) rfl
    have b8_2_w31 := B8.cell (k := 2) rfl
    have b8_3_w31 := B8.cell (k := 3) rfl
    have xw23_w31 := eg (eg (eg (eg (eg (eg xw23_w25 ew26) ew27) ew28) ew29) ew30) ew31
    replace B9 := B9.ext xw23_w31
    have lb9_w31 := B9.lt
    have b9_0_w31 := B9.cell (k := 0) rfl
    have b9_1_w31 := B9.cell (k := 1) rfl
    have b9_2_w31 := B9.cell (k := 2) rfl
    have b9_3_w31 := B9.cell (k := 3) rfl
    replace hZ78 := hZ78.ext ew31
    have xw22_w31 := eg (eg (eg (eg (eg (eg (eg (eg ew23 ew24) ew25) ew26) ew27) ew28) ew29) ew30) ew31
    replace hZ86 := hZ86.ext xw22_w31
    have xw28_w31 := eg (eg ew29 ew30) ew31
    replace B6 := B6.ext xw28_w31
    have lb6_w31 := B6.lt
    have b6_0_w31 := B6.cell (k := 0) rfl
    have b6_1_w31 := B6.cell (k := 1) rfl
    have b6_2_w31 := B6.cell (k := 2) rfl
    have b6_3_w31 := B6.cell (k := 3) rfl
    have xw29_w31 := eg ew30 ew31
    replace B7 := B7.ext xw29_w31
    have lb7_w31 := B7.lt
    have b7_0_w31 := B7.cell (k := 0) rfl
    have b7_1_w31 := B7.cell (k := 1) rfl
    have b7_2_w31 := B7.cell (k := 2) rfl
    have b7_3_w31 := B7.cell (k := 3) rfl
    replace hZ62 := hZ62.ext xw28_w31
    replace hZ70 := hZ70.ext xw29_w31
    have xw25_w31 := eg (eg (eg (eg (eg ew26 ew27) ew28) ew29) ew30) ew31
    replace B10 := B10.ext xw25_w31
    have lb10_w31 := B10.lt
    have b10_0_w31 := B10.cell (k := 0) rfl
    have b10_1_w31 := B10.cell (k := 1) rfl
    have b10_2_w31 := B10.cell (k := 2) rfl
    have b10_3_w31 := B10.cell (k := 3) rfl
    have xw24_w31 := eg (eg (eg (eg (eg (eg ew25 ew26) ew27) ew28) ew29) ew30) ew31
    replace hZ93 := hZ93.ext xw24_w31
    replace B11 := B11.ext xw27_w31
    have lb11_w31 := B11.lt
    have b11_0_w31 := B11.cell (k := 0) rfl
    have b11_1_w31 := B11.cell (k := 1) rfl
    have b11_2_w31 := B11.cell (k := 2) rfl
    have b11_3_w31 := B11.cell (k := 3) rfl
    have xw26_w31 := eg (eg (eg (eg ew27 ew28) ew29) ew30) ew31
    replace hZ100 := hZ100.ext xw26_w31
    have xw_w31 := eg xw_w30 ew31
    clear lb8_w30 b8_0_w30 b8_1_w30 b8_2_w30 b8_3_w30
    iterate 2
      refine wpList_one (x := ?_) (by as_aux_lemma => kernel_rfl) (fun K hK => ?_) ?_
      rotate_left
      · go_simp
        repeat (first | (go_ints; try go_simp) | (simp only [↓IntWalk.iteOmega]; try go_simp))
        exact hK
      simp only [Act.put, List.setIfInBounds_toArray, List.set_cons_zero, List.set_cons_succ]
    go_wp2_with fail
    refine regionT 41 (fun k => match k with | 2 => some (.v (.bool true)) | 6 => some (.v (.bool true)) | 13 => some (.f ((leQ (lal T R e2 y2 n.toNat) (lal T R e y n.toNat)) + (leQ (lal T R e y n.toNat) (lal T R e2 y2 n.toNat)))) | 14 => some (.f ((lal T R e y n.toNat * lal T R e2 y2 n.toNat) + ((leQ (lal T R e2 y2 n.toNat) (lal T R e y n.toNat)) + (leQ (lal T R e y n.toNat) (lal T R e2 y2 n.toNat))))) | 15 => some (.v (.bool true)) | 19 => some (.f (1 - (eiQ (lal T R e y n.toNat) (lal T R e2 y2 n.toNat)))) | 21 => some (.f (1 - (lal T R e y n.toNat))) | 23 => some (.f (1 - (lal T R e2 y2 n.toNat))) | 24 => some (.f ((1 - (lal T R e y n.toNat)) * (1 - (lal T R e2 y2 n.toNat)))) | 25 => some (.v (.bool true)) | 31 => some (.f ((lal T R e y n.toNat * lal T R e2 y2 n.toNat) + (leQ (lal T R e2 y2 n.toNat) (lal T R e y n.toNat)))) | 32 => some (.v (.bool true)) | 38 => some (.f ((lal T R e y n.toNat * lal T R e2 y2 n.toNat) + (leQ (lal T R e y n.toNat) (lal T R e2 y2 n.toNat)))) | 39 => some (.v (.bool true)) | _ => none) (by as_aux_lemma => kernel_rfl) (head_of (by as_aux_lemma => kernel_rfl)) ?_
    iterate 2
      refine Walk.one (x := ?_) rfl rfl (fun w1 hI hL K hK => ?_) ?_
      rotate_left
      · obtain ⟨hc, hf⟩ := bcell hI
        go_simp
        repeat (first | (go_ints; try go_simp) | (simp only [↓IntWalk.iteOmega]; try go_simp))
        exact hK
      simp only [Act.put, List.setIfInBounds_toArray, List.set_cons_zero, List.set_cons_succ]
    refine Walk.tell rfl rfl (fun w1 hI hL K hK => ?_) ?_
    · go_simp
      exact (nequal_t Z46 Z54 _ _ w1 ((hZ46).ext hI) ((hZ54).ext hI) (HP.out.ps.m) (HP.out.my) (Rat.mul_comm _ _)).mono (tell hK)
    rintro _ rfl
    simp only [Act.put, List.setIfInBounds_toArray, List.set_cons_zero, List.set_cons_succ]
    refine Walk.one (x := ?_) rfl rfl (fun w1 hI hL K hK => ?_) ?_
    rotate_left
    · obtain ⟨hc, hf⟩ := bcell hI
      go_simp
      repeat (first | (go_ints; try go_simp) | (simp only [↓IntWalk.iteOmega]; try go_simp))
      exact hK
    simp only [Act.put, List.setIfInBounds_toArray, List.set_cons_zero, List.set_cons_succ]
    refine Walk.oneG (x := ?_) rfl (by as_aux_lemma => kernel_rfl) (fun w1 hI hL K hK => ?_) ?_
    rotate_left
    · obtain ⟨hc, hf⟩ := bcell hI
      go_simp
      repeat (first | (go_ints; try go_simp) | (simp only [↓IntWalk.iteOmega]; try go_simp))
      exact hK
    simp only [Act.put, List.setIfInBounds_toArray, List.set_cons_zero, List.set_cons_succ]
    refine Walk.oneG (x := ?_) rfl (by as_aux_lemma => kernel_rfl) (fun w1 hI hL K hK => ?_) ?_
    rotate_left
    · obtain ⟨hc, hf⟩ := bcell hI
      go_simp
      repeat (first | (go_ints; try go_simp) | (simp only [↓IntWalk.iteOmega]; try go_simp))
      exact hK
    simp only [Act.put, List.setIfInBounds_toArray, List.set_cons_zero, List.set_cons_succ]
    refine Walk.tellG rfl (by as_aux_lemma => kernel_rfl) (fun w1 hI hL K hK => ?_) ?_
    · go_simp
      exact (nequal_t Z78 Z86 _ _ w1 ((hZ78).ext hI) ((hZ86).ext hI) (HP.out.ps.ei) (HP.out.ey) (ei_sym _ _)).mono (tell hK)
    rintro _ rfl
    simp only [Act.put, List.setIfInBounds_toArray, List.set_cons_zero, List.set_cons_succ]
    iterate 2
      refine Walk.one (x := ?_) rfl rfl (fun w1 hI hL K hK => ?_) ?_
      rotate_left
      · obtain ⟨hc, hf⟩ := bcell hI
        go_simp
        repeat (first | (go_ints; try go_simp) | (simp only [↓IntWalk.iteOmega]; try go_simp))
        exact hK
      simp only [Act.put, List.setIfInBounds_toArray, List.set_cons_zero, List.set_cons_succ]
    refine Walk.oneG (x := ?_) rfl (by as_aux_lemma => kernel_rfl) (fun w1 hI hL K hK => ?_) ?_
    rotate_left
    · obtain ⟨hc, hf⟩ := bcell hI
      go_simp
      repeat (first | (go_ints; try go_simp) | (simp only [↓IntWalk.iteOmega]; try go_simp))
      exact hK
    simp only [Act.put, List.setIfInBounds_toArray, List.set_cons_zero, List.set_cons_succ]
    refine Walk.oneG (x := ?_) rfl (by as_aux_lemma => kernel_rfl) (fun w1 hI hL K hK => ?_) ?_
    rotate_left
    · obtain ⟨hc, hf⟩ := bcell hI
      go_simp
      repeat (first | (go_ints; try go_simp) | (simp only [↓IntWalk.iteOmega]; try go_simp))
      exact hK
    simp only [Act.put, List.setIfInBounds_toArray, List.set_cons_zero, List.set_cons_succ]
    refine Walk.oneG (x := ?_) rfl (by as_aux_lemma => kernel_rfl) (fun w1 hI hL K hK => ?_) ?_
    rotate_left
    · obtain ⟨hc, hf⟩ := bcell hI
      go_simp
      repeat (first | (go_ints; try go_simp) | (simp only [↓IntWalk.iteOmega]; try go_simp))
      exact hK
    simp only [Act.put, List.setIfInBounds_toArray, List.set_cons_zero, List.set_cons_succ]
    refine Walk.oneG (x := ?_) rfl (by as_aux_lemma => kernel_rfl) (fun w1 hI hL K hK => ?_) ?_
    rotate_left
    · obtain ⟨hc, hf⟩ := bcell hI
      go_simp
      repeat (first | (go_ints; try go_simp) | (simp only [↓IntWalk.iteOmega]; try go_simp))
      exact hK
    simp only [Act.put, List.setIfInBounds_toArray, List.set_cons_zero, List.set_cons_succ]
    refine Walk.tellG rfl (by as_aux_lemma => kernel_rfl) (fun w1 hI hL K hK => ?_) ?_
    · go_simp
      exact (nsum Z62 Z70 _ _ w1 ((hZ62).ext hI) ((hZ70).ext hI) (HP.out.ly) (HP.out.ps.le) (HP.out.s1)).mono (tell hK)
    rintro _ ⟨Z166, rfl⟩
    simp only [Act.put, List.setIfInBounds_toArray, List.set_cons_zero, List.set_cons_succ]
    refine Walk.tellG rfl (by as_aux_lemma => kernel_rfl) (fun w1 hI hL K hK => ?_) ?_
    · go_simp
      exact (nsum Z46 Z166 _ _ w1 ((hZ46).ext hI) ((Tl.getF (kn (i := 13) (v := .agg #[.bool Z166.N.b, .slice Z166.N.p Z166.N.n Z166.N.c, .bool Z166.D.b, .slice Z166.D.p Z166.D.n Z166.D.c]) rfl (by simp) (pred_of (by as_aux_lemma => kernel_rfl)) hL)).1) (HP.out.ps.m) (HP.out.s1) (HP.out.s2)).mono (tell hK)
    rintro _ ⟨Z167, rfl⟩
    simp only [Act.put, List.setIfInBounds_toArray, List.set_cons_zero, List.set_cons_succ]
    refine Walk.tellG rfl (by as_aux_lemma => kernel_rfl) (fun w1 hI hL K hK => ?_) ?_
    · go_simp
      exact (nequal_t Z78 Z167 _ _ w1 ((hZ78).ext hI) ((Tl.getF (kn (i := 14) (v := .agg #[.bool Z167.N.b, .slice Z167.N.p Z167.N.n Z167.N.c, .bool Z167.D.b, .slice Z167.D.p Z167.D.n Z167.D.c]) rfl (by simp) (pred_of (by as_aux_lemma => kernel_rfl)) hL)).1) (HP.out.ps.ei) (HP.out.s2) (ei_parts _ _)).mono (tell hK)
    rintro _ rfl
    simp only [Act.put, List.setIfInBounds_toArray, List.set_cons_zero, List.set_cons_succ]
    iterate 2
      refine Walk.one (x := ?_) rfl rfl (fun w1 hI hL K hK => ?_) ?_
      rotate_left
      · obtain ⟨hc, hf⟩ := bcell hI
        go_simp
        repeat (first | (go_ints; try go_simp) | (simp only [↓IntWalk.iteOmega]; try go_simp))
        exact hK
      simp only [Act.put, List.setIfInBounds_toArray, List.set_cons_zero, List.set_cons_succ]
    refine Walk.oneG (x := ?_) rfl (by as_aux_lemma => kernel_rfl) (fun w1 hI hL K hK => ?_) ?_
    rotate_left
    · obtain ⟨hc, hf⟩ := bcell hI
      go_simp
      repeat (first | (go_ints; try go_simp) | (simp only [↓IntWalk.iteOmega]; try go_simp))
      exact hK
    simp only [Act.put, List.setIfInBounds_toArray, List.set_cons_zero, List.set_cons_succ]
    refine Walk.tellG rfl (by as_aux_lemma => kernel_rfl) (fun w1 hI hL K hK => ?_) ?_
    · go_simp
      exact (nnot Z78 _ w1 ((hZ78).ext hI) (HP.out.ps.ei) (HP.out.s3)).mono (tell hK)
    rintro _ ⟨Z172, rfl⟩
    simp only [Act.put, List.setIfInBounds_toArray, List.set_cons_zero, List.set_cons_succ]
    refine Walk.oneG (x := ?_) rfl (by as_aux_lemma => kernel_rfl) (fun w1 hI hL K hK => ?_) ?_
    rotate_left
    · obtain ⟨hc, hf⟩ := bcell hI
      go_simp
      repeat (first | (go_ints; try go_simp) | (simp only [↓IntWalk.iteOmega]; try go_simp))
      exact hK
    simp only [Act.put, List.setIfInBounds_toArray, List.set_cons_zero, List.set_cons_succ]
    refine Walk.tellG rfl (by as_aux_lemma => kernel_rfl) (fun w1 hI hL K hK => ?_) ?_
    · go_simp
      exact (nnot Z93 _ w1 ((hZ93).ext hI) (HP.out.ps.sx) (HP.out.ps.nx)).mono (tell hK)
    rintro _ ⟨Z174, rfl⟩
    simp only [Act.put, List.setIfInBounds_toArray, List.set_cons_zero, List.set_cons_succ]
    refine Walk.oneG (x := ?_) rfl (by as_aux_lemma => kernel_rfl) (fun w1 hI hL K hK => ?_) ?_
    rotate_left
    · obtain ⟨hc, hf⟩ := bcell hI
      go_simp
      repeat (first | (go_ints; try go_simp) | (simp only [↓IntWalk.iteOmega]; try go_simp))
      exact hK
    simp only [Act.put, List.setIfInBounds_toArray, List.set_cons_zero, List.set_cons_succ]
    refine Walk.tellG rfl (by as_aux_lemma => kernel_rfl) (fun w1 hI hL K hK => ?_) ?_
    · go_simp
      exact (nnot Z100 _ w1 ((hZ100).ext hI) (HP.out.ps.sy) (HP.out.ps.ny)).mono (tell hK)
    rintro _ ⟨Z176, rfl⟩
    simp only [Act.put, List.setIfInBounds_toArray, List.set_cons_zero, List.set_cons_succ]
    refine Walk.tellG rfl (by as_aux_lemma => kernel_rfl) (fun w1 hI hL K hK => ?_) ?_
    · go_simp
      exact (nproduct Z174 Z176 _ _ w1 ((Tl.getF (kn (i := 21) (v := .agg #[.bool Z174.N.b, .slice Z174.N.p Z174.N.n Z174.N.c, .bool Z174.D.b, .slice Z174.D.p Z174.D.n Z174.D.c]) rfl (by simp) (pred_of (by as_aux_lemma => kernel_rfl)) hL)).1) ((Tl.getF (kn (i := 23) (v := .agg #[.bool Z176.N.b, .slice Z176.N.p Z176.N.n Z176.N.c, .bool Z176.D.b, .slice Z176.D.p Z176.D.n Z176.D.c]) rfl (by simp) (pred_of (by as_aux_lemma => kernel_rfl)) hL)).1) (HP.out.ps.nx) (HP.out.ps.ny) (HP.out.ps.nm)).mono (tell hK)
    rintro _ ⟨Z177, rfl⟩
    simp only [Act.put, List.setIfInBounds_toArray, List.set_cons_zero, List.set_cons_succ]
    refine Walk.tellG rfl (by as_aux_lemma => kernel_rfl) (fun w1 hI hL K hK => ?_) ?_
    · go_simp
      exact (nequal_t Z172 Z177 _ _ w1 ((Tl.getF (kn (i := 19) (v := .agg #[.bool Z172.N.b, .slice Z172.N.p Z172.N.n Z172.N.c, .bool Z172.D.b, .slice Z172.D.p Z172.D.n Z172.D.c]) rfl (by simp) (pred_of (by as_aux_lemma => kernel_rfl)) hL)).1) ((Tl.getF (kn (i := 24) (v := .agg #[.bool Z177.N.b, .slice Z177.N.p Z177.N.n Z177.N.c, .bool Z177.D.b, .slice Z177.D.p Z177.D.n Z177.D.c]) rfl (by simp) (pred_of (by as_aux_lemma => kernel_rfl)) hL)).1) (HP.out.s3) (HP.out.ps.nm) (ei_none _ _)).mono (tell hK)
    rintro _ rfl
    simp only [Act.put, List.setIfInBounds_toArray, List.set_cons_zero, List.set_cons_succ]
    iterate 2
      refine Walk.one (x := ?_) rfl rfl (fun w1 hI hL K hK => ?_) ?_
      rotate_left
      · obtain ⟨hc, hf⟩ := bcell hI
        go_simp
        repeat (first | (go_ints; try go_simp) | (simp only [↓IntWalk.iteOmega]; try go_simp))
        exact hK
      simp only [Act.put, List.setIfInBounds_toArray, List.set_cons_zero, List.set_cons_succ]
    refine Walk.oneG (x := ?_) rfl (by as_aux_lemma => kernel_rfl) (fun w1 hI hL K hK => ?_) ?_
    rotate_left
    · obtain ⟨hc, hf⟩ := bcell hI
      go_simp
      repeat (first | (go_ints; try go_simp) | (simp only [↓IntWalk.iteOmega]; try go_simp))
      exact hK
    simp only [Act.put, List.setIfInBounds_toArray, List.set_cons_zero, List.set_cons_succ]
    refine Walk.oneG (x := ?_) rfl (by as_aux_lemma => kernel_rfl) (fun w1 hI hL K hK => ?_) ?_
    rotate_left
    · obtain ⟨hc, hf⟩ := bcell hI
      go_simp
      repeat (first | (go_ints; try go_simp) | (simp only [↓IntWalk.iteOmega]; try go_simp))
      exact hK
    simp only [Act.put, List.setIfInBounds_toArray, List.set_cons_zero, List.set_cons_succ]
    refine Walk.oneG (x := ?_) rfl (by as_aux_lemma => kernel_rfl) (fun w1 hI hL K hK => ?_) ?_
    rotate_left
    · obtain ⟨hc, hf⟩ := bcell hI
      go_simp
      repeat (first | (go_ints; try go_simp) | (simp only [↓IntWalk.iteOmega]; try go_simp))
      exact hK
    simp only [Act.put, List.setIfInBounds_toArray, List.set_cons_zero, List.set_cons_succ]
    refine Walk.tellG rfl (by as_aux_lemma => kernel_rfl) (fun w1 hI hL K hK => ?_) ?_
    · go_simp
      exact (nsum Z46 Z62 _ _ w1 ((hZ46).ext hI) ((hZ62).ext hI) (HP.out.ps.m) (HP.out.ly) (HP.out.s4)).mono (tell hK)
    rintro _ ⟨Z184, rfl⟩
    simp only [Act.put, List.setIfInBounds_toArray, List.set_cons_zero, List.set_cons_succ]
    refine Walk.tellG rfl (by as_aux_lemma => kernel_rfl) (fun w1 hI hL K hK => ?_) ?_
    · go_simp
      exact (nequal_t Z93 Z184 _ _ w1 ((hZ93).ext hI) ((Tl.getF (kn (i := 31) (v := .agg #[.bool Z184.N.b, .slice Z184.N.p Z184.N.n Z184.N.c, .bool Z184.D.b, .slice Z184.D.p Z184.D.n Z184.D.c]) rfl (by simp) (pred_of (by as_aux_lemma => kernel_rfl)) hL)).1) (HP.out.ps.sx) (HP.out.s4) (one_x _ _)).mono (tell hK)
    rintro _ rfl
    simp only [Act.put, List.setIfInBounds_toArray, List.set_cons_zero, List.set_cons_succ]
    iterate 2
      refine Walk.one (x := ?_) rfl rfl (fun w1 hI hL K hK => ?_) ?_
      rotate_left
      · obtain ⟨hc, hf⟩ := bcell hI
        go_simp
        repeat (first | (go_ints; try go_simp) | (simp only [↓IntWalk.iteOmega]; try go_simp))
        exact hK
      simp only [Act.put, List.setIfInBounds_toArray, List.set_cons_zero, List.set_cons_succ]
    refine Walk.oneG (x := ?_) rfl (by as_aux_lemma => kernel_rfl) (fun w1 hI hL K hK => ?_) ?_
    rotate_left
    · obtain ⟨hc, hf⟩ := bcell hI
      go_simp
      repeat (first | (go_ints; try go_simp) | (simp only [↓IntWalk.iteOmega]; try go_simp))
      exact hK
    simp only [Act.put, List.setIfInBounds_toArray, List.set_cons_zero, List.set_cons_succ]
    refine Walk.oneG (x := ?_) rfl (by as_aux_lemma => kernel_rfl) (fun w1 hI hL K hK => ?_) ?_
    rotate_left
    · obtain ⟨hc, hf⟩ := bcell hI
      go_simp
      repeat (first | (go_ints; try go_simp) | (simp only [↓IntWalk.iteOmega]; try go_simp))
      exact hK
    simp only [Act.put, List.setIfInBounds_toArray, List.set_cons_zero, List.set_cons_succ]
    refine Walk.oneG (x := ?_) rfl (by as_aux_lemma => kernel_rfl) (fun w1 hI hL K hK => ?_) ?_
    rotate_left
    · obtain ⟨hc, hf⟩ := bcell hI
      go_simp
      repeat (first | (go_ints; try go_simp) | (simp only [↓IntWalk.iteOmega]; try go_simp))
      exact hK
    simp only [Act.put, List.setIfInBounds_toArray, List.set_cons_zero, List.set_cons_succ]
    refine Walk.tellG rfl (by as_aux_lemma => kernel_rfl) (fun w1 hI hL K hK => ?_) ?_
    · go_simp
      exact (nsum Z46 Z70 _ _ w1 ((hZ46).ext hI) ((hZ70).ext hI) (HP.out.ps.m) (HP.out.ps.le) (HP.out.s5)).mono (tell hK)
    rintro _ ⟨Z191, rfl⟩
    simp only [Act.put, List.setIfInBounds_toArray, List.set_cons_zero, List.set_cons_succ]
    refine Walk.tellG rfl (by as_aux_lemma => kernel_rfl) (fun w1 hI hL K hK => ?_) ?_
    · go_simp
      exact (nequal_t Z100 Z191 _ _ w1 ((hZ100).ext hI) ((Tl.getF (kn (i := 38) (v := .agg #[.bool Z191.N.b, .slice Z191.N.p Z191.N.n Z191.N.c, .bool Z191.D.b, .slice Z191.D.p Z191.D.n Z191.D.c]) rfl (by simp) (pred_of (by as_aux_lemma => kernel_rfl)) hL)).1) (HP.out.ps.sy) (HP.out.s5) (one_y _ _)).mono (tell hK)
    rintro _ rfl
    simp only [Act.put, List.setIfInBounds_toArray, List.set_cons_zero, List.set_cons_succ]
    refine Walk.one (x := ?_) rfl rfl (fun w1 hI hL K hK => ?_) ?_
    rotate_left
    · obtain ⟨hc, hf⟩ := bcell hI
      go_simp
      repeat (first | (go_ints; try go_simp) | (simp only [↓IntWalk.iteOmega]; try go_simp))
      exact hK
    simp only [Act.put, List.setIfInBounds_toArray, List.set_cons_zero, List.set_cons_succ]
    refine Walk.nilF fun w32 ew32 kzL kzX => ?_
    have zw32 := ew32.size
    clear kzL kzX
    simp only [List.drop_succ_cons, List.drop_zero, List.drop_nil]
    have xw_w32 := eg xw_w31 ew32
    go_wp2_with fail
    clear lb4_w31 b4_0_w31 b4_1_w31 b4_2_w31 b4_3_w31 lb5_w31 b5_0_w31 b5_1_w31 b5_2_w31 b5_3_w31 lb8_w31 b8_0_w31 b8_1_w31 b8_2_w31 b8_3_w31 lb9_w31 b9_0_w31 b9_1_w31 b9_2_w31 b9_3_w31 lb6_w31 b6_0_w31 b6_1_w31 b6_2_w31 b6_3_w31 lb7_w31 b7_0_w31 b7_1_w31 b7_2_w31 b7_3_w31 lb10_w31 b10_0_w31 b10_1_w31 b10_2_w31 b10_3_w31 lb11_w31 b11_0_w31 b11_1_w31 b11_2_w31 b11_3_w31
    refine bodyPost_ret (v := .bool true) (by simp [results, Tryz.results6, go_sem]) rfl ?_
    exact Gv.of_v xw_w32
end Go.Proofs.YtndgaecfeaedeaaGreat
