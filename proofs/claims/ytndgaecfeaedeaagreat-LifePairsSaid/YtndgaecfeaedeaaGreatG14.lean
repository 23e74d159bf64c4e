/- Walks of package frac: the negative, one, the same, whole numbers as fractions. -/
import Derived.Test.YtndgaecfeaedeaaGreatG13
namespace Go.Proofs.YtndgaecfeaedeaaGreat
set_option linter.unusedSimpArgs false
set_option linter.unusedVariables false
open Go.RowKit Lex Mth
attribute [local go_sem] run_indexAt_at add_zero_map Oper.semAt_some at_zero

theorem kSame_t (X Y : Wh) (x y : Int) (w : World) (hx : WR w X x) (hy : WR w Y y) (h : x = y) : Calls Tryz.prog 78 #[X.val, Y.val] w (Gv (.v (.bool true)) w) :=
  (Same_any _ _ _ _ _ _ _ _ _ _ w hx.u16.2 hy.u16.2).mono fun _ _ ⟨he, h3⟩ => by
    subst h he
    rw [show X.b = Y.b by rw [hx.neg, hy.neg]]
    simp
    exact Gv.of_v h3
theorem natAbs_dec {x y : Int} (h : x ≠ y) : ((decide (x < 0) == decide (y < 0)) && decide (limbs x.natAbs = limbs y.natAbs)) = false := by
  rw [Bool.eq_false_iff]
  intro e
  simp only [Bool.and_eq_true, beq_iff_eq, decide_eq_true_eq, decide_eq_decide] at e
  have := limbs_inj e.2
  omega
theorem kSame_f (X Y : Wh) (x y : Int) (w : World) (hx : WR w X x) (hy : WR w Y y) (h : x ≠ y) : Calls Tryz.prog 78 #[X.val, Y.val] w (Gv (.v (.bool false)) w) :=
  (Same_any _ _ _ _ _ _ _ _ _ _ w hx.u16.2 hy.u16.2).mono fun _ _ ⟨he, h3⟩ => by
    subst he
    rw [hx.neg, hy.neg, natAbs_dec h]
    exact Gv.of_v h3
theorem kFromInt (n : Int) (w : World) (h1 : -9223372036854775808 ≤ n) (h2 : n ≤ 9223372036854775807) : Calls Tryz.prog 79 #[.int .i64 n] w (Gv (.w n) w) :=
  (FromInt_any n w h1 h2).mono fun _ _ ⟨b, p, n, c, he, h1, h2, h3⟩ => by subst he; exact Gv.of_w (X := ⟨b, p, n, c⟩) h1 h2 h3
theorem kValid (X : Wh) (l : List Nat) (w : World) (h : UW w X l) {b : Bool} (hv : valW X.b l = b) : Calls Tryz.prog 126 #[X.val] w (Gv (.v (.bool b)) w) :=
  (Valid_any _ _ _ _ l w h).mono fun _ _ ⟨he, h3⟩ => by subst he hv; exact Gv.of_v h3
theorem kValidW (X : Wh) (x : Int) (w : World) (h : WR w X x) (b : siz x.natAbs ≤ 1024) : Calls Tryz.prog 126 #[X.val] w (Gv (.v (.bool true)) w) :=
  kValid X _ w h.u16.2 (by rw [h.neg]; exact valW_of b)
theorem kCmp (X Y : Wh) (x y : Int) (w : World) (hx : WR w X x) (hy : WR w Y y) (b : siz x.natAbs ≤ 1024) (b' : siz y.natAbs ≤ 1024) :
    Calls Tryz.prog 75 #[X.val, Y.val] w (Gv (.v (.int .i64 (cmpZ x y))) w) :=
  (Cmp_any _ _ _ _ _ _ _ _ x y w hx hy b b').mono fun _ _ ⟨he, h3⟩ => by subst he; exact Gv.of_v h3
theorem WR.of {w : World} {X : Wh} {l : List Nat} (h : UW w X l) (hv : valW X.b l = true) : WR w X (sgn X.b (val l)) := by
  unfold valW at hv
  simp only [Bool.and_eq_true, Bool.or_eq_true, decide_eq_true_eq, bne_iff_ne, ne_eq, Bool.not_eq_true'] at hv
  have hl : limbs (val l) = l := limbs_val h.lim (fun hne => by
    rcases hv.2 with h' | h'
    · exact absurd (List.eq_nil_of_length_eq_zero h'.1) hne
    · exact h'.2)
  refine WR.mk ?_ (by rw [sgn_natAbs, hl]; exact h)
  rw [sgn_neg]
  have : siz (val l) = l.length := by unfold siz; rw [hl]
  rw [this]
  rcases hv.2 with h' | h'
  · rw [h'.2]; rfl
  · simp [h'.1]
theorem neg_R {w : World} {X : Wh} {x : Int} {s : Bool} (h : U16 w X.p X.n X.c (limbs x.natAbs)) (hs : s = decide (-x < 0)) : WR w ⟨s, X.p, X.n, X.c⟩ (-x) := WR.mk hs (by rw [Int.natAbs_neg]; exact h)

set_option maxRecDepth 100000 in
theorem fneg_a (X : Wh) (x : Int) (w : World) (hX : WR w X x) (hb : X.b = true) :
    Calls Tryz.prog 131 #[.agg #[.bool true, .slice X.p X.n X.c]] w (Gv (.w (-x)) w) := by
  have HX : Hid (x < 0) := by have := hX.neg; rw [hb] at this; show x < 0; exact of_decide_eq_true this.symm
  clear hb
  have hEw : Ext w w := Below.refl _ _
  obtain ⟨w1, hww1⟩ : ∃ W, w.alloc (.cells #[.bool true, .slice X.p X.n X.c] 38) = W := ⟨_, rfl⟩
  have ew1 : Ext w w1 := by rw [← hww1]; exact ea _ _
  have B1 : Cells w1 (w.heap.size) 38 #[.bool true, .slice X.p X.n X.c] := by rw [← hww1]; exact Cells.newAt _ _ (by omega)
  replace hX := hX.ext ew1
  have zw1 := alloc_lt hww1
  have hEw1 := eg hEw ew1
  have lB1_w1 := B1.lt
  obtain ⟨w2, hww2⟩ : ∃ W, w1.alloc (.cells #[.bool false, .slice none 0 0] 38) = W := ⟨_, rfl⟩
  have ew2 : Ext w1 w2 := by rw [← hww2]; exact ea _ _
  have B2 : Cells w2 (w.heap.size + 1) 38 #[.bool false, .slice none 0 0] := by rw [← hww2]; exact Cells.newAt _ _ (by omega)
  replace hX := hX.ext ew2
  replace B1 := B1.ext ew2
  have zw2 := alloc_lt hww2
  have hEw2 := eg hEw1 ew2
  have b1_0_w2 := B1.cell (k := 0) rfl
  have b1_1_w2 := B1.cell (k := 1) rfl
  have lB1_w2 := B1.lt
  have lB2_w2 := B2.lt
  go_enter Tryz.func131, Tryz.ntmps131
  go_wp2_with fail
  clear hww1
  clear hww2
  clear lB1_w1
  have yw1 := Nat.le_of_eq zw1
  replace zw1 := Nat.le_of_eq zw1.symm
  have yw2 := Nat.le_of_eq zw2
  replace zw2 := Nat.le_of_eq zw2.symm
  refine regionT 13 (fun k => match k with | 11 => some (.c (limbs (x).natAbs)) | _ => none) (by kernel_rfl) (by kernel_rfl) ?_
  iterate 4
    refine Walk.one (x := ?_) rfl rfl (fun w1 hI hL K hK => ?_) ?_
    rotate_left
    · obtain ⟨hc, hf⟩ := bcell hI
      go_simp
      repeat (first | (go_ints; try go_simp) | (simp only [↓IntWalk.iteOmega]; try go_simp))
      exact hK
    simp only [Act.put, List.setIfInBounds_toArray, List.set_cons_zero, List.set_cons_succ]
  refine Walk.skip rfl (by kernel_rfl) ?_
  simp only [Act.put, List.setIfInBounds_toArray, List.set_cons_zero, List.set_cons_succ]
  refine Walk.skip rfl (by kernel_rfl) ?_
  simp only [Act.put, List.setIfInBounds_toArray, List.set_cons_zero, List.set_cons_succ]
  refine Walk.skip rfl (by kernel_rfl) ?_
  simp only [Act.put, List.setIfInBounds_toArray, List.set_cons_zero, List.set_cons_succ]
  refine Walk.skip rfl (by kernel_rfl) ?_
  simp only [Act.put, List.setIfInBounds_toArray, List.set_cons_zero, List.set_cons_succ]
  iterate 3
    refine Walk.one (x := ?_) rfl rfl (fun w1 hI hL K hK => ?_) ?_
    rotate_left
    · obtain ⟨hc, hf⟩ := bcell hI
      go_simp
      repeat (first | (go_ints; try go_simp) | (simp only [↓IntWalk.iteOmega]; try go_simp))
      exact hK
    simp only [Act.put, List.setIfInBounds_toArray, List.set_cons_zero, List.set_cons_succ]
  refine Walk.tell rfl rfl (fun w1 hI hL K hK => ?_) ?_
  · go_simp
    exact (kClone X _ w1 (((hX).ext hI).u16.2)).mono (tell hK)
  rintro _ ⟨Z14, rfl⟩
  simp only [Act.put, List.setIfInBounds_toArray, List.set_cons_zero, List.set_cons_succ]
  refine Walk.one (x := ?_) rfl rfl (fun w1 hI hL K hK => ?_) ?_
  rotate_left
  · obtain ⟨hc, hf⟩ := bcell hI
    go_simp
    repeat (first | (go_ints; try go_simp) | (simp only [↓IntWalk.iteOmega]; try go_simp))
    exact hK
  simp only [Act.put, List.setIfInBounds_toArray, List.set_cons_zero, List.set_cons_succ]
  refine Walk.nilF fun w3 ew3 kzL kzX => ?_
  replace hX := hX.ext ew3
  replace B1 := B1.ext ew3
  replace B2 := B2.ext ew3
  have hEw3 := eg hEw2 ew3
  have zw3 := ew3.size
  obtain ⟨hZ14, oZ14⟩ := Tl.getC (kz (i := 11) (v := .slice Z14.p Z14.n Z14.c) rfl (by simp) kzL)
  replace oZ14 := oZ14.mono hEw2.size
  clear kzL kzX
  have b2_0_w3 := B2.cell (k := 0) rfl
  have fb2_0_w3 := B2.frozen 0
  have b2_1_w3 := B2.cell (k := 1) rfl
  have fb2_1_w3 := B2.frozen 1
  have lB1_w3 := B1.lt
  have lB2_w3 := B2.lt
  simp only [List.drop_succ_cons, List.drop_zero, List.drop_nil]
  obtain ⟨w4, hww4⟩ : ∃ W, ((w3).setCell ⟨w.heap.size + 1, 0, none⟩ (.bool false)).setCell ⟨w.heap.size + 1, 1, none⟩ (.slice Z14.p Z14.n Z14.c) = W := ⟨_, rfl⟩
  have nuw4 : NoU #[.bool false, .slice none 0 0] := by simp [NoU]
  replace hX := WR.sets hX B2 nuw4 0 [.bool false, .slice Z14.p Z14.n Z14.c]
  replace hZ14 := UW.sets hZ14 B2 nuw4 0 [.bool false, .slice Z14.p Z14.n Z14.c]
  replace oZ14 := OW.sets oZ14 B2 (by decide) 0 [.bool false, .slice Z14.p Z14.n Z14.c]
  have hEw4 := Ext.sets hEw3 (b := w.heap.size + 1) (by omega) 0 [.bool false, .slice Z14.p Z14.n Z14.c]
  replace B1 := Cells.off B1 (b' := w.heap.size + 1) (by omega) 0 [.bool false, .slice Z14.p Z14.n Z14.c]
  replace B2 : Cells (sets w3 (w.heap.size + 1) 0 [.bool false, .slice Z14.p Z14.n Z14.c]) (w.heap.size + 1) 38 #[.bool false, .slice Z14.p Z14.n Z14.c] := Cells.sets [.bool false, .slice Z14.p Z14.n Z14.c] B2 0
  have zw4 := size_sets (w.heap.size + 1) [.bool false, .slice Z14.p Z14.n Z14.c] w3 0
  replace hww4 : sets w3 (w.heap.size + 1) 0 [.bool false, .slice Z14.p Z14.n Z14.c] = w4 := hww4
  rw [hww4] at hX hZ14 oZ14 B1 B2 hEw4 zw4
  replace hww4 : ((w3).setCell ⟨w.heap.size + 1, 0, none⟩ (.bool false)).setCell ⟨w.heap.size + 1, 1, none⟩ (.slice Z14.p Z14.n Z14.c) = w4 := hww4
  have b2_0_w4 := B2.cell (k := 0) rfl
  have b2_1_w4 := B2.cell (k := 1) rfl
  have lB1_w4 := B1.lt
  have lB2_w4 := B2.lt
  go_wp2_with fail
  clear hww4
  clear b1_0_w2 b1_1_w2 b2_0_w3 fb2_0_w3 b2_1_w3 fb2_1_w3 lB1_w2 lB2_w2 lB1_w3 lB2_w3
  have yw4 := Nat.le_of_eq zw4
  replace zw4 := Nat.le_of_eq zw4.symm
  refine bodyPost_ret (v := .agg #[.bool false, .slice Z14.p Z14.n Z14.c]) (by simp [results, Tryz.results131, go_sem, b2_0_w4, b2_1_w4]) rfl ?_
  exact Gv.of_w (X := ⟨false, Z14.p, Z14.n, Z14.c⟩) (neg_R hZ14 (by have := HX.out; simp; omega)) oZ14 hEw4

set_option maxRecDepth 100000 in
theorem fneg_b (X : Wh) (x : Int) (w : World) (hX : WR w X x) (hb : X.b = false) (h0 : X.n = 0) :
    Calls Tryz.prog 131 #[.agg #[.bool false, .slice X.p X.n X.c]] w (Gv (.w (-x)) w) := by
  have HX : Hid (x = 0) := by have := hX.n; rw [h0] at this; have := siz_eq_zero.1 this.symm; show x = 0; omega
  have h0d : decide (0 < (X.n : Int)) = false := by simp; omega
  have h0e : decide (0 < X.n) = false := by simp; omega
  clear hb h0
  have hEw : Ext w w := Below.refl _ _
  obtain ⟨w1, hww1⟩ : ∃ W, w.alloc (.cells #[.bool false, .slice X.p X.n X.c] 38) = W := ⟨_, rfl⟩
  have ew1 : Ext w w1 := by rw [← hww1]; exact ea _ _
  have B1 : Cells w1 (w.heap.size) 38 #[.bool false, .slice X.p X.n X.c] := by rw [← hww1]; exact Cells.newAt _ _ (by omega)
  replace hX := hX.ext ew1
  have zw1 := alloc_lt hww1
  have hEw1 := eg hEw ew1
  have lB1_w1 := B1.lt
  obtain ⟨w2, hww2⟩ : ∃ W, w1.alloc (.cells #[.bool false, .slice none 0 0] 38) = W := ⟨_, rfl⟩
  have ew2 : Ext w1 w2 := by rw [← hww2]; exact ea _ _
  have B2 : Cells w2 (w.heap.size + 1) 38 #[.bool false, .slice none 0 0] := by rw [← hww2]; exact Cells.newAt _ _ (by omega)
  replace hX := hX.ext ew2
  replace B1 := B1.ext ew2
  have zw2 := alloc_lt hww2
  have hEw2 := eg hEw1 ew2
  have b1_0_w2 := B1.cell (k := 0) rfl
  have b1_1_w2 := B1.cell (k := 1) rfl
  have lB1_w2 := B1.lt
  have lB2_w2 := B2.lt
  go_enter Tryz.func131, Tryz.ntmps131
  go_wp2_with fail
  clear hww1
  clear hww2
  clear lB1_w1
  have yw1 := Nat.le_of_eq zw1
  replace zw1 := Nat.le_of_eq zw1.symm
  have yw2 := Nat.le_of_eq zw2
  replace zw2 := Nat.le_of_eq zw2.symm
  refine regionT 13 (fun k => match k with | 11 => some (.c (limbs (x).natAbs)) | _ => none) (by kernel_rfl) (by kernel_rfl) ?_
  iterate 4
    refine Walk.one (x := ?_) rfl rfl (fun w1 hI hL K hK => ?_) ?_
    rotate_left
    · obtain ⟨hc, hf⟩ := bcell hI
      go_simp
      repeat (first | (go_ints; try go_simp) | (simp only [↓IntWalk.iteOmega]; try go_simp))
      exact hK
    simp only [Act.put, List.setIfInBounds_toArray, List.set_cons_zero, List.set_cons_succ]
  refine Walk.oneG (x := ?_) rfl (by as_aux_lemma => kernel_rfl) (fun w1 hI hL K hK => ?_) ?_
  rotate_left
  · obtain ⟨hc, hf⟩ := bcell hI
    go_simp
    repeat (first | (go_ints; try go_simp) | (simp only [↓IntWalk.iteOmega]; try go_simp))
    exact hK
  simp only [Act.put, List.setIfInBounds_toArray, List.set_cons_zero, List.set_cons_succ]
  refine Walk.oneG (x := ?_) rfl (by as_aux_lemma => kernel_rfl) (fun w1 hI hL K hK => ?_) ?_
  rotate_left
  · obtain ⟨hc, hf⟩ := bcell hI
    go_simp
    repeat (first | (go_ints; try go_simp) | (simp only [↓IntWalk.iteOmega]; try go_simp))
    exact hK
  simp only [Act.put, List.setIfInBounds_toArray, List.set_cons_zero, List.set_cons_succ]
  refine Walk.oneG (x := ?_) rfl (by as_aux_lemma => kernel_rfl) (fun w1 hI hL K hK => ?_) ?_
  rotate_left
  · obtain ⟨hc, hf⟩ := bcell hI
    go_simp
    repeat (first | (go_ints; try go_simp) | (simp only [↓IntWalk.iteOmega]; try go_simp))
    exact hK
  simp only [Act.put, List.setIfInBounds_toArray, List.set_cons_zero, List.set_cons_succ]
  refine Walk.oneG (x := ?_) rfl (by as_aux_lemma => kernel_rfl) (fun w1 hI hL K hK => ?_) ?_
  rotate_left
  · obtain ⟨hc, hf⟩ := bcell hI
    go_simp
    repeat (first | (go_ints; try go_simp) | (simp only [↓IntWalk.iteOmega]; try go_simp))
    exact hK
  simp only [Act.put, List.setIfInBounds_toArray, List.set_cons_zero, List.set_cons_succ]
  iterate 3
    refine Walk.one (x := ?_) rfl rfl (fun w1 hI hL K hK => ?_) ?_
    rotate_left
    · obtain ⟨hc, hf⟩ := bcell hI
      go_simp
      repeat (first | (go_ints; try go_simp) | (simp only [↓IntWalk.iteOmega]; try go_simp))
      exact hK
    simp only [Act.put, List.setIfInBounds_toArray, List.set_cons_zero, List.set_cons_succ]
  refine Walk.tell rfl rfl (fun w1 hI hL K hK => ?_) ?_
  · go_simp
    exact (kClone X _ w1 (((hX).ext hI).u16.2)).mono (tell hK)
  rintro _ ⟨Z14, rfl⟩
  simp only [Act.put, List.setIfInBounds_toArray, List.set_cons_zero, List.set_cons_succ]
  refine Walk.one (x := ?_) rfl rfl (fun w1 hI hL K hK => ?_) ?_
  rotate_left
  · obtain ⟨hc, hf⟩ := bcell hI
    go_simp
    repeat (first | (go_ints; try go_simp) | (simp only [↓IntWalk.iteOmega]; try go_simp))
    exact hK
  simp only [Act.put, List.setIfInBounds_toArray, List.set_cons_zero, List.set_cons_succ]
  refine Walk.nilF fun w3 ew3 kzL kzX => ?_
  replace hX := hX.ext ew3
  replace B1 := B1.ext ew3
  replace B2 := B2.ext ew3
  have hEw3 := eg hEw2 ew3
  have zw3 := ew3.size
  obtain ⟨hZ14, oZ14⟩ := Tl.getC (kz (i := 11) (v := .slice Z14.p Z14.n Z14.c) rfl (by simp) kzL)
  replace oZ14 := oZ14.mono hEw2.size
  clear kzL kzX
  have b2_0_w3 := B2.cell (k := 0) rfl
  have fb2_0_w3 := B2.frozen 0
  have b2_1_w3 := B2.cell (k := 1) rfl
  have fb2_1_w3 := B2.frozen 1
  have lB1_w3 := B1.lt
  have lB2_w3 := B2.lt
  simp only [List.drop_succ_cons, List.drop_zero, List.drop_nil]
  obtain ⟨w4, hww4⟩ : ∃ W, ((w3).setCell ⟨w.heap.size + 1, 0, none⟩ (.bool false)).setCell ⟨w.heap.size + 1, 1, none⟩ (.slice Z14.p Z14.n Z14.c) = W := ⟨_, rfl⟩
  have nuw4 : NoU #[.bool false, .slice none 0 0] := by simp [NoU]
  replace hX := WR.sets hX B2 nuw4 0 [.bool false, .slice Z14.p Z14.n Z14.c]
  replace hZ14 := UW.sets hZ14 B2 nuw4 0 [.bool false, .slice Z14.p Z14.n Z14.c]
  replace oZ14 := OW.sets oZ14 B2 (by decide) 0 [.bool false, .slice Z14.p Z14.n Z14.c]
  have hEw4 := Ext.sets hEw3 (b := w.heap.size + 1) (by omega) 0 [.bool false, .slice Z14.p Z14.n Z14.c]
  replace B1 := Cells.off B1 (b' := w.heap.size + 1) (by omega) 0 [.bool false, .slice Z14.p Z14.n Z14.c]
  replace B2 : Cells (sets w3 (w.heap.size + 1) 0 [.bool false, .slice Z14.p Z14.n Z14.c]) (w.heap.size + 1) 38 #[.bool false, .slice Z14.p Z14.n Z14.c] := Cells.sets [.bool false, .slice Z14.p Z14.n Z14.c] B2 0
  have zw4 := size_sets (w.heap.size + 1) [.bool false, .slice Z14.p Z14.n Z14.c] w3 0
  replace hww4 : sets w3 (w.heap.size + 1) 0 [.bool false, .slice Z14.p Z14.n Z14.c] = w4 := hww4
  rw [hww4] at hX hZ14 oZ14 B1 B2 hEw4 zw4
  replace hww4 : ((w3).setCell ⟨w.heap.size + 1, 0, none⟩ (.bool false)).setCell ⟨w.heap.size + 1, 1, none⟩ (.slice Z14.p Z14.n Z14.c) = w4 := hww4
  have b2_0_w4 := B2.cell (k := 0) rfl
  have b2_1_w4 := B2.cell (k := 1) rfl
  have lB1_w4 := B1.lt
  have lB2_w4 := B2.lt
  go_wp2_with fail
  clear hww4
  clear b1_0_w2 b1_1_w2 b2_0_w3 fb2_0_w3 b2_1_w3 fb2_1_w3 lB1_w2 lB2_w2 lB1_w3 lB2_w3
  have yw4 := Nat.le_of_eq zw4
  replace zw4 := Nat.le_of_eq zw4.symm
  refine bodyPost_ret (v := .agg #[.bool false, .slice Z14.p Z14.n Z14.c]) (by simp [results, Tryz.results131, go_sem, b2_0_w4, b2_1_w4]) rfl ?_
  exact Gv.of_w (X := ⟨false, Z14.p, Z14.n, Z14.c⟩) (neg_R hZ14 (by have := HX.out; simp; omega)) oZ14 hEw4

set_option maxRecDepth 100000 in
theorem fneg_c (X : Wh) (x : Int) (w : World) (hX : WR w X x) (hb : X.b = false) (h0 : 0 < X.n) :
    Calls Tryz.prog 131 #[.agg #[.bool false, .slice X.p X.n X.c]] w (Gv (.w (-x)) w) := by
  have HX : Hid (0 < x) := by
    have h1 := hX.neg
    rw [hb] at h1
    have h2 : x ≠ 0 := fun e => by subst e; have := hX.n; simp [siz_zero] at this; omega
    have h3 : ¬ x < 0 := of_decide_eq_false h1.symm
    show 0 < x; omega
  have h0d : decide (0 < (X.n : Int)) = true := by simp; omega
  have h0e : decide (0 < X.n) = true := by simp; omega
  clear hb h0
  have hEw : Ext w w := Below.refl _ _
  obtain ⟨w1, hww1⟩ : ∃ W, w.alloc (.cells #[.bool false, .slice X.p X.n X.c] 38) = W := ⟨_, rfl⟩
  have ew1 : Ext w w1 := by rw [← hww1]; exact ea _ _
  have B1 : Cells w1 (w.heap.size) 38 #[.bool false, .slice X.p X.n X.c] := by rw [← hww1]; exact Cells.newAt _ _ (by omega)
  replace hX := hX.ext ew1
  have zw1 := alloc_lt hww1
  have hEw1 := eg hEw ew1
  have lB1_w1 := B1.lt
  obtain ⟨w2, hww2⟩ : ∃ W, w1.alloc (.cells #[.bool false, .slice none 0 0] 38) = W := ⟨_, rfl⟩
  have ew2 : Ext w1 w2 := by rw [← hww2]; exact ea _ _
  have B2 : Cells w2 (w.heap.size + 1) 38 #[.bool false, .slice none 0 0] := by rw [← hww2]; exact Cells.newAt _ _ (by omega)
  replace hX := hX.ext ew2
  replace B1 := B1.ext ew2
  have zw2 := alloc_lt hww2
  have hEw2 := eg hEw1 ew2
  have b1_0_w2 := B1.cell (k := 0) rfl
  have b1_1_w2 := B1.cell (k := 1) rfl
  have lB1_w2 := B1.lt
  have lB2_w2 := B2.lt
  go_enter Tryz.func131, Tryz.ntmps131
  go_wp2_with fail
  clear hww1
  clear hww2
  clear lB1_w1
  have yw1 := Nat.le_of_eq zw1
  replace zw1 := Nat.le_of_eq zw1.symm
  have yw2 := Nat.le_of_eq zw2
  replace zw2 := Nat.le_of_eq zw2.symm
  refine regionT 13 (fun k => match k with | 11 => some (.c (limbs (x).natAbs)) | _ => none) (by kernel_rfl) (by kernel_rfl) ?_
  iterate 4
    refine Walk.one (x := ?_) rfl rfl (fun w1 hI hL K hK => ?_) ?_
    rotate_left
    · obtain ⟨hc, hf⟩ := bcell hI
      go_simp
      repeat (first | (go_ints; try go_simp) | (simp only [↓IntWalk.iteOmega]; try go_simp))
      exact hK
    simp only [Act.put, List.setIfInBounds_toArray, List.set_cons_zero, List.set_cons_succ]
  refine Walk.oneG (x := ?_) rfl (by as_aux_lemma => kernel_rfl) (fun w1 hI hL K hK => ?_) ?_
  rotate_left
  · obtain ⟨hc, hf⟩ := bcell hI
    go_simp
    repeat (first | (go_ints; try go_simp) | (simp only [↓IntWalk.iteOmega]; try go_simp))
    exact hK
  simp only [Act.put, List.setIfInBounds_toArray, List.set_cons_zero, List.set_cons_succ]
  refine Walk.oneG (x := ?_) rfl (by as_aux_lemma => kernel_rfl) (fun w1 hI hL K hK => ?_) ?_
  rotate_left
  · obtain ⟨hc, hf⟩ := bcell hI
    go_simp
    repeat (first | (go_ints; try go_simp) | (simp only [↓IntWalk.iteOmega]; try go_simp))
    exact hK
  simp only [Act.put, List.setIfInBounds_toArray, List.set_cons_zero, List.set_cons_succ]
  refine Walk.oneG (x := ?_) rfl (by as_aux_lemma => kernel_rfl) (fun w1 hI hL K hK => ?_) ?_
  rotate_left
  · obtain ⟨hc, hf⟩ := bcell hI
    go_simp
    repeat (first | (go_ints; try go_simp) | (simp only [↓IntWalk.iteOmega]; try go_simp))
    exact hK
  simp only [Act.put, List.setIfInBounds_toArray, List.set_cons_zero, List.set_cons_succ]
  refine Walk.oneG (x := ?_) rfl (by as_aux_lemma => kernel_rfl) (fun w1 hI hL K hK => ?_) ?_
  rotate_left
  · obtain ⟨hc, hf⟩ := bcell hI
    go_simp
    repeat (first | (go_ints; try go_simp) | (simp only [↓IntWalk.iteOmega]; try go_simp))
    exact hK
  simp only [Act.put, List.setIfInBounds_toArray, List.set_cons_zero, List.set_cons_succ]
  iterate 3
    refine Walk.one (x := ?_) rfl rfl (fun w1 hI hL K hK => ?_) ?_
    rotate_left
    · obtain ⟨hc, hf⟩ := bcell hI
      go_simp
      repeat (first | (go_ints; try go_simp) | (simp only [↓IntWalk.iteOmega]; try go_simp))
      exact hK
    simp only [Act.put, List.setIfInBounds_toArray, List.set_cons_zero, List.set_cons_succ]
  refine Walk.tell rfl rfl (fun w1 hI hL K hK => ?_) ?_
  · go_simp
    exact (kClone X _ w1 (((hX).ext hI).u16.2)).mono (tell hK)
  rintro _ ⟨Z14, rfl⟩
  simp only [Act.put, List.setIfInBounds_toArray, List.set_cons_zero, List.set_cons_succ]
  refine Walk.one (x := ?_) rfl rfl (fun w1 hI hL K hK => ?_) ?_
  rotate_left
  · obtain ⟨hc, hf⟩ := bcell hI
    go_simp
    repeat (first | (go_ints; try go_simp) | (simp only [↓IntWalk.iteOmega]; try go_simp))
    exact hK
  simp only [Act.put, List.setIfInBounds_toArray, List.set_cons_zero, List.set_cons_succ]
  refine Walk.nilF fun w3 ew3 kzL kzX => ?_
  replace hX := hX.ext ew3
  replace B1 := B1.ext ew3
  replace B2 := B2.ext ew3
  have hEw3 := eg hEw2 ew3
  have zw3 := ew3.size
  obtain ⟨hZ14, oZ14⟩ := Tl.getC (kz (i := 11) (v := .slice Z14.p Z14.n Z14.c) rfl (by simp) kzL)
  replace oZ14 := oZ14.mono hEw2.size
  clear kzL kzX
  have b2_0_w3 := B2.cell (k := 0) rfl
  have fb2_0_w3 := B2.frozen 0
  have b2_1_w3 := B2.cell (k := 1) rfl
  have fb2_1_w3 := B2.frozen 1
  have lB1_w3 := B1.lt
  have lB2_w3 := B2.lt
  simp only [List.drop_succ_cons, List.drop_zero, List.drop_nil]
  obtain ⟨w4, hww4⟩ : ∃ W, ((w3).setCell ⟨w.heap.size + 1, 0, none⟩ (.bool true)).setCell ⟨w.heap.size + 1, 1, none⟩ (.slice Z14.p Z14.n Z14.c) = W := ⟨_, rfl⟩
  have nuw4 : NoU #[.bool false, .slice none 0 0] := by simp [NoU]
  replace hX := WR.sets hX B2 nuw4 0 [.bool true, .slice Z14.p Z14.n Z14.c]
  replace hZ14 := UW.sets hZ14 B2 nuw4 0 [.bool true, .slice Z14.p Z14.n Z14.c]
  replace oZ14 := OW.sets oZ14 B2 (by decide) 0 [.bool true, .slice Z14.p Z14.n Z14.c]
  have hEw4 := Ext.sets hEw3 (b := w.heap.size + 1) (by omega) 0 [.bool true, .slice Z14.p Z14.n Z14.c]
  replace B1 := Cells.off B1 (b' := w.heap.size + 1) (by omega) 0 [.bool true, .slice Z14.p Z14.n Z14.c]
  replace B2 : Cells (sets w3 (w.heap.size + 1) 0 [.bool true, .slice Z14.p Z14.n Z14.c]) (w.heap.size + 1) 38 #[.bool true, .slice Z14.p Z14.n Z14.c] := Cells.sets [.bool true, .slice Z14.p Z14.n Z14.c] B2 0
  have zw4 := size_sets (w.heap.size + 1) [.bool true, .slice Z14.p Z14.n Z14.c] w3 0
  replace hww4 : sets w3 (w.heap.size + 1) 0 [.bool true, .slice Z14.p Z14.n Z14.c] = w4 := hww4
  rw [hww4] at hX hZ14 oZ14 B1 B2 hEw4 zw4
  replace hww4 : ((w3).setCell ⟨w.heap.size + 1, 0, none⟩ (.bool true)).setCell ⟨w.heap.size + 1, 1, none⟩ (.slice Z14.p Z14.n Z14.c) = w4 := hww4
  have b2_0_w4 := B2.cell (k := 0) rfl
  have b2_1_w4 := B2.cell (k := 1) rfl
  have lB1_w4 := B1.lt
  have lB2_w4 := B2.lt
  go_wp2_with fail
  clear hww4
  clear b1_0_w2 b1_1_w2 b2_0_w3 fb2_0_w3 b2_1_w3 fb2_1_w3 lB1_w2 lB2_w2 lB1_w3 lB2_w3
  have yw4 := Nat.le_of_eq zw4
  replace zw4 := Nat.le_of_eq zw4.symm
  refine bodyPost_ret (v := .agg #[.bool true, .slice Z14.p Z14.n Z14.c]) (by simp [results, Tryz.results131, go_sem, b2_0_w4, b2_1_w4]) rfl ?_
  exact Gv.of_w (X := ⟨true, Z14.p, Z14.n, Z14.c⟩) (neg_R hZ14 (by have := HX.out; simp; omega)) oZ14 hEw4

theorem fneg (X : Wh) (x : Int) (w : World) (hX : WR w X x) : Calls Tryz.prog 131 #[.agg #[.bool X.b, .slice X.p X.n X.c]] w (Gv (.w (-x)) w) := by
  cases hb : X.b
  · rcases Nat.eq_zero_or_pos X.n with h0 | h0
    · have := fneg_b X x w hX hb h0; exact this
    · have := fneg_c X x w hX hb h0; exact this
  · have := fneg_a X x w hX hb; exact this

set_option maxRecDepth 100000 in
theorem fone_a (X : Wh) (x : Int) (w : World) (hX : WR w X x) (hb : X.b = true) :
    Calls Tryz.prog 127 #[.agg #[.bool true, .slice X.p X.n X.c]] w (Gv (.v (.bool false)) w) := by
  clear hb
  have hEw : Ext w w := Below.refl _ _
  obtain ⟨w1, hww1⟩ : ∃ W, w.alloc (.cells #[.bool true, .slice X.p X.n X.c] 38) = W := ⟨_, rfl⟩
  have ew1 : Ext w w1 := by rw [← hww1]; exact ea _ _
  have B1 : Cells w1 (w.heap.size) 38 #[.bool true, .slice X.p X.n X.c] := by rw [← hww1]; exact Cells.newAt _ _ (by omega)
  replace hX := hX.ext ew1
  have zw1 := alloc_lt hww1
  have hEw1 := eg hEw ew1
  have b1_0_w1 := B1.cell (k := 0) rfl
  have lB1_w1 := B1.lt
  go_enter Tryz.func127, Tryz.ntmps127
  go_wp2_with fail
  clear hww1
  have yw1 := Nat.le_of_eq zw1
  replace zw1 := Nat.le_of_eq zw1.symm
  refine bodyPost_ret (v := .bool false) (by simp [results, Tryz.results127, go_sem]) rfl ?_
  exact Gv.of_v hEw1

set_option maxRecDepth 100000 in
theorem fone_b (X : Wh) (x : Int) (w : World) (hX : WR w X x) (hb : X.b = false) (h0 : X.n ≠ 1) :
    Calls Tryz.prog 127 #[.agg #[.bool false, .slice X.p X.n X.c]] w (Gv (.v (.bool false)) w) := by
  have h0d : ((X.n : Int) == 1) = false := by simp; omega
  clear hb h0
  have hEw : Ext w w := Below.refl _ _
  obtain ⟨w1, hww1⟩ : ∃ W, w.alloc (.cells #[.bool false, .slice X.p X.n X.c] 38) = W := ⟨_, rfl⟩
  have ew1 : Ext w w1 := by rw [← hww1]; exact ea _ _
  have B1 : Cells w1 (w.heap.size) 38 #[.bool false, .slice X.p X.n X.c] := by rw [← hww1]; exact Cells.newAt _ _ (by omega)
  replace hX := hX.ext ew1
  have zw1 := alloc_lt hww1
  have hEw1 := eg hEw ew1
  have b1_0_w1 := B1.cell (k := 0) rfl
  have b1_1_w1 := B1.cell (k := 1) rfl
  have lB1_w1 := B1.lt
  go_enter Tryz.func127, Tryz.ntmps127
  go_wp2_with fail
  clear hww1
  have yw1 := Nat.le_of_eq zw1
  replace zw1 := Nat.le_of_eq zw1.symm
  refine bodyPost_ret (v := .bool false) (by simp [results, Tryz.results127, go_sem]) rfl ?_
  exact Gv.of_v hEw1

set_option maxRecDepth 100000 in
theorem fone_c (X : Wh) (x : Int) (w : World) (hX : WR w X x) (hb : X.b = false) (h0 : X.n = 1) (hd : x = 1) :
    Calls Tryz.prog 127 #[.agg #[.bool false, .slice X.p X.n X.c]] w (Gv (.v (.bool true)) w) := by
  obtain ⟨u, hu⟩ : ∃ u, u = dig (limbs x.natAbs) 0 := ⟨_, rfl⟩
  have hx0 : dig (limbs x.natAbs) 0 = x.natAbs := by
    have h1 := hX.n
    have h2 : x.natAbs ≠ 0 := fun e => by rw [e, siz_zero] at h1; omega
    have h3 := siz_one.1 (Nat.le_of_eq (h1.symm.trans h0))
    rw [limbs_pos h2]; simp [dig]; omega
  have hpos : ¬ x < 0 := by have := hX.neg; rw [hb] at this; exact of_decide_eq_false this.symm
  have hud : (((u : Nat) : Int) == 1) = true := by rw [hu, hx0]; simp; omega
  have hcell : ∀ w1 : World, Ext w w1 → w1.cell? (at_ X.p 0) = some (.int .u16 (u : Nat)) := fun w1 e => by rw [hu]; exact (hX.ext e).u16.2.cell 0 (by omega)
  have hh := hX.u16.2.has
  have h0d : ((X.n : Int) == 1) = true := by simp; omega
  have h0p : 0 < X.n := by omega
  have Hc := Lib.hid hcell
  clear hcell hu hx0 hpos hd h0 hb
  have hEw : Ext w w := Below.refl _ _
  obtain ⟨w1, hww1⟩ : ∃ W, w.alloc (.cells #[.bool false, .slice X.p X.n X.c] 38) = W := ⟨_, rfl⟩
  have ew1 : Ext w w1 := by rw [← hww1]; exact ea _ _
  have B1 : Cells w1 (w.heap.size) 38 #[.bool false, .slice X.p X.n X.c] := by rw [← hww1]; exact Cells.newAt _ _ (by omega)
  replace hX := hX.ext ew1
  have zw1 := alloc_lt hww1
  have hEw1 := eg hEw ew1
  have b1_0_w1 := B1.cell (k := 0) rfl
  have b1_1_w1 := B1.cell (k := 1) rfl
  have lB1_w1 := B1.lt
  have c0 := Hc.out _ hEw1
  go_enter Tryz.func127, Tryz.ntmps127
  go_wp2_with fail
  clear hww1
  have yw1 := Nat.le_of_eq zw1
  replace zw1 := Nat.le_of_eq zw1.symm
  refine bodyPost_ret (v := .bool true) (by simp [results, Tryz.results127, go_sem]) rfl ?_
  exact Gv.of_v hEw1

set_option maxRecDepth 100000 in
theorem fone_d (X : Wh) (x : Int) (w : World) (hX : WR w X x) (hb : X.b = false) (h0 : X.n = 1) (hd : x ≠ 1) :
    Calls Tryz.prog 127 #[.agg #[.bool false, .slice X.p X.n X.c]] w (Gv (.v (.bool false)) w) := by
  obtain ⟨u, hu⟩ : ∃ u, u = dig (limbs x.natAbs) 0 := ⟨_, rfl⟩
  have hx0 : dig (limbs x.natAbs) 0 = x.natAbs := by
    have h1 := hX.n
    have h2 : x.natAbs ≠ 0 := fun e => by rw [e, siz_zero] at h1; omega
    have h3 := siz_one.1 (Nat.le_of_eq (h1.symm.trans h0))
    rw [limbs_pos h2]; simp [dig]; omega
  have hpos : ¬ x < 0 := by have := hX.neg; rw [hb] at this; exact of_decide_eq_false this.symm
  have hud : (((u : Nat) : Int) == 1) = false := by rw [hu, hx0]; simp; omega
  have hcell : ∀ w1 : World, Ext w w1 → w1.cell? (at_ X.p 0) = some (.int .u16 (u : Nat)) := fun w1 e => by rw [hu]; exact (hX.ext e).u16.2.cell 0 (by omega)
  have hh := hX.u16.2.has
  have h0d : ((X.n : Int) == 1) = true := by simp; omega
  have h0p : 0 < X.n := by omega
  have Hc := Lib.hid hcell
  clear hcell hu hx0 hpos hd h0 hb
  have hEw : Ext w w := Below.refl _ _
  obtain ⟨w1, hww1⟩ : ∃ W, w.alloc (.cells #[.bool false, .slice X.p X.n X.c] 38) = W := ⟨_, rfl⟩
  have ew1 : Ext w w1 := by rw [← hww1]; exact ea _ _
  have B1 : Cells w1 (w.heap.size) 38 #[.bool false, .slice X.p X.n X.c] := by rw [← hww1]; exact Cells.newAt _ _ (by omega)
  replace hX := hX.ext ew1
  have zw1 := alloc_lt hww1
  have hEw1 := eg hEw ew1
  have b1_0_w1 := B1.cell (k := 0) rfl
  have b1_1_w1 := B1.cell (k := 1) rfl
  have lB1_w1 := B1.lt
  have c0 := Hc.out _ hEw1
  go_enter Tryz.func127, Tryz.ntmps127
  go_wp2_with fail
  clear hww1
  have yw1 := Nat.le_of_eq zw1
  replace zw1 := Nat.le_of_eq zw1.symm
  refine bodyPost_ret (v := .bool false) (by simp [results, Tryz.results127, go_sem]) rfl ?_
  exact Gv.of_v hEw1

theorem fisOne (X : Wh) (x : Int) (w : World) (hX : WR w X x) : Calls Tryz.prog 127 #[.agg #[.bool X.b, .slice X.p X.n X.c]] w (Gv (.v (.bool (decide (x = 1)))) w) := by
  cases hb : X.b
  · by_cases h0 : X.n = 1
    · by_cases hd : x = 1
      · have := fone_c X x w hX hb h0 hd; simpa only [hd, decide_true] using this
      · have := fone_d X x w hX hb h0 hd; simpa only [hd, decide_false] using this
    · have hd : x ≠ 1 := fun e => h0 (by rw [hX.n, e]; simp [siz, limbs])
      have := fone_b X x w hX hb h0; simpa only [hd, decide_false] using this
  · have hd : x ≠ 1 := fun e => by have := hX.neg; rw [hb, e] at this; simp at this
    have := fone_a X x w hX hb; simpa only [hd, decide_false] using this

set_option maxRecDepth 100000 in
theorem fSame_t (X : Fr) (Y : Fr) (a : Int) (b : Int) (c : Int) (d : Int) (w : World) (hX : PR w X a b) (hY : PR w Y c d) (h1 : a = c) (h2 : b = d) :
    Calls Tryz.prog 39 #[.agg #[.bool X.N.b, .slice X.N.p X.N.n X.N.c, .bool X.D.b, .slice X.D.p X.D.n X.D.c], .agg #[.bool Y.N.b, .slice Y.N.p Y.N.n Y.N.c, .bool Y.D.b, .slice Y.D.p Y.D.n Y.D.c]] w (Gv (.v (.bool true)) w) := by
  have H1 := Lib.hid h1
  have H2 := Lib.hid h2
  clear h1 h2
  have hEw : Ext w w := Below.refl _ _
  obtain ⟨w1, hww1⟩ : ∃ W, w.alloc (.cells #[.bool X.N.b, .slice X.N.p X.N.n X.N.c, .bool X.D.b, .slice X.D.p X.D.n X.D.c] 40) = W := ⟨_, rfl⟩
  have ew1 : Ext w w1 := by rw [← hww1]; exact ea _ _
  have B1 : Cells w1 (w.heap.size) 40 #[.bool X.N.b, .slice X.N.p X.N.n X.N.c, .bool X.D.b, .slice X.D.p X.D.n X.D.c] := by rw [← hww1]; exact Cells.newAt _ _ (by omega)
  replace hX := hX.ext ew1
  replace hY := hY.ext ew1
  have zw1 := alloc_lt hww1
  have hEw1 := eg hEw ew1
  have lB1_w1 := B1.lt
  obtain ⟨w2, hww2⟩ : ∃ W, w1.alloc (.cells #[.bool Y.N.b, .slice Y.N.p Y.N.n Y.N.c, .bool Y.D.b, .slice Y.D.p Y.D.n Y.D.c] 40) = W := ⟨_, rfl⟩
  have ew2 : Ext w1 w2 := by rw [← hww2]; exact ea _ _
  have B2 : Cells w2 (w.heap.size + 1) 40 #[.bool Y.N.b, .slice Y.N.p Y.N.n Y.N.c, .bool Y.D.b, .slice Y.D.p Y.D.n Y.D.c] := by rw [← hww2]; exact Cells.newAt _ _ (by omega)
  replace hX := hX.ext ew2
  replace hY := hY.ext ew2
  replace B1 := B1.ext ew2
  have zw2 := alloc_lt hww2
  have hEw2 := eg hEw1 ew2
  have b1_0_w2 := B1.cell (k := 0) rfl
  have b1_1_w2 := B1.cell (k := 1) rfl
  have b2_0_w2 := B2.cell (k := 0) rfl
  have b2_1_w2 := B2.cell (k := 1) rfl
  have lB1_w2 := B1.lt
  have lB2_w2 := B2.lt
  go_enter Tryz.func39, Tryz.ntmps39
  go_wp2_with fail
  clear hww1
  clear hww2
  clear lB1_w1
  have yw1 := Nat.le_of_eq zw1
  replace zw1 := Nat.le_of_eq zw1.symm
  have yw2 := Nat.le_of_eq zw2
  replace zw2 := Nat.le_of_eq zw2.symm
  refine (kSame_t X.N Y.N _ _ _ (hX.1) (hY.1) (H1.out)).mono ?_
  intro ee w3 gg
  obtain ⟨rfl, ew3⟩ := Gv.v gg
  replace hX := hX.ext ew3
  replace hY := hY.ext ew3
  replace B1 := B1.ext ew3
  replace B2 := B2.ext ew3
  have hEw3 := eg hEw2 ew3
  have zw3 := ew3.size
  have b1_2_w3 := B1.cell (k := 2) rfl
  have b1_3_w3 := B1.cell (k := 3) rfl
  have b2_2_w3 := B2.cell (k := 2) rfl
  have b2_3_w3 := B2.cell (k := 3) rfl
  have lB1_w3 := B1.lt
  have lB2_w3 := B2.lt
  go_wp2_with fail
  clear b1_0_w2 b1_1_w2 b2_0_w2 b2_1_w2 lB1_w2 lB2_w2
  refine (kSame_t X.D Y.D _ _ _ (hX.2) (hY.2) (H2.out)).mono ?_
  intro ee w4 gg
  obtain ⟨rfl, ew4⟩ := Gv.v gg
  replace hX := hX.ext ew4
  replace hY := hY.ext ew4
  replace B1 := B1.ext ew4
  replace B2 := B2.ext ew4
  have hEw4 := eg hEw3 ew4
  have zw4 := ew4.size
  have lB1_w4 := B1.lt
  have lB2_w4 := B2.lt
  go_wp2_with fail
  clear b1_2_w3 b1_3_w3 b2_2_w3 b2_3_w3 lB1_w3 lB2_w3
  refine bodyPost_ret (v := .bool true) (by simp [results, Tryz.results39, go_sem]) rfl ?_
  exact Gv.of_v hEw4

set_option maxRecDepth 100000 in
theorem fSame_n (X : Fr) (Y : Fr) (a : Int) (b : Int) (c : Int) (d : Int) (w : World) (hX : PR w X a b) (hY : PR w Y c d) (h1 : a ≠ c) :
    Calls Tryz.prog 39 #[.agg #[.bool X.N.b, .slice X.N.p X.N.n X.N.c, .bool X.D.b, .slice X.D.p X.D.n X.D.c], .agg #[.bool Y.N.b, .slice Y.N.p Y.N.n Y.N.c, .bool Y.D.b, .slice Y.D.p Y.D.n Y.D.c]] w (Gv (.v (.bool false)) w) := by
  have H1 := Lib.hid h1
  clear h1
  have hEw : Ext w w := Below.refl _ _
  obtain ⟨w1, hww1⟩ : ∃ W, w.alloc (.cells #[.bool X.N.b, .slice X.N.p X.N.n X.N.c, .bool X.D.b, .slice X.D.p X.D.n X.D.c] 40) = W := ⟨_, rfl⟩
  have ew1 : Ext w w1 := by rw [← hww1]; exact ea _ _
  have B1 : Cells w1 (w.heap.size) 40 #[.bool X.N.b, .slice X.N.p X.N.n X.N.c, .bool X.D.b, .slice X.D.p X.D.n X.D.c] := by rw [← hww1]; exact Cells.newAt _ _ (by omega)
  replace hX := hX.ext ew1
  replace hY := hY.ext ew1
  have zw1 := alloc_lt hww1
  have hEw1 := eg hEw ew1
  have lB1_w1 := B1.lt
  obtain ⟨w2, hww2⟩ : ∃ W, w1.alloc (.cells #[.bool Y.N.b, .slice Y.N.p Y.N.n Y.N.c, .bool Y.D.b, .slice Y.D.p Y.D.n Y.D.c] 40) = W := ⟨_, rfl⟩
  have ew2 : Ext w1 w2 := by rw [← hww2]; exact ea _ _
  have B2 : Cells w2 (w.heap.size + 1) 40 #[.bool Y.N.b, .slice Y.N.p Y.N.n Y.N.c, .bool Y.D.b, .slice Y.D.p Y.D.n Y.D.c] := by rw [← hww2]; exact Cells.newAt _ _ (by omega)
  replace hX := hX.ext ew2
  replace hY := hY.ext ew2
  replace B1 := B1.ext ew2
  have zw2 := alloc_lt hww2
  have hEw2 := eg hEw1 ew2
  have b1_0_w2 := B1.cell (k := 0) rfl
  have b1_1_w2 := B1.cell (k := 1) rfl
  have b2_0_w2 := B2.cell (k := 0) rfl
  have b2_1_w2 := B2.cell (k := 1) rfl
  have lB1_w2 := B1.lt
  have lB2_w2 := B2.lt
  go_enter Tryz.func39, Tryz.ntmps39
  go_wp2_with fail
  clear hww1
  clear hww2
  clear lB1_w1
  have yw1 := Nat.le_of_eq zw1
  replace zw1 := Nat.le_of_eq zw1.symm
  have yw2 := Nat.le_of_eq zw2
  replace zw2 := Nat.le_of_eq zw2.symm
  refine (kSame_f X.N Y.N _ _ _ (hX.1) (hY.1) (H1.out)).mono ?_
  intro ee w3 gg
  obtain ⟨rfl, ew3⟩ := Gv.v gg
  replace hX := hX.ext ew3
  replace hY := hY.ext ew3
  replace B1 := B1.ext ew3
  replace B2 := B2.ext ew3
  have hEw3 := eg hEw2 ew3
  have zw3 := ew3.size
  have lB1_w3 := B1.lt
  have lB2_w3 := B2.lt
  go_wp2_with fail
  clear b1_0_w2 b1_1_w2 b2_0_w2 b2_1_w2 lB1_w2 lB2_w2
  refine bodyPost_ret (v := .bool false) (by simp [results, Tryz.results39, go_sem]) rfl ?_
  exact Gv.of_v hEw3

set_option maxRecDepth 100000 in
theorem fSame_d (X : Fr) (Y : Fr) (a : Int) (b : Int) (c : Int) (d : Int) (w : World) (hX : PR w X a b) (hY : PR w Y c d) (h1 : a = c) (h2 : b ≠ d) :
    Calls Tryz.prog 39 #[.agg #[.bool X.N.b, .slice X.N.p X.N.n X.N.c, .bool X.D.b, .slice X.D.p X.D.n X.D.c], .agg #[.bool Y.N.b, .slice Y.N.p Y.N.n Y.N.c, .bool Y.D.b, .slice Y.D.p Y.D.n Y.D.c]] w (Gv (.v (.bool false)) w) := by
  have H1 := Lib.hid h1
  have H2 := Lib.hid h2
  clear h1 h2
  have hEw : Ext w w := Below.refl _ _
  obtain ⟨w1, hww1⟩ : ∃ W, w.alloc (.cells #[.bool X.N.b, .slice X.N.p X.N.n X.N.c, .bool X.D.b, .slice X.D.p X.D.n X.D.c] 40) = W := ⟨_, rfl⟩
  have ew1 : Ext w w1 := by rw [← hww1]; exact ea _ _
  have B1 : Cells w1 (w.heap.size) 40 #[.bool X.N.b, .slice X.N.p X.N.n X.N.c, .bool X.D.b, .slice X.D.p X.D.n X.D.c] := by rw [← hww1]; exact Cells.newAt _ _ (by omega)
  replace hX := hX.ext ew1
  replace hY := hY.ext ew1
  have zw1 := alloc_lt hww1
  have hEw1 := eg hEw ew1
  have lB1_w1 := B1.lt
  obtain ⟨w2, hww2⟩ : ∃ W, w1.alloc (.cells #[.bool Y.N.b, .slice Y.N.p Y.N.n Y.N.c, .bool Y.D.b, .slice Y.D.p Y.D.n Y.D.c] 40) = W := ⟨_, rfl⟩
  have ew2 : Ext w1 w2 := by rw [← hww2]; exact ea _ _
  have B2 : Cells w2 (w.heap.size + 1) 40 #[.bool Y.N.b, .slice Y.N.p Y.N.n Y.N.c, .bool Y.D.b, .slice Y.D.p Y.D.n Y.D.c] := by rw [← hww2]; exact Cells.newAt _ _ (by omega)
  replace hX := hX.ext ew2
  replace hY := hY.ext ew2
  replace B1 := B1.ext ew2
  have zw2 := alloc_lt hww2
  have hEw2 := eg hEw1 ew2
  have b1_0_w2 := B1.cell (k := 0) rfl
  have b1_1_w2 := B1.cell (k := 1) rfl
  have b2_0_w2 := B2.cell (k := 0) rfl
  have b2_1_w2 := B2.cell (k := 1) rfl
  have lB1_w2 := B1.lt
  have lB2_w2 := B2.lt
  go_enter Tryz.func39, Tryz.ntmps39
  go_wp2_with fail
  clear hww1
  clear hww2
  clear lB1_w1
  have yw1 := Nat.le_of_eq zw1
  replace zw1 := Nat.le_of_eq zw1.symm
  have yw2 := Nat.le_of_eq zw2
  replace zw2 := Nat.le_of_eq zw2.symm
  refine (kSame_t X.N Y.N _ _ _ (hX.1) (hY.1) (H1.out)).mono ?_
  intro ee w3 gg
  obtain ⟨rfl, ew3⟩ := Gv.v gg
  replace hX := hX.ext ew3
  replace hY := hY.ext ew3
  replace B1 := B1.ext ew3
  replace B2 := B2.ext ew3
  have hEw3 := eg hEw2 ew3
  have zw3 := ew3.size
  have b1_2_w3 := B1.cell (k := 2) rfl
  have b1_3_w3 := B1.cell (k := 3) rfl
  have b2_2_w3 := B2.cell (k := 2) rfl
  have b2_3_w3 := B2.cell (k := 3) rfl
  have lB1_w3 := B1.lt
  have lB2_w3 := B2.lt
  go_wp2_with fail
  clear b1_0_w2 b1_1_w2 b2_0_w2 b2_1_w2 lB1_w2 lB2_w2
  refine (kSame_f X.D Y.D _ _ _ (hX.2) (hY.2) (H2.out)).mono ?_
  intro ee w4 gg
  obtain ⟨rfl, ew4⟩ := Gv.v gg
  replace hX := hX.ext ew4
  replace hY := hY.ext ew4
  replace B1 := B1.ext ew4
  replace B2 := B2.ext ew4
  have hEw4 := eg hEw3 ew4
  have zw4 := ew4.size
  have lB1_w4 := B1.lt
  have lB2_w4 := B2.lt
  go_wp2_with fail
  clear b1_2_w3 b1_3_w3 b2_2_w3 b2_3_w3 lB1_w3 lB2_w3
  refine bodyPost_ret (v := .bool false) (by simp [results, Tryz.results39, go_sem]) rfl ?_
  exact Gv.of_v hEw4

theorem fSame (X Y : Fr) (a b c d : Int) (w : World) (hX : PR w X a b) (hY : PR w Y c d) : Calls Tryz.prog 39 #[X.val, Y.val] w (Gv (.v (.bool (decide (a = c) && decide (b = d)))) w) := by
  by_cases h1 : a = c
  · by_cases h2 : b = d
    · simpa only [h1, h2, decide_true, Bool.and_self] using fSame_t X Y a b c d w hX hY h1 h2
    · simpa only [h1, h2, decide_true, decide_false, Bool.and_false] using fSame_d X Y a b c d w hX hY h1 h2
  · simpa only [h1, decide_false, Bool.false_and] using fSame_n X Y a b c d w hX hY h1

set_option maxRecDepth 100000 in
theorem fFromInt (n : Int) (w : World) (h1 : -9223372036854775808 ≤ n) (h2 : n ≤ 9223372036854775807) :
    Calls Tryz.prog 40 #[.int .i64 n] w (Gv (.f (n : Rat)) w) := by
  have hEw : Ext w w := Below.refl _ _
  obtain ⟨w1, hww1⟩ : ∃ W, w.alloc (.cells #[.bool false, .slice none 0 0, .bool false, .slice none 0 0] 40) = W := ⟨_, rfl⟩
  have ew1 : Ext w w1 := by rw [← hww1]; exact ea _ _
  have B1 : Cells w1 (w.heap.size) 40 #[.bool false, .slice none 0 0, .bool false, .slice none 0 0] := by rw [← hww1]; exact Cells.newAt _ _ (by omega)
  have zw1 := alloc_lt hww1
  have hEw1 := eg hEw ew1
  have lB1_w1 := B1.lt
  go_enter Tryz.func40, Tryz.ntmps40
  go_wp2_with fail
  clear hww1
  have yw1 := Nat.le_of_eq zw1
  replace zw1 := Nat.le_of_eq zw1.symm
  refine (kFromInt (n) _ (h1) (h2)).mono ?_
  intro ee w2 gg
  obtain ⟨Z4, rfl, hZ4, oZ4, ew2⟩ := Gv.w gg
  replace B1 := B1.ext ew2
  have hEw2 := eg hEw1 ew2
  have zw2 := ew2.size
  replace oZ4 := oZ4.mono hEw1.size
  have lB1_w2 := B1.lt
  go_wp2_with fail
  clear lB1_w1
  refine (kFromInt (1) _ (by decide) (by decide)).mono ?_
  intro ee w3 gg
  obtain ⟨Z5, rfl, hZ5, oZ5, ew3⟩ := Gv.w gg
  have aZ4_Z5 : Apt Z4 Z5 := Apt.seq oZ4 oZ5
  replace hZ4 := hZ4.ext ew3
  replace oZ4 := oZ4.ext ew3
  replace B1 := B1.ext ew3
  have hEw3 := eg hEw2 ew3
  have zw3 := ew3.size
  replace oZ5 := oZ5.mono hEw2.size
  have b1_0_w3 := B1.cell (k := 0) rfl
  have fb1_0_w3 := B1.frozen 0
  have b1_1_w3 := B1.cell (k := 1) rfl
  have fb1_1_w3 := B1.frozen 1
  have b1_2_w3 := B1.cell (k := 2) rfl
  have fb1_2_w3 := B1.frozen 2
  have b1_3_w3 := B1.cell (k := 3) rfl
  have fb1_3_w3 := B1.frozen 3
  have lB1_w3 := B1.lt
  obtain ⟨w4, hww4⟩ : ∃ W, ((((w3).setCell ⟨w.heap.size, 0, none⟩ (.bool Z4.b)).setCell ⟨w.heap.size, 1, none⟩ (.slice Z4.p Z4.n Z4.c)).setCell ⟨w.heap.size, 2, none⟩ (.bool Z5.b)).setCell ⟨w.heap.size, 3, none⟩ (.slice Z5.p Z5.n Z5.c) = W := ⟨_, rfl⟩
  have nuw4 : NoU #[.bool false, .slice none 0 0, .bool false, .slice none 0 0] := by simp [NoU]
  replace hZ4 := WR.sets hZ4 B1 nuw4 0 [.bool Z4.b, .slice Z4.p Z4.n Z4.c, .bool Z5.b, .slice Z5.p Z5.n Z5.c]
  replace hZ5 := WR.sets hZ5 B1 nuw4 0 [.bool Z4.b, .slice Z4.p Z4.n Z4.c, .bool Z5.b, .slice Z5.p Z5.n Z5.c]
  replace oZ4 := OW.sets oZ4 B1 (by decide) 0 [.bool Z4.b, .slice Z4.p Z4.n Z4.c, .bool Z5.b, .slice Z5.p Z5.n Z5.c]
  replace oZ5 := OW.sets oZ5 B1 (by decide) 0 [.bool Z4.b, .slice Z4.p Z4.n Z4.c, .bool Z5.b, .slice Z5.p Z5.n Z5.c]
  have hEw4 := Ext.sets hEw3 (b := w.heap.size) (by omega) 0 [.bool Z4.b, .slice Z4.p Z4.n Z4.c, .bool Z5.b, .slice Z5.p Z5.n Z5.c]
  replace B1 : Cells (sets w3 (w.heap.size) 0 [.bool Z4.b, .slice Z4.p Z4.n Z4.c, .bool Z5.b, .slice Z5.p Z5.n Z5.c]) (w.heap.size) 40 #[.bool Z4.b, .slice Z4.p Z4.n Z4.c, .bool Z5.b, .slice Z5.p Z5.n Z5.c] := Cells.sets [.bool Z4.b, .slice Z4.p Z4.n Z4.c, .bool Z5.b, .slice Z5.p Z5.n Z5.c] B1 0
  have zw4 := size_sets (w.heap.size) [.bool Z4.b, .slice Z4.p Z4.n Z4.c, .bool Z5.b, .slice Z5.p Z5.n Z5.c] w3 0
  replace hww4 : sets w3 (w.heap.size) 0 [.bool Z4.b, .slice Z4.p Z4.n Z4.c, .bool Z5.b, .slice Z5.p Z5.n Z5.c] = w4 := hww4
  rw [hww4] at hZ4 hZ5 oZ4 oZ5 B1 hEw4 zw4
  replace hww4 : ((((w3).setCell ⟨w.heap.size, 0, none⟩ (.bool Z4.b)).setCell ⟨w.heap.size, 1, none⟩ (.slice Z4.p Z4.n Z4.c)).setCell ⟨w.heap.size, 2, none⟩ (.bool Z5.b)).setCell ⟨w.heap.size, 3, none⟩ (.slice Z5.p Z5.n Z5.c) = w4 := hww4
  have b1_0_w4 := B1.cell (k := 0) rfl
  have b1_1_w4 := B1.cell (k := 1) rfl
  have b1_2_w4 := B1.cell (k := 2) rfl
  have b1_3_w4 := B1.cell (k := 3) rfl
  have lB1_w4 := B1.lt
  go_wp2_with fail
  clear hww4
  clear b1_0_w3 fb1_0_w3 b1_1_w3 fb1_1_w3 b1_2_w3 fb1_2_w3 b1_3_w3 fb1_3_w3 lB1_w2 lB1_w3
  have yw4 := Nat.le_of_eq zw4
  replace zw4 := Nat.le_of_eq zw4.symm
  refine bodyPost_ret (v := .agg #[.bool Z4.b, .slice Z4.p Z4.n Z4.c, .bool Z5.b, .slice Z5.p Z5.n Z5.c]) (by simp [results, Tryz.results40, go_sem, b1_0_w4, b1_1_w4, b1_2_w4, b1_3_w4]) rfl ?_
  exact Gv.of_f (X := ⟨Z4, Z5⟩) (mkFR (WR.cast hZ4 (by simp)) (WR.cast hZ5 (by simp))) (mkOF oZ4 oZ5 aZ4_Z5) hEw4
end Go.Proofs.YtndgaecfeaedeaaGreat
