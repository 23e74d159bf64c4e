/- The walk of LifeSteps. -/
import Derived.Test.YtndgaecfeaedeaaG27
namespace Go.Proofs.Ytndgaecfeaedeaa
set_option linter.unusedSimpArgs false
set_option linter.unusedVariables false
open Go.RowKit Lex Mth
attribute [local go_sem] run_indexAt_at add_zero_map Oper.semAt_some at_zero at_add at_mk1 at_mk2 at_mk3

theorem ldq_sz {w : World} {T : Tb} {R : Nat → Nat → Rat} {e y : Int} (hT : TQ w T R) (hok : okL T e y = true) (n : Nat) : Sz (ldq T R e y n) := by
  obtain ⟨h1, h2, h3, h4⟩ := okL_q4 hok
  have rs := rs_rt hT h1 h2 h3
  have hA := yN_le hT h1 h3
  have hD := DD_siz rs (yN T e y)
  exact (dies_sm rs n).sz (Nat.pos_of_ne_zero (DD_ne _ _)) (by have : siz 1 ≤ 1 := siz_one.2 (by omega); omega)
theorem lal_steps (T : Tb) (R : Nat → Nat → Rat) (e y m n : Int) (hm : 0 ≤ m) (hn : 0 ≤ n) : lal T R e y m.toNat * lal T R e (y + m) n.toNat = lal T R e y (m + n).toNat := by
  unfold lal
  rw [show (m + n).toNat = m.toNat + n.toNat by omega, al_add, rt_later T R e y m m.toNat (by omega)]
theorem ldq_steps (T : Tb) (R : Nat → Nat → Rat) (e y m n : Int) (hm : 0 ≤ m) (hn : 0 ≤ n) : lal T R e y m.toNat * ldq T R e (y + m) n.toNat = ldq T R e y (m + n).toNat := by
  unfold ldq
  rw [← Rat.mul_assoc, lal_steps T R e y m n hm hn, show y + m + ((n.toNat : Nat) : Int) = y + (((m + n).toNat : Nat) : Int) by omega]
theorem ldq_first (T : Tb) (R : Nat → Nat → Rat) (e y : Int) : rt T R e y = ldq T R e y (0 : Int).toNat := by
  show rt T R e y = 1 * rt T R e (y + ((0 : Nat) : Int))
  rw [Rat.one_mul, show y + ((0 : Nat) : Int) = y by omega]
theorem lal_first (T : Tb) (R : Nat → Nat → Rat) (e y : Int) : lal T R e y (1 : Int).toNat = 1 - rt T R e y := by
  show 1 * (1 - rt T R e (y + ((0 : Nat) : Int))) = _
  rw [Rat.one_mul, show y + ((0 : Nat) : Int) = y by omega]
theorem lal_steps_sz {w : World} {T : Tb} {R : Nat → Nat → Rat} {e y m n : Int} (hT : TQ w T R) (hok : okL T e y = true) (hm : 0 ≤ m) (hn : 0 ≤ n) : Sz (lal T R e y m.toNat * lal T R e (y + m) n.toNat) := lal_steps T R e y m n hm hn ▸ lal_sz hT hok _
theorem ldq_steps_sz {w : World} {T : Tb} {R : Nat → Nat → Rat} {e y m n : Int} (hT : TQ w T R) (hok : okL T e y = true) (hm : 0 ≤ m) (hn : 0 ≤ n) : Sz (lal T R e y m.toNat * ldq T R e (y + m) n.toNat) := ldq_steps T R e y m n hm hn ▸ ldq_sz hT hok _
theorem rt_sz {w : World} {T : Tb} {R : Nat → Nat → Rat} {e y : Int} (hT : TQ w T R) (hok : okL T e y = true) : Sz (rt T R e y) ∧ Sz (1 - rt T R e y) := by
  obtain ⟨h1, h2, h3, h4⟩ := okL_q4 hok
  exact ⟨(sz_rt hT h1 h2 h3).1, lal_first T R e y ▸ lal_sz hT hok _⟩

set_option maxRecDepth 100000 in
theorem nSteps0 (T : Tb) (e y : Int) (m : Int) (n : Int) (w : World) (hT : TW w T) (ey : -9223372036854775808 ≤ e ∧ e ≤ 9223372036854775807 ∧ -9223372036854775808 ≤ y ∧ y ≤ 9223372036854775807) (hu : okU T e y = false) :
    Calls Try.prog 4 #[.agg #[.int .i64 T.first, .int .i64 T.sel, .slice T.P T.N T.C], .agg #[.int .i64 e, .int .i64 y], .int .u8 m, .int .u8 n] w (Gv (.v (.bool true)) w) := by
  have HU := Lib.hid hu
  clear hu
  have hEw : Ext w w := Below.refl _ _
  obtain ⟨w1, hww1⟩ : ∃ W, w.alloc (.cells #[.int .i64 T.first, .int .i64 T.sel, .slice T.P T.N T.C] 24) = W := ⟨_, rfl⟩
  have ew1 : Ext w w1 := by rw [← hww1]; exact ea _ _
  have B1 : Cells w1 (w.heap.size) 24 #[.int .i64 T.first, .int .i64 T.sel, .slice T.P T.N T.C] := by rw [← hww1]; exact Cells.newAt _ _ (by omega)
  have zw1 := alloc_lt hww1
  have hEw1 := eg hEw ew1
  have lB1_w1 := B1.lt
  obtain ⟨w2, hww2⟩ : ∃ W, w1.alloc (.cells #[.int .i64 e, .int .i64 y] 26) = W := ⟨_, rfl⟩
  have ew2 : Ext w1 w2 := by rw [← hww2]; exact ea _ _
  have B2 : Cells w2 (w.heap.size + 1) 26 #[.int .i64 e, .int .i64 y] := by rw [← hww2]; exact Cells.newAt _ _ (by omega)
  replace B1 := B1.ext ew2
  have zw2 := alloc_lt hww2
  have hEw2 := eg hEw1 ew2
  have lB1_w2 := B1.lt
  have lB2_w2 := B2.lt
  go_enter Try.func4, Try.ntmps4
  go_wp2_with fail
  clear hww1
  clear hww2
  clear lB1_w1
  have yw1 := Nat.le_of_eq zw1
  replace zw1 := Nat.le_of_eq zw1.symm
  have yw2 := Nat.le_of_eq zw2
  replace zw2 := Nat.le_of_eq zw2.symm
  refine (nawake  _).mono ?_
  intro ee w3 gg
  obtain ⟨rfl, ew3⟩ := Gv.v gg
  replace B1 := B1.ext ew3
  replace B2 := B2.ext ew3
  have hEw3 := eg hEw2 ew3
  have zw3 := ew3.size
  have b1_0_w3 := B1.cell (k := 0) rfl
  have b1_1_w3 := B1.cell (k := 1) rfl
  have b1_2_w3 := B1.cell (k := 2) rfl
  have b2_0_w3 := B2.cell (k := 0) rfl
  have b2_1_w3 := B2.cell (k := 1) rfl
  have lB1_w3 := B1.lt
  have lB2_w3 := B2.lt
  go_wp2_with fail
  clear lB1_w2 lB2_w2
  refine regionT 13 (fun k => match k with | 2 => some (.v (.bool false)) | _ => none) (by kernel_rfl) (by kernel_rfl) ?_
  iterate 2
    refine Walk.one (x := ?_) rfl rfl (fun w1 hI hL K hK => ?_) ?_
    rotate_left
    · obtain ⟨hc, hf⟩ := bcell hI
      go_simp
      repeat (first | (go_ints; try go_simp) | (simp only [↓IntWalk.iteOmega]; try go_simp))
      exact hK
    simp only [Act.put, List.setIfInBounds_toArray, List.set_cons_zero, List.set_cons_succ]
  refine Walk.tell rfl rfl (fun w1 hI hL K hK => ?_) ?_
  · go_simp
    exact (nusable T e y w1 (hT.ext (eg hEw3 hI)) ey HU.out).mono (tell hK)
  rintro _ rfl
  simp only [Act.put, List.setIfInBounds_toArray, List.set_cons_zero, List.set_cons_succ]
  iterate 2
    refine Walk.one (x := ?_) rfl rfl (fun w1 hI hL K hK => ?_) ?_
    rotate_left
    · obtain ⟨hc, hf⟩ := bcell hI
      go_simp
      repeat (first | (go_ints; try go_simp) | (simp only [↓IntWalk.iteOmega]; try go_simp))
      exact hK
    simp only [Act.put, List.setIfInBounds_toArray, List.set_cons_zero, List.set_cons_succ]
  refine Walk.skip rfl (by kernel_rfl) ?_
  simp only [Act.put, List.setIfInBounds_toArray, List.set_cons_zero, List.set_cons_succ]
  refine Walk.skip rfl (by kernel_rfl) ?_
  simp only [Act.put, List.setIfInBounds_toArray, List.set_cons_zero, List.set_cons_succ]
  refine Walk.skip rfl (by kernel_rfl) ?_
  simp only [Act.put, List.setIfInBounds_toArray, List.set_cons_zero, List.set_cons_succ]
  refine Walk.skip rfl (by kernel_rfl) ?_
  simp only [Act.put, List.setIfInBounds_toArray, List.set_cons_zero, List.set_cons_succ]
  refine Walk.skip rfl (by kernel_rfl) ?_
  simp only [Act.put, List.setIfInBounds_toArray, List.set_cons_zero, List.set_cons_succ]
  refine Walk.skip rfl (by kernel_rfl) ?_
  simp only [Act.put, List.setIfInBounds_toArray, List.set_cons_zero, List.set_cons_succ]
  refine Walk.skip rfl (by kernel_rfl) ?_
  simp only [Act.put, List.setIfInBounds_toArray, List.set_cons_zero, List.set_cons_succ]
  refine Walk.one (x := ?_) rfl rfl (fun w1 hI hL K hK => ?_) ?_
  rotate_left
  · obtain ⟨hc, hf⟩ := bcell hI
    go_simp
    repeat (first | (go_ints; try go_simp) | (simp only [↓IntWalk.iteOmega]; try go_simp))
    exact hK
  simp only [Act.put, List.setIfInBounds_toArray, List.set_cons_zero, List.set_cons_succ]
  refine Walk.nilF fun w4 ew4 kzL kzX => ?_
  replace B1 := B1.ext ew4
  replace B2 := B2.ext ew4
  have hEw4 := eg hEw3 ew4
  have zw4 := ew4.size
  clear kzL kzX
  have lB1_w4 := B1.lt
  have lB2_w4 := B2.lt
  simp only [List.drop_succ_cons, List.drop_zero, List.drop_nil]
  go_wp2_with fail
  clear b1_0_w3 b1_1_w3 b1_2_w3 b2_0_w3 b2_1_w3 lB1_w3 lB2_w3
  refine bodyPost_ret (v := .bool true) (by simp [results, Try.results4, go_sem]) rfl ?_
  exact Gv.of_v hEw4

set_option maxRecDepth 100000 in
theorem nStepsA (T : Tb) (R : Nat → Nat → Rat) (e y : Int) (m : Int) (n : Int) (w : World) (hT : TQ w T R) (ey : -9223372036854775808 ≤ e ∧ e ≤ 9223372036854775807 ∧ -9223372036854775808 ≤ y ∧ y ≤ 9223372036854775807) (hu : okU T e y = true) (hm0 : 0 ≤ m) (hm1 : m ≤ 255) (hn0 : 0 ≤ n) (hn1 : n ≤ 255) (hr : okL T e (y + m) = false) :
    Calls Try.prog 4 #[.agg #[.int .i64 T.first, .int .i64 T.sel, .slice T.P T.N T.C], .agg #[.int .i64 e, .int .i64 y], .int .u8 m, .int .u8 n] w (Gv (.v (.bool true)) w) := by
  have hW := hT.tw
  have hT0 := hT
  have Hok := Lib.hid (okU_l hu)
  obtain ⟨q1, q2, q3, q4⟩ := okL_q4 (okU_l hu)
  obtain ⟨b1, b2, b3, b4, b5, b6⟩ := id hT.b
  have HU := Lib.hid hu
  clear hu
  have HR := Lib.hid hr
  clear hr
  have hEw : Ext w w := Below.refl _ _
  obtain ⟨w1, hww1⟩ : ∃ W, w.alloc (.cells #[.int .i64 T.first, .int .i64 T.sel, .slice T.P T.N T.C] 24) = W := ⟨_, rfl⟩
  have ew1 : Ext w w1 := by rw [← hww1]; exact ea _ _
  have B1 : Cells w1 (w.heap.size) 24 #[.int .i64 T.first, .int .i64 T.sel, .slice T.P T.N T.C] := by rw [← hww1]; exact Cells.newAt _ _ (by omega)
  have zw1 := alloc_lt hww1
  have hEw1 := eg hEw ew1
  have lB1_w1 := B1.lt
  obtain ⟨w2, hww2⟩ : ∃ W, w1.alloc (.cells #[.int .i64 e, .int .i64 y] 26) = W := ⟨_, rfl⟩
  have ew2 : Ext w1 w2 := by rw [← hww2]; exact ea _ _
  have B2 : Cells w2 (w.heap.size + 1) 26 #[.int .i64 e, .int .i64 y] := by rw [← hww2]; exact Cells.newAt _ _ (by omega)
  replace B1 := B1.ext ew2
  have zw2 := alloc_lt hww2
  have hEw2 := eg hEw1 ew2
  have lB1_w2 := B1.lt
  have lB2_w2 := B2.lt
  go_enter Try.func4, Try.ntmps4
  go_wp2_with fail
  clear hww1
  clear hww2
  clear lB1_w1
  have yw1 := Nat.le_of_eq zw1
  replace zw1 := Nat.le_of_eq zw1.symm
  have yw2 := Nat.le_of_eq zw2
  replace zw2 := Nat.le_of_eq zw2.symm
  refine (nawake  _).mono ?_
  intro ee w3 gg
  obtain ⟨rfl, ew3⟩ := Gv.v gg
  replace B1 := B1.ext ew3
  replace B2 := B2.ext ew3
  have hEw3 := eg hEw2 ew3
  have zw3 := ew3.size
  have b1_0_w3 := B1.cell (k := 0) rfl
  have b1_1_w3 := B1.cell (k := 1) rfl
  have b1_2_w3 := B1.cell (k := 2) rfl
  have b2_0_w3 := B2.cell (k := 0) rfl
  have b2_1_w3 := B2.cell (k := 1) rfl
  have lB1_w3 := B1.lt
  have lB2_w3 := B2.lt
  go_wp2_with fail
  clear lB1_w2 lB2_w2
  refine regionT 13 (fun k => match k with | 2 => some (.v (.bool true)) | 9 => some (.v (.agg #[.int .i64 e, .int .i64 (y + m)])) | 10 => some (.v (.bool false)) | _ => none) (by kernel_rfl) (by kernel_rfl) ?_
  iterate 2
    refine Walk.one (x := ?_) rfl rfl (fun w1 hI hL K hK => ?_) ?_
    rotate_left
    · obtain ⟨hc, hf⟩ := bcell hI
      go_simp
      repeat (first | (go_ints; try go_simp) | (simp only [↓IntWalk.iteOmega]; try go_simp))
      exact hK
    simp only [Act.put, List.setIfInBounds_toArray, List.set_cons_zero, List.set_cons_succ]
  refine Walk.tell rfl rfl (fun w1 hI hL K hK => ?_) ?_
  · go_simp
    exact (nusable T e y w1 (hW.ext (eg hEw3 hI)) ey HU.out).mono (tell hK)
  rintro _ rfl
  simp only [Act.put, List.setIfInBounds_toArray, List.set_cons_zero, List.set_cons_succ]
  iterate 2
    refine Walk.one (x := ?_) rfl rfl (fun w1 hI hL K hK => ?_) ?_
    rotate_left
    · obtain ⟨hc, hf⟩ := bcell hI
      go_simp
      repeat (first | (go_ints; try go_simp) | (simp only [↓IntWalk.iteOmega]; try go_simp))
      exact hK
    simp only [Act.put, List.setIfInBounds_toArray, List.set_cons_zero, List.set_cons_succ]
  refine Walk.oneG (x := ?_) rfl (by kernel_rfl) (fun w1 hI hL K hK => ?_) ?_
  rotate_left
  · obtain ⟨hc, hf⟩ := bcell hI
    go_simp
    repeat (first | (go_ints; try go_simp) | (simp only [↓IntWalk.iteOmega]; try go_simp))
    exact hK
  simp only [Act.put, List.setIfInBounds_toArray, List.set_cons_zero, List.set_cons_succ]
  refine Walk.oneG (x := ?_) rfl (by kernel_rfl) (fun w1 hI hL K hK => ?_) ?_
  rotate_left
  · obtain ⟨hc, hf⟩ := bcell hI
    go_simp
    repeat (first | (go_ints; try go_simp) | (simp only [↓IntWalk.iteOmega]; try go_simp))
    exact hK
  simp only [Act.put, List.setIfInBounds_toArray, List.set_cons_zero, List.set_cons_succ]
  refine Walk.oneG (x := ?_) rfl (by kernel_rfl) (fun w1 hI hL K hK => ?_) ?_
  rotate_left
  · obtain ⟨hc, hf⟩ := bcell hI
    go_simp
    repeat (first | (go_ints; try go_simp) | (simp only [↓IntWalk.iteOmega]; try go_simp))
    exact hK
  simp only [Act.put, List.setIfInBounds_toArray, List.set_cons_zero, List.set_cons_succ]
  refine Walk.oneG (x := ?_) rfl (by kernel_rfl) (fun w1 hI hL K hK => ?_) ?_
  rotate_left
  · obtain ⟨hc, hf⟩ := bcell hI
    go_simp
    repeat (first | (go_ints; try go_simp) | (simp only [↓IntWalk.iteOmega]; try go_simp))
    exact hK
  simp only [Act.put, List.setIfInBounds_toArray, List.set_cons_zero, List.set_cons_succ]
  refine Walk.tellG rfl (by kernel_rfl) (fun w1 hI hL K hK => ?_) ?_
  · go_simp
    exact (nlater e y m w1 (by omega) (by omega) (by omega) (by omega)).mono (tell hK)
  rintro _ rfl
  simp only [Act.put, List.setIfInBounds_toArray, List.set_cons_zero, List.set_cons_succ]
  refine Walk.tellG rfl (by kernel_rfl) (fun w1 hI hL K hK => ?_) ?_
  · go_simp
    exact (lRight T e (y + m) w1 (hW.ext (eg hEw3 hI)) (by omega) HR.out).mono (tell hK)
  rintro _ rfl
  simp only [Act.put, List.setIfInBounds_toArray, List.set_cons_zero, List.set_cons_succ]
  refine Walk.oneG (x := ?_) rfl (by kernel_rfl) (fun w1 hI hL K hK => ?_) ?_
  rotate_left
  · obtain ⟨hc, hf⟩ := bcell hI
    go_simp
    repeat (first | (go_ints; try go_simp) | (simp only [↓IntWalk.iteOmega]; try go_simp))
    exact hK
  simp only [Act.put, List.setIfInBounds_toArray, List.set_cons_zero, List.set_cons_succ]
  refine Walk.one (x := ?_) rfl rfl (fun w1 hI hL K hK => ?_) ?_
  rotate_left
  · obtain ⟨hc, hf⟩ := bcell hI
    go_simp
    repeat (first | (go_ints; try go_simp) | (simp only [↓IntWalk.iteOmega]; try go_simp))
    exact hK
  simp only [Act.put, List.setIfInBounds_toArray, List.set_cons_zero, List.set_cons_succ]
  refine Walk.nilF fun w4 ew4 kzL kzX => ?_
  replace B1 := B1.ext ew4
  replace B2 := B2.ext ew4
  have hEw4 := eg hEw3 ew4
  have zw4 := ew4.size
  clear kzL kzX
  have lB1_w4 := B1.lt
  have lB2_w4 := B2.lt
  simp only [List.drop_succ_cons, List.drop_zero, List.drop_nil]
  go_wp2_with fail
  clear b1_0_w3 b1_1_w3 b1_2_w3 b2_0_w3 b2_1_w3 lB1_w3 lB2_w3
  refine bodyPost_ret (v := .bool true) (by simp [results, Try.results4, go_sem]) rfl ?_
  exact Gv.of_v hEw4

set_option maxRecDepth 100000 in
set_option maxHeartbeats 4000000 in
theorem nStepsB (T : Tb) (R : Nat → Nat → Rat) (e y : Int) (m : Int) (n : Int) (w : World) (hT : TQ w T R) (ey : -9223372036854775808 ≤ e ∧ e ≤ 9223372036854775807 ∧ -9223372036854775808 ≤ y ∧ y ≤ 9223372036854775807) (hu : okU T e y = true) (hm0 : 0 ≤ m) (hm1 : m ≤ 255) (hn0 : 0 ≤ n) (hn1 : n ≤ 255) (hr : okL T e (y + m) = true) :
    Calls Try.prog 4 #[.agg #[.int .i64 T.first, .int .i64 T.sel, .slice T.P T.N T.C], .agg #[.int .i64 e, .int .i64 y], .int .u8 m, .int .u8 n] w (Gv (.v (.bool true)) w) := by
  have hW := hT.tw
  have hT0 := hT
  have Hok := Lib.hid (okU_l hu)
  obtain ⟨q1, q2, q3, q4⟩ := okL_q4 (okU_l hu)
  obtain ⟨b1, b2, b3, b4, b5, b6⟩ := id hT.b
  have HU := Lib.hid hu
  clear hu
  have HR := Lib.hid hr
  clear hr
  have hEw : Ext w w := Below.refl _ _
  obtain ⟨w1, hww1⟩ : ∃ W, w.alloc (.cells #[.int .i64 T.first, .int .i64 T.sel, .slice T.P T.N T.C] 24) = W := ⟨_, rfl⟩
  have ew1 : Ext w w1 := by rw [← hww1]; exact ea _ _
  have B1 : Cells w1 (w.heap.size) 24 #[.int .i64 T.first, .int .i64 T.sel, .slice T.P T.N T.C] := by rw [← hww1]; exact Cells.newAt _ _ (by omega)
  have zw1 := alloc_lt hww1
  have hEw1 := eg hEw ew1
  have lB1_w1 := B1.lt
  obtain ⟨w2, hww2⟩ : ∃ W, w1.alloc (.cells #[.int .i64 e, .int .i64 y] 26) = W := ⟨_, rfl⟩
  have ew2 : Ext w1 w2 := by rw [← hww2]; exact ea _ _
  have B2 : Cells w2 (w.heap.size + 1) 26 #[.int .i64 e, .int .i64 y] := by rw [← hww2]; exact Cells.newAt _ _ (by omega)
  replace B1 := B1.ext ew2
  have zw2 := alloc_lt hww2
  have hEw2 := eg hEw1 ew2
  have lB1_w2 := B1.lt
  have lB2_w2 := B2.lt
  go_enter Try.func4, Try.ntmps4
  go_wp2_with fail
  clear hww1
  clear hww2
  clear lB1_w1
  have yw1 := Nat.le_of_eq zw1
  replace zw1 := Nat.le_of_eq zw1.symm
  have yw2 := Nat.le_of_eq zw2
  replace zw2 := Nat.le_of_eq zw2.symm
  refine (nawake  _).mono ?_
  intro ee w3 gg
  obtain ⟨rfl, ew3⟩ := Gv.v gg
  replace B1 := B1.ext ew3
  replace B2 := B2.ext ew3
  have hEw3 := eg hEw2 ew3
  have zw3 := ew3.size
  have b1_0_w3 := B1.cell (k := 0) rfl
  have b1_1_w3 := B1.cell (k := 1) rfl
  have b1_2_w3 := B1.cell (k := 2) rfl
  have b2_0_w3 := B2.cell (k := 0) rfl
  have b2_1_w3 := B2.cell (k := 1) rfl
  have lB1_w3 := B1.lt
  have lB2_w3 := B2.lt
  go_wp2_with fail
  clear lB1_w2 lB2_w2
  refine regionT 13 (fun k => match k with | 2 => some (.v (.bool true)) | 9 => some (.v (.agg #[.int .i64 e, .int .i64 (y + m)])) | 10 => some (.v (.bool true)) | _ => none) (by kernel_rfl) (by kernel_rfl) ?_
  iterate 2
    refine Walk.one (x := ?_) rfl rfl (fun w1 hI hL K hK => ?_) ?_
    rotate_left
    · obtain ⟨hc, hf⟩ := bcell hI
      go_simp
      repeat (first | (go_ints; try go_simp) | (simp only [↓IntWalk.iteOmega]; try go_simp))
      exact hK
    simp only [Act.put, List.setIfInBounds_toArray, List.set_cons_zero, List.set_cons_succ]
  refine Walk.tell rfl rfl (fun w1 hI hL K hK => ?_) ?_
  · go_simp
    exact (nusable T e y w1 (hW.ext (eg hEw3 hI)) ey HU.out).mono (tell hK)
  rintro _ rfl
  simp only [Act.put, List.setIfInBounds_toArray, List.set_cons_zero, List.set_cons_succ]
  iterate 2
    refine Walk.one (x := ?_) rfl rfl (fun w1 hI hL K hK => ?_) ?_
    rotate_left
    · obtain ⟨hc, hf⟩ := bcell hI
      go_simp
      repeat (first | (go_ints; try go_simp) | (simp only [↓IntWalk.iteOmega]; try go_simp))
      exact hK
    simp only [Act.put, List.setIfInBounds_toArray, List.set_cons_zero, List.set_cons_succ]
  refine Walk.oneG (x := ?_) rfl (by kernel_rfl) (fun w1 hI hL K hK => ?_) ?_
  rotate_left
  · obtain ⟨hc, hf⟩ := bcell hI
    go_simp
    repeat (first | (go_ints; try go_simp) | (simp only [↓IntWalk.iteOmega]; try go_simp))
    exact hK
  simp only [Act.put, List.setIfInBounds_toArray, List.set_cons_zero, List.set_cons_succ]
  refine Walk.oneG (x := ?_) rfl (by kernel_rfl) (fun w1 hI hL K hK => ?_) ?_
  rotate_left
  · obtain ⟨hc, hf⟩ := bcell hI
    go_simp
    repeat (first | (go_ints; try go_simp) | (simp only [↓IntWalk.iteOmega]; try go_simp))
    exact hK
  simp only [Act.put, List.setIfInBounds_toArray, List.set_cons_zero, List.set_cons_succ]
  refine Walk.oneG (x := ?_) rfl (by kernel_rfl) (fun w1 hI hL K hK => ?_) ?_
  rotate_left
  · obtain ⟨hc, hf⟩ := bcell hI
    go_simp
    repeat (first | (go_ints; try go_simp) | (simp only [↓IntWalk.iteOmega]; try go_simp))
    exact hK
  simp only [Act.put, List.setIfInBounds_toArray, List.set_cons_zero, List.set_cons_succ]
  refine Walk.oneG (x := ?_) rfl (by kernel_rfl) (fun w1 hI hL K hK => ?_) ?_
  rotate_left
  · obtain ⟨hc, hf⟩ := bcell hI
    go_simp
    repeat (first | (go_ints; try go_simp) | (simp only [↓IntWalk.iteOmega]; try go_simp))
    exact hK
  simp only [Act.put, List.setIfInBounds_toArray, List.set_cons_zero, List.set_cons_succ]
  refine Walk.tellG rfl (by kernel_rfl) (fun w1 hI hL K hK => ?_) ?_
  · go_simp
    exact (nlater e y m w1 (by omega) (by omega) (by omega) (by omega)).mono (tell hK)
  rintro _ rfl
  simp only [Act.put, List.setIfInBounds_toArray, List.set_cons_zero, List.set_cons_succ]
  refine Walk.tellG rfl (by kernel_rfl) (fun w1 hI hL K hK => ?_) ?_
  · go_simp
    exact (lRight T e (y + m) w1 (hW.ext (eg hEw3 hI)) (by omega) HR.out).mono (tell hK)
  rintro _ rfl
  simp only [Act.put, List.setIfInBounds_toArray, List.set_cons_zero, List.set_cons_succ]
  refine Walk.oneG (x := ?_) rfl (by kernel_rfl) (fun w1 hI hL K hK => ?_) ?_
  rotate_left
  · obtain ⟨hc, hf⟩ := bcell hI
    go_simp
    repeat (first | (go_ints; try go_simp) | (simp only [↓IntWalk.iteOmega]; try go_simp))
    exact hK
  simp only [Act.put, List.setIfInBounds_toArray, List.set_cons_zero, List.set_cons_succ]
  refine Walk.one (x := ?_) rfl rfl (fun w1 hI hL K hK => ?_) ?_
  rotate_left
  · obtain ⟨hc, hf⟩ := bcell hI
    go_simp
    repeat (first | (go_ints; try go_simp) | (simp only [↓IntWalk.iteOmega]; try go_simp))
    exact hK
  simp only [Act.put, List.setIfInBounds_toArray, List.set_cons_zero, List.set_cons_succ]
  refine Walk.nilF fun w4 ew4 kzL kzX => ?_
  replace B1 := B1.ext ew4
  replace B2 := B2.ext ew4
  have hEw4 := eg hEw3 ew4
  have zw4 := ew4.size
  clear kzL kzX
  have b1_0_w4 := B1.cell (k := 0) rfl
  have b1_1_w4 := B1.cell (k := 1) rfl
  have b1_2_w4 := B1.cell (k := 2) rfl
  have b2_0_w4 := B2.cell (k := 0) rfl
  have b2_1_w4 := B2.cell (k := 1) rfl
  have lB1_w4 := B1.lt
  have lB2_w4 := B2.lt
  simp only [List.drop_succ_cons, List.drop_zero, List.drop_nil]
  go_wp2_with fail
  clear b1_0_w3 b1_1_w3 b1_2_w3 b2_0_w3 b2_1_w3 lB1_w3 lB2_w3
  refine (lAlive T R e (y) (m) _ (hT.ext hEw4) Hok.out (by omega)).mono ?_
  intro ee w5 gg
  obtain ⟨Z45, rfl, hZ45, oZ45, ew5⟩ := Gv.fe gg
  replace B1 := B1.ext ew5
  replace B2 := B2.ext ew5
  have hEw5 := eg hEw4 ew5
  have zw5 := ew5.size
  replace oZ45 := oZ45.mono hEw4.size
  have lB1_w5 := B1.lt
  have lB2_w5 := B2.lt
  obtain ⟨w6, hww6⟩ : ∃ W, w5.alloc (.cells #[.bool Z45.N.b, .slice Z45.N.p Z45.N.n Z45.N.c, .bool Z45.D.b, .slice Z45.D.p Z45.D.n Z45.D.c] 33) = W := ⟨_, rfl⟩
  have ew6 : Ext w5 w6 := by rw [← hww6]; exact ea _ _
  have B3 : Cells w6 (w5.heap.size) 33 #[.bool Z45.N.b, .slice Z45.N.p Z45.N.n Z45.N.c, .bool Z45.D.b, .slice Z45.D.p Z45.D.n Z45.D.c] := by rw [← hww6]; exact Cells.newAt _ _ (by omega)
  replace hZ45 := hZ45.ext ew6
  replace oZ45 := oZ45.ext ew6
  replace B1 := B1.ext ew6
  replace B2 := B2.ext ew6
  have zw6 := alloc_lt hww6
  have hEw6 := eg hEw5 ew6
  have b1_0_w6 := B1.cell (k := 0) rfl
  have b1_1_w6 := B1.cell (k := 1) rfl
  have b1_2_w6 := B1.cell (k := 2) rfl
  have b2_0_w6 := B2.cell (k := 0) rfl
  have b2_1_w6 := B2.cell (k := 1) rfl
  have lB1_w6 := B1.lt
  have lB2_w6 := B2.lt
  have lB3_w6 := B3.lt
  go_wp2_with fail
  clear hww6
  clear b1_0_w4 b1_1_w4 b1_2_w4 b2_0_w4 b2_1_w4 lB1_w4 lB2_w4 lB1_w5 lB2_w5
  have yw6 := Nat.le_of_eq zw6
  replace zw6 := Nat.le_of_eq zw6.symm
  refine regionS ⟨12, 11, 7, 33, 4, lvT⟩ 13 (fun k => match k with | 4 => some (.v (.agg #[.int .i64 e, .int .i64 (y + m)])) | 7 => some (.fe (lal T R e (y + m) (n).toNat) 0) | 11 => some (.boxS 33 4) | _ => none) (by kernel_rfl) (by kernel_rfl) (by decide) ?hT6 rfl (by kernel_rfl) (by kernel_rfl) ?_
  case hT6 =>
    intro k t h
    split at h <;> first | (cases h; first | exact st_f _ | exact st_fe _ _ | exact st_bs _ _ | exact st_v _ | exact st_w _ | exact st_we _ _ | exact st_f0 _ | exact st_w0 _) | cases h
  iterate 4
    refine Walk.one (x := ?_) rfl rfl (fun w1 hI hL K hK => ?_) ?_
    rotate_left
    · obtain ⟨hc, hf⟩ := bcell hI
      go_simp
      repeat (first | (go_ints; try go_simp) | (simp only [↓IntWalk.iteOmega]; try go_simp))
      exact hK
    simp only [Act.put, List.setIfInBounds_toArray, List.set_cons_zero, List.set_cons_succ]
  refine Walk.tellS rfl rfl (.inl (by simp)) rfl (fun w1 hI hL K hK => ?_) ?_
  · go_simp
    exact (nlater e y m w1 (by omega) (by omega) (by omega) (by omega)).mono (tell hK)
  rintro _ rfl
  simp only [Act.put, List.setIfInBounds_toArray, List.set_cons_zero, List.set_cons_succ]
  iterate 2
    refine Walk.one (x := ?_) rfl rfl (fun w1 hI hL K hK => ?_) ?_
    rotate_left
    · obtain ⟨hc, hf⟩ := bcell hI
      go_simp
      repeat (first | (go_ints; try go_simp) | (simp only [↓IntWalk.iteOmega]; try go_simp))
      exact hK
    simp only [Act.put, List.setIfInBounds_toArray, List.set_cons_zero, List.set_cons_succ]
  refine Walk.tellS rfl rfl (.inl (by simp)) rfl (fun w1 hI hL K hK => ?_) ?_
  · go_simp
    exact (lAlive T R e (y + m) (n) w1 (hT.ext (eg hEw6 hI)) HR.out (by omega)).mono (tell hK)
  rintro _ ⟨Z56, rfl⟩
  simp only [Act.put, List.setIfInBounds_toArray, List.set_cons_zero, List.set_cons_succ]
  iterate 3
    refine Walk.one (x := ?_) rfl rfl (fun w1 hI hL K hK => ?_) ?_
    rotate_left
    · obtain ⟨hc, hf⟩ := bcell hI
      go_simp
      repeat (first | (go_ints; try go_simp) | (simp only [↓IntWalk.iteOmega]; try go_simp))
      exact hK
    simp only [Act.put, List.setIfInBounds_toArray, List.set_cons_zero, List.set_cons_succ]
  refine Walk.tellS rfl rfl (.inl (by simp)) rfl (fun w1 hI hL K hK => ?_) ?_
  · go_simp
    exact tellBS rfl (by simp [NoU]) hK
  rintro _ ⟨g11, rfl⟩
  simp only [Act.put, List.setIfInBounds_toArray, List.set_cons_zero, List.set_cons_succ]
  refine Walk.storeS (g := g11) (vc := .tuple #[.agg #[.bool Z56.N.b, .slice Z56.N.p Z56.N.n Z56.N.c, .bool Z56.D.b, .slice Z56.D.p Z56.D.n Z56.D.c], .int .i64 0]) rfl rfl rfl rfl rfl (by simp) (by kernel_rfl) (by simp) (by simp) (by simp) (fun c hc => splice4 (.bool Z56.N.b) (.slice Z56.N.p Z56.N.n Z56.N.c) (.bool Z56.D.b) (.slice Z56.D.p Z56.D.n Z56.D.c) c hc) (by simp [NoU, lvT]) (fun w1 c hI hC hc hL K hK => ?_) ?_
  · obtain ⟨u0, c0⟩ := hC.some (k := 0) (by have hc2 : c.size = 4 := hc; omega)
    obtain ⟨u1, c1⟩ := hC.some (k := 1) (by have hc2 : c.size = 4 := hc; omega)
    obtain ⟨u2, c2⟩ := hC.some (k := 2) (by have hc2 : c.size = 4 := hc; omega)
    obtain ⟨u3, c3⟩ := hC.some (k := 3) (by have hc2 : c.size = 4 := hc; omega)
    have f0 := hC.frozen 0
    have f1 := hC.frozen 1
    have f2 := hC.frozen 2
    have f3 := hC.frozen 3
    go_simp
    exact hK
  intro vs
  simp only [Act.put, List.setIfInBounds_toArray, List.set_cons_zero, List.set_cons_succ]
  refine Walk.nilS (g := g11) (vc := .tuple #[.agg #[.bool Z56.N.b, .slice Z56.N.p Z56.N.n Z56.N.c, .bool Z56.D.b, .slice Z56.D.p Z56.D.n Z56.D.c], .int .i64 0]) (vs := vs) (by simp) (by simp) (by simp) (by decide) (by decide) fun w7 ew7 kzL kzC kzX => ?_
  replace hZ45 := hZ45.ext ew7
  replace oZ45 := oZ45.ext ew7
  replace B1 := B1.ext ew7
  replace B2 := B2.ext ew7
  replace B3 := B3.ext ew7
  have hEw7 := eg hEw6 ew7
  have zw7 := ew7.size
  obtain ⟨hZ56, oZ56⟩ := Tl.getFe (kzS (i := 7) (v := .tuple #[.agg #[.bool Z56.N.b, .slice Z56.N.p Z56.N.n Z56.N.c, .bool Z56.D.b, .slice Z56.D.p Z56.D.n Z56.D.c], .int .i64 0]) rfl rfl (by simp) kzL)
  replace oZ56 := oZ56.mono hEw6.size
  obtain ⟨B4, yB4⟩ := kzC
  replace B4 : Cells w7 (g11) 33 #[.bool Z56.N.b, .slice Z56.N.p Z56.N.n Z56.N.c, .bool Z56.D.b, .slice Z56.D.p Z56.D.n Z56.D.c] := B4
  clear kzL kzX
  have b1_0_w7 := B1.cell (k := 0) rfl
  have b1_1_w7 := B1.cell (k := 1) rfl
  have b1_2_w7 := B1.cell (k := 2) rfl
  have b2_0_w7 := B2.cell (k := 0) rfl
  have b2_1_w7 := B2.cell (k := 1) rfl
  have lB1_w7 := B1.lt
  have lB2_w7 := B2.lt
  have lB3_w7 := B3.lt
  have lB4_w7 := B4.lt
  simp only [List.drop_succ_cons, List.drop_zero, List.drop_nil]
  go_wp2_with fail
  clear b1_0_w6 b1_1_w6 b1_2_w6 b2_0_w6 b2_1_w6 lB1_w6 lB2_w6 lB3_w6
  refine (lAlive T R e (y) (m + n) _ (hT.ext hEw7) Hok.out (by omega)).mono ?_
  intro ee w8 gg
  obtain ⟨Z67, rfl, hZ67, oZ67, ew8⟩ := Gv.fe gg
  replace hZ45 := hZ45.ext ew8
  replace hZ56 := hZ56.ext ew8
  replace oZ45 := oZ45.ext ew8
  replace oZ56 := oZ56.ext ew8
  replace B1 := B1.ext ew8
  replace B2 := B2.ext ew8
  replace B3 := B3.ext ew8
  replace B4 := B4.ext ew8
  have hEw8 := eg hEw7 ew8
  have zw8 := ew8.size
  replace oZ67 := oZ67.mono hEw7.size
  have lB1_w8 := B1.lt
  have lB2_w8 := B2.lt
  have lB3_w8 := B3.lt
  have lB4_w8 := B4.lt
  obtain ⟨w9, hww9⟩ : ∃ W, w8.alloc (.cells #[.bool Z67.N.b, .slice Z67.N.p Z67.N.n Z67.N.c, .bool Z67.D.b, .slice Z67.D.p Z67.D.n Z67.D.c] 33) = W := ⟨_, rfl⟩
  have ew9 : Ext w8 w9 := by rw [← hww9]; exact ea _ _
  have B5 : Cells w9 (w8.heap.size) 33 #[.bool Z67.N.b, .slice Z67.N.p Z67.N.n Z67.N.c, .bool Z67.D.b, .slice Z67.D.p Z67.D.n Z67.D.c] := by rw [← hww9]; exact Cells.newAt _ _ (by omega)
  replace hZ45 := hZ45.ext ew9
  replace hZ56 := hZ56.ext ew9
  replace hZ67 := hZ67.ext ew9
  replace oZ45 := oZ45.ext ew9
  replace oZ56 := oZ56.ext ew9
  replace oZ67 := oZ67.ext ew9
  replace B1 := B1.ext ew9
  replace B2 := B2.ext ew9
  replace B3 := B3.ext ew9
  replace B4 := B4.ext ew9
  have zw9 := alloc_lt hww9
  have hEw9 := eg hEw8 ew9
  have b1_0_w9 := B1.cell (k := 0) rfl
  have b1_1_w9 := B1.cell (k := 1) rfl
  have b1_2_w9 := B1.cell (k := 2) rfl
  have b2_0_w9 := B2.cell (k := 0) rfl
  have b2_1_w9 := B2.cell (k := 1) rfl
  have lB1_w9 := B1.lt
  have lB2_w9 := B2.lt
  have lB3_w9 := B3.lt
  have lB4_w9 := B4.lt
  have lB5_w9 := B5.lt
  go_wp2_with fail
  clear hww9
  clear b1_0_w7 b1_1_w7 b1_2_w7 b2_0_w7 b2_1_w7 lB1_w7 lB2_w7 lB3_w7 lB4_w7 lB1_w8 lB2_w8 lB3_w8 lB4_w8
  have yw9 := Nat.le_of_eq zw9
  replace zw9 := Nat.le_of_eq zw9.symm
  refine (lDies T R e (y) (m + n) _ (hT.ext hEw9) Hok.out (by omega)).mono ?_
  intro ee w10 gg
  obtain ⟨Z78, rfl, hZ78, oZ78, ew10⟩ := Gv.fe gg
  replace hZ45 := hZ45.ext ew10
  replace hZ56 := hZ56.ext ew10
  replace hZ67 := hZ67.ext ew10
  replace oZ45 := oZ45.ext ew10
  replace oZ56 := oZ56.ext ew10
  replace oZ67 := oZ67.ext ew10
  replace B1 := B1.ext ew10
  replace B2 := B2.ext ew10
  replace B3 := B3.ext ew10
  replace B4 := B4.ext ew10
  replace B5 := B5.ext ew10
  have hEw10 := eg hEw9 ew10
  have zw10 := ew10.size
  replace oZ78 := oZ78.mono hEw9.size
  have lB1_w10 := B1.lt
  have lB2_w10 := B2.lt
  have lB3_w10 := B3.lt
  have lB4_w10 := B4.lt
  have lB5_w10 := B5.lt
  obtain ⟨w11, hww11⟩ : ∃ W, w10.alloc (.cells #[.bool Z78.N.b, .slice Z78.N.p Z78.N.n Z78.N.c, .bool Z78.D.b, .slice Z78.D.p Z78.D.n Z78.D.c] 33) = W := ⟨_, rfl⟩
  have ew11 : Ext w10 w11 := by rw [← hww11]; exact ea _ _
  have B6 : Cells w11 (w10.heap.size) 33 #[.bool Z78.N.b, .slice Z78.N.p Z78.N.n Z78.N.c, .bool Z78.D.b, .slice Z78.D.p Z78.D.n Z78.D.c] := by rw [← hww11]; exact Cells.newAt _ _ (by omega)
  replace hZ45 := hZ45.ext ew11
  replace hZ56 := hZ56.ext ew11
  replace hZ67 := hZ67.ext ew11
  replace hZ78 := hZ78.ext ew11
  replace oZ45 := oZ45.ext ew11
  replace oZ56 := oZ56.ext ew11
  replace oZ67 := oZ67.ext ew11
  replace oZ78 := oZ78.ext ew11
  replace B1 := B1.ext ew11
  replace B2 := B2.ext ew11
  replace B3 := B3.ext ew11
  replace B4 := B4.ext ew11
  replace B5 := B5.ext ew11
  have zw11 := alloc_lt hww11
  have hEw11 := eg hEw10 ew11
  have b1_0_w11 := B1.cell (k := 0) rfl
  have b1_1_w11 := B1.cell (k := 1) rfl
  have b1_2_w11 := B1.cell (k := 2) rfl
  have b2_0_w11 := B2.cell (k := 0) rfl
  have b2_1_w11 := B2.cell (k := 1) rfl
  have lB1_w11 := B1.lt
  have lB2_w11 := B2.lt
  have lB3_w11 := B3.lt
  have lB4_w11 := B4.lt
  have lB5_w11 := B5.lt
  have lB6_w11 := B6.lt
  go_wp2_with fail
  clear hww11
  clear b1_0_w9 b1_1_w9 b1_2_w9 b2_0_w9 b2_1_w9 lB1_w9 lB2_w9 lB3_w9 lB4_w9 lB5_w9 lB1_w10 lB2_w10 lB3_w10 lB4_w10 lB5_w10
  have yw11 := Nat.le_of_eq zw11
  replace zw11 := Nat.le_of_eq zw11.symm
  refine regionS ⟨12, 11, 7, 33, 4, lvT⟩ 13 (fun k => match k with | 4 => some (.v (.agg #[.int .i64 e, .int .i64 (y + m)])) | 7 => some (.fe (ldq T R e (y + m) (n).toNat) 0) | 11 => some (.boxS 33 4) | _ => none) (by kernel_rfl) (by kernel_rfl) (by decide) ?hT9 rfl (by kernel_rfl) (by kernel_rfl) ?_
  case hT9 =>
    intro k t h
    split at h <;> first | (cases h; first | exact st_f _ | exact st_fe _ _ | exact st_bs _ _ | exact st_v _ | exact st_w _ | exact st_we _ _ | exact st_f0 _ | exact st_w0 _) | cases h
  iterate 4
    refine Walk.one (x := ?_) rfl rfl (fun w1 hI hL K hK => ?_) ?_
    rotate_left
    · obtain ⟨hc, hf⟩ := bcell hI
      go_simp
      repeat (first | (go_ints; try go_simp) | (simp only [↓IntWalk.iteOmega]; try go_simp))
      exact hK
    simp only [Act.put, List.setIfInBounds_toArray, List.set_cons_zero, List.set_cons_succ]
  refine Walk.tellS rfl rfl (.inl (by simp)) rfl (fun w1 hI hL K hK => ?_) ?_
  · go_simp
    exact (nlater e y m w1 (by omega) (by omega) (by omega) (by omega)).mono (tell hK)
  rintro _ rfl
  simp only [Act.put, List.setIfInBounds_toArray, List.set_cons_zero, List.set_cons_succ]
  iterate 2
    refine Walk.one (x := ?_) rfl rfl (fun w1 hI hL K hK => ?_) ?_
    rotate_left
    · obtain ⟨hc, hf⟩ := bcell hI
      go_simp
      repeat (first | (go_ints; try go_simp) | (simp only [↓IntWalk.iteOmega]; try go_simp))
      exact hK
    simp only [Act.put, List.setIfInBounds_toArray, List.set_cons_zero, List.set_cons_succ]
  refine Walk.tellS rfl rfl (.inl (by simp)) rfl (fun w1 hI hL K hK => ?_) ?_
  · go_simp
    exact (lDies T R e (y + m) (n) w1 (hT.ext (eg hEw11 hI)) HR.out (by omega)).mono (tell hK)
  rintro _ ⟨Z89, rfl⟩
  simp only [Act.put, List.setIfInBounds_toArray, List.set_cons_zero, List.set_cons_succ]
  iterate 3
    refine Walk.one (x := ?_) rfl rfl (fun w1 hI hL K hK => ?_) ?_
    rotate_left
    · obtain ⟨hc, hf⟩ := bcell hI
      go_simp
      repeat (first | (go_ints; try go_simp) | (simp only [↓IntWalk.iteOmega]; try go_simp))
      exact hK
    simp only [Act.put, List.setIfInBounds_toArray, List.set_cons_zero, List.set_cons_succ]
  refine Walk.tellS rfl rfl (.inl (by simp)) rfl (fun w1 hI hL K hK => ?_) ?_
  · go_simp
    exact tellBS rfl (by simp [NoU]) hK
  rintro _ ⟨g17, rfl⟩
  simp only [Act.put, List.setIfInBounds_toArray, List.set_cons_zero, List.set_cons_succ]
  refine Walk.storeS (g := g17) (vc := .tuple #[.agg #[.bool Z89.N.b, .slice Z89.N.p Z89.N.n Z89.N.c, .bool Z89.D.b, .slice Z89.D.p Z89.D.n Z89.D.c], .int .i64 0]) rfl rfl rfl rfl rfl (by simp) (by kernel_rfl) (by simp) (by simp) (by simp) (fun c hc => splice4 (.bool Z89.N.b) (.slice Z89.N.p Z89.N.n Z89.N.c) (.bool Z89.D.b) (.slice Z89.D.p Z89.D.n Z89.D.c) c hc) (by simp [NoU, lvT]) (fun w1 c hI hC hc hL K hK => ?_) ?_
  · obtain ⟨u0, c0⟩ := hC.some (k := 0) (by have hc2 : c.size = 4 := hc; omega)
    obtain ⟨u1, c1⟩ := hC.some (k := 1) (by have hc2 : c.size = 4 := hc; omega)
    obtain ⟨u2, c2⟩ := hC.some (k := 2) (by have hc2 : c.size = 4 := hc; omega)
    obtain ⟨u3, c3⟩ := hC.some (k := 3) (by have hc2 : c.size = 4 := hc; omega)
    have f0 := hC.frozen 0
    have f1 := hC.frozen 1
    have f2 := hC.frozen 2
    have f3 := hC.frozen 3
    go_simp
    exact hK
  intro vs
  simp only [Act.put, List.setIfInBounds_toArray, List.set_cons_zero, List.set_cons_succ]
  refine Walk.nilS (g := g17) (vc := .tuple #[.agg #[.bool Z89.N.b, .slice Z89.N.p Z89.N.n Z89.N.c, .bool Z89.D.b, .slice Z89.D.p Z89.D.n Z89.D.c], .int .i64 0]) (vs := vs) (by simp) (by simp) (by simp) (by decide) (by decide) fun w12 ew12 kzL kzC kzX => ?_
  replace hZ45 := hZ45.ext ew12
  replace hZ56 := hZ56.ext ew12
  replace hZ67 := hZ67.ext ew12
  replace hZ78 := hZ78.ext ew12
  replace oZ45 := oZ45.ext ew12
  replace oZ56 := oZ56.ext ew12
  replace oZ67 := oZ67.ext ew12
  replace oZ78 := oZ78.ext ew12
  replace B1 := B1.ext ew12
  replace B2 := B2.ext ew12
  replace B3 := B3.ext ew12
  replace B4 := B4.ext ew12
  replace B5 := B5.ext ew12
  replace B6 := B6.ext ew12
  have hEw12 := eg hEw11 ew12
  have zw12 := ew12.size
  obtain ⟨hZ89, oZ89⟩ := Tl.getFe (kzS (i := 7) (v := .tuple #[.agg #[.bool Z89.N.b, .slice Z89.N.p Z89.N.n Z89.N.c, .bool Z89.D.b, .slice Z89.D.p Z89.D.n Z89.D.c], .int .i64 0]) rfl rfl (by simp) kzL)
  replace oZ89 := oZ89.mono hEw11.size
  obtain ⟨B7, yB7⟩ := kzC
  replace B7 : Cells w12 (g17) 33 #[.bool Z89.N.b, .slice Z89.N.p Z89.N.n Z89.N.c, .bool Z89.D.b, .slice Z89.D.p Z89.D.n Z89.D.c] := B7
  clear kzL kzX
  have b1_0_w12 := B1.cell (k := 0) rfl
  have b1_1_w12 := B1.cell (k := 1) rfl
  have b1_2_w12 := B1.cell (k := 2) rfl
  have b2_0_w12 := B2.cell (k := 0) rfl
  have b2_1_w12 := B2.cell (k := 1) rfl
  have lB1_w12 := B1.lt
  have lB2_w12 := B2.lt
  have lB3_w12 := B3.lt
  have lB4_w12 := B4.lt
  have lB5_w12 := B5.lt
  have lB6_w12 := B6.lt
  have lB7_w12 := B7.lt
  simp only [List.drop_succ_cons, List.drop_zero, List.drop_nil]
  go_wp2_with fail
  clear b1_0_w11 b1_1_w11 b1_2_w11 b2_0_w11 b2_1_w11 lB1_w11 lB2_w11 lB3_w11 lB4_w11 lB5_w11 lB6_w11
  refine (lRate T R e y _ (hT.ext hEw12) Hok.out).mono ?_
  intro ee w13 gg
  obtain ⟨Z95, rfl, hZ95, oZ95, ew13⟩ := Gv.fe gg
  replace hZ45 := hZ45.ext ew13
  replace hZ56 := hZ56.ext ew13
  replace hZ67 := hZ67.ext ew13
  replace hZ78 := hZ78.ext ew13
  replace hZ89 := hZ89.ext ew13
  replace oZ45 := oZ45.ext ew13
  replace oZ56 := oZ56.ext ew13
  replace oZ67 := oZ67.ext ew13
  replace oZ78 := oZ78.ext ew13
  replace oZ89 := oZ89.ext ew13
  replace B1 := B1.ext ew13
  replace B2 := B2.ext ew13
  replace B3 := B3.ext ew13
  replace B4 := B4.ext ew13
  replace B5 := B5.ext ew13
  replace B6 := B6.ext ew13
  replace B7 := B7.ext ew13
  have hEw13 := eg hEw12 ew13
  have zw13 := ew13.size
  replace oZ95 := oZ95.mono hEw12.size
  have lB1_w13 := B1.lt
  have lB2_w13 := B2.lt
  have lB3_w13 := B3.lt
  have lB4_w13 := B4.lt
  have lB5_w13 := B5.lt
  have lB6_w13 := B6.lt
  have lB7_w13 := B7.lt
  obtain ⟨w14, hww14⟩ : ∃ W, w13.alloc (.cells #[.bool Z95.N.b, .slice Z95.N.p Z95.N.n Z95.N.c, .bool Z95.D.b, .slice Z95.D.p Z95.D.n Z95.D.c] 33) = W := ⟨_, rfl⟩
  have ew14 : Ext w13 w14 := by rw [← hww14]; exact ea _ _
  have B8 : Cells w14 (w13.heap.size) 33 #[.bool Z95.N.b, .slice Z95.N.p Z95.N.n Z95.N.c, .bool Z95.D.b, .slice Z95.D.p Z95.D.n Z95.D.c] := by rw [← hww14]; exact Cells.newAt _ _ (by omega)
  replace hZ45 := hZ45.ext ew14
  replace hZ56 := hZ56.ext ew14
  replace hZ67 := hZ67.ext ew14
  replace hZ78 := hZ78.ext ew14
  replace hZ89 := hZ89.ext ew14
  replace hZ95 := hZ95.ext ew14
  replace oZ45 := oZ45.ext ew14
  replace oZ56 := oZ56.ext ew14
  replace oZ67 := oZ67.ext ew14
  replace oZ78 := oZ78.ext ew14
  replace oZ89 := oZ89.ext ew14
  replace oZ95 := oZ95.ext ew14
  replace B1 := B1.ext ew14
  replace B2 := B2.ext ew14
  replace B3 := B3.ext ew14
  replace B4 := B4.ext ew14
  replace B5 := B5.ext ew14
  replace B6 := B6.ext ew14
  replace B7 := B7.ext ew14
  have zw14 := alloc_lt hww14
  have hEw14 := eg hEw13 ew14
  have b1_0_w14 := B1.cell (k := 0) rfl
  have b1_1_w14 := B1.cell (k := 1) rfl
  have b1_2_w14 := B1.cell (k := 2) rfl
  have b2_0_w14 := B2.cell (k := 0) rfl
  have b2_1_w14 := B2.cell (k := 1) rfl
  have lB1_w14 := B1.lt
  have lB2_w14 := B2.lt
  have lB3_w14 := B3.lt
  have lB4_w14 := B4.lt
  have lB5_w14 := B5.lt
  have lB6_w14 := B6.lt
  have lB7_w14 := B7.lt
  have lB8_w14 := B8.lt
  go_wp2_with fail
  clear hww14
  clear b1_0_w12 b1_1_w12 b1_2_w12 b2_0_w12 b2_1_w12 lB1_w12 lB2_w12 lB3_w12 lB4_w12 lB5_w12 lB6_w12 lB7_w12 lB1_w13 lB2_w13 lB3_w13 lB4_w13 lB5_w13 lB6_w13 lB7_w13
  have yw14 := Nat.le_of_eq zw14
  replace zw14 := Nat.le_of_eq zw14.symm
  refine (lDies T R e (y) (0) _ (hT.ext hEw14) Hok.out (by omega)).mono ?_
  intro ee w15 gg
  obtain ⟨Z101, rfl, hZ101, oZ101, ew15⟩ := Gv.fe gg
  replace hZ45 := hZ45.ext ew15
  replace hZ56 := hZ56.ext ew15
  replace hZ67 := hZ67.ext ew15
  replace hZ78 := hZ78.ext ew15
  replace hZ89 := hZ89.ext ew15
  replace hZ95 := hZ95.ext ew15
  replace oZ45 := oZ45.ext ew15
  replace oZ56 := oZ56.ext ew15
  replace oZ67 := oZ67.ext ew15
  replace oZ78 := oZ78.ext ew15
  replace oZ89 := oZ89.ext ew15
  replace oZ95 := oZ95.ext ew15
  replace B1 := B1.ext ew15
  replace B2 := B2.ext ew15
  replace B3 := B3.ext ew15
  replace B4 := B4.ext ew15
  replace B5 := B5.ext ew15
  replace B6 := B6.ext ew15
  replace B7 := B7.ext ew15
  replace B8 := B8.ext ew15
  have hEw15 := eg hEw14 ew15
  have zw15 := ew15.size
  replace oZ101 := oZ101.mono hEw14.size
  have lB1_w15 := B1.lt
  have lB2_w15 := B2.lt
  have lB3_w15 := B3.lt
  have lB4_w15 := B4.lt
  have lB5_w15 := B5.lt
  have lB6_w15 := B6.lt
  have lB7_w15 := B7.lt
  have lB8_w15 := B8.lt
  obtain ⟨w16, hww16⟩ : ∃ W, w15.alloc (.cells #[.bool Z101.N.b, .slice Z101.N.p Z101.N.n Z101.N.c, .bool Z101.D.b, .slice Z101.D.p Z101.D.n Z101.D.c] 33) = W := ⟨_, rfl⟩
  have ew16 : Ext w15 w16 := by rw [← hww16]; exact ea _ _
  have B9 : Cells w16 (w15.heap.size) 33 #[.bool Z101.N.b, .slice Z101.N.p Z101.N.n Z101.N.c, .bool Z101.D.b, .slice Z101.D.p Z101.D.n Z101.D.c] := by rw [← hww16]; exact Cells.newAt _ _ (by omega)
  replace hZ45 := hZ45.ext ew16
  replace hZ56 := hZ56.ext ew16
  replace hZ67 := hZ67.ext ew16
  replace hZ78 := hZ78.ext ew16
  replace hZ89 := hZ89.ext ew16
  replace hZ95 := hZ95.ext ew16
  replace hZ101 := hZ101.ext ew16
  replace oZ45 := oZ45.ext ew16
  replace oZ56 := oZ56.ext ew16
  replace oZ67 := oZ67.ext ew16
  replace oZ78 := oZ78.ext ew16
  replace oZ89 := oZ89.ext ew16
  replace oZ95 := oZ95.ext ew16
  replace oZ101 := oZ101.ext ew16
  replace B1 := B1.ext ew16
  replace B2 := B2.ext ew16
  replace B3 := B3.ext ew16
  replace B4 := B4.ext ew16
  replace B5 := B5.ext ew16
  replace B6 := B6.ext ew16
  replace B7 := B7.ext ew16
  replace B8 := B8.ext ew16
  have zw16 := alloc_lt hww16
  have hEw16 := eg hEw15 ew16
  have b1_0_w16 := B1.cell (k := 0) rfl
  have b1_1_w16 := B1.cell (k := 1) rfl
  have b1_2_w16 := B1.cell (k := 2) rfl
  have b2_0_w16 := B2.cell (k := 0) rfl
  have b2_1_w16 := B2.cell (k := 1) rfl
  have lB1_w16 := B1.lt
  have lB2_w16 := B2.lt
  have lB3_w16 := B3.lt
  have lB4_w16 := B4.lt
  have lB5_w16 := B5.lt
  have lB6_w16 := B6.lt
  have lB7_w16 := B7.lt
  have lB8_w16 := B8.lt
  have lB9_w16 := B9.lt
  go_wp2_with fail
  clear hww16
  clear b1_0_w14 b1_1_w14 b1_2_w14 b2_0_w14 b2_1_w14 lB1_w14 lB2_w14 lB3_w14 lB4_w14 lB5_w14 lB6_w14 lB7_w14 lB8_w14 lB1_w15 lB2_w15 lB3_w15 lB4_w15 lB5_w15 lB6_w15 lB7_w15 lB8_w15
  have yw16 := Nat.le_of_eq zw16
  replace zw16 := Nat.le_of_eq zw16.symm
  refine (lAlive T R e (y) (1) _ (hT.ext hEw16) Hok.out (by omega)).mono ?_
  intro ee w17 gg
  obtain ⟨Z107, rfl, hZ107, oZ107, ew17⟩ := Gv.fe gg
  replace hZ45 := hZ45.ext ew17
  replace hZ56 := hZ56.ext ew17
  replace hZ67 := hZ67.ext ew17
  replace hZ78 := hZ78.ext ew17
  replace hZ89 := hZ89.ext ew17
  replace hZ95 := hZ95.ext ew17
  replace hZ101 := hZ101.ext ew17
  replace oZ45 := oZ45.ext ew17
  replace oZ56 := oZ56.ext ew17
  replace oZ67 := oZ67.ext ew17
  replace oZ78 := oZ78.ext ew17
  replace oZ89 := oZ89.ext ew17
  replace oZ95 := oZ95.ext ew17
  replace oZ101 := oZ101.ext ew17
  replace B1 := B1.ext ew17
  replace B2 := B2.ext ew17
  replace B3 := B3.ext ew17
  replace B4 := B4.ext ew17
  replace B5 := B5.ext ew17
  replace B6 := B6.ext ew17
  replace B7 := B7.ext ew17
  replace B8 := B8.ext ew17
  replace B9 := B9.ext ew17
  have hEw17 := eg hEw16 ew17
  have zw17 := ew17.size
  replace oZ107 := oZ107.mono hEw16.size
  have lB1_w17 := B1.lt
  have lB2_w17 := B2.lt
  have lB3_w17 := B3.lt
  have lB4_w17 := B4.lt
  have lB5_w17 := B5.lt
  have lB6_w17 := B6.lt
  have lB7_w17 := B7.lt
  have lB8_w17 := B8.lt
  have lB9_w17 := B9.lt
  obtain ⟨w18, hww18⟩ : ∃ W, w17.alloc (.cells #[.bool Z107.N.b, .slice Z107.N.p Z107.N.n Z107.N.c, .bool Z107.D.b, .slice Z107.D.p Z107.D.n Z107.D.c] 33) = W := ⟨_, rfl⟩
  have ew18 : Ext w17 w18 := by rw [← hww18]; exact ea _ _
  have B10 : Cells w18 (w17.heap.size) 33 #[.bool Z107.N.b, .slice Z107.N.p Z107.N.n Z107.N.c, .bool Z107.D.b, .slice Z107.D.p Z107.D.n Z107.D.c] := by rw [← hww18]; exact Cells.newAt _ _ (by omega)
  replace hZ45 := hZ45.ext ew18
  replace hZ56 := hZ56.ext ew18
  replace hZ67 := hZ67.ext ew18
  replace hZ78 := hZ78.ext ew18
  replace hZ89 := hZ89.ext ew18
  replace hZ95 := hZ95.ext ew18
  replace hZ101 := hZ101.ext ew18
  replace hZ107 := hZ107.ext ew18
  replace oZ45 := oZ45.ext ew18
  replace oZ56 := oZ56.ext ew18
  replace oZ67 := oZ67.ext ew18
  replace oZ78 := oZ78.ext ew18
  replace oZ89 := oZ89.ext ew18
  replace oZ95 := oZ95.ext ew18
  replace oZ101 := oZ101.ext ew18
  replace oZ107 := oZ107.ext ew18
  replace B1 := B1.ext ew18
  replace B2 := B2.ext ew18
  replace B3 := B3.ext ew18
  replace B4 := B4.ext ew18
  replace B5 := B5.ext ew18
  replace B6 := B6.ext ew18
  replace B7 := B7.ext ew18
  replace B8 := B8.ext ew18
  replace B9 := B9.ext ew18
  have zw18 := alloc_lt hww18
  have hEw18 := eg hEw17 ew18
  have b3_0_w18 := B3.cell (k := 0) rfl
  have b3_1_w18 := B3.cell (k := 1) rfl
  have b3_2_w18 := B3.cell (k := 2) rfl
  have b3_3_w18 := B3.cell (k := 3) rfl
  have b4_0_w18 := B4.cell (k := 0) rfl
  have b4_1_w18 := B4.cell (k := 1) rfl
  have b4_2_w18 := B4.cell (k := 2) rfl
  have b4_3_w18 := B4.cell (k := 3) rfl
  have b5_0_w18 := B5.cell (k := 0) rfl
  have b5_1_w18 := B5.cell (k := 1) rfl
  have b5_2_w18 := B5.cell (k := 2) rfl
  have b5_3_w18 := B5.cell (k := 3) rfl
  have b7_0_w18 := B7.cell (k := 0) rfl
  have b7_1_w18 := B7.cell (k := 1) rfl
  have b7_2_w18 := B7.cell (k := 2) rfl
  have b7_3_w18 := B7.cell (k := 3) rfl
  have b6_0_w18 := B6.cell (k := 0) rfl
  have b6_1_w18 := B6.cell (k := 1) rfl
  have b6_2_w18 := B6.cell (k := 2) rfl
  have b6_3_w18 := B6.cell (k := 3) rfl
  have b8_0_w18 := B8.cell (k := 0) rfl
  have b8_1_w18 := B8.cell (k := 1) rfl
  have b8_2_w18 := B8.cell (k := 2) rfl
  have b8_3_w18 := B8.cell (k := 3) rfl
  have b9_0_w18 := B9.cell (k := 0) rfl
  have b9_1_w18 := B9.cell (k := 1) rfl
  have b9_2_w18 := B9.cell (k := 2) rfl
  have b9_3_w18 := B9.cell (k := 3) rfl
  have b10_0_w18 := B10.cell (k := 0) rfl
  have b10_1_w18 := B10.cell (k := 1) rfl
  have b10_2_w18 := B10.cell (k := 2) rfl
  have b10_3_w18 := B10.cell (k := 3) rfl
  have lB1_w18 := B1.lt
  have lB2_w18 := B2.lt
  have lB3_w18 := B3.lt
  have lB4_w18 := B4.lt
  have lB5_w18 := B5.lt
  have lB6_w18 := B6.lt
  have lB7_w18 := B7.lt
  have lB8_w18 := B8.lt
  have lB9_w18 := B9.lt
  have lB10_w18 := B10.lt
  go_upto_region 13 with (fail)
  clear hww18
  clear b1_0_w16 b1_1_w16 b1_2_w16 b2_0_w16 b2_1_w16 lB1_w16 lB2_w16 lB3_w16 lB4_w16 lB5_w16 lB6_w16 lB7_w16 lB8_w16 lB9_w16 lB1_w17 lB2_w17 lB3_w17 lB4_w17 lB5_w17 lB6_w17 lB7_w17 lB8_w17 lB9_w17
  have yw18 := Nat.le_of_eq zw18
  replace zw18 := Nat.le_of_eq zw18.symm
  refine wp_region_lit ?_
  iterate 30
    refine wpList_one (x := ?_) (by kernel_rfl) (fun K hK => ?_) ?_
    rotate_left
    · go_simp
      repeat (first | (go_ints; try go_simp) | (simp only [↓IntWalk.iteOmega]; try go_simp))
      exact hK
    simp only [Act.put, List.setIfInBounds_toArray, List.set_cons_zero, List.set_cons_succ]
  go_wp2_with fail
  refine regionT 23 (fun k => match k with | 2 => some (.f ((lal T R e (y) (m).toNat) * (lal T R e (y + m) (n).toNat))) | 4 => some (.v (.bool true)) | 8 => some (.f ((lal T R e (y) (m).toNat) * (ldq T R e (y + m) (n).toNat))) | 10 => some (.v (.bool true)) | 15 => some (.v (.bool true)) | 20 => some (.f (1 - (rt T R e y))) | 21 => some (.v (.bool true)) | _ => none) (by kernel_rfl) (by kernel_rfl) ?_
  iterate 2
    refine Walk.one (x := ?_) rfl rfl (fun w1 hI hL K hK => ?_) ?_
    rotate_left
    · obtain ⟨hc, hf⟩ := bcell hI
      go_simp
      repeat (first | (go_ints; try go_simp) | (simp only [↓IntWalk.iteOmega]; try go_simp))
      exact hK
    simp only [Act.put, List.setIfInBounds_toArray, List.set_cons_zero, List.set_cons_succ]
  refine Walk.tell rfl rfl (fun w1 hI hL K hK => ?_) ?_
  · go_simp
    exact (nproduct Z45 Z56 _ _ w1 ((hZ45).ext hI) ((hZ56).ext hI) (lal_sz hT0 Hok.out _) (lal_sz hT0 HR.out _) (lal_steps_sz hT0 Hok.out hm0 hn0)).mono (tell hK)
  rintro _ ⟨Z142, rfl⟩
  simp only [Act.put, List.setIfInBounds_toArray, List.set_cons_zero, List.set_cons_succ]
  refine Walk.one (x := ?_) rfl rfl (fun w1 hI hL K hK => ?_) ?_
  rotate_left
  · obtain ⟨hc, hf⟩ := bcell hI
    go_simp
    repeat (first | (go_ints; try go_simp) | (simp only [↓IntWalk.iteOmega]; try go_simp))
    exact hK
  simp only [Act.put, List.setIfInBounds_toArray, List.set_cons_zero, List.set_cons_succ]
  refine Walk.tell rfl rfl (fun w1 hI hL K hK => ?_) ?_
  · go_simp
    exact (nequal_t Z142 Z67 _ _ w1 ((Tl.getF (kn (i := 2) (v := .agg #[.bool Z142.N.b, .slice Z142.N.p Z142.N.n Z142.N.c, .bool Z142.D.b, .slice Z142.D.p Z142.D.n Z142.D.c]) rfl (by simp) (by kernel_rfl) hL)).1) ((hZ67).ext hI) (lal_steps_sz hT0 Hok.out hm0 hn0) (lal_sz hT0 Hok.out _) (lal_steps T R e y m n hm0 hn0)).mono (tell hK)
  rintro _ rfl
  simp only [Act.put, List.setIfInBounds_toArray, List.set_cons_zero, List.set_cons_succ]
  refine Walk.one (x := ?_) rfl rfl (fun w1 hI hL K hK => ?_) ?_
  rotate_left
  · obtain ⟨hc, hf⟩ := bcell hI
    go_simp
    repeat (first | (go_ints; try go_simp) | (simp only [↓IntWalk.iteOmega]; try go_simp))
    exact hK
  simp only [Act.put, List.setIfInBounds_toArray, List.set_cons_zero, List.set_cons_succ]
  refine Walk.oneG (x := ?_) rfl (by kernel_rfl) (fun w1 hI hL K hK => ?_) ?_
  rotate_left
  · obtain ⟨hc, hf⟩ := bcell hI
    go_simp
    repeat (first | (go_ints; try go_simp) | (simp only [↓IntWalk.iteOmega]; try go_simp))
    exact hK
  simp only [Act.put, List.setIfInBounds_toArray, List.set_cons_zero, List.set_cons_succ]
  refine Walk.oneG (x := ?_) rfl (by kernel_rfl) (fun w1 hI hL K hK => ?_) ?_
  rotate_left
  · obtain ⟨hc, hf⟩ := bcell hI
    go_simp
    repeat (first | (go_ints; try go_simp) | (simp only [↓IntWalk.iteOmega]; try go_simp))
    exact hK
  simp only [Act.put, List.setIfInBounds_toArray, List.set_cons_zero, List.set_cons_succ]
  refine Walk.tellG rfl (by kernel_rfl) (fun w1 hI hL K hK => ?_) ?_
  · go_simp
    exact (nproduct Z45 Z89 _ _ w1 ((hZ45).ext hI) ((hZ89).ext hI) (lal_sz hT0 Hok.out _) (ldq_sz hT0 HR.out _) (ldq_steps_sz hT0 Hok.out hm0 hn0)).mono (tell hK)
  rintro _ ⟨Z148, rfl⟩
  simp only [Act.put, List.setIfInBounds_toArray, List.set_cons_zero, List.set_cons_succ]
  refine Walk.oneG (x := ?_) rfl (by kernel_rfl) (fun w1 hI hL K hK => ?_) ?_
  rotate_left
  · obtain ⟨hc, hf⟩ := bcell hI
    go_simp
    repeat (first | (go_ints; try go_simp) | (simp only [↓IntWalk.iteOmega]; try go_simp))
    exact hK
  simp only [Act.put, List.setIfInBounds_toArray, List.set_cons_zero, List.set_cons_succ]
  refine Walk.tellG rfl (by kernel_rfl) (fun w1 hI hL K hK => ?_) ?_
  · go_simp
    exact (nequal_t Z148 Z78 _ _ w1 ((Tl.getF (kn (i := 8) (v := .agg #[.bool Z148.N.b, .slice Z148.N.p Z148.N.n Z148.N.c, .bool Z148.D.b, .slice Z148.D.p Z148.D.n Z148.D.c]) rfl (by simp) (by kernel_rfl) hL)).1) ((hZ78).ext hI) (ldq_steps_sz hT0 Hok.out hm0 hn0) (ldq_sz hT0 Hok.out _) (ldq_steps T R e y m n hm0 hn0)).mono (tell hK)
  rintro _ rfl
  simp only [Act.put, List.setIfInBounds_toArray, List.set_cons_zero, List.set_cons_succ]
  iterate 2
    refine Walk.one (x := ?_) rfl rfl (fun w1 hI hL K hK => ?_) ?_
    rotate_left
    · obtain ⟨hc, hf⟩ := bcell hI
      go_simp
      repeat (first | (go_ints; try go_simp) | (simp only [↓IntWalk.iteOmega]; try go_simp))
      exact hK
    simp only [Act.put, List.setIfInBounds_toArray, List.set_cons_zero, List.set_cons_succ]
  refine Walk.oneG (x := ?_) rfl (by kernel_rfl) (fun w1 hI hL K hK => ?_) ?_
  rotate_left
  · obtain ⟨hc, hf⟩ := bcell hI
    go_simp
    repeat (first | (go_ints; try go_simp) | (simp only [↓IntWalk.iteOmega]; try go_simp))
    exact hK
  simp only [Act.put, List.setIfInBounds_toArray, List.set_cons_zero, List.set_cons_succ]
  refine Walk.oneG (x := ?_) rfl (by kernel_rfl) (fun w1 hI hL K hK => ?_) ?_
  rotate_left
  · obtain ⟨hc, hf⟩ := bcell hI
    go_simp
    repeat (first | (go_ints; try go_simp) | (simp only [↓IntWalk.iteOmega]; try go_simp))
    exact hK
  simp only [Act.put, List.setIfInBounds_toArray, List.set_cons_zero, List.set_cons_succ]
  refine Walk.tellG rfl (by kernel_rfl) (fun w1 hI hL K hK => ?_) ?_
  · go_simp
    exact (nequal_t Z95 Z101 _ _ w1 ((hZ95).ext hI) ((hZ101).ext hI) ((rt_sz hT0 Hok.out).1) (ldq_sz hT0 Hok.out _) (ldq_first T R e y)).mono (tell hK)
  rintro _ rfl
  simp only [Act.put, List.setIfInBounds_toArray, List.set_cons_zero, List.set_cons_succ]
  iterate 2
    refine Walk.one (x := ?_) rfl rfl (fun w1 hI hL K hK => ?_) ?_
    rotate_left
    · obtain ⟨hc, hf⟩ := bcell hI
      go_simp
      repeat (first | (go_ints; try go_simp) | (simp only [↓IntWalk.iteOmega]; try go_simp))
      exact hK
    simp only [Act.put, List.setIfInBounds_toArray, List.set_cons_zero, List.set_cons_succ]
  refine Walk.oneG (x := ?_) rfl (by kernel_rfl) (fun w1 hI hL K hK => ?_) ?_
  rotate_left
  · obtain ⟨hc, hf⟩ := bcell hI
    go_simp
    repeat (first | (go_ints; try go_simp) | (simp only [↓IntWalk.iteOmega]; try go_simp))
    exact hK
  simp only [Act.put, List.setIfInBounds_toArray, List.set_cons_zero, List.set_cons_succ]
  refine Walk.oneG (x := ?_) rfl (by kernel_rfl) (fun w1 hI hL K hK => ?_) ?_
  rotate_left
  · obtain ⟨hc, hf⟩ := bcell hI
    go_simp
    repeat (first | (go_ints; try go_simp) | (simp only [↓IntWalk.iteOmega]; try go_simp))
    exact hK
  simp only [Act.put, List.setIfInBounds_toArray, List.set_cons_zero, List.set_cons_succ]
  refine Walk.tellG rfl (by kernel_rfl) (fun w1 hI hL K hK => ?_) ?_
  · go_simp
    exact (nnot Z95 _ w1 ((hZ95).ext hI) ((rt_sz hT0 Hok.out).1) ((rt_sz hT0 Hok.out).2)).mono (tell hK)
  rintro _ ⟨Z160, rfl⟩
  simp only [Act.put, List.setIfInBounds_toArray, List.set_cons_zero, List.set_cons_succ]
  refine Walk.tellG rfl (by kernel_rfl) (fun w1 hI hL K hK => ?_) ?_
  · go_simp
    exact (nequal_t Z107 Z160 _ _ w1 ((hZ107).ext hI) ((Tl.getF (kn (i := 20) (v := .agg #[.bool Z160.N.b, .slice Z160.N.p Z160.N.n Z160.N.c, .bool Z160.D.b, .slice Z160.D.p Z160.D.n Z160.D.c]) rfl (by simp) (by kernel_rfl) hL)).1) (lal_sz hT0 Hok.out _) ((rt_sz hT0 Hok.out).2) (lal_first T R e y)).mono (tell hK)
  rintro _ rfl
  simp only [Act.put, List.setIfInBounds_toArray, List.set_cons_zero, List.set_cons_succ]
  refine Walk.one (x := ?_) rfl rfl (fun w1 hI hL K hK => ?_) ?_
  rotate_left
  · obtain ⟨hc, hf⟩ := bcell hI
    go_simp
    repeat (first | (go_ints; try go_simp) | (simp only [↓IntWalk.iteOmega]; try go_simp))
    exact hK
  simp only [Act.put, List.setIfInBounds_toArray, List.set_cons_zero, List.set_cons_succ]
  refine Walk.nilF fun w19 ew19 kzL kzX => ?_
  replace hZ45 := hZ45.ext ew19
  replace hZ56 := hZ56.ext ew19
  replace hZ67 := hZ67.ext ew19
  replace hZ78 := hZ78.ext ew19
  replace hZ89 := hZ89.ext ew19
  replace hZ95 := hZ95.ext ew19
  replace hZ101 := hZ101.ext ew19
  replace hZ107 := hZ107.ext ew19
  replace oZ45 := oZ45.ext ew19
  replace oZ56 := oZ56.ext ew19
  replace oZ67 := oZ67.ext ew19
  replace oZ78 := oZ78.ext ew19
  replace oZ89 := oZ89.ext ew19
  replace oZ95 := oZ95.ext ew19
  replace oZ101 := oZ101.ext ew19
  replace oZ107 := oZ107.ext ew19
  replace B1 := B1.ext ew19
  replace B2 := B2.ext ew19
  replace B3 := B3.ext ew19
  replace B4 := B4.ext ew19
  replace B5 := B5.ext ew19
  replace B6 := B6.ext ew19
  replace B7 := B7.ext ew19
  replace B8 := B8.ext ew19
  replace B9 := B9.ext ew19
  replace B10 := B10.ext ew19
  have hEw19 := eg hEw18 ew19
  have zw19 := ew19.size
  obtain ⟨hZ142, oZ142⟩ := Tl.getF (kz (i := 2) (v := .agg #[.bool Z142.N.b, .slice Z142.N.p Z142.N.n Z142.N.c, .bool Z142.D.b, .slice Z142.D.p Z142.D.n Z142.D.c]) rfl (by simp) kzL)
  replace oZ142 := oZ142.mono hEw18.size
  obtain ⟨hZ148, oZ148⟩ := Tl.getF (kz (i := 8) (v := .agg #[.bool Z148.N.b, .slice Z148.N.p Z148.N.n Z148.N.c, .bool Z148.D.b, .slice Z148.D.p Z148.D.n Z148.D.c]) rfl (by simp) kzL)
  replace oZ148 := oZ148.mono hEw18.size
  obtain ⟨hZ160, oZ160⟩ := Tl.getF (kz (i := 20) (v := .agg #[.bool Z160.N.b, .slice Z160.N.p Z160.N.n Z160.N.c, .bool Z160.D.b, .slice Z160.D.p Z160.D.n Z160.D.c]) rfl (by simp) kzL)
  replace oZ160 := oZ160.mono hEw18.size
  clear kzL kzX
  have lB1_w19 := B1.lt
  have lB2_w19 := B2.lt
  have lB3_w19 := B3.lt
  have lB4_w19 := B4.lt
  have lB5_w19 := B5.lt
  have lB6_w19 := B6.lt
  have lB7_w19 := B7.lt
  have lB8_w19 := B8.lt
  have lB9_w19 := B9.lt
  have lB10_w19 := B10.lt
  simp only [List.drop_succ_cons, List.drop_zero, List.drop_nil]
  go_wp2_with fail
  clear b3_0_w18 b3_1_w18 b3_2_w18 b3_3_w18 b4_0_w18 b4_1_w18 b4_2_w18 b4_3_w18 b5_0_w18 b5_1_w18 b5_2_w18 b5_3_w18 b7_0_w18 b7_1_w18 b7_2_w18 b7_3_w18 b6_0_w18 b6_1_w18 b6_2_w18 b6_3_w18 b8_0_w18 b8_1_w18 b8_2_w18 b8_3_w18 b9_0_w18 b9_1_w18 b9_2_w18 b9_3_w18 b10_0_w18 b10_1_w18 b10_2_w18 b10_3_w18 lB1_w18 lB2_w18 lB3_w18 lB4_w18 lB5_w18 lB6_w18 lB7_w18 lB8_w18 lB9_w18 lB10_w18
  refine bodyPost_ret (v := .bool true) (by simp [results, Try.results4, go_sem]) rfl ?_
  exact Gv.of_v hEw19

theorem nSteps (T : Tb) (e y m n : Int) (w : World) (hT : TW w T) (ey : -9223372036854775808 ≤ e ∧ e ≤ 9223372036854775807 ∧ -9223372036854775808 ≤ y ∧ y ≤ 9223372036854775807) (hm0 : 0 ≤ m) (hm1 : m ≤ 255) (hn0 : 0 ≤ n) (hn1 : n ≤ 255) : Calls Try.prog 4 #[.agg #[.int .i64 T.first, .int .i64 T.sel, .slice T.P T.N T.C], .agg #[.int .i64 e, .int .i64 y], .int .u8 m, .int .u8 n] w (Gv (.v (.bool true)) w) := by
  cases hu : okU T e y
  · exact nSteps0 T e y m n w hT ey hu
  · obtain ⟨R, hR, _⟩ := okL_q hT (okU_l hu)
    cases hr : okL T e (y + m)
    · exact nStepsA T R e y m n w hR ey hu hm0 hm1 hn0 hn1 hr
    · exact nStepsB T R e y m n w hR ey hu hm0 hm1 hn0 hn1 hr
end Go.Proofs.Ytndgaecfeaedeaa
