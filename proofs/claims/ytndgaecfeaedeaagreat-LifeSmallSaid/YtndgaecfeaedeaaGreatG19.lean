/- Walks of package life: last, Right, rate. -/
import Derived.Test.YtndgaecfeaedeaaGreatG17
set_option linter.unusedSimpArgs false
set_option linter.unusedVariables false
namespace Go.Proofs.YtndgaecfeaedeaaGreat
open Go.RowKit Lex Mth
attribute [local go_sem] run_indexAt_at add_zero_map Oper.semAt_some at_zero at_add at_mk1 at_mk2 at_mk3

/-- The rate of a life. -/
def rt (T : Tb) (R : Nat → Nat → Rat) (e y : Int) : Rat := if T.first + T.N ≤ e + y then 1 else if y < T.sel then R (e - T.first).toNat y.toNat else R (e + y - T.first).toNat T.sel.toNat
theorem TQ.look {w : World} {T : Tb} {R : Nat → Nat → Rat} (h : TQ w T R) {k j : Nat} (hk : k < T.N) (hj : (j : Int) ≤ T.sel) : ∃ Q : Fr, FR w Q (R k j) ∧ FA w (T.rp k) j Q ∧ w.cell? (at_ T.P k) = some (.slice (T.rp k) (T.rn k) (T.rc k)) ∧ Has (T.rp k) (T.rn k) ∧ Has T.P T.N ∧ j < T.rn k := by
 have hr := h.rn k hk
 have hj2 : j < T.rn k := by omega
 exact ⟨T.el k j, h.q k hk j hj2, (h.tw.row k hk).el j hj2, h.tw.sl k hk, (h.tw.row k hk).has, h.tw.has, hj2⟩

set_option maxRecDepth 100000 in
theorem llast (T : Tb) (w : World) (hb : boundsOk T) :
    Calls Tryz.prog 69 #[.agg #[.int .i64 T.first, .int .i64 T.sel, .slice T.P T.N T.C]] w (Gv (.v (.int .i64 (T.first + (T.N : Int) - 1))) w) := by
 obtain ⟨b1, b2, b3, b4, b5, b6⟩ := id hb
 obtain ⟨w1, hww1, ew1, B1, zw1⟩ := alloc_at w (w.heap.size) (by omega) #[.int .i64 T.first, .int .i64 T.sel, .slice T.P T.N T.C] 24
 have b1_w1 := B1.c3
 go_enter Tryz.func69, Tryz.ntmps69
 go_wp2_with fail
 clear hww1
 replace zw1 := le2 zw1
 refine bodyPost_ret (v := .int .i64 (T.first + (T.N : Int) - 1)) (by simp [results, Tryz.results69, go_sem]) rfl ?_
 exact Gv.of_v ew1

theorem lValid_b (T : Tb) (b : Bool) (w : World) (h : TW w T) (hb : okT T = b) : Calls Tryz.prog 10 #[.agg #[.int .i64 T.first, .int .i64 T.sel, .slice T.P T.N T.C]] w (Gv (.v (.bool b)) w) := hb ▸ lValid T w h
/-- Right. -/
noncomputable def okL (T : Tb) (e y : Int) : Bool := okT T && decide (T.first ≤ e) && decide (e ≤ T.first + (T.N : Int) - 1) && decide (0 ≤ y) && decide (y ≤ 300)

set_option maxRecDepth 100000 in
theorem lRight1 (T : Tb) (e y : Int) (w : World) (hT : TW w T) (ey : -9223372036854775808 ≤ e ∧ e ≤ 9223372036854775807 ∧ -9223372036854775808 ≤ y ∧ y ≤ 9223372036854775807) (hok : okT T = false) :
    Calls Tryz.prog 28 #[.agg #[.int .i64 T.first, .int .i64 T.sel, .slice T.P T.N T.C], .agg #[.int .i64 e, .int .i64 y]] w (Gv (.v (.bool false)) w) := by
 have Hok := Lib.hid hok
 clear hok
 obtain ⟨w1, hww1, ew1, B1, zw1⟩ := alloc_at w (w.heap.size) (by omega) #[.int .i64 T.first, .int .i64 T.sel, .slice T.P T.N T.C] 24
 obtain ⟨w2, hww2, ew2, -, zw2⟩ := alloc_at w1 (w.heap.size + 1) (by omega) #[.int .i64 e, .int .i64 y] 26
 replace B1 := B1.ext ew2
 have b1_w2 := B1.c3
 have xw_w2 := eg ew1 ew2
 go_enter Tryz.func28, Tryz.ntmps28
 go_wp2_with fail
 clear hww1 hww2
 replace zw1 := le2 zw1
 replace zw2 := le2 zw2
 refine regionT 26 (fun kk => match kk with | 1 => some (.v (.bool false)) | _ => none) (by as_aux_lemma => kernel_rfl) (head_of (by as_aux_lemma => kernel_rfl)) ?_
 refine Walk.one (x := ?_) rfl rfl (fun w1 hI hL K hK => ?_) ?_
 rotate_left
 ·obtain ⟨hc, hf⟩ := bcell hI
  go_simp
  repeat (first | (go_ints; try go_simp) | (simp only [↓IntWalk.iteOmega]; try go_simp))
  exact hK
 simp only [Pq1]
 refine Walk.tell rfl rfl (fun w1 hI hL K hK => ?_) ?_
 ·go_simp
  exact (lValid_b T false w1 (hT.ext (eg xw_w2 hI)) Hok.out).mono (tell hK)
 rintro _ rfl
 simp only [Pq1]
 refine Walk.one (x := ?_) rfl rfl (fun w1 hI hL K hK => ?_) ?_
 rotate_left
 ·obtain ⟨hc, hf⟩ := bcell hI
  go_simp
  repeat (first | (go_ints; try go_simp) | (simp only [↓IntWalk.iteOmega]; try go_simp))
  exact hK
 simp only [Pq1]
 refine Walk.skip rfl (by as_aux_lemma => kernel_rfl) ?_
 simp only [Pq1]
 refine Walk.skip rfl (by as_aux_lemma => kernel_rfl) ?_
 simp only [Pq1]
 refine Walk.skip rfl (by as_aux_lemma => kernel_rfl) ?_
 simp only [Pq1]
 refine Walk.skip rfl (by as_aux_lemma => kernel_rfl) ?_
 simp only [Pq1]
 refine Walk.skip rfl (by as_aux_lemma => kernel_rfl) ?_
 simp only [Pq1]
 iterate 2
  refine Walk.one (x := ?_) rfl rfl (fun w1 hI hL K hK => ?_) ?_
  rotate_left
  ·obtain ⟨hc, hf⟩ := bcell hI
   go_simp
   repeat (first | (go_ints; try go_simp) | (simp only [↓IntWalk.iteOmega]; try go_simp))
   exact hK
  simp only [Pq1]
 refine Walk.skip rfl (by as_aux_lemma => kernel_rfl) ?_
 simp only [Pq1]
 refine Walk.skip rfl (by as_aux_lemma => kernel_rfl) ?_
 simp only [Pq1]
 refine Walk.skip rfl (by as_aux_lemma => kernel_rfl) ?_
 simp only [Pq1]
 refine Walk.skip rfl (by as_aux_lemma => kernel_rfl) ?_
 simp only [Pq1]
 refine Walk.skip rfl (by as_aux_lemma => kernel_rfl) ?_
 simp only [Pq1]
 iterate 2
  refine Walk.one (x := ?_) rfl rfl (fun w1 hI hL K hK => ?_) ?_
  rotate_left
  ·obtain ⟨hc, hf⟩ := bcell hI
   go_simp
   repeat (first | (go_ints; try go_simp) | (simp only [↓IntWalk.iteOmega]; try go_simp))
   exact hK
  simp only [Pq1]
 refine Walk.skip rfl (by as_aux_lemma => kernel_rfl) ?_
 simp only [Pq1]
 refine Walk.skip rfl (by as_aux_lemma => kernel_rfl) ?_
 simp only [Pq1]
 refine Walk.skip rfl (by as_aux_lemma => kernel_rfl) ?_
 simp only [Pq1]
 iterate 2
  refine Walk.one (x := ?_) rfl rfl (fun w1 hI hL K hK => ?_) ?_
  rotate_left
  ·obtain ⟨hc, hf⟩ := bcell hI
   go_simp
   repeat (first | (go_ints; try go_simp) | (simp only [↓IntWalk.iteOmega]; try go_simp))
   exact hK
  simp only [Pq1]
 refine Walk.skip rfl (by as_aux_lemma => kernel_rfl) ?_
 simp only [Pq1]
 refine Walk.skip rfl (by as_aux_lemma => kernel_rfl) ?_
 simp only [Pq1]
 refine Walk.skip rfl (by as_aux_lemma => kernel_rfl) ?_
 simp only [Pq1]
 refine Walk.one (x := ?_) rfl rfl (fun w1 hI hL K hK => ?_) ?_
 rotate_left
 ·obtain ⟨hc, hf⟩ := bcell hI
  go_simp
  repeat (first | (go_ints; try go_simp) | (simp only [↓IntWalk.iteOmega]; try go_simp))
  exact hK
 simp only [Pq1]
 refine Walk.nilF fun w3 ew3 kzL kzX => ?_
 have zw3 := ew3.size
 clear kzL kzX
 simp only [List.drop_succ_cons, List.drop_zero, List.drop_nil]
 have xw_w3 := eg xw_w2 ew3
 go_wp2_with fail
 clear b1_w2
 refine bodyPost_ret (v := .bool false) (by simp [results, Tryz.results28, go_sem]) rfl ?_
 exact Gv.of_v xw_w3

set_option maxRecDepth 100000 in
theorem lRight2 (T : Tb) (e y : Int) (w : World) (hT : TW w T) (ey : -9223372036854775808 ≤ e ∧ e ≤ 9223372036854775807 ∧ -9223372036854775808 ≤ y ∧ y ≤ 9223372036854775807) (hok : okT T = true) (hb : boundsOk T) (h1 : ¬ T.first ≤ e) :
    Calls Tryz.prog 28 #[.agg #[.int .i64 T.first, .int .i64 T.sel, .slice T.P T.N T.C], .agg #[.int .i64 e, .int .i64 y]] w (Gv (.v (.bool false)) w) := by
 have Hok := Lib.hid hok
 clear hok
 obtain ⟨b1, b2, b3, b4, b5, b6⟩ := id hb
 have d0 : decide (T.first ≤ e) = false := by simp; omega
 obtain ⟨w1, hww1, ew1, B1, zw1⟩ := alloc_at w (w.heap.size) (by omega) #[.int .i64 T.first, .int .i64 T.sel, .slice T.P T.N T.C] 24
 obtain ⟨w2, hww2, ew2, B2, zw2⟩ := alloc_at w1 (w.heap.size + 1) (by omega) #[.int .i64 e, .int .i64 y] 26
 replace B1 := B1.ext ew2
 have b1_w2 := B1.c3
 have xw_w2 := eg ew1 ew2
 have b2_w2 := B2.c2
 go_enter Tryz.func28, Tryz.ntmps28
 go_wp2_with fail
 clear hww1 hww2
 replace zw1 := le2 zw1
 replace zw2 := le2 zw2
 refine regionT 26 (fun kk => match kk with | 1 => some (.v (.bool true)) | _ => none) (by as_aux_lemma => kernel_rfl) (head_of (by as_aux_lemma => kernel_rfl)) ?_
 refine Walk.one (x := ?_) rfl rfl (fun w1 hI hL K hK => ?_) ?_
 rotate_left
 ·obtain ⟨hc, hf⟩ := bcell hI
  go_simp
  repeat (first | (go_ints; try go_simp) | (simp only [↓IntWalk.iteOmega]; try go_simp))
  exact hK
 simp only [Pq1]
 refine Walk.tell rfl rfl (fun w1 hI hL K hK => ?_) ?_
 ·go_simp
  exact (lValid_b T true w1 (hT.ext (eg xw_w2 hI)) Hok.out).mono (tell hK)
 rintro _ rfl
 simp only [Pq1]
 refine Walk.one (x := ?_) rfl rfl (fun w1 hI hL K hK => ?_) ?_
 rotate_left
 ·obtain ⟨hc, hf⟩ := bcell hI
  go_simp
  repeat (first | (go_ints; try go_simp) | (simp only [↓IntWalk.iteOmega]; try go_simp))
  exact hK
 simp only [Pq1]
 refine Walk.oneG (x := ?_) rfl (by as_aux_lemma => kernel_rfl) (fun w1 hI hL K hK => ?_) ?_
 rotate_left
 ·obtain ⟨hc, hf⟩ := bcell hI
  go_simp
  repeat (first | (go_ints; try go_simp) | (simp only [↓IntWalk.iteOmega]; try go_simp))
  exact hK
 simp only [Pq1]
 refine Walk.oneG (x := ?_) rfl (by as_aux_lemma => kernel_rfl) (fun w1 hI hL K hK => ?_) ?_
 rotate_left
 ·obtain ⟨hc, hf⟩ := bcell hI
  go_simp
  repeat (first | (go_ints; try go_simp) | (simp only [↓IntWalk.iteOmega]; try go_simp))
  exact hK
 simp only [Pq1]
 refine Walk.oneG (x := ?_) rfl (by as_aux_lemma => kernel_rfl) (fun w1 hI hL K hK => ?_) ?_
 rotate_left
 ·obtain ⟨hc, hf⟩ := bcell hI
  go_simp
  repeat (first | (go_ints; try go_simp) | (simp only [↓IntWalk.iteOmega]; try go_simp))
  exact hK
 simp only [Pq1]
 refine Walk.oneG (x := ?_) rfl (by as_aux_lemma => kernel_rfl) (fun w1 hI hL K hK => ?_) ?_
 rotate_left
 ·obtain ⟨hc, hf⟩ := bcell hI
  go_simp
  repeat (first | (go_ints; try go_simp) | (simp only [↓IntWalk.iteOmega]; try go_simp))
  exact hK
 simp only [Pq1]
 refine Walk.oneG (x := ?_) rfl (by as_aux_lemma => kernel_rfl) (fun w1 hI hL K hK => ?_) ?_
 rotate_left
 ·obtain ⟨hc, hf⟩ := bcell hI
  go_simp
  repeat (first | (go_ints; try go_simp) | (simp only [↓IntWalk.iteOmega]; try go_simp))
  exact hK
 simp only [Pq1]
 iterate 2
  refine Walk.one (x := ?_) rfl rfl (fun w1 hI hL K hK => ?_) ?_
  rotate_left
  ·obtain ⟨hc, hf⟩ := bcell hI
   go_simp
   repeat (first | (go_ints; try go_simp) | (simp only [↓IntWalk.iteOmega]; try go_simp))
   exact hK
  simp only [Pq1]
 refine Walk.skip rfl (by as_aux_lemma => kernel_rfl) ?_
 simp only [Pq1]
 refine Walk.skip rfl (by as_aux_lemma => kernel_rfl) ?_
 simp only [Pq1]
 refine Walk.skip rfl (by as_aux_lemma => kernel_rfl) ?_
 simp only [Pq1]
 refine Walk.skip rfl (by as_aux_lemma => kernel_rfl) ?_
 simp only [Pq1]
 refine Walk.skip rfl (by as_aux_lemma => kernel_rfl) ?_
 simp only [Pq1]
 iterate 2
  refine Walk.one (x := ?_) rfl rfl (fun w1 hI hL K hK => ?_) ?_
  rotate_left
  ·obtain ⟨hc, hf⟩ := bcell hI
   go_simp
   repeat (first | (go_ints; try go_simp) | (simp only [↓IntWalk.iteOmega]; try go_simp))
   exact hK
  simp only [Pq1]
 refine Walk.skip rfl (by as_aux_lemma => kernel_rfl) ?_
 simp only [Pq1]
 refine Walk.skip rfl (by as_aux_lemma => kernel_rfl) ?_
 simp only [Pq1]
 refine Walk.skip rfl (by as_aux_lemma => kernel_rfl) ?_
 simp only [Pq1]
 iterate 2
  refine Walk.one (x := ?_) rfl rfl (fun w1 hI hL K hK => ?_) ?_
  rotate_left
  ·obtain ⟨hc, hf⟩ := bcell hI
   go_simp
   repeat (first | (go_ints; try go_simp) | (simp only [↓IntWalk.iteOmega]; try go_simp))
   exact hK
  simp only [Pq1]
 refine Walk.skip rfl (by as_aux_lemma => kernel_rfl) ?_
 simp only [Pq1]
 refine Walk.skip rfl (by as_aux_lemma => kernel_rfl) ?_
 simp only [Pq1]
 refine Walk.skip rfl (by as_aux_lemma => kernel_rfl) ?_
 simp only [Pq1]
 refine Walk.one (x := ?_) rfl rfl (fun w1 hI hL K hK => ?_) ?_
 rotate_left
 ·obtain ⟨hc, hf⟩ := bcell hI
  go_simp
  repeat (first | (go_ints; try go_simp) | (simp only [↓IntWalk.iteOmega]; try go_simp))
  exact hK
 simp only [Pq1]
 refine Walk.nilF fun w3 ew3 kzL kzX => ?_
 have zw3 := ew3.size
 clear kzL kzX
 simp only [List.drop_succ_cons, List.drop_zero, List.drop_nil]
 have xw_w3 := eg xw_w2 ew3
 go_wp2_with fail
 clear b1_w2 b2_w2
 refine bodyPost_ret (v := .bool false) (by simp [results, Tryz.results28, go_sem]) rfl ?_
 exact Gv.of_v xw_w3

set_option maxRecDepth 100000 in
theorem lRight3 (T : Tb) (e y : Int) (w : World) (hT : TW w T) (ey : -9223372036854775808 ≤ e ∧ e ≤ 9223372036854775807 ∧ -9223372036854775808 ≤ y ∧ y ≤ 9223372036854775807) (hok : okT T = true) (hb : boundsOk T) (h1 : T.first ≤ e) (h2 : ¬ e ≤ T.first + (T.N : Int) - 1) :
    Calls Tryz.prog 28 #[.agg #[.int .i64 T.first, .int .i64 T.sel, .slice T.P T.N T.C], .agg #[.int .i64 e, .int .i64 y]] w (Gv (.v (.bool false)) w) := by
 have Hok := Lib.hid hok
 clear hok
 obtain ⟨b1, b2, b3, b4, b5, b6⟩ := id hb
 have d0 : decide (T.first ≤ e) = true := by simp; omega
 have d1 : decide (e ≤ T.first + (T.N : Int) - 1) = false := by simp; omega
 have d2 : decide (e < T.first + (T.N : Int)) = false := by simp; omega
 obtain ⟨w1, hww1, ew1, B1, zw1⟩ := alloc_at w (w.heap.size) (by omega) #[.int .i64 T.first, .int .i64 T.sel, .slice T.P T.N T.C] 24
 obtain ⟨w2, hww2, ew2, B2, zw2⟩ := alloc_at w1 (w.heap.size + 1) (by omega) #[.int .i64 e, .int .i64 y] 26
 replace B1 := B1.ext ew2
 have b1_w2 := B1.c3
 have xw_w2 := eg ew1 ew2
 have b2_w2 := B2.c2
 go_enter Tryz.func28, Tryz.ntmps28
 go_wp2_with fail
 clear hww1 hww2
 replace zw1 := le2 zw1
 replace zw2 := le2 zw2
 refine regionT 26 (fun kk => match kk with | 1 => some (.v (.bool true)) | 13 => some (.v (.int .i64 (T.first + (T.N : Int) - 1))) | _ => none) (by as_aux_lemma => kernel_rfl) (head_of (by as_aux_lemma => kernel_rfl)) ?_
 refine Walk.one (x := ?_) rfl rfl (fun w1 hI hL K hK => ?_) ?_
 rotate_left
 ·obtain ⟨hc, hf⟩ := bcell hI
  go_simp
  repeat (first | (go_ints; try go_simp) | (simp only [↓IntWalk.iteOmega]; try go_simp))
  exact hK
 simp only [Pq1]
 refine Walk.tell rfl rfl (fun w1 hI hL K hK => ?_) ?_
 ·go_simp
  exact (lValid_b T true w1 (hT.ext (eg xw_w2 hI)) Hok.out).mono (tell hK)
 rintro _ rfl
 simp only [Pq1]
 refine Walk.one (x := ?_) rfl rfl (fun w1 hI hL K hK => ?_) ?_
 rotate_left
 ·obtain ⟨hc, hf⟩ := bcell hI
  go_simp
  repeat (first | (go_ints; try go_simp) | (simp only [↓IntWalk.iteOmega]; try go_simp))
  exact hK
 simp only [Pq1]
 refine Walk.oneG (x := ?_) rfl (by as_aux_lemma => kernel_rfl) (fun w1 hI hL K hK => ?_) ?_
 rotate_left
 ·obtain ⟨hc, hf⟩ := bcell hI
  go_simp
  repeat (first | (go_ints; try go_simp) | (simp only [↓IntWalk.iteOmega]; try go_simp))
  exact hK
 simp only [Pq1]
 refine Walk.oneG (x := ?_) rfl (by as_aux_lemma => kernel_rfl) (fun w1 hI hL K hK => ?_) ?_
 rotate_left
 ·obtain ⟨hc, hf⟩ := bcell hI
  go_simp
  repeat (first | (go_ints; try go_simp) | (simp only [↓IntWalk.iteOmega]; try go_simp))
  exact hK
 simp only [Pq1]
 refine Walk.oneG (x := ?_) rfl (by as_aux_lemma => kernel_rfl) (fun w1 hI hL K hK => ?_) ?_
 rotate_left
 ·obtain ⟨hc, hf⟩ := bcell hI
  go_simp
  repeat (first | (go_ints; try go_simp) | (simp only [↓IntWalk.iteOmega]; try go_simp))
  exact hK
 simp only [Pq1]
 refine Walk.oneG (x := ?_) rfl (by as_aux_lemma => kernel_rfl) (fun w1 hI hL K hK => ?_) ?_
 rotate_left
 ·obtain ⟨hc, hf⟩ := bcell hI
  go_simp
  repeat (first | (go_ints; try go_simp) | (simp only [↓IntWalk.iteOmega]; try go_simp))
  exact hK
 simp only [Pq1]
 refine Walk.oneG (x := ?_) rfl (by as_aux_lemma => kernel_rfl) (fun w1 hI hL K hK => ?_) ?_
 rotate_left
 ·obtain ⟨hc, hf⟩ := bcell hI
  go_simp
  repeat (first | (go_ints; try go_simp) | (simp only [↓IntWalk.iteOmega]; try go_simp))
  exact hK
 simp only [Pq1]
 iterate 2
  refine Walk.one (x := ?_) rfl rfl (fun w1 hI hL K hK => ?_) ?_
  rotate_left
  ·obtain ⟨hc, hf⟩ := bcell hI
   go_simp
   repeat (first | (go_ints; try go_simp) | (simp only [↓IntWalk.iteOmega]; try go_simp))
   exact hK
  simp only [Pq1]
 refine Walk.oneG (x := ?_) rfl (by as_aux_lemma => kernel_rfl) (fun w1 hI hL K hK => ?_) ?_
 rotate_left
 ·obtain ⟨hc, hf⟩ := bcell hI
  go_simp
  repeat (first | (go_ints; try go_simp) | (simp only [↓IntWalk.iteOmega]; try go_simp))
  exact hK
 simp only [Pq1]
 refine Walk.oneG (x := ?_) rfl (by as_aux_lemma => kernel_rfl) (fun w1 hI hL K hK => ?_) ?_
 rotate_left
 ·obtain ⟨hc, hf⟩ := bcell hI
  go_simp
  repeat (first | (go_ints; try go_simp) | (simp only [↓IntWalk.iteOmega]; try go_simp))
  exact hK
 simp only [Pq1]
 refine Walk.oneG (x := ?_) rfl (by as_aux_lemma => kernel_rfl) (fun w1 hI hL K hK => ?_) ?_
 rotate_left
 ·obtain ⟨hc, hf⟩ := bcell hI
  go_simp
  repeat (first | (go_ints; try go_simp) | (simp only [↓IntWalk.iteOmega]; try go_simp))
  exact hK
 simp only [Pq1]
 refine Walk.tellG rfl (by as_aux_lemma => kernel_rfl) (fun w1 hI hL K hK => ?_) ?_
 ·go_simp
  exact (llast T w1 hb).mono (tell hK)
 rintro _ rfl
 simp only [Pq1]
 refine Walk.oneG (x := ?_) rfl (by as_aux_lemma => kernel_rfl) (fun w1 hI hL K hK => ?_) ?_
 rotate_left
 ·obtain ⟨hc, hf⟩ := bcell hI
  go_simp
  repeat (first | (go_ints; try go_simp) | (simp only [↓IntWalk.iteOmega]; try go_simp))
  exact hK
 simp only [Pq1]
 iterate 2
  refine Walk.one (x := ?_) rfl rfl (fun w1 hI hL K hK => ?_) ?_
  rotate_left
  ·obtain ⟨hc, hf⟩ := bcell hI
   go_simp
   repeat (first | (go_ints; try go_simp) | (simp only [↓IntWalk.iteOmega]; try go_simp))
   exact hK
  simp only [Pq1]
 refine Walk.skip rfl (by as_aux_lemma => kernel_rfl) ?_
 simp only [Pq1]
 refine Walk.skip rfl (by as_aux_lemma => kernel_rfl) ?_
 simp only [Pq1]
 refine Walk.skip rfl (by as_aux_lemma => kernel_rfl) ?_
 simp only [Pq1]
 iterate 2
  refine Walk.one (x := ?_) rfl rfl (fun w1 hI hL K hK => ?_) ?_
  rotate_left
  ·obtain ⟨hc, hf⟩ := bcell hI
   go_simp
   repeat (first | (go_ints; try go_simp) | (simp only [↓IntWalk.iteOmega]; try go_simp))
   exact hK
  simp only [Pq1]
 refine Walk.skip rfl (by as_aux_lemma => kernel_rfl) ?_
 simp only [Pq1]
 refine Walk.skip rfl (by as_aux_lemma => kernel_rfl) ?_
 simp only [Pq1]
 refine Walk.skip rfl (by as_aux_lemma => kernel_rfl) ?_
 simp only [Pq1]
 refine Walk.one (x := ?_) rfl rfl (fun w1 hI hL K hK => ?_) ?_
 rotate_left
 ·obtain ⟨hc, hf⟩ := bcell hI
  go_simp
  repeat (first | (go_ints; try go_simp) | (simp only [↓IntWalk.iteOmega]; try go_simp))
  exact hK
 simp only [Pq1]
 refine Walk.nilF fun w3 ew3 kzL kzX => ?_
 have zw3 := ew3.size
 clear kzL kzX
 simp only [List.drop_succ_cons, List.drop_zero, List.drop_nil]
 have xw_w3 := eg xw_w2 ew3
 go_wp2_with fail
 clear b1_w2 b2_w2
 refine bodyPost_ret (v := .bool false) (by simp [results, Tryz.results28, go_sem]) rfl ?_
 exact Gv.of_v xw_w3

set_option maxRecDepth 100000 in
theorem lRight4 (T : Tb) (e y : Int) (w : World) (hT : TW w T) (ey : -9223372036854775808 ≤ e ∧ e ≤ 9223372036854775807 ∧ -9223372036854775808 ≤ y ∧ y ≤ 9223372036854775807) (hok : okT T = true) (hb : boundsOk T) (h1 : T.first ≤ e) (h2 : e ≤ T.first + (T.N : Int) - 1) (h3 : ¬ 0 ≤ y) :
    Calls Tryz.prog 28 #[.agg #[.int .i64 T.first, .int .i64 T.sel, .slice T.P T.N T.C], .agg #[.int .i64 e, .int .i64 y]] w (Gv (.v (.bool false)) w) := by
 have Hok := Lib.hid hok
 clear hok
 obtain ⟨b1, b2, b3, b4, b5, b6⟩ := id hb
 have d0 : decide (T.first ≤ e) = true := by simp; omega
 have d1 : decide (e ≤ T.first + (T.N : Int) - 1) = true := by simp; omega
 have d2 : decide (e < T.first + (T.N : Int)) = true := by simp; omega
 have d3 : decide (0 ≤ y) = false := by simp; omega
 obtain ⟨w1, hww1, ew1, B1, zw1⟩ := alloc_at w (w.heap.size) (by omega) #[.int .i64 T.first, .int .i64 T.sel, .slice T.P T.N T.C] 24
 obtain ⟨w2, hww2, ew2, B2, zw2⟩ := alloc_at w1 (w.heap.size + 1) (by omega) #[.int .i64 e, .int .i64 y] 26
 replace B1 := B1.ext ew2
 have b1_w2 := B1.c3
 have xw_w2 := eg ew1 ew2
 have b2_w2 := B2.c2
 go_enter Tryz.func28, Tryz.ntmps28
 go_wp2_with fail
 clear hww1 hww2
 replace zw1 := le2 zw1
 replace zw2 := le2 zw2
 refine regionT 26 (fun kk => match kk with | 1 => some (.v (.bool true)) | 13 => some (.v (.int .i64 (T.first + (T.N : Int) - 1))) | _ => none) (by as_aux_lemma => kernel_rfl) (head_of (by as_aux_lemma => kernel_rfl)) ?_
 refine Walk.one (x := ?_) rfl rfl (fun w1 hI hL K hK => ?_) ?_
 rotate_left
 ·obtain ⟨hc, hf⟩ := bcell hI
  go_simp
  repeat (first | (go_ints; try go_simp) | (simp only [↓IntWalk.iteOmega]; try go_simp))
  exact hK
 simp only [Pq1]
 refine Walk.tell rfl rfl (fun w1 hI hL K hK => ?_) ?_
 ·go_simp
  exact (lValid_b T true w1 (hT.ext (eg xw_w2 hI)) Hok.out).mono (tell hK)
 rintro _ rfl
 simp only [Pq1]
 refine Walk.one (x := ?_) rfl rfl (fun w1 hI hL K hK => ?_) ?_
 rotate_left
 ·obtain ⟨hc, hf⟩ := bcell hI
  go_simp
  repeat (first | (go_ints; try go_simp) | (simp only [↓IntWalk.iteOmega]; try go_simp))
  exact hK
 simp only [Pq1]
 refine Walk.oneG (x := ?_) rfl (by as_aux_lemma => kernel_rfl) (fun w1 hI hL K hK => ?_) ?_
 rotate_left
 ·obtain ⟨hc, hf⟩ := bcell hI
  go_simp
  repeat (first | (go_ints; try go_simp) | (simp only [↓IntWalk.iteOmega]; try go_simp))
  exact hK
 simp only [Pq1]
 refine Walk.oneG (x := ?_) rfl (by as_aux_lemma => kernel_rfl) (fun w1 hI hL K hK => ?_) ?_
 rotate_left
 ·obtain ⟨hc, hf⟩ := bcell hI
  go_simp
  repeat (first | (go_ints; try go_simp) | (simp only [↓IntWalk.iteOmega]; try go_simp))
  exact hK
 simp only [Pq1]
 refine Walk.oneG (x := ?_) rfl (by as_aux_lemma => kernel_rfl) (fun w1 hI hL K hK => ?_) ?_
 rotate_left
 ·obtain ⟨hc, hf⟩ := bcell hI
  go_simp
  repeat (first | (go_ints; try go_simp) | (simp only [↓IntWalk.iteOmega]; try go_simp))
  exact hK
 simp only [Pq1]
 refine Walk.oneG (x := ?_) rfl (by as_aux_lemma => kernel_rfl) (fun w1 hI hL K hK => ?_) ?_
 rotate_left
 ·obtain ⟨hc, hf⟩ := bcell hI
  go_simp
  repeat (first | (go_ints; try go_simp) | (simp only [↓IntWalk.iteOmega]; try go_simp))
  exact hK
 simp only [Pq1]
 refine Walk.oneG (x := ?_) rfl (by as_aux_lemma => kernel_rfl) (fun w1 hI hL K hK => ?_) ?_
 rotate_left
 ·obtain ⟨hc, hf⟩ := bcell hI
  go_simp
  repeat (first | (go_ints; try go_simp) | (simp only [↓IntWalk.iteOmega]; try go_simp))
  exact hK
 simp only [Pq1]
 iterate 2
  refine Walk.one (x := ?_) rfl rfl (fun w1 hI hL K hK => ?_) ?_
  rotate_left
  ·obtain ⟨hc, hf⟩ := bcell hI
   go_simp
   repeat (first | (go_ints; try go_simp) | (simp only [↓IntWalk.iteOmega]; try go_simp))
   exact hK
  simp only [Pq1]
 refine Walk.oneG (x := ?_) rfl (by as_aux_lemma => kernel_rfl) (fun w1 hI hL K hK => ?_) ?_
 rotate_left
 ·obtain ⟨hc, hf⟩ := bcell hI
  go_simp
  repeat (first | (go_ints; try go_simp) | (simp only [↓IntWalk.iteOmega]; try go_simp))
  exact hK
 simp only [Pq1]
 refine Walk.oneG (x := ?_) rfl (by as_aux_lemma => kernel_rfl) (fun w1 hI hL K hK => ?_) ?_
 rotate_left
 ·obtain ⟨hc, hf⟩ := bcell hI
  go_simp
  repeat (first | (go_ints; try go_simp) | (simp only [↓IntWalk.iteOmega]; try go_simp))
  exact hK
 simp only [Pq1]
 refine Walk.oneG (x := ?_) rfl (by as_aux_lemma => kernel_rfl) (fun w1 hI hL K hK => ?_) ?_
 rotate_left
 ·obtain ⟨hc, hf⟩ := bcell hI
  go_simp
  repeat (first | (go_ints; try go_simp) | (simp only [↓IntWalk.iteOmega]; try go_simp))
  exact hK
 simp only [Pq1]
 refine Walk.tellG rfl (by as_aux_lemma => kernel_rfl) (fun w1 hI hL K hK => ?_) ?_
 ·go_simp
  exact (llast T w1 hb).mono (tell hK)
 rintro _ rfl
 simp only [Pq1]
 refine Walk.oneG (x := ?_) rfl (by as_aux_lemma => kernel_rfl) (fun w1 hI hL K hK => ?_) ?_
 rotate_left
 ·obtain ⟨hc, hf⟩ := bcell hI
  go_simp
  repeat (first | (go_ints; try go_simp) | (simp only [↓IntWalk.iteOmega]; try go_simp))
  exact hK
 simp only [Pq1]
 iterate 2
  refine Walk.one (x := ?_) rfl rfl (fun w1 hI hL K hK => ?_) ?_
  rotate_left
  ·obtain ⟨hc, hf⟩ := bcell hI
   go_simp
   repeat (first | (go_ints; try go_simp) | (simp only [↓IntWalk.iteOmega]; try go_simp))
   exact hK
  simp only [Pq1]
 refine Walk.oneG (x := ?_) rfl (by as_aux_lemma => kernel_rfl) (fun w1 hI hL K hK => ?_) ?_
 rotate_left
 ·obtain ⟨hc, hf⟩ := bcell hI
  go_simp
  repeat (first | (go_ints; try go_simp) | (simp only [↓IntWalk.iteOmega]; try go_simp))
  exact hK
 simp only [Pq1]
 refine Walk.oneG (x := ?_) rfl (by as_aux_lemma => kernel_rfl) (fun w1 hI hL K hK => ?_) ?_
 rotate_left
 ·obtain ⟨hc, hf⟩ := bcell hI
  go_simp
  repeat (first | (go_ints; try go_simp) | (simp only [↓IntWalk.iteOmega]; try go_simp))
  exact hK
 simp only [Pq1]
 refine Walk.oneG (x := ?_) rfl (by as_aux_lemma => kernel_rfl) (fun w1 hI hL K hK => ?_) ?_
 rotate_left
 ·obtain ⟨hc, hf⟩ := bcell hI
  go_simp
  repeat (first | (go_ints; try go_simp) | (simp only [↓IntWalk.iteOmega]; try go_simp))
  exact hK
 simp only [Pq1]
 iterate 2
  refine Walk.one (x := ?_) rfl rfl (fun w1 hI hL K hK => ?_) ?_
  rotate_left
  ·obtain ⟨hc, hf⟩ := bcell hI
   go_simp
   repeat (first | (go_ints; try go_simp) | (simp only [↓IntWalk.iteOmega]; try go_simp))
   exact hK
  simp only [Pq1]
 refine Walk.skip rfl (by as_aux_lemma => kernel_rfl) ?_
 simp only [Pq1]
 refine Walk.skip rfl (by as_aux_lemma => kernel_rfl) ?_
 simp only [Pq1]
 refine Walk.skip rfl (by as_aux_lemma => kernel_rfl) ?_
 simp only [Pq1]
 refine Walk.one (x := ?_) rfl rfl (fun w1 hI hL K hK => ?_) ?_
 rotate_left
 ·obtain ⟨hc, hf⟩ := bcell hI
  go_simp
  repeat (first | (go_ints; try go_simp) | (simp only [↓IntWalk.iteOmega]; try go_simp))
  exact hK
 simp only [Pq1]
 refine Walk.nilF fun w3 ew3 kzL kzX => ?_
 have zw3 := ew3.size
 clear kzL kzX
 simp only [List.drop_succ_cons, List.drop_zero, List.drop_nil]
 have xw_w3 := eg xw_w2 ew3
 go_wp2_with fail
 clear b1_w2 b2_w2
 refine bodyPost_ret (v := .bool false) (by simp [results, Tryz.results28, go_sem]) rfl ?_
 exact Gv.of_v xw_w3

set_option maxRecDepth 100000 in
theorem lRight5 (T : Tb) (e y : Int) (w : World) (hT : TW w T) (ey : -9223372036854775808 ≤ e ∧ e ≤ 9223372036854775807 ∧ -9223372036854775808 ≤ y ∧ y ≤ 9223372036854775807) (hok : okT T = true) (hb : boundsOk T) (h1 : T.first ≤ e) (h2 : e ≤ T.first + (T.N : Int) - 1) (h3 : 0 ≤ y) (h4 : ¬ y ≤ 300) :
    Calls Tryz.prog 28 #[.agg #[.int .i64 T.first, .int .i64 T.sel, .slice T.P T.N T.C], .agg #[.int .i64 e, .int .i64 y]] w (Gv (.v (.bool false)) w) := by
 have Hok := Lib.hid hok
 clear hok
 obtain ⟨b1, b2, b3, b4, b5, b6⟩ := id hb
 have d0 : decide (T.first ≤ e) = true := by simp; omega
 have d1 : decide (e ≤ T.first + (T.N : Int) - 1) = true := by simp; omega
 have d2 : decide (e < T.first + (T.N : Int)) = true := by simp; omega
 have d3 : decide (0 ≤ y) = true := by simp; omega
 have d4 : decide (y ≤ 300) = false := by simp; omega
 obtain ⟨w1, hww1, ew1, B1, zw1⟩ := alloc_at w (w.heap.size) (by omega) #[.int .i64 T.first, .int .i64 T.sel, .slice T.P T.N T.C] 24
 obtain ⟨w2, hww2, ew2, B2, zw2⟩ := alloc_at w1 (w.heap.size + 1) (by omega) #[.int .i64 e, .int .i64 y] 26
 replace B1 := B1.ext ew2
 have b1_w2 := B1.c3
 have xw_w2 := eg ew1 ew2
 have b2_w2 := B2.c2
 go_enter Tryz.func28, Tryz.ntmps28
 go_wp2_with fail
 clear hww1 hww2
 replace zw1 := le2 zw1
 replace zw2 := le2 zw2
 refine regionT 26 (fun kk => match kk with | 1 => some (.v (.bool true)) | 13 => some (.v (.int .i64 (T.first + (T.N : Int) - 1))) | _ => none) (by as_aux_lemma => kernel_rfl) (head_of (by as_aux_lemma => kernel_rfl)) ?_
 refine Walk.one (x := ?_) rfl rfl (fun w1 hI hL K hK => ?_) ?_
 rotate_left
 ·obtain ⟨hc, hf⟩ := bcell hI
  go_simp
  repeat (first | (go_ints; try go_simp) | (simp only [↓IntWalk.iteOmega]; try go_simp))
  exact hK
 simp only [Pq1]
 refine Walk.tell rfl rfl (fun w1 hI hL K hK => ?_) ?_
 ·go_simp
  exact (lValid_b T true w1 (hT.ext (eg xw_w2 hI)) Hok.out).mono (tell hK)
 rintro _ rfl
 simp only [Pq1]
 refine Walk.one (x := ?_) rfl rfl (fun w1 hI hL K hK => ?_) ?_
 rotate_left
 ·obtain ⟨hc, hf⟩ := bcell hI
  go_simp
  repeat (first | (go_ints; try go_simp) | (simp only [↓IntWalk.iteOmega]; try go_simp))
  exact hK
 simp only [Pq1]
 refine Walk.oneG (x := ?_) rfl (by as_aux_lemma => kernel_rfl) (fun w1 hI hL K hK => ?_) ?_
 rotate_left
 ·obtain ⟨hc, hf⟩ := bcell hI
  go_simp
  repeat (first | (go_ints; try go_simp) | (simp only [↓IntWalk.iteOmega]; try go_simp))
  exact hK
 simp only [Pq1]
 refine Walk.oneG (x := ?_) rfl (by as_aux_lemma => kernel_rfl) (fun w1 hI hL K hK => ?_) ?_
 rotate_left
 ·obtain ⟨hc, hf⟩ := bcell hI
  go_simp
  repeat (first | (go_ints; try go_simp) | (simp only [↓IntWalk.iteOmega]; try go_simp))
  exact hK
 simp only [Pq1]
 refine Walk.oneG (x := ?_) rfl (by as_aux_lemma => kernel_rfl) (fun w1 hI hL K hK => ?_) ?_
 rotate_left
 ·obtain ⟨hc, hf⟩ := bcell hI
  go_simp
  repeat (first | (go_ints; try go_simp) | (simp only [↓IntWalk.iteOmega]; try go_simp))
  exact hK
 simp only [Pq1]
 refine Walk.oneG (x := ?_) rfl (by as_aux_lemma => kernel_rfl) (fun w1 hI hL K hK => ?_) ?_
 rotate_left
 ·obtain ⟨hc, hf⟩ := bcell hI
  go_simp
  repeat (first | (go_ints; try go_simp) | (simp only [↓IntWalk.iteOmega]; try go_simp))
  exact hK
 simp only [Pq1]
 refine Walk.oneG (x := ?_) rfl (by as_aux_lemma => kernel_rfl) (fun w1 hI hL K hK => ?_) ?_
 rotate_left
 ·obtain ⟨hc, hf⟩ := bcell hI
  go_simp
  repeat (first | (go_ints; try go_simp) | (simp only [↓IntWalk.iteOmega]; try go_simp))
  exact hK
 simp only [Pq1]
 iterate 2
  refine Walk.one (x := ?_) rfl rfl (fun w1 hI hL K hK => ?_) ?_
  rotate_left
  ·obtain ⟨hc, hf⟩ := bcell hI
   go_simp
   repeat (first | (go_ints; try go_simp) | (simp only [↓IntWalk.iteOmega]; try go_simp))
   exact hK
  simp only [Pq1]
 refine Walk.oneG (x := ?_) rfl (by as_aux_lemma => kernel_rfl) (fun w1 hI hL K hK => ?_) ?_
 rotate_left
 ·obtain ⟨hc, hf⟩ := bcell hI
  go_simp
  repeat (first | (go_ints; try go_simp) | (simp only [↓IntWalk.iteOmega]; try go_simp))
  exact hK
 simp only [Pq1]
 refine Walk.oneG (x := ?_) rfl (by as_aux_lemma => kernel_rfl) (fun w1 hI hL K hK => ?_) ?_
 rotate_left
 ·obtain ⟨hc, hf⟩ := bcell hI
  go_simp
  repeat (first | (go_ints; try go_simp) | (simp only [↓IntWalk.iteOmega]; try go_simp))
  exact hK
 simp only [Pq1]
 refine Walk.oneG (x := ?_) rfl (by as_aux_lemma => kernel_rfl) (fun w1 hI hL K hK => ?_) ?_
 rotate_left
 ·obtain ⟨hc, hf⟩ := bcell hI
  go_simp
  repeat (first | (go_ints; try go_simp) | (simp only [↓IntWalk.iteOmega]; try go_simp))
  exact hK
 simp only [Pq1]
 refine Walk.tellG rfl (by as_aux_lemma => kernel_rfl) (fun w1 hI hL K hK => ?_) ?_
 ·go_simp
  exact (llast T w1 hb).mono (tell hK)
 rintro _ rfl
 simp only [Pq1]
 refine Walk.oneG (x := ?_) rfl (by as_aux_lemma => kernel_rfl) (fun w1 hI hL K hK => ?_) ?_
 rotate_left
 ·obtain ⟨hc, hf⟩ := bcell hI
  go_simp
  repeat (first | (go_ints; try go_simp) | (simp only [↓IntWalk.iteOmega]; try go_simp))
  exact hK
 simp only [Pq1]
 iterate 2
  refine Walk.one (x := ?_) rfl rfl (fun w1 hI hL K hK => ?_) ?_
  rotate_left
  ·obtain ⟨hc, hf⟩ := bcell hI
   go_simp
   repeat (first | (go_ints; try go_simp) | (simp only [↓IntWalk.iteOmega]; try go_simp))
   exact hK
  simp only [Pq1]
 refine Walk.oneG (x := ?_) rfl (by as_aux_lemma => kernel_rfl) (fun w1 hI hL K hK => ?_) ?_
 rotate_left
 ·obtain ⟨hc, hf⟩ := bcell hI
  go_simp
  repeat (first | (go_ints; try go_simp) | (simp only [↓IntWalk.iteOmega]; try go_simp))
  exact hK
 simp only [Pq1]
 refine Walk.oneG (x := ?_) rfl (by as_aux_lemma => kernel_rfl) (fun w1 hI hL K hK => ?_) ?_
 rotate_left
 ·obtain ⟨hc, hf⟩ := bcell hI
  go_simp
  repeat (first | (go_ints; try go_simp) | (simp only [↓IntWalk.iteOmega]; try go_simp))
  exact hK
 simp only [Pq1]
 refine Walk.oneG (x := ?_) rfl (by as_aux_lemma => kernel_rfl) (fun w1 hI hL K hK => ?_) ?_
 rotate_left
 ·obtain ⟨hc, hf⟩ := bcell hI
  go_simp
  repeat (first | (go_ints; try go_simp) | (simp only [↓IntWalk.iteOmega]; try go_simp))
  exact hK
 simp only [Pq1]
 iterate 2
  refine Walk.one (x := ?_) rfl rfl (fun w1 hI hL K hK => ?_) ?_
  rotate_left
  ·obtain ⟨hc, hf⟩ := bcell hI
   go_simp
   repeat (first | (go_ints; try go_simp) | (simp only [↓IntWalk.iteOmega]; try go_simp))
   exact hK
  simp only [Pq1]
 refine Walk.oneG (x := ?_) rfl (by as_aux_lemma => kernel_rfl) (fun w1 hI hL K hK => ?_) ?_
 rotate_left
 ·obtain ⟨hc, hf⟩ := bcell hI
  go_simp
  repeat (first | (go_ints; try go_simp) | (simp only [↓IntWalk.iteOmega]; try go_simp))
  exact hK
 simp only [Pq1]
 refine Walk.oneG (x := ?_) rfl (by as_aux_lemma => kernel_rfl) (fun w1 hI hL K hK => ?_) ?_
 rotate_left
 ·obtain ⟨hc, hf⟩ := bcell hI
  go_simp
  repeat (first | (go_ints; try go_simp) | (simp only [↓IntWalk.iteOmega]; try go_simp))
  exact hK
 simp only [Pq1]
 refine Walk.oneG (x := ?_) rfl (by as_aux_lemma => kernel_rfl) (fun w1 hI hL K hK => ?_) ?_
 rotate_left
 ·obtain ⟨hc, hf⟩ := bcell hI
  go_simp
  repeat (first | (go_ints; try go_simp) | (simp only [↓IntWalk.iteOmega]; try go_simp))
  exact hK
 simp only [Pq1]
 refine Walk.one (x := ?_) rfl rfl (fun w1 hI hL K hK => ?_) ?_
 rotate_left
 ·obtain ⟨hc, hf⟩ := bcell hI
  go_simp
  repeat (first | (go_ints; try go_simp) | (simp only [↓IntWalk.iteOmega]; try go_simp))
  exact hK
 simp only [Pq1]
 refine Walk.nilF fun w3 ew3 kzL kzX => ?_
 have zw3 := ew3.size
 clear kzL kzX
 simp only [List.drop_succ_cons, List.drop_zero, List.drop_nil]
 have xw_w3 := eg xw_w2 ew3
 go_wp2_with fail
 clear b1_w2 b2_w2
 refine bodyPost_ret (v := .bool false) (by simp [results, Tryz.results28, go_sem]) rfl ?_
 exact Gv.of_v xw_w3

set_option maxRecDepth 100000 in
theorem lRight6 (T : Tb) (e y : Int) (w : World) (hT : TW w T) (ey : -9223372036854775808 ≤ e ∧ e ≤ 9223372036854775807 ∧ -9223372036854775808 ≤ y ∧ y ≤ 9223372036854775807) (hok : okT T = true) (hb : boundsOk T) (h1 : T.first ≤ e) (h2 : e ≤ T.first + (T.N : Int) - 1) (h3 : 0 ≤ y) (h4 : y ≤ 300) :
    Calls Tryz.prog 28 #[.agg #[.int .i64 T.first, .int .i64 T.sel, .slice T.P T.N T.C], .agg #[.int .i64 e, .int .i64 y]] w (Gv (.v (.bool true)) w) := by
 have Hok := Lib.hid hok
 clear hok
 obtain ⟨b1, b2, b3, b4, b5, b6⟩ := id hb
 have d0 : decide (T.first ≤ e) = true := by simp; omega
 have d1 : decide (e ≤ T.first + (T.N : Int) - 1) = true := by simp; omega
 have d2 : decide (e < T.first + (T.N : Int)) = true := by simp; omega
 have d3 : decide (0 ≤ y) = true := by simp; omega
 have d4 : decide (y ≤ 300) = true := by simp; omega
 obtain ⟨w1, hww1, ew1, B1, zw1⟩ := alloc_at w (w.heap.size) (by omega) #[.int .i64 T.first, .int .i64 T.sel, .slice T.P T.N T.C] 24
 obtain ⟨w2, hww2, ew2, B2, zw2⟩ := alloc_at w1 (w.heap.size + 1) (by omega) #[.int .i64 e, .int .i64 y] 26
 replace B1 := B1.ext ew2
 have b1_w2 := B1.c3
 have xw_w2 := eg ew1 ew2
 have b2_w2 := B2.c2
 go_enter Tryz.func28, Tryz.ntmps28
 go_wp2_with fail
 clear hww1 hww2
 replace zw1 := le2 zw1
 replace zw2 := le2 zw2
 refine regionT 26 (fun kk => match kk with | 1 => some (.v (.bool true)) | 13 => some (.v (.int .i64 (T.first + (T.N : Int) - 1))) | _ => none) (by as_aux_lemma => kernel_rfl) (head_of (by as_aux_lemma => kernel_rfl)) ?_
 refine Walk.one (x := ?_) rfl rfl (fun w1 hI hL K hK => ?_) ?_
 rotate_left
 ·obtain ⟨hc, hf⟩ := bcell hI
  go_simp
  repeat (first | (go_ints; try go_simp) | (simp only [↓IntWalk.iteOmega]; try go_simp))
  exact hK
 simp only [Pq1]
 refine Walk.tell rfl rfl (fun w1 hI hL K hK => ?_) ?_
 ·go_simp
  exact (lValid_b T true w1 (hT.ext (eg xw_w2 hI)) Hok.out).mono (tell hK)
 rintro _ rfl
 simp only [Pq1]
 refine Walk.one (x := ?_) rfl rfl (fun w1 hI hL K hK => ?_) ?_
 rotate_left
 ·obtain ⟨hc, hf⟩ := bcell hI
  go_simp
  repeat (first | (go_ints; try go_simp) | (simp only [↓IntWalk.iteOmega]; try go_simp))
  exact hK
 simp only [Pq1]
 refine Walk.oneG (x := ?_) rfl (by as_aux_lemma => kernel_rfl) (fun w1 hI hL K hK => ?_) ?_
 rotate_left
 ·obtain ⟨hc, hf⟩ := bcell hI
  go_simp
  repeat (first | (go_ints; try go_simp) | (simp only [↓IntWalk.iteOmega]; try go_simp))
  exact hK
 simp only [Pq1]
 refine Walk.oneG (x := ?_) rfl (by as_aux_lemma => kernel_rfl) (fun w1 hI hL K hK => ?_) ?_
 rotate_left
 ·obtain ⟨hc, hf⟩ := bcell hI
  go_simp
  repeat (first | (go_ints; try go_simp) | (simp only [↓IntWalk.iteOmega]; try go_simp))
  exact hK
 simp only [Pq1]
 refine Walk.oneG (x := ?_) rfl (by as_aux_lemma => kernel_rfl) (fun w1 hI hL K hK => ?_) ?_
 rotate_left
 ·obtain ⟨hc, hf⟩ := bcell hI
  go_simp
  repeat (first | (go_ints; try go_simp) | (simp only [↓IntWalk.iteOmega]; try go_simp))
  exact hK
 simp only [Pq1]
 refine Walk.oneG (x := ?_) rfl (by as_aux_lemma => kernel_rfl) (fun w1 hI hL K hK => ?_) ?_
 rotate_left
 ·obtain ⟨hc, hf⟩ := bcell hI
  go_simp
  repeat (first | (go_ints; try go_simp) | (simp only [↓IntWalk.iteOmega]; try go_simp))
  exact hK
 simp only [Pq1]
 refine Walk.oneG (x := ?_) rfl (by as_aux_lemma => kernel_rfl) (fun w1 hI hL K hK => ?_) ?_
 rotate_left
 ·obtain ⟨hc, hf⟩ := bcell hI
  go_simp
  repeat (first | (go_ints; try go_simp) | (simp only [↓IntWalk.iteOmega]; try go_simp))
  exact hK
 simp only [Pq1]
 iterate 2
  refine Walk.one (x := ?_) rfl rfl (fun w1 hI hL K hK => ?_) ?_
  rotate_left
  ·obtain ⟨hc, hf⟩ := bcell hI
   go_simp
   repeat (first | (go_ints; try go_simp) | (simp only [↓IntWalk.iteOmega]; try go_simp))
   exact hK
  simp only [Pq1]
 refine Walk.oneG (x := ?_) rfl (by as_aux_lemma => kernel_rfl) (fun w1 hI hL K hK => ?_) ?_
 rotate_left
 ·obtain ⟨hc, hf⟩ := bcell hI
  go_simp
  repeat (first | (go_ints; try go_simp) | (simp only [↓IntWalk.iteOmega]; try go_simp))
  exact hK
 simp only [Pq1]
 refine Walk.oneG (x := ?_) rfl (by as_aux_lemma => kernel_rfl) (fun w1 hI hL K hK => ?_) ?_
 rotate_left
 ·obtain ⟨hc, hf⟩ := bcell hI
  go_simp
  repeat (first | (go_ints; try go_simp) | (simp only [↓IntWalk.iteOmega]; try go_simp))
  exact hK
 simp only [Pq1]
 refine Walk.oneG (x := ?_) rfl (by as_aux_lemma => kernel_rfl) (fun w1 hI hL K hK => ?_) ?_
 rotate_left
 ·obtain ⟨hc, hf⟩ := bcell hI
  go_simp
  repeat (first | (go_ints; try go_simp) | (simp only [↓IntWalk.iteOmega]; try go_simp))
  exact hK
 simp only [Pq1]
 refine Walk.tellG rfl (by as_aux_lemma => kernel_rfl) (fun w1 hI hL K hK => ?_) ?_
 ·go_simp
  exact (llast T w1 hb).mono (tell hK)
 rintro _ rfl
 simp only [Pq1]
 refine Walk.oneG (x := ?_) rfl (by as_aux_lemma => kernel_rfl) (fun w1 hI hL K hK => ?_) ?_
 rotate_left
 ·obtain ⟨hc, hf⟩ := bcell hI
  go_simp
  repeat (first | (go_ints; try go_simp) | (simp only [↓IntWalk.iteOmega]; try go_simp))
  exact hK
 simp only [Pq1]
 iterate 2
  refine Walk.one (x := ?_) rfl rfl (fun w1 hI hL K hK => ?_) ?_
  rotate_left
  ·obtain ⟨hc, hf⟩ := bcell hI
   go_simp
   repeat (first | (go_ints; try go_simp) | (simp only [↓IntWalk.iteOmega]; try go_simp))
   exact hK
  simp only [Pq1]
 refine Walk.oneG (x := ?_) rfl (by as_aux_lemma => kernel_rfl) (fun w1 hI hL K hK => ?_) ?_
 rotate_left
 ·obtain ⟨hc, hf⟩ := bcell hI
  go_simp
  repeat (first | (go_ints; try go_simp) | (simp only [↓IntWalk.iteOmega]; try go_simp))
  exact hK
 simp only [Pq1]
 refine Walk.oneG (x := ?_) rfl (by as_aux_lemma => kernel_rfl) (fun w1 hI hL K hK => ?_) ?_
 rotate_left
 ·obtain ⟨hc, hf⟩ := bcell hI
  go_simp
  repeat (first | (go_ints; try go_simp) | (simp only [↓IntWalk.iteOmega]; try go_simp))
  exact hK
 simp only [Pq1]
 refine Walk.oneG (x := ?_) rfl (by as_aux_lemma => kernel_rfl) (fun w1 hI hL K hK => ?_) ?_
 rotate_left
 ·obtain ⟨hc, hf⟩ := bcell hI
  go_simp
  repeat (first | (go_ints; try go_simp) | (simp only [↓IntWalk.iteOmega]; try go_simp))
  exact hK
 simp only [Pq1]
 iterate 2
  refine Walk.one (x := ?_) rfl rfl (fun w1 hI hL K hK => ?_) ?_
  rotate_left
  ·obtain ⟨hc, hf⟩ := bcell hI
   go_simp
   repeat (first | (go_ints; try go_simp) | (simp only [↓IntWalk.iteOmega]; try go_simp))
   exact hK
  simp only [Pq1]
 refine Walk.oneG (x := ?_) rfl (by as_aux_lemma => kernel_rfl) (fun w1 hI hL K hK => ?_) ?_
 rotate_left
 ·obtain ⟨hc, hf⟩ := bcell hI
  go_simp
  repeat (first | (go_ints; try go_simp) | (simp only [↓IntWalk.iteOmega]; try go_simp))
  exact hK
 simp only [Pq1]
 refine Walk.oneG (x := ?_) rfl (by as_aux_lemma => kernel_rfl) (fun w1 hI hL K hK => ?_) ?_
 rotate_left
 ·obtain ⟨hc, hf⟩ := bcell hI
  go_simp
  repeat (first | (go_ints; try go_simp) | (simp only [↓IntWalk.iteOmega]; try go_simp))
  exact hK
 simp only [Pq1]
 refine Walk.oneG (x := ?_) rfl (by as_aux_lemma => kernel_rfl) (fun w1 hI hL K hK => ?_) ?_
 rotate_left
 ·obtain ⟨hc, hf⟩ := bcell hI
  go_simp
  repeat (first | (go_ints; try go_simp) | (simp only [↓IntWalk.iteOmega]; try go_simp))
  exact hK
 simp only [Pq1]
 refine Walk.one (x := ?_) rfl rfl (fun w1 hI hL K hK => ?_) ?_
 rotate_left
 ·obtain ⟨hc, hf⟩ := bcell hI
  go_simp
  repeat (first | (go_ints; try go_simp) | (simp only [↓IntWalk.iteOmega]; try go_simp))
  exact hK
 simp only [Pq1]
 refine Walk.nilF fun w3 ew3 kzL kzX => ?_
 have zw3 := ew3.size
 clear kzL kzX
 simp only [List.drop_succ_cons, List.drop_zero, List.drop_nil]
 have xw_w3 := eg xw_w2 ew3
 go_wp2_with fail
 clear b1_w2 b2_w2
 refine bodyPost_ret (v := .bool true) (by simp [results, Tryz.results28, go_sem]) rfl ?_
 exact Gv.of_v xw_w3

theorem lRight (T : Tb) (e y : Int) (w : World) (hT : TW w T) (ey : -9223372036854775808 ≤ e ∧ e ≤ 9223372036854775807 ∧ -9223372036854775808 ≤ y ∧ y ≤ 9223372036854775807) {b : Bool} (hb : okL T e y = b) : Calls Tryz.prog 28 #[.agg #[.int .i64 T.first, .int .i64 T.sel, .slice T.P T.N T.C], .agg #[.int .i64 e, .int .i64 y]] w (Gv (.v (.bool b)) w) := by
 subst hb
 cases hok : okT T
 ·rw [show okL T e y = false by unfold okL; rw [hok]; rfl]
  exact lRight1 T e y w hT ey hok
 ·have hb := (okT_iff.1 hok).1
  by_cases h1 : T.first ≤ e
  ·by_cases h2 : e ≤ T.first + (T.N : Int) - 1
   ·by_cases h3 : 0 ≤ y
    ·by_cases h4 : y ≤ 300
     ·rw [show okL T e y = true by unfold okL; simp only [hok, h1, h2, h3, h4, decide_true, Bool.and_self]]
      exact lRight6 T e y w hT ey hok hb h1 h2 h3 h4
     ·rw [show okL T e y = false by unfold okL; simp only [h4, decide_false, Bool.and_false]]
      exact lRight5 T e y w hT ey hok hb h1 h2 h3 h4
    ·rw [show okL T e y = false by unfold okL; simp only [h3, decide_false, Bool.and_false, Bool.false_and]]
     exact lRight4 T e y w hT ey hok hb h1 h2 h3
   ·rw [show okL T e y = false by unfold okL; simp only [h2, decide_false, Bool.and_false, Bool.false_and]]
    exact lRight3 T e y w hT ey hok hb h1 h2
  ·rw [show okL T e y = false by unfold okL; simp only [h1, decide_false, Bool.and_false, Bool.false_and]]
   exact lRight2 T e y w hT ey hok hb h1

set_option maxRecDepth 100000 in
theorem lrate_a (T : Tb) (R : Nat → Nat → Rat) (e y : Int) (w : World) (hT : TQ w T R) (h1 : T.first ≤ e) (h2 : e ≤ T.first + (T.N : Int) - 1) (h3 : 0 ≤ y) (h4 : y ≤ 1000) (h5 : T.first + (T.N : Int) ≤ e + y) :
    Calls Tryz.prog 56 #[.agg #[.int .i64 T.first, .int .i64 T.sel, .slice T.P T.N T.C, .int .i64 e, .int .i64 y]] w (Gv (.f (rt T R e y)) w) := by
 obtain ⟨b1, b2, b3, b4, b5, b6⟩ := id hT.b
 have hb := hT.b
 obtain ⟨w1, hww1, ew1, B1, zw1⟩ := alloc_at w (w.heap.size) (by omega) #[.int .i64 T.first, .int .i64 T.sel, .slice T.P T.N T.C, .int .i64 e, .int .i64 y] 72
 obtain ⟨w2, hww2, ew2, B2, zw2⟩ := alloc_at w1 (w.heap.size + 1) (by omega) #[.bool false, .slice none 0 0, .bool false, .slice none 0 0] 40
 replace B1 := B1.ext ew2
 have b1_w2 := B1.c5
 have xw_w2 := eg ew1 ew2
 go_enter Tryz.func56, Tryz.ntmps56
 go_wp2_with fail
 clear hww1 hww2
 replace zw1 := le2 zw1
 replace zw2 := le2 zw2
 refine (llast T _ hb).mono (Gv.onV fun w3 ew3 zw3 => ?_)
 have xw_w3 := eg xw_w2 ew3
 go_wp2_with fail
 clear b1_w2
 refine (fFromInt_1 _).mono (Gv.onFo fun Z17 w4 hZ17 oZ17 ew4 zw4 => ?_)
 have xw2_w4 := eg ew3 ew4
 replace B2 := B2.ext xw2_w4
 have b2_w4 := B2.c4
 have fb2_w4 := B2.f4
 have xw_w4 := eg xw_w3 ew4
 replace oZ17 := oZ17.mono xw_w3.size
 obtain ⟨w5, hww5, kw5, Nw5, zw5⟩ := B2.put4 (.bool Z17.N.b) (.slice Z17.N.p Z17.N.n Z17.N.c) (.bool Z17.D.b) (.slice Z17.D.p Z17.D.n Z17.D.c)
 have nuw5 : NoU #[.bool false, .slice none 0 0, .bool false, .slice none 0 0] := by simp [NoU]
 replace hZ17 := FR.kb hZ17 B2 nuw5 kw5
 replace oZ17 := OF.kb oZ17 B2 (by decide) kw5
 have xw_w5 := Ext.kb xw_w4 kw5 (by omega)
 replace B2 := Nw5
 clear Nw5 kw5
 have b2_w5 := B2.c4
 go_wp2_with fail
 clear hww5
 clear b2_w4 fb2_w4
 replace zw5 := le2 zw5
 refine bodyPost_ret (v := .agg #[.bool Z17.N.b, .slice Z17.N.p Z17.N.n Z17.N.c, .bool Z17.D.b, .slice Z17.D.p Z17.D.n Z17.D.c]) (by simp [results, Tryz.results56, go_sem, b2_w5]) rfl ?_
 rw [show rt T R e y = 1 by unfold rt; rw [if_pos h5]]
 exact Gv.of_f (X := Z17) hZ17 oZ17 xw_w5

theorem ltimes_1 (Q : Fr) (q : Rat) (Z : Fr) (w : World) (hQ : FR w Q q) (hZ : FR w Z 1) (b : Sz q) : Calls Tryz.prog 59 #[.agg #[.bool Q.N.b, .slice Q.N.p Q.N.n Q.N.c, .bool Q.D.b, .slice Q.D.p Q.D.n Q.D.c], .agg #[.bool Z.N.b, .slice Z.N.p Z.N.n Z.N.c, .bool Z.D.b, .slice Z.D.p Z.D.n Z.D.c]] w (Gv (.f q) w) := by
 have := ltimes Q Z q 1 w hQ hZ b sz_one (by rw [Rat.mul_one]; exact b)
 rwa [Rat.mul_one] at this

set_option maxRecDepth 100000 in
theorem lrate_b (T : Tb) (R : Nat → Nat → Rat) (e y : Int) (w : World) (hT : TQ w T R) (h1 : T.first ≤ e) (h2 : e ≤ T.first + (T.N : Int) - 1) (h3 : 0 ≤ y) (h4 : y ≤ 1000) (h5 : ¬ T.first + (T.N : Int) ≤ e + y) (h6 : y < T.sel) :
    Calls Tryz.prog 56 #[.agg #[.int .i64 T.first, .int .i64 T.sel, .slice T.P T.N T.C, .int .i64 e, .int .i64 y]] w (Gv (.f (rt T R e y)) w) := by
 obtain ⟨b1, b2, b3, b4, b5, b6⟩ := id hT.b
 have hb := hT.b
 obtain ⟨Q, hQ, faQ, hsl, hh1, hh2, hjl⟩ := hT.look (k := (e - T.first).toNat) (j := y.toNat) (by omega) (by omega)
 have HS : Hid (Sz (R ((e - T.first).toNat) (y.toNat))) := (hT.sz _ (by omega) _ hjl).1
 obtain ⟨q, hq⟩ : ∃ q, q = R ((e - T.first).toNat) (y.toNat) := ⟨_, rfl⟩
 rw [← hq] at hQ HS
 have Hq := Lib.hid hq
 have hjl2 : y < (T.rn ((e - T.first).toNat) : Int) := by omega
 clear hq
 have hwr : IntKind.i64.wrap (e - T.first) = e - T.first := by simp [IntKind.wrap, IntKind.bits, IntKind.signed]; omega
 obtain ⟨w1, hww1, ew1, B1, zw1⟩ := alloc_at w (w.heap.size) (by omega) #[.int .i64 T.first, .int .i64 T.sel, .slice T.P T.N T.C, .int .i64 e, .int .i64 y] 72
 obtain ⟨w2, hww2, ew2, B2, zw2⟩ := alloc_at w1 (w.heap.size + 1) (by omega) #[.bool false, .slice none 0 0, .bool false, .slice none 0 0] 40
 replace B1 := B1.ext ew2
 have b1_w2 := B1.c5
 have xw_w2 := eg ew1 ew2
 go_enter Tryz.func56, Tryz.ntmps56
 go_wp2_with fail
 clear hww1 hww2
 replace zw1 := le2 zw1
 replace zw2 := le2 zw2
 refine (llast T _ hb).mono (Gv.onV fun w3 ew3 zw3 => ?_)
 replace B1 := B1.ext ew3
 have b1_w3 := B1.c5
 have xw_w3 := eg xw_w2 ew3
 go_wp2_with fail
 clear b1_w2
 refine regionT 19 (fun kk => match kk with | 17 => some (.f (1)) | 18 => some (.f (q)) | _ => none) (by as_aux_lemma => kernel_rfl) (head_of (by as_aux_lemma => kernel_rfl)) ?_
 iterate 11
  refine Walk.one (x := ?_) rfl rfl (fun w1 hI hL K hK => ?_) ?_
  rotate_left
  ·obtain ⟨hc, hf⟩ := bcell hI
   go_simp
   repeat (first | (go_ints; try go_simp) | (simp only [↓IntWalk.iteOmega]; try go_simp))
   exact hK
  simp only [Pq1]
 refine Walk.one (x := ?_) rfl rfl (fun w1 hI hL K hK => ?_) ?_
 rotate_left
 ·have x0 := cell_ext (eg xw_w3 hI) hsl
  go_simp
  repeat (first | (go_ints; try go_simp) | (simp only [↓IntWalk.iteOmega]; try go_simp))
  exact hK
 simp only [Pq1]
 iterate 4
  refine Walk.one (x := ?_) rfl rfl (fun w1 hI hL K hK => ?_) ?_
  rotate_left
  ·obtain ⟨hc, hf⟩ := bcell hI
   go_simp
   repeat (first | (go_ints; try go_simp) | (simp only [↓IntWalk.iteOmega]; try go_simp))
   exact hK
  simp only [Pq1]
 refine Walk.one (x := ?_) rfl rfl (fun w1 hI hL K hK => ?_) ?_
 rotate_left
 ·have x1 := faQ.ext (eg xw_w3 hI)
  have y0 := x1.c0
  have y1 := x1.c1
  have y2 := x1.c2
  have y3 := x1.c3
  go_simp
  repeat (first | (go_ints; try go_simp) | (simp only [↓IntWalk.iteOmega]; try go_simp))
  exact hK
 simp only [Pq1]
 refine Walk.tell rfl rfl (fun w1 hI hL K hK => ?_) ?_
 ·go_simp
  exact (fFromInt_1 w1).mono (tell hK)
 rintro _ ⟨Z43, rfl⟩
 simp only [Pq1]
 refine Walk.tell rfl rfl (fun w1 hI hL K hK => ?_) ?_
 ·go_simp
  exact (ltimes_1 Q _ Z43 w1 (hQ.ext (eg xw_w3 hI)) ((Tl.getF (kn (i := 17) (v := .agg #[.bool Z43.N.b, .slice Z43.N.p Z43.N.n Z43.N.c, .bool Z43.D.b, .slice Z43.D.p Z43.D.n Z43.D.c]) rfl (by simp) (pred_of (by as_aux_lemma => kernel_rfl)) hL)).1) HS.out).mono (tell hK)
 rintro _ ⟨Z44, rfl⟩
 simp only [Pq1]
 refine Walk.nilF fun w4 ew4 kzL kzX => ?_
 have zw4 := ew4.size
 obtain ⟨hZ44, oZ44⟩ := Tl.getF (kz (i := 18) (v := .agg #[.bool Z44.N.b, .slice Z44.N.p Z44.N.n Z44.N.c, .bool Z44.D.b, .slice Z44.D.p Z44.D.n Z44.D.c]) rfl (by simp) kzL)
 replace oZ44 := oZ44.mono xw_w3.size
 clear kzL kzX
 simp only [List.drop_succ_cons, List.drop_zero, List.drop_nil]
 have xw2_w4 := eg ew3 ew4
 replace B2 := B2.ext xw2_w4
 have b2_w4 := B2.c4
 have fb2_w4 := B2.f4
 have xw_w4 := eg xw_w3 ew4
 obtain ⟨w5, hww5, kw5, Nw5, zw5⟩ := B2.put4 (.bool Z44.N.b) (.slice Z44.N.p Z44.N.n Z44.N.c) (.bool Z44.D.b) (.slice Z44.D.p Z44.D.n Z44.D.c)
 have nuw5 : NoU #[.bool false, .slice none 0 0, .bool false, .slice none 0 0] := by simp [NoU]
 replace hZ44 := FR.kb hZ44 B2 nuw5 kw5
 replace oZ44 := OF.kb oZ44 B2 (by decide) kw5
 have xw_w5 := Ext.kb xw_w4 kw5 (by omega)
 replace B2 := Nw5
 clear Nw5 kw5
 have b2_w5 := B2.c4
 go_wp2_with fail
 clear hww5
 clear b1_w3 b2_w4 fb2_w4
 replace zw5 := le2 zw5
 refine bodyPost_ret (v := .agg #[.bool Z44.N.b, .slice Z44.N.p Z44.N.n Z44.N.c, .bool Z44.D.b, .slice Z44.D.p Z44.D.n Z44.D.c]) (by simp [results, Tryz.results56, go_sem, b2_w5]) rfl ?_
 rw [show rt T R e y = q by unfold rt; rw [if_neg (by omega), if_pos (by omega)]; exact Hq.out.symm]
 exact Gv.of_f (X := Z44) hZ44 oZ44 xw_w5

set_option maxRecDepth 100000 in
theorem lrate_c (T : Tb) (R : Nat → Nat → Rat) (e y : Int) (w : World) (hT : TQ w T R) (h1 : T.first ≤ e) (h2 : e ≤ T.first + (T.N : Int) - 1) (h3 : 0 ≤ y) (h4 : y ≤ 1000) (h5 : ¬ T.first + (T.N : Int) ≤ e + y) (h6 : ¬ y < T.sel) :
    Calls Tryz.prog 56 #[.agg #[.int .i64 T.first, .int .i64 T.sel, .slice T.P T.N T.C, .int .i64 e, .int .i64 y]] w (Gv (.f (rt T R e y)) w) := by
 obtain ⟨b1, b2, b3, b4, b5, b6⟩ := id hT.b
 have hb := hT.b
 obtain ⟨Q, hQ, faQ, hsl, hh1, hh2, hjl⟩ := hT.look (k := (e + y - T.first).toNat) (j := T.sel.toNat) (by omega) (by omega)
 have HS : Hid (Sz (R ((e + y - T.first).toNat) (T.sel.toNat))) := (hT.sz _ (by omega) _ hjl).1
 obtain ⟨q, hq⟩ : ∃ q, q = R ((e + y - T.first).toNat) (T.sel.toNat) := ⟨_, rfl⟩
 rw [← hq] at hQ HS
 have Hq := Lib.hid hq
 have hjl2 : T.sel < (T.rn ((e + y - T.first).toNat) : Int) := by omega
 clear hq
 have hwr : IntKind.i64.wrap (e + y - T.first) = e + y - T.first := by simp [IntKind.wrap, IntKind.bits, IntKind.signed]; omega
 obtain ⟨w1, hww1, ew1, B1, zw1⟩ := alloc_at w (w.heap.size) (by omega) #[.int .i64 T.first, .int .i64 T.sel, .slice T.P T.N T.C, .int .i64 e, .int .i64 y] 72
 obtain ⟨w2, hww2, ew2, B2, zw2⟩ := alloc_at w1 (w.heap.size + 1) (by omega) #[.bool false, .slice none 0 0, .bool false, .slice none 0 0] 40
 replace B1 := B1.ext ew2
 have b1_w2 := B1.c5
 have xw_w2 := eg ew1 ew2
 go_enter Tryz.func56, Tryz.ntmps56
 go_wp2_with fail
 clear hww1 hww2
 replace zw1 := le2 zw1
 replace zw2 := le2 zw2
 refine (llast T _ hb).mono (Gv.onV fun w3 ew3 zw3 => ?_)
 replace B1 := B1.ext ew3
 have b1_w3 := B1.c5
 have xw_w3 := eg xw_w2 ew3
 go_wp2_with fail
 clear b1_w2
 refine regionT 17 (fun kk => match kk with | 15 => some (.f (1)) | 16 => some (.f (q)) | _ => none) (by as_aux_lemma => kernel_rfl) (head_of (by as_aux_lemma => kernel_rfl)) ?_
 iterate 9
  refine Walk.one (x := ?_) rfl rfl (fun w1 hI hL K hK => ?_) ?_
  rotate_left
  ·obtain ⟨hc, hf⟩ := bcell hI
   go_simp
   repeat (first | (go_ints; try go_simp) | (simp only [↓IntWalk.iteOmega]; try go_simp))
   exact hK
  simp only [Pq1]
 refine Walk.one (x := ?_) rfl rfl (fun w1 hI hL K hK => ?_) ?_
 rotate_left
 ·have x0 := cell_ext (eg xw_w3 hI) hsl
  go_simp
  repeat (first | (go_ints; try go_simp) | (simp only [↓IntWalk.iteOmega]; try go_simp))
  exact hK
 simp only [Pq1]
 iterate 4
  refine Walk.one (x := ?_) rfl rfl (fun w1 hI hL K hK => ?_) ?_
  rotate_left
  ·obtain ⟨hc, hf⟩ := bcell hI
   go_simp
   repeat (first | (go_ints; try go_simp) | (simp only [↓IntWalk.iteOmega]; try go_simp))
   exact hK
  simp only [Pq1]
 refine Walk.one (x := ?_) rfl rfl (fun w1 hI hL K hK => ?_) ?_
 rotate_left
 ·have x1 := faQ.ext (eg xw_w3 hI)
  have y0 := x1.c0
  have y1 := x1.c1
  have y2 := x1.c2
  have y3 := x1.c3
  go_simp
  repeat (first | (go_ints; try go_simp) | (simp only [↓IntWalk.iteOmega]; try go_simp))
  exact hK
 simp only [Pq1]
 refine Walk.tell rfl rfl (fun w1 hI hL K hK => ?_) ?_
 ·go_simp
  exact (fFromInt_1 w1).mono (tell hK)
 rintro _ ⟨Z60, rfl⟩
 simp only [Pq1]
 refine Walk.tell rfl rfl (fun w1 hI hL K hK => ?_) ?_
 ·go_simp
  exact (ltimes_1 Q _ Z60 w1 (hQ.ext (eg xw_w3 hI)) ((Tl.getF (kn (i := 15) (v := .agg #[.bool Z60.N.b, .slice Z60.N.p Z60.N.n Z60.N.c, .bool Z60.D.b, .slice Z60.D.p Z60.D.n Z60.D.c]) rfl (by simp) (pred_of (by as_aux_lemma => kernel_rfl)) hL)).1) HS.out).mono (tell hK)
 rintro _ ⟨Z61, rfl⟩
 simp only [Pq1]
 refine Walk.nilF fun w4 ew4 kzL kzX => ?_
 have zw4 := ew4.size
 obtain ⟨hZ61, oZ61⟩ := Tl.getF (kz (i := 16) (v := .agg #[.bool Z61.N.b, .slice Z61.N.p Z61.N.n Z61.N.c, .bool Z61.D.b, .slice Z61.D.p Z61.D.n Z61.D.c]) rfl (by simp) kzL)
 replace oZ61 := oZ61.mono xw_w3.size
 clear kzL kzX
 simp only [List.drop_succ_cons, List.drop_zero, List.drop_nil]
 have xw2_w4 := eg ew3 ew4
 replace B2 := B2.ext xw2_w4
 have b2_w4 := B2.c4
 have fb2_w4 := B2.f4
 have xw_w4 := eg xw_w3 ew4
 obtain ⟨w5, hww5, kw5, Nw5, zw5⟩ := B2.put4 (.bool Z61.N.b) (.slice Z61.N.p Z61.N.n Z61.N.c) (.bool Z61.D.b) (.slice Z61.D.p Z61.D.n Z61.D.c)
 have nuw5 : NoU #[.bool false, .slice none 0 0, .bool false, .slice none 0 0] := by simp [NoU]
 replace hZ61 := FR.kb hZ61 B2 nuw5 kw5
 replace oZ61 := OF.kb oZ61 B2 (by decide) kw5
 have xw_w5 := Ext.kb xw_w4 kw5 (by omega)
 replace B2 := Nw5
 clear Nw5 kw5
 have b2_w5 := B2.c4
 go_wp2_with fail
 clear hww5
 clear b1_w3 b2_w4 fb2_w4
 replace zw5 := le2 zw5
 refine bodyPost_ret (v := .agg #[.bool Z61.N.b, .slice Z61.N.p Z61.N.n Z61.N.c, .bool Z61.D.b, .slice Z61.D.p Z61.D.n Z61.D.c]) (by simp [results, Tryz.results56, go_sem, b2_w5]) rfl ?_
 rw [show rt T R e y = q by unfold rt; rw [if_neg (by omega), if_neg (by omega)]; exact Hq.out.symm]
 exact Gv.of_f (X := Z61) hZ61 oZ61 xw_w5

theorem lrate (T : Tb) (R : Nat → Nat → Rat) (e y : Int) (w : World) (hT : TQ w T R) (h1 : T.first ≤ e) (h2 : e ≤ T.first + (T.N : Int) - 1) (h3 : 0 ≤ y) (h4 : y ≤ 1000) : Calls Tryz.prog 56 #[.agg #[.int .i64 T.first, .int .i64 T.sel, .slice T.P T.N T.C, .int .i64 e, .int .i64 y]] w (Gv (.f (rt T R e y)) w) := by
 by_cases h5 : T.first + (T.N : Int) ≤ e + y
 ·exact lrate_a T R e y w hT h1 h2 h3 h4 h5
 ·by_cases h6 : y < T.sel
  ·exact lrate_b T R e y w hT h1 h2 h3 h4 h5 h6
  ·exact lrate_c T R e y w hT h1 h2 h3 h4 h5 h6
end Go.Proofs.YtndgaecfeaedeaaGreat
