/- Walks of package life: Rate, Alive, Both, Either, Left. Walks of package life: Dies. -/
import Derived.Test.YtndgaecfeaedeaaGreatG20
set_option linter.unusedSimpArgs false
set_option linter.unusedVariables false
namespace Go.Proofs.YtndgaecfeaedeaaGreat
open Go.RowKit Lex Mth
attribute [local go_sem] run_indexAt_at add_zero_map Oper.semAt_some at_zero at_add at_mk1 at_mk2 at_mk3

theorem okL_ey {T : Tb} {e y : Int} (ok : okL T e y = true) : -9223372036854775808 ≤ e ∧ e ≤ 9223372036854775807 ∧ -9223372036854775808 ≤ y ∧ y ≤ 9223372036854775807 := by
 unfold okL at ok
 simp only [Bool.and_eq_true, decide_eq_true_eq] at ok
 obtain ⟨⟨⟨⟨h1, h2⟩, h3⟩, h4⟩, h5⟩ := ok
 have hb := (okT_iff.1 h1).1
 unfold boundsOk at hb
 omega

set_option maxRecDepth 100000 in
theorem lRate (T : Tb) (R : Nat → Nat → Rat) (e y : Int) (w : World) (hT : TQ w T R) (hok : okL T e y = true) :
    Calls Tryz.prog 16 #[.agg #[.int .i64 T.first, .int .i64 T.sel, .slice T.P T.N T.C], .agg #[.int .i64 e, .int .i64 y]] w (Gv (.fe (rt T R e y) 0) w) := by
 have hey := okL_ey hok
 have hW := hT.tw
 have Hok := Lib.hid hok
 have hq : T.first ≤ e ∧ e ≤ T.first + (T.N : Int) - 1 ∧ 0 ≤ y ∧ y ≤ 300 := by
  unfold okL at hok
  simp only [Bool.and_eq_true, decide_eq_true_eq] at hok
  exact ⟨hok.1.1.1.2, hok.1.1.2, hok.1.2, hok.2⟩
 have Hq := Lib.hid hq
 have Hey := Lib.hid hey
 clear hok hq hey
 obtain ⟨w1, hww1, ew1, B1, zw1⟩ := alloc_at w (w.heap.size) (by omega) #[.int .i64 T.first, .int .i64 T.sel, .slice T.P T.N T.C] 24
 obtain ⟨w2, hww2, ew2, B2, zw2⟩ := alloc_at w1 (w.heap.size + 1) (by omega) #[.int .i64 e, .int .i64 y] 26
 obtain ⟨w3, hww3, ew3, B3, zw3⟩ := alloc_at w2 (w.heap.size + 1 + 1) (by omega) #[.bool false, .slice none 0 0, .bool false, .slice none 0 0] 40
 have xw1_w3 := eg ew2 ew3
 replace B1 := B1.ext xw1_w3
 have b1_w3 := B1.c3
 replace B2 := B2.ext ew3
 have b2_w3 := B2.c2
 have xw_w3 := eg (eg ew1 ew2) ew3
 go_enter Tryz.func16, Tryz.ntmps16
 go_wp2_with fail
 clear hww1 hww2 hww3
 replace zw1 := le2 zw1
 replace zw2 := le2 zw2
 replace zw3 := le2 zw3
 refine (lRight T e y _ (hW.ext xw_w3) Hey.out Hok.out).mono (Gv.onV fun w4 ew4 zw4 => ?_)
 replace B1 := B1.ext ew4
 have b1_w4 := B1.c3
 replace B2 := B2.ext ew4
 have b2_w4 := B2.c2
 have xw_w4 := eg xw_w3 ew4
 go_wp2_with fail
 clear b1_w3 b2_w3
 refine (lrate T R e y _ (hT.ext xw_w4) Hq.out.1 Hq.out.2.1 Hq.out.2.2.1 (by have := Hq.out; omega)).mono (Gv.onFo fun Z14 w5 hZ14 oZ14 ew5 zw5 => ?_)
 have xw3_w5 := eg ew4 ew5
 replace B3 := B3.ext xw3_w5
 have b3_w5 := B3.c4
 have fb3_w5 := B3.f4
 have xw_w5 := eg xw_w4 ew5
 replace oZ14 := oZ14.mono xw_w4.size
 obtain ⟨w6, hww6, kw6, Nw6, zw6⟩ := B3.put4 (.bool Z14.N.b) (.slice Z14.N.p Z14.N.n Z14.N.c) (.bool Z14.D.b) (.slice Z14.D.p Z14.D.n Z14.D.c)
 have nuw6 : NoU #[.bool false, .slice none 0 0, .bool false, .slice none 0 0] := by simp [NoU]
 replace hZ14 := FR.kb hZ14 B3 nuw6 kw6
 replace oZ14 := OF.kb oZ14 B3 (by decide) kw6
 have xw_w6 := Ext.kb xw_w5 kw6 (by omega)
 replace B3 := Nw6
 clear Nw6 kw6
 have b3_w6 := B3.c4
 go_wp2_with fail
 clear hww6
 clear b1_w4 b2_w4 b3_w5 fb3_w5
 replace zw6 := le2 zw6
 refine bodyPost_ret (v := .tuple #[.agg #[.bool Z14.N.b, .slice Z14.N.p Z14.N.n Z14.N.c, .bool Z14.D.b, .slice Z14.D.p Z14.D.n Z14.D.c], .int .i64 0]) (by simp [results, Tryz.results16, go_sem, b3_w6]) rfl ?_
 exact Gv.of_fe (X := Z14) (hZ14) (oZ14) xw_w6

set_option maxRecDepth 100000 in
theorem lAlive (T : Tb) (R : Nat → Nat → Rat) (e y : Int) (n : Int) (w : World) (hT : TQ w T R) (hok : okL T e y = true) (hn : 0 ≤ n) :
    Calls Tryz.prog 17 #[.agg #[.int .i64 T.first, .int .i64 T.sel, .slice T.P T.N T.C], .agg #[.int .i64 e, .int .i64 y], .int .i64 n] w (Gv (.fe (lal T R e y n.toNat) 0) w) := by
 have hey := okL_ey hok
 have hW := hT.tw
 have Hok := Lib.hid hok
 have hq : T.first ≤ e ∧ e ≤ T.first + (T.N : Int) - 1 ∧ 0 ≤ y ∧ y ≤ 300 := by
  unfold okL at hok
  simp only [Bool.and_eq_true, decide_eq_true_eq] at hok
  exact ⟨hok.1.1.1.2, hok.1.1.2, hok.1.2, hok.2⟩
 have Hq := Lib.hid hq
 have Hey := Lib.hid hey
 clear hok hq hey
 have Hn := Lib.hid hn
 have d1 : decide (n < 0) = false := by simp; omega
 clear hn
 obtain ⟨w1, hww1, ew1, B1, zw1⟩ := alloc_at w (w.heap.size) (by omega) #[.int .i64 T.first, .int .i64 T.sel, .slice T.P T.N T.C] 24
 obtain ⟨w2, hww2, ew2, B2, zw2⟩ := alloc_at w1 (w.heap.size + 1) (by omega) #[.int .i64 e, .int .i64 y] 26
 obtain ⟨w3, hww3, ew3, B3, zw3⟩ := alloc_at w2 (w.heap.size + 1 + 1) (by omega) #[.bool false, .slice none 0 0, .bool false, .slice none 0 0] 40
 have xw1_w3 := eg ew2 ew3
 replace B1 := B1.ext xw1_w3
 have b1_w3 := B1.c3
 replace B2 := B2.ext ew3
 have b2_w3 := B2.c2
 have xw_w3 := eg (eg ew1 ew2) ew3
 go_enter Tryz.func17, Tryz.ntmps17
 go_wp2_with fail
 clear hww1 hww2 hww3
 replace zw1 := le2 zw1
 replace zw2 := le2 zw2
 replace zw3 := le2 zw3
 refine (lRight T e y _ (hW.ext xw_w3) Hey.out Hok.out).mono (Gv.onV fun w4 ew4 zw4 => ?_)
 replace B1 := B1.ext ew4
 have b1_w4 := B1.c3
 replace B2 := B2.ext ew4
 have b2_w4 := B2.c2
 have xw_w4 := eg xw_w3 ew4
 go_wp2_with fail
 clear b1_w3 b2_w3
 refine (lalive T R e y n _ (hT.ext xw_w4) Hq.out.1 Hq.out.2.1 Hq.out.2.2.1 (by have := Hq.out; omega) Hn.out).mono (Gv.onFo fun Z21 w5 hZ21 oZ21 ew5 zw5 => ?_)
 have xw3_w5 := eg ew4 ew5
 replace B3 := B3.ext xw3_w5
 have b3_w5 := B3.c4
 have fb3_w5 := B3.f4
 have xw_w5 := eg xw_w4 ew5
 replace oZ21 := oZ21.mono xw_w4.size
 obtain ⟨w6, hww6, kw6, Nw6, zw6⟩ := B3.put4 (.bool Z21.N.b) (.slice Z21.N.p Z21.N.n Z21.N.c) (.bool Z21.D.b) (.slice Z21.D.p Z21.D.n Z21.D.c)
 have nuw6 : NoU #[.bool false, .slice none 0 0, .bool false, .slice none 0 0] := by simp [NoU]
 replace hZ21 := FR.kb hZ21 B3 nuw6 kw6
 replace oZ21 := OF.kb oZ21 B3 (by decide) kw6
 have xw_w6 := Ext.kb xw_w5 kw6 (by omega)
 replace B3 := Nw6
 clear Nw6 kw6
 have b3_w6 := B3.c4
 go_wp2_with fail
 clear hww6
 clear b1_w4 b2_w4 b3_w5 fb3_w5
 replace zw6 := le2 zw6
 refine bodyPost_ret (v := .tuple #[.agg #[.bool Z21.N.b, .slice Z21.N.p Z21.N.n Z21.N.c, .bool Z21.D.b, .slice Z21.D.p Z21.D.n Z21.D.c], .int .i64 0]) (by simp [results, Tryz.results17, go_sem, b3_w6]) rfl ?_
 exact Gv.of_fe (X := Z21) (hZ21) (oZ21) xw_w6

/-- At least one is alive; the first is dead and the second alive. -/
def eiQ (x y : Rat) : Rat := 1 - (1 - x) * (1 - y)
def leQ (x y : Rat) : Rat := (1 - x) * y

set_option maxRecDepth 100000 in
theorem lEither1 (X : Fr) (Y : Fr) (x : Rat) (y : Rat) (w : World) (hX : FR w X x) (hY : FR w Y y) (bx : Sz x) (by_ : Sz y) (cx : Sz (1 - x)) (cy : Sz (1 - y)) (cm : Sz ((1 - x) * (1 - y))) (ce : Sz (eiQ x y)) :
    Calls Tryz.prog 63 #[.agg #[.bool X.N.b, .slice X.N.p X.N.n X.N.c, .bool X.D.b, .slice X.D.p X.D.n X.D.c], .agg #[.bool Y.N.b, .slice Y.N.p Y.N.n Y.N.c, .bool Y.D.b, .slice Y.D.p Y.D.n Y.D.c]] w (Gv (.f (eiQ x y)) w) := by
 obtain ⟨w1, hww1, ew1, B1, zw1⟩ := alloc_at w (w.heap.size) (by omega) #[.bool X.N.b, .slice X.N.p X.N.n X.N.c, .bool X.D.b, .slice X.D.p X.D.n X.D.c] 40
 obtain ⟨w2, hww2, ew2, B2, zw2⟩ := alloc_at w1 (w.heap.size + 1) (by omega) #[.bool Y.N.b, .slice Y.N.p Y.N.n Y.N.c, .bool Y.D.b, .slice Y.D.p Y.D.n Y.D.c] 40
 obtain ⟨w3, hww3, ew3, B3, zw3⟩ := alloc_at w2 (w.heap.size + 1 + 1) (by omega) #[.bool false, .slice none 0 0, .bool false, .slice none 0 0] 40
 have xw1_w3 := eg ew2 ew3
 replace B1 := B1.ext xw1_w3
 have b1_w3 := B1.c4
 have xw_w3 := eg (eg ew1 ew2) ew3
 replace hX := hX.ext xw_w3
 replace B2 := B2.ext ew3
 have b2_w3 := B2.c4
 replace hY := hY.ext xw_w3
 go_enter Tryz.func63, Tryz.ntmps63
 go_wp2_with fail
 clear hww1 hww2 hww3
 replace zw1 := le2 zw1
 replace zw2 := le2 zw2
 replace zw3 := le2 zw3
 refine regionT 6 (fun kk => match kk with | 1 => some (.f (1 - x)) | 3 => some (.f (1 - y)) | 4 => some (.f ((1 - x) * (1 - y))) | 5 => some (.f (1 - ((1 - x) * (1 - y)))) | _ => none) (by as_aux_lemma => kernel_rfl) (head_of (by as_aux_lemma => kernel_rfl)) ?_
 refine Walk.one (x := ?_) rfl rfl (fun w1 hI hL K hK => ?_) ?_
 rotate_left
 ·obtain ⟨hc, hf⟩ := bcell hI
  go_simp
  repeat (first | (go_ints; try go_simp) | (simp only [↓IntWalk.iteOmega]; try go_simp))
  exact hK
 simp only [Pq1]
 refine Walk.tell rfl rfl (fun w1 hI hL K hK => ?_) ?_
 ·go_simp
  exact (lnot X _ w1 ((hX).ext hI) (bx) (cx)).mono (tell hK)
 rintro _ ⟨Z6, rfl⟩
 simp only [Pq1]
 refine Walk.one (x := ?_) rfl rfl (fun w1 hI hL K hK => ?_) ?_
 rotate_left
 ·obtain ⟨hc, hf⟩ := bcell hI
  go_simp
  repeat (first | (go_ints; try go_simp) | (simp only [↓IntWalk.iteOmega]; try go_simp))
  exact hK
 simp only [Pq1]
 refine Walk.tell rfl rfl (fun w1 hI hL K hK => ?_) ?_
 ·go_simp
  exact (lnot Y _ w1 ((hY).ext hI) (by_) (cy)).mono (tell hK)
 rintro _ ⟨Z8, rfl⟩
 simp only [Pq1]
 refine Walk.tell rfl rfl (fun w1 hI hL K hK => ?_) ?_
 ·go_simp
  exact (ltimes Z6 Z8 _ _ w1 ((Tl.getF (kn (i := 1) (v := .agg #[.bool Z6.N.b, .slice Z6.N.p Z6.N.n Z6.N.c, .bool Z6.D.b, .slice Z6.D.p Z6.D.n Z6.D.c]) rfl (by simp) (pred_of (by as_aux_lemma => kernel_rfl)) hL)).1) ((Tl.getF (kn (i := 3) (v := .agg #[.bool Z8.N.b, .slice Z8.N.p Z8.N.n Z8.N.c, .bool Z8.D.b, .slice Z8.D.p Z8.D.n Z8.D.c]) rfl (by simp) (pred_of (by as_aux_lemma => kernel_rfl)) hL)).1) (cx) (cy) (cm)).mono (tell hK)
 rintro _ ⟨Z9, rfl⟩
 simp only [Pq1]
 refine Walk.tell rfl rfl (fun w1 hI hL K hK => ?_) ?_
 ·go_simp
  exact (lnot Z9 _ w1 ((Tl.getF (kn (i := 4) (v := .agg #[.bool Z9.N.b, .slice Z9.N.p Z9.N.n Z9.N.c, .bool Z9.D.b, .slice Z9.D.p Z9.D.n Z9.D.c]) rfl (by simp) (pred_of (by as_aux_lemma => kernel_rfl)) hL)).1) (cm) (ce)).mono (tell hK)
 rintro _ ⟨Z10, rfl⟩
 simp only [Pq1]
 refine Walk.nilF fun w4 ew4 kzL kzX => ?_
 have zw4 := ew4.size
 obtain ⟨hZ10, oZ10⟩ := Tl.getF (kz (i := 5) (v := .agg #[.bool Z10.N.b, .slice Z10.N.p Z10.N.n Z10.N.c, .bool Z10.D.b, .slice Z10.D.p Z10.D.n Z10.D.c]) rfl (by simp) kzL)
 replace oZ10 := oZ10.mono xw_w3.size
 clear kzL kzX
 simp only [List.drop_succ_cons, List.drop_zero, List.drop_nil]
 replace B3 := B3.ext ew4
 have b3_w4 := B3.c4
 have fb3_w4 := B3.f4
 have xw_w4 := eg xw_w3 ew4
 obtain ⟨w5, hww5, kw5, Nw5, zw5⟩ := B3.put4 (.bool Z10.N.b) (.slice Z10.N.p Z10.N.n Z10.N.c) (.bool Z10.D.b) (.slice Z10.D.p Z10.D.n Z10.D.c)
 have nuw5 : NoU #[.bool false, .slice none 0 0, .bool false, .slice none 0 0] := by simp [NoU]
 replace hZ10 := FR.kb hZ10 B3 nuw5 kw5
 replace oZ10 := OF.kb oZ10 B3 (by decide) kw5
 have xw_w5 := Ext.kb xw_w4 kw5 (by omega)
 replace B3 := Nw5
 clear Nw5 kw5
 have b3_w5 := B3.c4
 go_wp2_with fail
 clear hww5
 clear b1_w3 b2_w3 b3_w4 fb3_w4
 replace zw5 := le2 zw5
 refine bodyPost_ret (v := .agg #[.bool Z10.N.b, .slice Z10.N.p Z10.N.n Z10.N.c, .bool Z10.D.b, .slice Z10.D.p Z10.D.n Z10.D.c]) (by simp [results, Tryz.results63, go_sem, b3_w5]) rfl ?_
 exact Gv.of_f (X := Z10) (hZ10) (oZ10) xw_w5

set_option maxRecDepth 100000 in
theorem lLeft1 (X : Fr) (Y : Fr) (x : Rat) (y : Rat) (w : World) (hX : FR w X x) (hY : FR w Y y) (bx : Sz x) (by_ : Sz y) (cx : Sz (1 - x)) (ce : Sz (leQ x y)) :
    Calls Tryz.prog 64 #[.agg #[.bool X.N.b, .slice X.N.p X.N.n X.N.c, .bool X.D.b, .slice X.D.p X.D.n X.D.c], .agg #[.bool Y.N.b, .slice Y.N.p Y.N.n Y.N.c, .bool Y.D.b, .slice Y.D.p Y.D.n Y.D.c]] w (Gv (.f (leQ x y)) w) := by
 obtain ⟨w1, hww1, ew1, B1, zw1⟩ := alloc_at w (w.heap.size) (by omega) #[.bool X.N.b, .slice X.N.p X.N.n X.N.c, .bool X.D.b, .slice X.D.p X.D.n X.D.c] 40
 obtain ⟨w2, hww2, ew2, B2, zw2⟩ := alloc_at w1 (w.heap.size + 1) (by omega) #[.bool Y.N.b, .slice Y.N.p Y.N.n Y.N.c, .bool Y.D.b, .slice Y.D.p Y.D.n Y.D.c] 40
 obtain ⟨w3, hww3, ew3, B3, zw3⟩ := alloc_at w2 (w.heap.size + 1 + 1) (by omega) #[.bool false, .slice none 0 0, .bool false, .slice none 0 0] 40
 have xw1_w3 := eg ew2 ew3
 replace B1 := B1.ext xw1_w3
 have b1_w3 := B1.c4
 have xw_w3 := eg (eg ew1 ew2) ew3
 replace hX := hX.ext xw_w3
 replace B2 := B2.ext ew3
 have b2_w3 := B2.c4
 replace hY := hY.ext xw_w3
 go_enter Tryz.func64, Tryz.ntmps64
 go_wp2_with fail
 clear hww1 hww2 hww3
 replace zw1 := le2 zw1
 replace zw2 := le2 zw2
 replace zw3 := le2 zw3
 refine regionT 4 (fun kk => match kk with | 1 => some (.f (1 - x)) | 3 => some (.f ((1 - x) * y)) | _ => none) (by as_aux_lemma => kernel_rfl) (head_of (by as_aux_lemma => kernel_rfl)) ?_
 refine Walk.one (x := ?_) rfl rfl (fun w1 hI hL K hK => ?_) ?_
 rotate_left
 ·obtain ⟨hc, hf⟩ := bcell hI
  go_simp
  repeat (first | (go_ints; try go_simp) | (simp only [↓IntWalk.iteOmega]; try go_simp))
  exact hK
 simp only [Pq1]
 refine Walk.tell rfl rfl (fun w1 hI hL K hK => ?_) ?_
 ·go_simp
  exact (lnot X _ w1 ((hX).ext hI) (bx) (cx)).mono (tell hK)
 rintro _ ⟨Z6, rfl⟩
 simp only [Pq1]
 refine Walk.one (x := ?_) rfl rfl (fun w1 hI hL K hK => ?_) ?_
 rotate_left
 ·obtain ⟨hc, hf⟩ := bcell hI
  go_simp
  repeat (first | (go_ints; try go_simp) | (simp only [↓IntWalk.iteOmega]; try go_simp))
  exact hK
 simp only [Pq1]
 refine Walk.tell rfl rfl (fun w1 hI hL K hK => ?_) ?_
 ·go_simp
  exact (ltimes Z6 Y _ _ w1 ((Tl.getF (kn (i := 1) (v := .agg #[.bool Z6.N.b, .slice Z6.N.p Z6.N.n Z6.N.c, .bool Z6.D.b, .slice Z6.D.p Z6.D.n Z6.D.c]) rfl (by simp) (pred_of (by as_aux_lemma => kernel_rfl)) hL)).1) ((hY).ext hI) (cx) (by_) (ce)).mono (tell hK)
 rintro _ ⟨Z8, rfl⟩
 simp only [Pq1]
 refine Walk.nilF fun w4 ew4 kzL kzX => ?_
 have zw4 := ew4.size
 obtain ⟨hZ8, oZ8⟩ := Tl.getF (kz (i := 3) (v := .agg #[.bool Z8.N.b, .slice Z8.N.p Z8.N.n Z8.N.c, .bool Z8.D.b, .slice Z8.D.p Z8.D.n Z8.D.c]) rfl (by simp) kzL)
 replace oZ8 := oZ8.mono xw_w3.size
 clear kzL kzX
 simp only [List.drop_succ_cons, List.drop_zero, List.drop_nil]
 replace B3 := B3.ext ew4
 have b3_w4 := B3.c4
 have fb3_w4 := B3.f4
 have xw_w4 := eg xw_w3 ew4
 obtain ⟨w5, hww5, kw5, Nw5, zw5⟩ := B3.put4 (.bool Z8.N.b) (.slice Z8.N.p Z8.N.n Z8.N.c) (.bool Z8.D.b) (.slice Z8.D.p Z8.D.n Z8.D.c)
 have nuw5 : NoU #[.bool false, .slice none 0 0, .bool false, .slice none 0 0] := by simp [NoU]
 replace hZ8 := FR.kb hZ8 B3 nuw5 kw5
 replace oZ8 := OF.kb oZ8 B3 (by decide) kw5
 have xw_w5 := Ext.kb xw_w4 kw5 (by omega)
 replace B3 := Nw5
 clear Nw5 kw5
 have b3_w5 := B3.c4
 go_wp2_with fail
 clear hww5
 clear b1_w3 b2_w3 b3_w4 fb3_w4
 replace zw5 := le2 zw5
 refine bodyPost_ret (v := .agg #[.bool Z8.N.b, .slice Z8.N.p Z8.N.n Z8.N.c, .bool Z8.D.b, .slice Z8.D.p Z8.D.n Z8.D.c]) (by simp [results, Tryz.results64, go_sem, b3_w5]) rfl ?_
 exact Gv.of_f (X := Z8) (hZ8) (oZ8) xw_w5

set_option maxRecDepth 100000 in
theorem lpair (T : Tb) (R : Nat → Nat → Rat) (e y : Int) (e2 y2 : Int) (n : Int) (F : Nat) (w : World) (hcf : ∀ args w, (callFunc F args).run Tryz.prog w = .ok (.enter F args) w) (hT : TQ w T R) (hok : okL T e y = true) (hok2 : okL T e2 y2 = true) (hn : 0 ≤ n) (c : Rat) (hF : ∀ (A B : Fr) (w1 : World), FR w1 A (lal T R e y n.toNat) → FR w1 B (lal T R e2 y2 n.toNat) → Calls Tryz.prog F #[A.val, B.val] w1 (Gv (.f c) w1)) :
    Calls Tryz.prog 62 #[.agg #[.int .i64 T.first, .int .i64 T.sel, .slice T.P T.N T.C], .agg #[.int .i64 e, .int .i64 y], .agg #[.int .i64 e2, .int .i64 y2], .int .i64 n, .func (.func F) #[] #[]] w (Gv (.fe c 0) w) := by
 have hey := okL_ey hok
 have hW := hT.tw
 have Hok := Lib.hid hok
 have hq : T.first ≤ e ∧ e ≤ T.first + (T.N : Int) - 1 ∧ 0 ≤ y ∧ y ≤ 300 := by
  unfold okL at hok
  simp only [Bool.and_eq_true, decide_eq_true_eq] at hok
  exact ⟨hok.1.1.1.2, hok.1.1.2, hok.1.2, hok.2⟩
 have Hq := Lib.hid hq
 have Hey := Lib.hid hey
 clear hok hq hey
 have hey2 := okL_ey hok2
 have Hok2 := Lib.hid hok2
 have hq2 : T.first ≤ e2 ∧ e2 ≤ T.first + (T.N : Int) - 1 ∧ 0 ≤ y2 ∧ y2 ≤ 300 := by
  unfold okL at hok2
  simp only [Bool.and_eq_true, decide_eq_true_eq] at hok2
  exact ⟨hok2.1.1.1.2, hok2.1.1.2, hok2.1.2, hok2.2⟩
 have Hq2 := Lib.hid hq2
 have Hey2 := Lib.hid hey2
 clear hok2 hq2 hey2
 have HF := Lib.hid hF
 have Hn := Lib.hid hn
 have d1 : decide (n < 0) = false := by simp; omega
 clear hn hF
 obtain ⟨w1, hww1, ew1, B1, zw1⟩ := alloc_at w (w.heap.size) (by omega) #[.int .i64 T.first, .int .i64 T.sel, .slice T.P T.N T.C] 24
 obtain ⟨w2, hww2, ew2, B2, zw2⟩ := alloc_at w1 (w.heap.size + 1) (by omega) #[.int .i64 e, .int .i64 y] 26
 obtain ⟨w3, hww3, ew3, B3, zw3⟩ := alloc_at w2 (w.heap.size + 1 + 1) (by omega) #[.int .i64 e2, .int .i64 y2] 26
 obtain ⟨w4, hww4, ew4, B4, zw4⟩ := alloc_at w3 (w.heap.size + 1 + 1 + 1) (by omega) #[.bool false, .slice none 0 0, .bool false, .slice none 0 0] 40
 have xw1_w4 := eg (eg ew2 ew3) ew4
 replace B1 := B1.ext xw1_w4
 have b1_w4 := B1.c3
 have xw2_w4 := eg ew3 ew4
 replace B2 := B2.ext xw2_w4
 have b2_w4 := B2.c2
 have xw_w4 := eg (eg (eg ew1 ew2) ew3) ew4
 go_enter Tryz.func62, Tryz.ntmps62
 go_wp2_with fail
 clear hww1 hww2 hww3 hww4
 replace zw1 := le2 zw1
 replace zw2 := le2 zw2
 replace zw3 := le2 zw3
 replace zw4 := le2 zw4
 refine (lRight T e y _ (hW.ext xw_w4) Hey.out Hok.out).mono (Gv.onV fun w5 ew5 zw5 => ?_)
 replace B1 := B1.ext ew5
 have b1_w5 := B1.c3
 have xw3_w5 := eg ew4 ew5
 replace B3 := B3.ext xw3_w5
 have b3_w5 := B3.c2
 have xw_w5 := eg xw_w4 ew5
 go_wp2_with fail
 clear b1_w4 b2_w4
 refine (lRight T e2 y2 _ (hW.ext xw_w5) Hey2.out Hok2.out).mono (Gv.onV fun w6 ew6 zw6 => ?_)
 replace B1 := B1.ext ew6
 have b1_w6 := B1.c3
 have xw4_w6 := eg ew5 ew6
 replace B2 := B2.ext xw4_w6
 have b2_w6 := B2.c2
 have xw_w6 := eg xw_w5 ew6
 replace B3 := B3.ext ew6
 have b3_w6 := B3.c2
 go_wp2_with fail
 clear b1_w5 b3_w5
 refine regionT 12 (fun kk => match kk with | 5 => some (.f (lal T R e y n.toNat)) | 10 => some (.f (lal T R e2 y2 n.toNat)) | 11 => some (.f (c)) | _ => none) (by as_aux_lemma => kernel_rfl) (head_of (by as_aux_lemma => kernel_rfl)) ?_
 iterate 5
  refine Walk.one (x := ?_) rfl rfl (fun w1 hI hL K hK => ?_) ?_
  rotate_left
  ·obtain ⟨hc, hf⟩ := bcell hI
   go_simp
   repeat (first | (go_ints; try go_simp) | (simp only [↓IntWalk.iteOmega]; try go_simp))
   exact hK
  simp only [Pq1]
 refine Walk.tell rfl rfl (fun w1 hI hL K hK => ?_) ?_
 ·go_simp
  exact (lalive T R e y n w1 (hT.ext (eg xw_w6 hI)) Hq.out.1 Hq.out.2.1 Hq.out.2.2.1 (by have := Hq.out; omega) Hn.out).mono (tell hK)
 rintro _ ⟨Z32, rfl⟩
 simp only [Pq1]
 iterate 4
  refine Walk.one (x := ?_) rfl rfl (fun w1 hI hL K hK => ?_) ?_
  rotate_left
  ·obtain ⟨hc, hf⟩ := bcell hI
   go_simp
   repeat (first | (go_ints; try go_simp) | (simp only [↓IntWalk.iteOmega]; try go_simp))
   exact hK
  simp only [Pq1]
 refine Walk.tell rfl rfl (fun w1 hI hL K hK => ?_) ?_
 ·go_simp
  exact (lalive T R e2 y2 n w1 (hT.ext (eg xw_w6 hI)) Hq2.out.1 Hq2.out.2.1 Hq2.out.2.2.1 (by have := Hq2.out; omega) Hn.out).mono (tell hK)
 rintro _ ⟨Z37, rfl⟩
 simp only [Pq1]
 refine Walk.tell rfl rfl (fun w1 hI hL K hK => ?_) ?_
 ·go_simp
  exact (HF.out Z32 Z37 w1 ((Tl.getF (kn (i := 5) (v := .agg #[.bool Z32.N.b, .slice Z32.N.p Z32.N.n Z32.N.c, .bool Z32.D.b, .slice Z32.D.p Z32.D.n Z32.D.c]) rfl (by simp) (pred_of (by as_aux_lemma => kernel_rfl)) hL)).1) ((Tl.getF (kn (i := 10) (v := .agg #[.bool Z37.N.b, .slice Z37.N.p Z37.N.n Z37.N.c, .bool Z37.D.b, .slice Z37.D.p Z37.D.n Z37.D.c]) rfl (by simp) (pred_of (by as_aux_lemma => kernel_rfl)) hL)).1)).mono (tell hK)
 rintro _ ⟨Z38, rfl⟩
 simp only [Pq1]
 refine Walk.nilF fun w7 ew7 kzL kzX => ?_
 have zw7 := ew7.size
 obtain ⟨hZ38, oZ38⟩ := Tl.getF (kz (i := 11) (v := .agg #[.bool Z38.N.b, .slice Z38.N.p Z38.N.n Z38.N.c, .bool Z38.D.b, .slice Z38.D.p Z38.D.n Z38.D.c]) rfl (by simp) kzL)
 replace oZ38 := oZ38.mono xw_w6.size
 clear kzL kzX
 simp only [List.drop_succ_cons, List.drop_zero, List.drop_nil]
 have xw4_w7 := eg xw4_w6 ew7
 replace B4 := B4.ext xw4_w7
 have b4_w7 := B4.c4
 have fb4_w7 := B4.f4
 have xw_w7 := eg xw_w6 ew7
 obtain ⟨w8, hww8, kw8, Nw8, zw8⟩ := B4.put4 (.bool Z38.N.b) (.slice Z38.N.p Z38.N.n Z38.N.c) (.bool Z38.D.b) (.slice Z38.D.p Z38.D.n Z38.D.c)
 have nuw8 : NoU #[.bool false, .slice none 0 0, .bool false, .slice none 0 0] := by simp [NoU]
 replace hZ38 := FR.kb hZ38 B4 nuw8 kw8
 replace oZ38 := OF.kb oZ38 B4 (by decide) kw8
 have xw_w8 := Ext.kb xw_w7 kw8 (by omega)
 replace B4 := Nw8
 clear Nw8 kw8
 have b4_w8 := B4.c4
 go_wp2_with fail
 clear hww8
 clear b1_w6 b2_w6 b3_w6 b4_w7 fb4_w7
 replace zw8 := le2 zw8
 refine bodyPost_ret (v := .tuple #[.agg #[.bool Z38.N.b, .slice Z38.N.p Z38.N.n Z38.N.c, .bool Z38.D.b, .slice Z38.D.p Z38.D.n Z38.D.c], .int .i64 0]) (by simp [results, Tryz.results62, go_sem, b4_w8]) rfl ?_
 exact Gv.of_fe (X := Z38) (hZ38) (oZ38) xw_w8

theorem cf59 : ∀ args w, (callFunc 59 args).run Tryz.prog w = .ok (.enter 59 args) w := fun args w => by simp [go_sem]

theorem cf63 : ∀ args w, (callFunc 63 args).run Tryz.prog w = .ok (.enter 63 args) w := fun args w => by simp [go_sem]

theorem cf64 : ∀ args w, (callFunc 64 args).run Tryz.prog w = .ok (.enter 64 args) w := fun args w => by simp [go_sem]

theorem pal_sz {w : World} {T : Tb} {R : Nat → Nat → Rat} (hT : TQ w T R) {e y : Int} (ok : okL T e y = true) (n : Nat) : ∃ D, 0 < D ∧ siz D ≤ 112 ∧ Sm (lal T R e y n) D 1 := by
 unfold okL at ok
 simp only [Bool.and_eq_true, decide_eq_true_eq] at ok
 have rs := rs_rt hT ok.1.1.1.2 ok.1.1.2 ok.1.2
 have hA := yN_le hT ok.1.1.1.2 ok.1.2
 exact ⟨DD (fun k => rt T R e (y + (k : Nat))) (yN T e y), Nat.pos_of_ne_zero (DD_ne _ _), by have := DD_siz rs (yN T e y); omega, al_smA rs n⟩
theorem Sm.szD {q : Rat} {D : Nat} (h : Sm q D 1) (hD : 0 < D) (hs : siz D ≤ 224) : Sz q := h.sz hD (by have : siz 1 ≤ 1 := siz_one.2 (by omega); omega)
structure PS (x y : Rat) : Prop where
 sx : Sz x
 sy : Sz y
 nx : Sz (1 - x)
 ny : Sz (1 - y)
 m : Sz (x * y)
 nm : Sz ((1 - x) * (1 - y))
 ei : Sz (eiQ x y)
 le : Sz (leQ x y)
theorem PS.of {x y : Rat} {D E : Nat} (hD : 0 < D) (hE : 0 < E) (sD : siz D ≤ 112) (sE : siz E ≤ 112) (hx : Sm x D 1) (hy : Sm y E 1) : PS x y := by
 have nx := hx.not (by omega)
 have ny := hy.not (by omega)
 have hDE : 0 < D * E := Nat.mul_pos hD hE
 have sDE : siz (D * E) ≤ 224 := by have := siz_mul D E; omega
 exact ⟨hx.szD hD (by omega), hy.szD hE (by omega), nx.szD hD (by omega), ny.szD hE (by omega), (hx.mul hy).szD hDE sDE, (nx.mul ny).szD hDE sDE, ((nx.mul ny).not (by omega)).szD hDE sDE, (nx.mul hy).szD hDE sDE⟩
theorem pal_ps {w : World} {T : Tb} {R : Nat → Nat → Rat} (hT : TQ w T R) {e y e2 y2 : Int} (ok : okL T e y = true) (ok2 : okL T e2 y2 = true) (n : Nat) : PS (lal T R e y n) (lal T R e2 y2 n) := by
 obtain ⟨D, h1, h2, h3⟩ := pal_sz hT ok n
 obtain ⟨E, k1, k2, k3⟩ := pal_sz hT ok2 n
 exact PS.of h1 k1 h2 k2 h3 k3

set_option maxRecDepth 100000 in
theorem lBoth (T : Tb) (R : Nat → Nat → Rat) (e y : Int) (e2 y2 : Int) (n : Int) (w : World) (hT : TQ w T R) (hok : okL T e y = true) (hok2 : okL T e2 y2 = true) (hn : 0 ≤ n) :
    Calls Tryz.prog 20 #[.agg #[.int .i64 T.first, .int .i64 T.sel, .slice T.P T.N T.C], .agg #[.int .i64 e, .int .i64 y], .agg #[.int .i64 e2, .int .i64 y2], .int .i64 n] w (Gv (.fe (lal T R e y n.toNat * lal T R e2 y2 n.toNat) 0) w) := by
 have Hok := Lib.hid hok
 have Hok2 := Lib.hid hok2
 have Hn := Lib.hid hn
 clear hok hok2 hn
 obtain ⟨w1, hww1, ew1, B1, zw1⟩ := alloc_at w (w.heap.size) (by omega) #[.int .i64 T.first, .int .i64 T.sel, .slice T.P T.N T.C] 24
 obtain ⟨w2, hww2, ew2, B2, zw2⟩ := alloc_at w1 (w.heap.size + 1) (by omega) #[.int .i64 e, .int .i64 y] 26
 obtain ⟨w3, hww3, ew3, B3, zw3⟩ := alloc_at w2 (w.heap.size + 1 + 1) (by omega) #[.int .i64 e2, .int .i64 y2] 26
 obtain ⟨w4, hww4, ew4, B4, zw4⟩ := alloc_at w3 (w.heap.size + 1 + 1 + 1) (by omega) #[.bool false, .slice none 0 0, .bool false, .slice none 0 0] 40
 have xw1_w4 := eg (eg ew2 ew3) ew4
 replace B1 := B1.ext xw1_w4
 have b1_w4 := B1.c3
 have xw2_w4 := eg ew3 ew4
 replace B2 := B2.ext xw2_w4
 have b2_w4 := B2.c2
 replace B3 := B3.ext ew4
 have b3_w4 := B3.c2
 have xw_w4 := eg (eg (eg ew1 ew2) ew3) ew4
 go_enter Tryz.func20, Tryz.ntmps20
 go_wp2_with fail
 clear hww1 hww2 hww3 hww4
 replace zw1 := le2 zw1
 replace zw2 := le2 zw2
 replace zw3 := le2 zw3
 replace zw4 := le2 zw4
 refine (lpair T R e y e2 y2 n 59 _ cf59 (hT.ext xw_w4) Hok.out Hok2.out Hn.out _ (fun A B w1 ha hb => have p := pal_ps hT Hok.out Hok2.out n.toNat; ltimes A B _ _ w1 ha hb p.sx p.sy p.m)).mono (Gv.onFeo fun Z14 w5 hZ14 oZ14 ew5 zw5 => ?_)
 replace B4 := B4.ext ew5
 have b4_w5 := B4.c4
 have fb4_w5 := B4.f4
 have xw_w5 := eg xw_w4 ew5
 replace oZ14 := oZ14.mono xw_w4.size
 obtain ⟨w6, hww6, kw6, Nw6, zw6⟩ := B4.put4 (.bool Z14.N.b) (.slice Z14.N.p Z14.N.n Z14.N.c) (.bool Z14.D.b) (.slice Z14.D.p Z14.D.n Z14.D.c)
 have nuw6 : NoU #[.bool false, .slice none 0 0, .bool false, .slice none 0 0] := by simp [NoU]
 replace hZ14 := FR.kb hZ14 B4 nuw6 kw6
 replace oZ14 := OF.kb oZ14 B4 (by decide) kw6
 have xw_w6 := Ext.kb xw_w5 kw6 (by omega)
 replace B4 := Nw6
 clear Nw6 kw6
 have b4_w6 := B4.c4
 go_wp2_with fail
 clear hww6
 clear b1_w4 b2_w4 b3_w4 b4_w5 fb4_w5
 replace zw6 := le2 zw6
 refine bodyPost_ret (v := .tuple #[.agg #[.bool Z14.N.b, .slice Z14.N.p Z14.N.n Z14.N.c, .bool Z14.D.b, .slice Z14.D.p Z14.D.n Z14.D.c], .int .i64 0]) (by simp [results, Tryz.results20, go_sem, b4_w6]) rfl ?_
 exact Gv.of_fe (X := Z14) (hZ14) (oZ14) xw_w6

set_option maxRecDepth 100000 in
theorem lEither (T : Tb) (R : Nat → Nat → Rat) (e y : Int) (e2 y2 : Int) (n : Int) (w : World) (hT : TQ w T R) (hok : okL T e y = true) (hok2 : okL T e2 y2 = true) (hn : 0 ≤ n) :
    Calls Tryz.prog 21 #[.agg #[.int .i64 T.first, .int .i64 T.sel, .slice T.P T.N T.C], .agg #[.int .i64 e, .int .i64 y], .agg #[.int .i64 e2, .int .i64 y2], .int .i64 n] w (Gv (.fe (eiQ (lal T R e y n.toNat) (lal T R e2 y2 n.toNat)) 0) w) := by
 have Hok := Lib.hid hok
 have Hok2 := Lib.hid hok2
 have Hn := Lib.hid hn
 clear hok hok2 hn
 obtain ⟨w1, hww1, ew1, B1, zw1⟩ := alloc_at w (w.heap.size) (by omega) #[.int .i64 T.first, .int .i64 T.sel, .slice T.P T.N T.C] 24
 obtain ⟨w2, hww2, ew2, B2, zw2⟩ := alloc_at w1 (w.heap.size + 1) (by omega) #[.int .i64 e, .int .i64 y] 26
 obtain ⟨w3, hww3, ew3, B3, zw3⟩ := alloc_at w2 (w.heap.size + 1 + 1) (by omega) #[.int .i64 e2, .int .i64 y2] 26
 obtain ⟨w4, hww4, ew4, B4, zw4⟩ := alloc_at w3 (w.heap.size + 1 + 1 + 1) (by omega) #[.bool false, .slice none 0 0, .bool false, .slice none 0 0] 40
 have xw1_w4 := eg (eg ew2 ew3) ew4
 replace B1 := B1.ext xw1_w4
 have b1_w4 := B1.c3
 have xw2_w4 := eg ew3 ew4
 replace B2 := B2.ext xw2_w4
 have b2_w4 := B2.c2
 replace B3 := B3.ext ew4
 have b3_w4 := B3.c2
 have xw_w4 := eg (eg (eg ew1 ew2) ew3) ew4
 go_enter Tryz.func21, Tryz.ntmps21
 go_wp2_with fail
 clear hww1 hww2 hww3 hww4
 replace zw1 := le2 zw1
 replace zw2 := le2 zw2
 replace zw3 := le2 zw3
 replace zw4 := le2 zw4
 refine (lpair T R e y e2 y2 n 63 _ cf63 (hT.ext xw_w4) Hok.out Hok2.out Hn.out _ (fun A B w1 ha hb => have p := pal_ps hT Hok.out Hok2.out n.toNat; lEither1 A B _ _ w1 ha hb p.sx p.sy p.nx p.ny p.nm p.ei)).mono (Gv.onFeo fun Z14 w5 hZ14 oZ14 ew5 zw5 => ?_)
 replace B4 := B4.ext ew5
 have b4_w5 := B4.c4
 have fb4_w5 := B4.f4
 have xw_w5 := eg xw_w4 ew5
 replace oZ14 := oZ14.mono xw_w4.size
 obtain ⟨w6, hww6, kw6, Nw6, zw6⟩ := B4.put4 (.bool Z14.N.b) (.slice Z14.N.p Z14.N.n Z14.N.c) (.bool Z14.D.b) (.slice Z14.D.p Z14.D.n Z14.D.c)
 have nuw6 : NoU #[.bool false, .slice none 0 0, .bool false, .slice none 0 0] := by simp [NoU]
 replace hZ14 := FR.kb hZ14 B4 nuw6 kw6
 replace oZ14 := OF.kb oZ14 B4 (by decide) kw6
 have xw_w6 := Ext.kb xw_w5 kw6 (by omega)
 replace B4 := Nw6
 clear Nw6 kw6
 have b4_w6 := B4.c4
 go_wp2_with fail
 clear hww6
 clear b1_w4 b2_w4 b3_w4 b4_w5 fb4_w5
 replace zw6 := le2 zw6
 refine bodyPost_ret (v := .tuple #[.agg #[.bool Z14.N.b, .slice Z14.N.p Z14.N.n Z14.N.c, .bool Z14.D.b, .slice Z14.D.p Z14.D.n Z14.D.c], .int .i64 0]) (by simp [results, Tryz.results21, go_sem, b4_w6]) rfl ?_
 exact Gv.of_fe (X := Z14) (hZ14) (oZ14) xw_w6

set_option maxRecDepth 100000 in
theorem lLeft (T : Tb) (R : Nat → Nat → Rat) (e y : Int) (e2 y2 : Int) (n : Int) (w : World) (hT : TQ w T R) (hok : okL T e y = true) (hok2 : okL T e2 y2 = true) (hn : 0 ≤ n) :
    Calls Tryz.prog 22 #[.agg #[.int .i64 T.first, .int .i64 T.sel, .slice T.P T.N T.C], .agg #[.int .i64 e, .int .i64 y], .agg #[.int .i64 e2, .int .i64 y2], .int .i64 n] w (Gv (.fe (leQ (lal T R e y n.toNat) (lal T R e2 y2 n.toNat)) 0) w) := by
 have Hok := Lib.hid hok
 have Hok2 := Lib.hid hok2
 have Hn := Lib.hid hn
 clear hok hok2 hn
 obtain ⟨w1, hww1, ew1, B1, zw1⟩ := alloc_at w (w.heap.size) (by omega) #[.int .i64 T.first, .int .i64 T.sel, .slice T.P T.N T.C] 24
 obtain ⟨w2, hww2, ew2, B2, zw2⟩ := alloc_at w1 (w.heap.size + 1) (by omega) #[.int .i64 e, .int .i64 y] 26
 obtain ⟨w3, hww3, ew3, B3, zw3⟩ := alloc_at w2 (w.heap.size + 1 + 1) (by omega) #[.int .i64 e2, .int .i64 y2] 26
 obtain ⟨w4, hww4, ew4, B4, zw4⟩ := alloc_at w3 (w.heap.size + 1 + 1 + 1) (by omega) #[.bool false, .slice none 0 0, .bool false, .slice none 0 0] 40
 have xw1_w4 := eg (eg ew2 ew3) ew4
 replace B1 := B1.ext xw1_w4
 have b1_w4 := B1.c3
 have xw2_w4 := eg ew3 ew4
 replace B2 := B2.ext xw2_w4
 have b2_w4 := B2.c2
 replace B3 := B3.ext ew4
 have b3_w4 := B3.c2
 have xw_w4 := eg (eg (eg ew1 ew2) ew3) ew4
 go_enter Tryz.func22, Tryz.ntmps22
 go_wp2_with fail
 clear hww1 hww2 hww3 hww4
 replace zw1 := le2 zw1
 replace zw2 := le2 zw2
 replace zw3 := le2 zw3
 replace zw4 := le2 zw4
 refine (lpair T R e y e2 y2 n 64 _ cf64 (hT.ext xw_w4) Hok.out Hok2.out Hn.out _ (fun A B w1 ha hb => have p := pal_ps hT Hok.out Hok2.out n.toNat; lLeft1 A B _ _ w1 ha hb p.sx p.sy p.nx p.le)).mono (Gv.onFeo fun Z14 w5 hZ14 oZ14 ew5 zw5 => ?_)
 replace B4 := B4.ext ew5
 have b4_w5 := B4.c4
 have fb4_w5 := B4.f4
 have xw_w5 := eg xw_w4 ew5
 replace oZ14 := oZ14.mono xw_w4.size
 obtain ⟨w6, hww6, kw6, Nw6, zw6⟩ := B4.put4 (.bool Z14.N.b) (.slice Z14.N.p Z14.N.n Z14.N.c) (.bool Z14.D.b) (.slice Z14.D.p Z14.D.n Z14.D.c)
 have nuw6 : NoU #[.bool false, .slice none 0 0, .bool false, .slice none 0 0] := by simp [NoU]
 replace hZ14 := FR.kb hZ14 B4 nuw6 kw6
 replace oZ14 := OF.kb oZ14 B4 (by decide) kw6
 have xw_w6 := Ext.kb xw_w5 kw6 (by omega)
 replace B4 := Nw6
 clear Nw6 kw6
 have b4_w6 := B4.c4
 go_wp2_with fail
 clear hww6
 clear b1_w4 b2_w4 b3_w4 b4_w5 fb4_w5
 replace zw6 := le2 zw6
 refine bodyPost_ret (v := .tuple #[.agg #[.bool Z14.N.b, .slice Z14.N.p Z14.N.n Z14.N.c, .bool Z14.D.b, .slice Z14.D.p Z14.D.n Z14.D.c], .int .i64 0]) (by simp [results, Tryz.results22, go_sem, b4_w6]) rfl ?_
 exact Gv.of_fe (X := Z14) (hZ14) (oZ14) xw_w6
end Go.Proofs.YtndgaecfeaedeaaGreat
namespace Go.Proofs.YtndgaecfeaedeaaGreat
open Go.RowKit Lex Mth
attribute [local go_sem] run_indexAt_at add_zero_map Oper.semAt_some at_zero at_add at_mk1 at_mk2 at_mk3

/-- The probability of dying in a later year. -/
def ldq (T : Tb) (R : Nat → Nat → Rat) (e y : Int) (n : Nat) : Rat := lal T R e y n * rt T R e (y + (n : Nat))
/-- What a loop over the years has gathered, in the box g; two boxes are as they were. -/
def DI (g r s : Nat) (q : Rat) (B : Nat) (w4 W : World) : Prop := ∃ O : Fr, Cells W g 40 #[.bool O.N.b, .slice O.N.p O.N.n O.N.c, .bool O.D.b, .slice O.D.p O.D.n O.D.c] ∧ FR W O q ∧ OF B W O ∧ (∀ b ∈ Bl O.val, ¬ LoopBlocks w4 1 b) ∧ Cells W r 40 #[.bool false, .slice none 0 0, .bool false, .slice none 0 0] ∧ Cells W s 41 #[.int .i64 0] ∧ Keeps (fun b => (b = g ∨ b = r ∨ b = s) ∨ LoopBlocks w4 1 b) w4 W
def DX (g r s : Nat) (q : Rat) (B : Nat) (w4 W : World) : Prop := ∃ O : Fr, Cells W r 40 #[.bool O.N.b, .slice O.N.p O.N.n O.N.c, .bool O.D.b, .slice O.D.p O.D.n O.D.c] ∧ FR W O q ∧ OF B W O ∧ (∀ b ∈ Bl O.val, ¬ LoopBlocks w4 1 b) ∧ Cells W s 41 #[.int .i64 0] ∧ Keeps (fun b => (b = g ∨ b = r ∨ b = s) ∨ LoopBlocks w4 1 b) w4 W
theorem DI.keeps {g r s : Nat} {q : Rat} {B : Nat} {w4 A C : World} (h : DI g r s q B w4 A) (k : Keeps (LoopBlocks w4 1) A C) (hg : ¬ LoopBlocks w4 1 g) (hr : ¬ LoopBlocks w4 1 r) (hs : ¬ LoopBlocks w4 1 s) : DI g r s q B w4 C := by
 obtain ⟨O, h1, h2, h3, h4, h5, h6, h7⟩ := h
 obtain ⟨a, b⟩ := FR.keepsO h2 h3 k h4
 exact ⟨O, h1.keeps k hg, a, b, h4, h5.keeps k hr, h6.keeps k hs, h7.trans (k.mono fun b _ h => .inr h)⟩
theorem DX.keeps {g r s : Nat} {q : Rat} {B : Nat} {w4 A C : World} (h : DX g r s q B w4 A) (k : Keeps (LoopBlocks w4 1) A C) (hr : ¬ LoopBlocks w4 1 r) (hs : ¬ LoopBlocks w4 1 s) : DX g r s q B w4 C := by
 obtain ⟨O, h1, h2, h3, h4, h6, h7⟩ := h
 obtain ⟨a, b⟩ := FR.keepsO h2 h3 k h4
 exact ⟨O, h1.keeps k hr, a, b, h4, h6.keeps k hs, h7.trans (k.mono fun b _ h => .inr h)⟩

set_option maxRecDepth 100000 in
set_option maxHeartbeats 2000000 in
theorem lDies (T : Tb) (R : Nat → Nat → Rat) (e y n : Int) (w : World) (hT : TQ w T R) (hok : okL T e y = true) (hn : 0 ≤ n) :
    Calls Tryz.prog 18 #[.agg #[.int .i64 T.first, .int .i64 T.sel, .slice T.P T.N T.C], .agg #[.int .i64 e, .int .i64 y], .int .i64 n] w (Gv (.fe (ldq T R e y n.toNat) 0) w) := by
 obtain ⟨n, rfl⟩ : ∃ m : Nat, n = (m : Int) := ⟨n.toNat, by omega⟩
 rw [Int.toNat_natCast]
 clear hn
 obtain ⟨h1, h2, h3, h4⟩ : T.first ≤ e ∧ e ≤ T.first + (T.N : Int) - 1 ∧ 0 ≤ y ∧ y ≤ 500 := by
  unfold okL at hok
  simp only [Bool.and_eq_true, decide_eq_true_eq] at hok
  exact ⟨hok.1.1.1.2, hok.1.1.2, hok.1.2, by omega⟩
 have rs := rs_rt hT h1 h2 h3
 have hA := yN_le hT h1 h3
 have Hok := Lib.hid hok
 clear hok
 refine (callsIn_wide (n := 2)).1 ?_
 refine callsIn_of_wp_marks Tryz.func18 rfl trivial ?_ rfl
 simp only [Tryz.ntmps18, List.size_toArray, List.length_cons, List.length_nil, Nat.reduceAdd, Nat.reduceSub, Array.replicate_succ, Array.replicate_zero, List.push_toArray, List.append_toArray, List.nil_append, List.cons_append]
 obtain ⟨w1, hw1⟩ : ∃ W, ((((w.alloc (.cells #[.int .i64 T.first, .int .i64 T.sel, .slice T.P T.N T.C] 24)).alloc (.cells #[.int .i64 e, .int .i64 y] 26)).alloc (.cells #[.int .i64 (n : Nat)] 3)).alloc (.cells #[.bool false, .slice none 0 0, .bool false, .slice none 0 0] 40)).alloc (.cells #[.int .i64 0] 41) = W := ⟨_, rfl⟩
 have e1 : Ext w w1 := by rw [← hw1]; exact eg (eg (eg (eg (ea _ _) (ea _ _)) (ea _ _)) (ea _ _)) (ea _ _)
 have A1 : Cells w1 w.heap.size 24 #[.int .i64 T.first, .int .i64 T.sel, .slice T.P T.N T.C] := by rw [← hw1]; exact ((((Cells.newAt _ _ rfl).alloc _).alloc _).alloc _).alloc _
 have AL : Cells w1 (w.heap.size + 1) 26 #[.int .i64 e, .int .i64 y] := by rw [← hw1]; exact (((Cells.newAt _ _ (by simp)).alloc _).alloc _).alloc _
 have A2 : Cells w1 (w.heap.size + 1 + 1) 3 #[.int .i64 (n : Nat)] := by rw [← hw1]; exact ((Cells.newAt _ _ (by simp)).alloc _).alloc _
 have A3 : Cells w1 (w.heap.size + 1 + 1 + 1) 40 #[.bool false, .slice none 0 0, .bool false, .slice none 0 0] := by rw [← hw1]; exact (Cells.newAt _ _ (by simp)).alloc _
 have AE : Cells w1 (w.heap.size + 1 + 1 + 1 + 1) 41 #[.int .i64 0] := by rw [← hw1]; exact Cells.newAt _ _ (by simp)
 have a0 := A1.cell (k := 0) rfl
 have a1 := A1.cell (k := 1) rfl
 have a2 := A1.cell (k := 2) rfl
 have a3 := AL.cell (k := 0) rfl
 have a4 := AL.cell (k := 1) rfl
 have l20 := A2.lt
 have l30 := A3.lt
 have lE0 := AE.lt
 gi_wp2_with fail
 clear hw1 a0 a1 a2 a3 a4
 refine Go_wide (lRight T e y w1 (hT.tw.ext e1) (okL_ey Hok.out) Hok.out) ?_
 intro ee w1b gg
 obtain ⟨rfl, e1b⟩ := Gv.v gg
 replace A1 := A1.ext e1b
 replace AL := AL.ext e1b
 replace A2 := A2.ext e1b
 replace A3 := A3.ext e1b
 replace AE := AE.ext e1b
 have n0 := A2.cell (k := 0) rfl
 have hnn : decide ((n : Int) < 0) = false := by simp
 gi_wp2_with fail
 clear n0
 refine Go_wide (fFromInt_1 w1b) ?_
 intro ee w2 gg
 obtain ⟨O, rfl, hO, oO, e2⟩ := Gv.f gg
 obtain ⟨w3, hw3⟩ : ∃ W, w2.alloc (.cells #[.bool O.N.b, .slice O.N.p O.N.n O.N.c, .bool O.D.b, .slice O.D.p O.D.n O.D.c] 40) = W := ⟨_, rfl⟩
 have e3 : Ext w2 w3 := by rw [← hw3]; exact ea _ _
 have A4 : Cells w3 w2.heap.size 40 #[.bool O.N.b, .slice O.N.p O.N.n O.N.c, .bool O.D.b, .slice O.D.p O.D.n O.D.c] := by rw [← hw3]; exact Cells.newAt _ _ rfl
 have l43 := A4.lt
 have e23 := eg e2 e3
 replace A1 := A1.ext e23
 replace AL := AL.ext e23
 replace A2 := A2.ext e23
 replace A3 := A3.ext e23
 replace AE := AE.ext e23
 replace hO := hO.ext e3
 replace oO := oO.ext e3
 have eW3 := eg (eg e1 e1b) e23
 have a0 := A1.cell (k := 0) rfl
 have a1 := A1.cell (k := 1) rfl
 have a2 := A1.cell (k := 2) rfl
 have a3 := AL.cell (k := 0) rfl
 have a4 := AL.cell (k := 1) rfl
 gi_wp2_with fail
 clear hw3 a0 a1 a2 a3 a4
 refine Go_wide (lyears T e y w3) ?_
 rintro ee w4 ⟨Bs, rfl, hBs, hBge, e4⟩
 replace A2 := A2.ext e4
 replace A3 := A3.ext e4
 replace AE := AE.ext e4
 replace A4 := A4.ext e4
 replace hO := hO.ext e4
 replace oO := oO.ext e4
 have eW4 := eg eW3 e4
 have l2 := A2.lt
 have l3 := A3.lt
 have lE := AE.lt
 have l4 := A4.lt
 have lBs := hBs.lt
 have s1 := e1.size
 have s1b := e1b.size
 have s2 := e2.size
 have hob := oO.bl
 have hLg : ¬ LoopBlocks w4 1 w2.heap.size := fun h => by have := h.1; omega
 have hLr : ¬ LoopBlocks w4 1 (w.heap.size + 1 + 1 + 1) := fun h => by have := h.1; omega
 have hLe : ¬ LoopBlocks w4 1 (w.heap.size + 1 + 1 + 1 + 1) := fun h => by have := h.1; omega
 gi_wp2_with fail
 refine wp_range (gf := 97) rfl (enters_of Tryz.func97 (by kernel_rfl) rfl)
  (years_gives T R e y w hT h1 h2 h3 h4 Bs (fun b => b = w2.heap.size ∨ b = w.heap.size + 1 + 1 + 1 ∨ b = w.heap.size + 1 + 1 + 1 + 1) w4 eW4 hBs (by omega) (fun b hb => by have := eW3.size; omega))
  (Below.refl _ _) (fun _ k vs W hV => by obtain ⟨Q, rfl, _⟩ := hV; rfl) (fun b hb h => by have h1 := h.1; omega)
  (fun k W => DI w2.heap.size (w.heap.size + 1 + 1 + 1) (w.heap.size + 1 + 1 + 1 + 1) (lal T R e y k) w.heap.size w4 W ∧ k ≤ n)
  (fun c W => c = .ret ∧ DX w2.heap.size (w.heap.size + 1 + 1 + 1) (w.heap.size + 1 + 1 + 1 + 1) (ldq T R e y n) w.heap.size w4 W)
  (fun k A C h hk => ⟨h.1.keeps hk hLg hLr hLe, h.2⟩)
  (fun c A C h hk => ⟨h.1, h.2.keeps hk hLr hLe⟩)
  ⟨⟨O, A4, hO, oO.mono (by omega), fun b hb h => by have := (hob b hb).2; have := h.1; omega, A3, AE, Keeps.refl _ _⟩, Nat.zero_le _⟩ (fun _ _ _ => trivial) ?round ?done ?stop
 case round =>
  rintro l k vs W ⟨⟨O, hC, hO, oO, hap, hR3, hE5, hk⟩, hkn⟩ hkN ⟨Q, rfl, hQ, oQ, hQs⟩ hWs K hK
  obtain ⟨V1, hV1⟩ : ∃ V, W.alloc (.cells #[.bool Q.N.b, .slice Q.N.p Q.N.n Q.N.c, .bool Q.D.b, .slice Q.D.p Q.D.n Q.D.c] 40) = V := ⟨_, rfl⟩
  have eV : Ext W V1 := by rw [← hV1]; exact ea _ _
  have CQ : Cells V1 W.heap.size 40 #[.bool Q.N.b, .slice Q.N.p Q.N.n Q.N.c, .bool Q.D.b, .slice Q.D.p Q.D.n Q.D.c] := by rw [← hV1]; exact Cells.newAt _ _ rfl
  have lC := hC.lt
  gi_wp2
  refine hK _ _ (Keeps.of_ext eV) ?_
  clear hK hV1
  intro W2 hk2 hs2
  have hs3 := Nat.le_of_eq hs2
  have hs4 := Nat.le_of_eq hs2.symm
  clear hs2
  have hQb : ∀ b ∈ Bl Q.val, ¬ LoopBlocks w4 1 b := fun b hb h => by have := (oQ.bl b hb).1; have := h.2; omega
  obtain ⟨hO2, oO2⟩ := FR.keepsO (hO.ext eV) (oO.ext eV) hk2 hap
  obtain ⟨hQ2, oQ2⟩ := FR.keepsO (hQ.ext eV) (oQ.ext eV) hk2 hQb
  have hC2 := (hC.ext eV).keeps hk2 hLg
  have CQ2 := CQ.keeps hk2 (fun h => by have := h.2; omega)
  have hR32 := (hR3.ext eV).keeps hk2 hLr
  have hE52 := (hE5.ext eV).keeps hk2 hLe
  have hkW : Keeps (fun b => (b = w2.heap.size ∨ b = w.heap.size + 1 + 1 + 1 ∨ b = w.heap.size + 1 + 1 + 1 + 1) ∨ LoopBlocks w4 1 b) w4 W2 := (hk.trans (Keeps.of_ext eV)).trans (hk2.mono fun b _ h => .inr h)
  have A22 := A2.keeps hkW (by rintro (h | h); omega; have := h.1; omega)
  have n0 := A22.cell (k := 0) rfl
  have c0 := hC2.cell (k := 0) rfl
  have c1 := hC2.cell (k := 1) rfl
  have c2 := hC2.cell (k := 2) rfl
  have c3 := hC2.cell (k := 3) rfl
  have f0 := hC2.frozen 0
  have f1 := hC2.frozen 1
  have f2 := hC2.frozen 2
  have f3 := hC2.frozen 3
  have q0 := CQ2.cell (k := 0) rfl
  have q1 := CQ2.cell (k := 1) rfl
  have q2 := CQ2.cell (k := 2) rfl
  have q3 := CQ2.cell (k := 3) rfl
  have lC2 := hC2.lt
  have lQ2 := CQ2.lt
  by_cases hkn2 : k = n
  ·subst hkn2
   have ht : ((k : Int) == (k : Int)) = true := by simp
   have HS1 := Lib.hid (al_sz rs hA k)
   have HS2 : Hid (Sz (ldq T R e y k)) := (dies_sm rs k).sz (Nat.pos_of_ne_zero (DD_ne _ _)) (by have := DD_siz rs (yN T e y); have : siz 1 ≤ 1 := siz_one.2 (by omega); omega)
   gi_wp2_with fail
   refine Go_round (ltimes O Q _ _ W2 hO2 hQ2 HS1.out hQs HS2.out) ?_
   intro ee W5 gg
   obtain ⟨Z19, rfl, hZ, oZ, e5⟩ := Gv.f gg
   have hR5 := hR32.ext e5
   have hE55 := hE52.ext e5
   have f0 := hR5.frozen 0
   have f1 := hR5.frozen 1
   have f2 := hR5.frozen 2
   have f3 := hR5.frozen 3
   have c0 := hR5.cell (k := 0) rfl
   have c1 := hR5.cell (k := 1) rfl
   have c2 := hR5.cell (k := 2) rfl
   have c3 := hR5.cell (k := 3) rfl
   obtain ⟨W6, hW6⟩ : ∃ V, ((((W5).setCell ⟨w.heap.size + 1 + 1 + 1, 0, none⟩ (.bool Z19.N.b)).setCell ⟨w.heap.size + 1 + 1 + 1, 1, none⟩ (.slice Z19.N.p Z19.N.n Z19.N.c)).setCell ⟨w.heap.size + 1 + 1 + 1, 2, none⟩ (.bool Z19.D.b)).setCell ⟨w.heap.size + 1 + 1 + 1, 3, none⟩ (.slice Z19.D.p Z19.D.n Z19.D.c) = V := ⟨_, rfl⟩
   have hC6 : Cells W6 (w.heap.size + 1 + 1 + 1) 40 #[.bool Z19.N.b, .slice Z19.N.p Z19.N.n Z19.N.c, .bool Z19.D.b, .slice Z19.D.p Z19.D.n Z19.D.c] := by rw [← hW6]; exact Cells.sets [.bool Z19.N.b, .slice Z19.N.p Z19.N.n Z19.N.c, .bool Z19.D.b, .slice Z19.D.p Z19.D.n Z19.D.c] hR5 0
   have hZ6 : FR W6 Z19 (ldq T R e y k) := by rw [← hW6]; exact FR.sets hZ hR5 (by simp [NoU]) 0 [.bool Z19.N.b, .slice Z19.N.p Z19.N.n Z19.N.c, .bool Z19.D.b, .slice Z19.D.p Z19.D.n Z19.D.c]
   have oZ6 : OF W2.heap.size W6 Z19 := by rw [← hW6]; exact OF.sets oZ hR5 (by decide) 0 [.bool Z19.N.b, .slice Z19.N.p Z19.N.n Z19.N.c, .bool Z19.D.b, .slice Z19.D.p Z19.D.n Z19.D.c]
   have hE6 : Cells W6 (w.heap.size + 1 + 1 + 1 + 1) 41 #[.int .i64 0] := by rw [← hW6]; exact Cells.off hE55 (b' := w.heap.size + 1 + 1 + 1) (by omega) 0 [.bool Z19.N.b, .slice Z19.N.p Z19.N.n Z19.N.c, .bool Z19.D.b, .slice Z19.D.p Z19.D.n Z19.D.c]
   have k6 : Keeps (fun b => b = w.heap.size + 1 + 1 + 1) W5 W6 := by rw [← hW6]; exact sets_keeps (w.heap.size + 1 + 1 + 1) [.bool Z19.N.b, .slice Z19.N.p Z19.N.n Z19.N.c, .bool Z19.D.b, .slice Z19.D.p Z19.D.n Z19.D.c] W5 0
   have x0 := hE6.cell (k := 0) rfl
   have x1 := hE6.frozen 0
   obtain ⟨W7, hW7⟩ : ∃ V, W6.setCell ⟨w.heap.size + 1 + 1 + 1 + 1, 0, none⟩ (.int .i64 0) = V := ⟨_, rfl⟩
   have k7 : Keeps (fun b => b = w.heap.size + 1 + 1 + 1 + 1) W6 W7 := by rw [← hW7]; exact (Keeps.refl _ _).setCell (M := fun b => b = w.heap.size + 1 + 1 + 1 + 1) (p := ⟨w.heap.size + 1 + 1 + 1 + 1, 0, none⟩) rfl _
   have hE7 : Cells W7 (w.heap.size + 1 + 1 + 1 + 1) 41 #[.int .i64 0] := by rw [← hW7]; exact Cells.setOne hE6 0 _
   have hC7 := hC6.keeps k7 (by omega)
   have hZ7 : FR W7 Z19 (ldq T R e y k) := by rw [← hW7]; exact FR.sets hZ6 hE6 (by simp [NoU]) 0 [.int .i64 0]
   have oZ7 : OF W2.heap.size W7 Z19 := by rw [← hW7]; exact OF.sets oZ6 hE6 (by decide) 0 [.int .i64 0]
   have k57 : Keeps (fun b => b = w2.heap.size ∨ b = w.heap.size + 1 + 1 + 1 ∨ b = w.heap.size + 1 + 1 + 1 + 1) W2 W7 := ((Keeps.of_ext e5).trans (k6.mono fun b _ h => .inr (.inl h))).trans (k7.mono fun b _ h => .inr (.inr h))
   gi_wp2_with fail
   clear hW6 hW7
   exact ⟨k57, rfl, Z19, hC7, hZ7, oZ7.mono (by have := eW4.size; have := hkW.size; omega), fun b hb h => by have := (oZ.bl b hb).1; have := h.2; have := eV.size; omega, hE7, hkW.trans (k57.mono fun b _ h => .inl h)⟩
  ·have ht : ((k : Int) == (n : Int)) = false := by simp; omega
   have hk1 : k + 1 ≤ n := by omega
   have hal : lal T R e y k * (1 - rt T R e (y + (k : Nat))) = lal T R e y (k + 1) := rfl
   have Hal := Lib.hid hal
   have HS1 := Lib.hid (al_sz rs hA k)
   have HS2 := Lib.hid (al_sz rs hA (k + 1))
   have HS3 : Hid (Sz (1 - rt T R e (y + (k : Nat)))) := not_sz (rs.sm k) (by have := (rt T R e (y + (k : Nat))).den_nz; omega) (by have : siz (rt T R e (y + (k : Nat))).den ≤ 1 := siz_one.2 (rs.den k); omega)
   clear hal hkn2
   gi_wp2_with fail
   refine regionInT 4 (fun i => match i with | 2 => some (.f (1 - rt T R e (y + (k : Nat)))) | 3 => some (.f (lal T R e y (k + 1))) | _ => none) (.inr ⟨_, rfl⟩) (by kernel_rfl) (by kernel_rfl) (by kernel_rfl) ?_
   iterate 2
    refine Walk.one (x := ?_) rfl rfl (fun w1 hI hL K hK => ?_) ?_
    rotate_left
    ·obtain ⟨hc, hf⟩ := bcell hI
     go_simp
     repeat (first | (go_ints; try go_simp) | (simp only [↓IntWalk.iteOmega]; try go_simp))
     exact hK
    simp only [Pq1]
   refine Walk.tell rfl rfl (fun w1 hI hL K hK => ?_) ?_
   ·go_simp
    exact (lnot Q _ w1 (hQ2.ext hI) hQs HS3.out).mono (tell hK)
   rintro _ ⟨Z18, rfl⟩
   simp only [Pq1]
   refine Walk.tell rfl rfl (fun w1 hI hL K hK => ?_) ?_
   ·have z := (Tl.getF (kn (i := 2) (v := .agg #[.bool Z18.N.b, .slice Z18.N.p Z18.N.n Z18.N.c, .bool Z18.D.b, .slice Z18.D.p Z18.D.n Z18.D.c]) rfl (by simp) (by kernel_rfl) hL)).1
    clear hL
    go_simp
    rw [← Hal.out] at hK
    exact (ltimes O Z18 _ _ w1 (hO2.ext hI) z HS1.out HS3.out (by have := HS2.out; rwa [show al _ (k + 1) = _ from Hal.out.symm] at this)).mono (tell hK)
   rintro _ ⟨Z19, rfl⟩
   simp only [Pq1]
   refine Walk.nilF fun W5 e5 kzL kzX => ?_
   obtain ⟨hZ, oZ⟩ := Tl.getF (kz (i := 3) (v := .agg #[.bool Z19.N.b, .slice Z19.N.p Z19.N.n Z19.N.c, .bool Z19.D.b, .slice Z19.D.p Z19.D.n Z19.D.c]) rfl (by simp) kzL)
   clear kzL kzX
   have hC5 := hC2.ext e5
   have f0 := hC5.frozen 0
   have f1 := hC5.frozen 1
   have f2 := hC5.frozen 2
   have f3 := hC5.frozen 3
   have c0 := hC5.cell (k := 0) rfl
   have c1 := hC5.cell (k := 1) rfl
   have c2 := hC5.cell (k := 2) rfl
   have c3 := hC5.cell (k := 3) rfl
   simp only [List.drop_succ_cons, List.drop_zero]
   obtain ⟨W6, hW6⟩ : ∃ V, (((W5.setCell ⟨w2.heap.size, 0, none⟩ (.bool Z19.N.b)).setCell ⟨w2.heap.size, 1, none⟩ (.slice Z19.N.p Z19.N.n Z19.N.c)).setCell ⟨w2.heap.size, 2, none⟩ (.bool Z19.D.b)).setCell ⟨w2.heap.size, 3, none⟩ (.slice Z19.D.p Z19.D.n Z19.D.c) = V := ⟨_, rfl⟩
   have hC6 : Cells W6 w2.heap.size 40 #[.bool Z19.N.b, .slice Z19.N.p Z19.N.n Z19.N.c, .bool Z19.D.b, .slice Z19.D.p Z19.D.n Z19.D.c] := by rw [← hW6]; exact Cells.sets [.bool Z19.N.b, .slice Z19.N.p Z19.N.n Z19.N.c, .bool Z19.D.b, .slice Z19.D.p Z19.D.n Z19.D.c] hC5 0
   have hZ6 : FR W6 Z19 (lal T R e y (k + 1)) := by rw [← hW6]; exact FR.sets hZ hC5 (by simp [NoU]) 0 [.bool Z19.N.b, .slice Z19.N.p Z19.N.n Z19.N.c, .bool Z19.D.b, .slice Z19.D.p Z19.D.n Z19.D.c]
   have oZ6 : OF W2.heap.size W6 Z19 := by rw [← hW6]; exact OF.sets oZ hC5 (by decide) 0 [.bool Z19.N.b, .slice Z19.N.p Z19.N.n Z19.N.c, .bool Z19.D.b, .slice Z19.D.p Z19.D.n Z19.D.c]
   have k6 : Keeps (fun b => b = w2.heap.size) W5 W6 := by rw [← hW6]; exact sets_keeps w2.heap.size [.bool Z19.N.b, .slice Z19.N.p Z19.N.n Z19.N.c, .bool Z19.D.b, .slice Z19.D.p Z19.D.n Z19.D.c] W5 0
   gi_wp2_with fail
   clear hW6
   exact ⟨(Keeps.of_ext e5).trans (k6.mono fun b _ h => .inl h), ⟨Z19, hC6, hZ6, oZ6.mono (by have := eW4.size; have := hkW.size; omega), fun b hb h => by have := (oZ.bl b hb).1; have := h.2; have := eV.size; omega, (hR32.ext e5).keeps k6 (by omega), (hE52.ext e5).keeps k6 (by omega), (hkW.trans (Keeps.of_ext e5)).trans (k6.mono fun b _ h => .inl (.inl h))⟩, hk1⟩
 case done =>
  rintro W ⟨hOI, hkn⟩ hD
  have hq : lal T R e y (yN T e y + 1) = ldq T R e y n := by
   show al _ _ = al _ _ * _
   rw [al_end rs _ (by omega), al_end rs _ (by omega), Rat.zero_mul]
  obtain ⟨O5, hC5, hO5, oO5, hap5, hR5, hE5, hK5⟩ := hOI
  rw [hq] at hO5
  have c0 := hC5.cell (k := 0) rfl
  have c1 := hC5.cell (k := 1) rfl
  have c2 := hC5.cell (k := 2) rfl
  have c3 := hC5.cell (k := 3) rfl
  have f0 := hR5.frozen 0
  have f1 := hR5.frozen 1
  have f2 := hR5.frozen 2
  have f3 := hR5.frozen 3
  have b0 := hR5.cell (k := 0) rfl
  have b1 := hR5.cell (k := 1) rfl
  have b2 := hR5.cell (k := 2) rfl
  have b3 := hR5.cell (k := 3) rfl
  obtain ⟨W6, hW6⟩ : ∃ V, ((((W).setCell ⟨w.heap.size + 1 + 1 + 1, 0, none⟩ (.bool O5.N.b)).setCell ⟨w.heap.size + 1 + 1 + 1, 1, none⟩ (.slice O5.N.p O5.N.n O5.N.c)).setCell ⟨w.heap.size + 1 + 1 + 1, 2, none⟩ (.bool O5.D.b)).setCell ⟨w.heap.size + 1 + 1 + 1, 3, none⟩ (.slice O5.D.p O5.D.n O5.D.c) = V := ⟨_, rfl⟩
  have C6 : Cells W6 (w.heap.size + 1 + 1 + 1) 40 #[.bool O5.N.b, .slice O5.N.p O5.N.n O5.N.c, .bool O5.D.b, .slice O5.D.p O5.D.n O5.D.c] := by rw [← hW6]; exact Cells.sets [.bool O5.N.b, .slice O5.N.p O5.N.n O5.N.c, .bool O5.D.b, .slice O5.D.p O5.D.n O5.D.c] hR5 0
  have hO6 : FR W6 O5 (ldq T R e y n) := by rw [← hW6]; exact FR.sets hO5 hR5 (by simp [NoU]) 0 [.bool O5.N.b, .slice O5.N.p O5.N.n O5.N.c, .bool O5.D.b, .slice O5.D.p O5.D.n O5.D.c]
  have oO6 : OF w.heap.size W6 O5 := by rw [← hW6]; exact OF.sets oO5 hR5 (by decide) 0 [.bool O5.N.b, .slice O5.N.p O5.N.n O5.N.c, .bool O5.D.b, .slice O5.D.p O5.D.n O5.D.c]
  have E6 : Cells W6 (w.heap.size + 1 + 1 + 1 + 1) 41 #[.int .i64 0] := by rw [← hW6]; exact Cells.off hE5 (b' := w.heap.size + 1 + 1 + 1) (by omega) 0 [.bool O5.N.b, .slice O5.N.p O5.N.n O5.N.c, .bool O5.D.b, .slice O5.D.p O5.D.n O5.D.c]
  have k6 : Keeps (fun b => b = w.heap.size + 1 + 1 + 1) W W6 := by rw [← hW6]; exact sets_keeps _ [.bool O5.N.b, .slice O5.N.p O5.N.n O5.N.c, .bool O5.D.b, .slice O5.D.p O5.D.n O5.D.c] W 0
  have x0 := E6.cell (k := 0) rfl
  have x1 := E6.frozen 0
  obtain ⟨W7, hW7⟩ : ∃ V, W6.setCell ⟨w.heap.size + 1 + 1 + 1 + 1, 0, none⟩ (.int .i64 0) = V := ⟨_, rfl⟩
  have k7 : Keeps (fun b => b = w.heap.size + 1 + 1 + 1 + 1) W6 W7 := by rw [← hW7]; exact (Keeps.refl _ _).setCell (M := fun b => b = w.heap.size + 1 + 1 + 1 + 1) (p := ⟨w.heap.size + 1 + 1 + 1 + 1, 0, none⟩) rfl _
  have E7 : Cells W7 (w.heap.size + 1 + 1 + 1 + 1) 41 #[.int .i64 0] := by rw [← hW7]; exact Cells.setOne E6 0 _
  have C7 := C6.keeps k7 (by omega)
  have hO7 : FR W7 O5 (ldq T R e y n) := by rw [← hW7]; exact FR.sets hO6 E6 (by simp [NoU]) 0 [.int .i64 0]
  have oO7 : OF w.heap.size W7 O5 := by rw [← hW7]; exact OF.sets oO6 E6 (by decide) 0 [.int .i64 0]
  have hK7 : Keeps (fun b => (b = w2.heap.size ∨ b = w.heap.size + 1 + 1 + 1 ∨ b = w.heap.size + 1 + 1 + 1 + 1) ∨ LoopBlocks w4 1 b) w4 W7 := (hK5.trans (k6.mono fun b _ h => .inl (.inr (.inl h)))).trans (k7.mono fun b _ h => .inl (.inr (.inr h)))
  have hD7 : W7.heap[w4.heap.size]? = some (.deferred (some [])) := k7.heap (k6.heap hD (by omega)) (by omega)
  have kk : Keeps (fun b => b = w4.heap.size) W7 (W7.putObj w4.heap.size (.deferred none)) := Keeps.mark (M := fun b => b = w4.heap.size) (Keeps.refl _ _) rfl
  obtain ⟨hO8, oO8⟩ := FR.keepsO hO7 oO7 kk (fun b hb h => hap5 b hb ⟨by omega, by omega⟩)
  have C8 := C7.keeps kk (by omega)
  have E8 := E7.keeps kk (by omega)
  have s4 := eW4.size
  gi_wp2_with fail
  clear hW6 hW7
  have d0 := C8.cell (k := 0) rfl
  have d1 := C8.cell (k := 1) rfl
  have d2 := C8.cell (k := 2) rfl
  have d3 := C8.cell (k := 3) rfl
  have d4 := E8.cell (k := 0) rfl
  refine leave_marked (v := .tuple #[.agg #[.bool O5.N.b, .slice O5.N.p O5.N.n O5.N.c, .bool O5.D.b, .slice O5.D.p O5.D.n O5.D.c], .int .i64 0]) hD7 (by simp [results, Tryz.results18, go_sem, d0, d1, d2, d3, d4]) (Gv.of_fe (X := O5) hO8 oO8 ?_)
  exact Keeps.go (M := fun b => w.heap.size ≤ b) eW4 ((hK7.mono (by rintro b _ (h | h); omega; have := h.1; omega)).trans (kk.mono fun b _ h => by omega)) (fun _ h => h)
 case stop =>
  rintro c W7 ⟨rfl, hOI⟩ hD7
  obtain ⟨O5, C7, hO7, oO7, hap5, E7, hK7⟩ := hOI
  have kk : Keeps (fun b => b = w4.heap.size) W7 (W7.putObj w4.heap.size (.deferred none)) := Keeps.mark (M := fun b => b = w4.heap.size) (Keeps.refl _ _) rfl
  obtain ⟨hO8, oO8⟩ := FR.keepsO hO7 oO7 kk (fun b hb h => hap5 b hb ⟨by omega, by omega⟩)
  have C8 := C7.keeps kk (by omega)
  have E8 := E7.keeps kk (by omega)
  have s4 := eW4.size
  gi_wp2_with fail
  skip
  have d0 := C8.cell (k := 0) rfl
  have d1 := C8.cell (k := 1) rfl
  have d2 := C8.cell (k := 2) rfl
  have d3 := C8.cell (k := 3) rfl
  have d4 := E8.cell (k := 0) rfl
  refine leave_marked (v := .tuple #[.agg #[.bool O5.N.b, .slice O5.N.p O5.N.n O5.N.c, .bool O5.D.b, .slice O5.D.p O5.D.n O5.D.c], .int .i64 0]) hD7 (by simp [results, Tryz.results18, go_sem, d0, d1, d2, d3, d4]) (Gv.of_fe (X := O5) hO8 oO8 ?_)
  exact Keeps.go (M := fun b => w.heap.size ≤ b) eW4 ((hK7.mono (by rintro b _ (h | h); omega; have := h.1; omega)).trans (kk.mono fun b _ h => by omega)) (fun _ h => h)
end Go.Proofs.YtndgaecfeaedeaaGreat
