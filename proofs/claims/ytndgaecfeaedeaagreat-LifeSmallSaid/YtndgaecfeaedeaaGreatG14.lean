/- Walks of package frac: Add, Sub, Mul, Cmp. Walks of the document's answer on fractions: Same, one. Walks of the document's answer on fractions: Lowest, Quick. -/
import Derived.Test.YtndgaecfeaedeaaGreatG13
set_option linter.unusedSimpArgs false
set_option linter.unusedVariables false
namespace Go.Proofs.YtndgaecfeaedeaaGreat
open Go.RowKit Lex Mth
attribute [local go_sem] run_indexAt_at add_zero_map Oper.semAt_some at_zero

theorem nle {w : World} {X : Fr} {q : Rat} (h : FR w X q) (s : Sz q) : X.N.n ≤ 256 := by rw [h.1.n]; exact s.1
theorem dle {w : World} {X : Fr} {q : Rat} (h : FR w X q) (s : Sz q) : X.D.n ≤ 256 := by
 rw [h.2.n, Int.natAbs_natCast]; exact s.2
theorem sp5 {a b : Int} (ha : siz a.natAbs ≤ 256) (hb : siz b.natAbs ≤ 256) : siz a.natAbs + siz b.natAbs ≤ 1024 := by omega
theorem sp6 {a b : Int} (ha : siz a.natAbs ≤ 256) (hb : siz b.natAbs ≤ 256) : siz (a * b).natAbs ≤ 1024 := by have := siz_imul a b; omega
/-- How two fractions compare. -/
def cmpQ (x y : Rat) : Int := cmpZ (x.num * y.den) (y.num * x.den)
theorem neg_sz {q : Rat} (h : Sz q) : Sz (-q) := ⟨by show siz (-q.num).natAbs ≤ 256; rw [Int.natAbs_neg]; exact h.1, h.2⟩
theorem add_neg' (x y : Rat) : x + -y = x - y := (Rat.sub_eq_add_neg x y).symm

set_option maxRecDepth 100000 in
theorem fAdd (X : Fr) (Y : Fr) (x : Rat) (y : Rat) (w : World) (hX : FR w X x) (hY : FR w Y y) (bx : Sz x) (by_ : Sz y) (bz : Sz (x + y)) :
    Calls Tryz.prog 71 #[.agg #[.bool X.N.b, .slice X.N.p X.N.n X.N.c, .bool X.D.b, .slice X.D.p X.D.n X.D.c], .agg #[.bool Y.N.b, .slice Y.N.p Y.N.n Y.N.c, .bool Y.D.b, .slice Y.D.p Y.D.n Y.D.c]] w (Gv (.fe (x + y) 0) w) := by
 obtain ⟨w1, hww1, ew1, B1, zw1⟩ := alloc_at w (w.heap.size) (by omega) #[.bool X.N.b, .slice X.N.p X.N.n X.N.c, .bool X.D.b, .slice X.D.p X.D.n X.D.c] 40
 obtain ⟨w2, hww2, ew2, B2, zw2⟩ := alloc_at w1 (w.heap.size + 1) (by omega) #[.bool Y.N.b, .slice Y.N.p Y.N.n Y.N.c, .bool Y.D.b, .slice Y.D.p Y.D.n Y.D.c] 40
 obtain ⟨w3, hww3, ew3, B3, zw3⟩ := alloc_at w2 (w.heap.size + 1 + 1) (by omega) #[.bool false, .slice none 0 0, .bool false, .slice none 0 0] 40
 have xw1_w3 := eg ew2 ew3
 replace B1 := B1.ext xw1_w3
 have b1_w3 := B1.c4
 replace B2 := B2.ext ew3
 have b2_w3 := B2.c4
 obtain ⟨w4, hww4, ew4, B4, zw4⟩ := alloc_at w3 (w.heap.size + 1 + 1 + 1) (by omega) #[.bool X.N.b, .slice X.N.p X.N.n X.N.c, .bool X.D.b, .slice X.D.p X.D.n X.D.c, .bool Y.N.b, .slice Y.N.p Y.N.n Y.N.c, .bool Y.D.b, .slice Y.D.p Y.D.n Y.D.c] 40
 have xw_w4 := eg (eg (eg ew1 ew2) ew3) ew4
 replace hX := hX.ext xw_w4
 replace hY := hY.ext xw_w4
 go_enter Tryz.func71, Tryz.ntmps71
 go_wp2_with fail
 clear hww1 hww2 hww3 hww4
 clear b1_w3 b2_w3
 replace zw1 := le2 zw1
 replace zw2 := le2 zw2
 replace zw3 := le2 zw3
 replace zw4 := le2 zw4
 refine (fvalid2 _ X Y _ _ _ B4 hX hY bx by_).mono (Gv.onV fun w5 ew5 zw5 => ?_)
 have xw3_w5 := eg ew4 ew5
 replace B1 := B1.ext xw3_w5
 have b1_w5 := B1.c4
 replace B2 := B2.ext xw3_w5
 have b2_w5 := B2.c4
 replace hX := hX.ext ew5
 replace hY := hY.ext ew5
 have xw_w5 := eg xw_w4 ew5
 go_wp2_with fail
 refine (fplus X Y _ _ _ (hX) (hY) (bx) (by_)).mono (Gv.onFo fun Z16 w6 hZ16 oZ16 ew6 zw6 => ?_)
 have xw_w6 := eg xw_w5 ew6
 replace oZ16 := oZ16.mono xw_w5.size
 go_wp2_with fail
 clear b1_w5 b2_w5
 refine (told_t Z16 _ (nle (hZ16) bz) (dle (hZ16) bz)).mono (Gv.onV fun w7 ew7 zw7 => ?_)
 have xw3_w7 := eg (eg xw3_w5 ew6) ew7
 replace B3 := B3.ext xw3_w7
 have b3_w7 := B3.c4
 have fb3_w7 := B3.f4
 replace hZ16 := hZ16.ext ew7
 replace oZ16 := oZ16.ext ew7
 have xw_w7 := eg xw_w6 ew7
 obtain ⟨w8, hww8, kw8, Nw8, zw8⟩ := B3.put4 (.bool Z16.N.b) (.slice Z16.N.p Z16.N.n Z16.N.c) (.bool Z16.D.b) (.slice Z16.D.p Z16.D.n Z16.D.c)
 have nuw8 : NoU #[.bool false, .slice none 0 0, .bool false, .slice none 0 0] := by simp [NoU]
 replace hZ16 := FR.kb hZ16 B3 nuw8 kw8
 replace oZ16 := OF.kb oZ16 B3 (by decide) kw8
 have xw_w8 := Ext.kb xw_w7 kw8 (by omega)
 replace B3 := Nw8
 clear Nw8 kw8
 have b3_w8 := B3.c4
 go_wp2_with fail
 clear hww8
 clear b3_w7 fb3_w7
 replace zw8 := le2 zw8
 refine bodyPost_ret (v := .tuple #[.agg #[.bool Z16.N.b, .slice Z16.N.p Z16.N.n Z16.N.c, .bool Z16.D.b, .slice Z16.D.p Z16.D.n Z16.D.c], .int .i64 0]) (by simp [results, Tryz.results71, go_sem, b3_w8]) rfl ?_
 exact Gv.of_fe (X := Z16) (hZ16) (oZ16) xw_w8

set_option maxRecDepth 100000 in
theorem fMul (X : Fr) (Y : Fr) (x : Rat) (y : Rat) (w : World) (hX : FR w X x) (hY : FR w Y y) (bx : Sz x) (by_ : Sz y) (bz : Sz (x * y)) :
    Calls Tryz.prog 73 #[.agg #[.bool X.N.b, .slice X.N.p X.N.n X.N.c, .bool X.D.b, .slice X.D.p X.D.n X.D.c], .agg #[.bool Y.N.b, .slice Y.N.p Y.N.n Y.N.c, .bool Y.D.b, .slice Y.D.p Y.D.n Y.D.c]] w (Gv (.fe (x * y) 0) w) := by
 obtain ⟨w1, hww1, ew1, B1, zw1⟩ := alloc_at w (w.heap.size) (by omega) #[.bool X.N.b, .slice X.N.p X.N.n X.N.c, .bool X.D.b, .slice X.D.p X.D.n X.D.c] 40
 obtain ⟨w2, hww2, ew2, B2, zw2⟩ := alloc_at w1 (w.heap.size + 1) (by omega) #[.bool Y.N.b, .slice Y.N.p Y.N.n Y.N.c, .bool Y.D.b, .slice Y.D.p Y.D.n Y.D.c] 40
 obtain ⟨w3, hww3, ew3, B3, zw3⟩ := alloc_at w2 (w.heap.size + 1 + 1) (by omega) #[.bool false, .slice none 0 0, .bool false, .slice none 0 0] 40
 have xw1_w3 := eg ew2 ew3
 replace B1 := B1.ext xw1_w3
 have b1_w3 := B1.c4
 replace B2 := B2.ext ew3
 have b2_w3 := B2.c4
 obtain ⟨w4, hww4, ew4, B4, zw4⟩ := alloc_at w3 (w.heap.size + 1 + 1 + 1) (by omega) #[.bool X.N.b, .slice X.N.p X.N.n X.N.c, .bool X.D.b, .slice X.D.p X.D.n X.D.c, .bool Y.N.b, .slice Y.N.p Y.N.n Y.N.c, .bool Y.D.b, .slice Y.D.p Y.D.n Y.D.c] 40
 have xw_w4 := eg (eg (eg ew1 ew2) ew3) ew4
 replace hX := hX.ext xw_w4
 replace hY := hY.ext xw_w4
 go_enter Tryz.func73, Tryz.ntmps73
 go_wp2_with fail
 clear hww1 hww2 hww3 hww4
 clear b1_w3 b2_w3
 replace zw1 := le2 zw1
 replace zw2 := le2 zw2
 replace zw3 := le2 zw3
 replace zw4 := le2 zw4
 refine (fvalid2 _ X Y _ _ _ B4 hX hY bx by_).mono (Gv.onV fun w5 ew5 zw5 => ?_)
 have xw3_w5 := eg ew4 ew5
 replace B1 := B1.ext xw3_w5
 have b1_w5 := B1.c4
 replace B2 := B2.ext xw3_w5
 have b2_w5 := B2.c4
 replace hX := hX.ext ew5
 replace hY := hY.ext ew5
 have xw_w5 := eg xw_w4 ew5
 go_wp2_with fail
 refine (ftimes X Y _ _ _ (hX) (hY) (bx) (by_)).mono (Gv.onFo fun Z16 w6 hZ16 oZ16 ew6 zw6 => ?_)
 have xw_w6 := eg xw_w5 ew6
 replace oZ16 := oZ16.mono xw_w5.size
 go_wp2_with fail
 clear b1_w5 b2_w5
 refine (told_t Z16 _ (nle (hZ16) bz) (dle (hZ16) bz)).mono (Gv.onV fun w7 ew7 zw7 => ?_)
 have xw3_w7 := eg (eg xw3_w5 ew6) ew7
 replace B3 := B3.ext xw3_w7
 have b3_w7 := B3.c4
 have fb3_w7 := B3.f4
 replace hZ16 := hZ16.ext ew7
 replace oZ16 := oZ16.ext ew7
 have xw_w7 := eg xw_w6 ew7
 obtain ⟨w8, hww8, kw8, Nw8, zw8⟩ := B3.put4 (.bool Z16.N.b) (.slice Z16.N.p Z16.N.n Z16.N.c) (.bool Z16.D.b) (.slice Z16.D.p Z16.D.n Z16.D.c)
 have nuw8 : NoU #[.bool false, .slice none 0 0, .bool false, .slice none 0 0] := by simp [NoU]
 replace hZ16 := FR.kb hZ16 B3 nuw8 kw8
 replace oZ16 := OF.kb oZ16 B3 (by decide) kw8
 have xw_w8 := Ext.kb xw_w7 kw8 (by omega)
 replace B3 := Nw8
 clear Nw8 kw8
 have b3_w8 := B3.c4
 go_wp2_with fail
 clear hww8
 clear b3_w7 fb3_w7
 replace zw8 := le2 zw8
 refine bodyPost_ret (v := .tuple #[.agg #[.bool Z16.N.b, .slice Z16.N.p Z16.N.n Z16.N.c, .bool Z16.D.b, .slice Z16.D.p Z16.D.n Z16.D.c], .int .i64 0]) (by simp [results, Tryz.results73, go_sem, b3_w8]) rfl ?_
 exact Gv.of_fe (X := Z16) (hZ16) (oZ16) xw_w8

set_option maxRecDepth 100000 in
theorem fSub (X : Fr) (Y : Fr) (x : Rat) (y : Rat) (w : World) (hX : FR w X x) (hY : FR w Y y) (bx : Sz x) (by_ : Sz y) (bz : Sz (x + -y)) :
    Calls Tryz.prog 72 #[.agg #[.bool X.N.b, .slice X.N.p X.N.n X.N.c, .bool X.D.b, .slice X.D.p X.D.n X.D.c], .agg #[.bool Y.N.b, .slice Y.N.p Y.N.n Y.N.c, .bool Y.D.b, .slice Y.D.p Y.D.n Y.D.c]] w (Gv (.fe (x + -y) 0) w) := by
 obtain ⟨w1, hww1, ew1, B1, zw1⟩ := alloc_at w (w.heap.size) (by omega) #[.bool X.N.b, .slice X.N.p X.N.n X.N.c, .bool X.D.b, .slice X.D.p X.D.n X.D.c] 40
 obtain ⟨w2, hww2, ew2, B2, zw2⟩ := alloc_at w1 (w.heap.size + 1) (by omega) #[.bool Y.N.b, .slice Y.N.p Y.N.n Y.N.c, .bool Y.D.b, .slice Y.D.p Y.D.n Y.D.c] 40
 obtain ⟨w3, hww3, ew3, B3, zw3⟩ := alloc_at w2 (w.heap.size + 1 + 1) (by omega) #[.bool false, .slice none 0 0, .bool false, .slice none 0 0] 40
 have xw1_w3 := eg ew2 ew3
 replace B1 := B1.ext xw1_w3
 have b1_w3 := B1.c4
 replace B2 := B2.ext ew3
 have b2_w3 := B2.c4
 obtain ⟨w4, hww4, ew4, B4, zw4⟩ := alloc_at w3 (w.heap.size + 1 + 1 + 1) (by omega) #[.bool X.N.b, .slice X.N.p X.N.n X.N.c, .bool X.D.b, .slice X.D.p X.D.n X.D.c, .bool Y.N.b, .slice Y.N.p Y.N.n Y.N.c, .bool Y.D.b, .slice Y.D.p Y.D.n Y.D.c] 40
 have xw_w4 := eg (eg (eg ew1 ew2) ew3) ew4
 replace hX := hX.ext xw_w4
 replace hY := hY.ext xw_w4
 go_enter Tryz.func72, Tryz.ntmps72
 go_wp2_with fail
 clear hww1 hww2 hww3 hww4
 clear b1_w3 b2_w3
 replace zw1 := le2 zw1
 replace zw2 := le2 zw2
 replace zw3 := le2 zw3
 replace zw4 := le2 zw4
 refine (fvalid2 _ X Y _ _ _ B4 hX hY bx by_).mono (Gv.onV fun w5 ew5 zw5 => ?_)
 have xw3_w5 := eg ew4 ew5
 replace B1 := B1.ext xw3_w5
 have b1_w5 := B1.c4
 replace B2 := B2.ext xw3_w5
 have b2_w5 := B2.c4
 replace hY := hY.ext ew5
 replace hX := hX.ext ew5
 have xw_w5 := eg xw_w4 ew5
 go_wp2_with fail
 refine regionT 13 (fun kk => match kk with | 4 => some (.w (-(y).num)) | 9 => some (.f (x + -y)) | 10 => some (.fe0 (x + -y) 0) | _ => none) (by as_aux_lemma => kernel_rfl) (head_of (by as_aux_lemma => kernel_rfl)) ?_
 iterate 4
  refine Walk.one (x := ?_) rfl rfl (fun w1 hI hL K hK => ?_) ?_
  rotate_left
  ·obtain ⟨hc, hf⟩ := bcell hI
   go_simp
   repeat (first | (go_ints; try go_simp) | (simp only [↓IntWalk.iteOmega]; try go_simp))
   exact hK
  simp only [Pq1]
 refine Walk.tell rfl rfl (fun w1 hI hL K hK => ?_) ?_
 ·go_simp
  exact (fneg Y.N _ w1 ((hY.1).ext hI)).mono (tell hK)
 rintro _ ⟨Z16, rfl⟩
 simp only [Pq1]
 iterate 4
  refine Walk.one (x := ?_) rfl rfl (fun w1 hI hL K hK => ?_) ?_
  rotate_left
  ·obtain ⟨hc, hf⟩ := bcell hI
   go_simp
   repeat (first | (go_ints; try go_simp) | (simp only [↓IntWalk.iteOmega]; try go_simp))
   exact hK
  simp only [Pq1]
 refine Walk.tell rfl rfl (fun w1 hI hL K hK => ?_) ?_
 ·go_simp
  exact (fplus X ⟨Z16, Y.D⟩ _ _ w1 ((hX).ext hI) (mkFR (q := -y) ((Tl.getW (kn (i := 4) (v := .agg #[.bool Z16.b, .slice Z16.p Z16.n Z16.c]) rfl (by simp) (pred_of (by as_aux_lemma => kernel_rfl)) hL)).1) ((hY.2).ext hI)) (bx) (neg_sz by_)).mono (tell hK)
 rintro _ ⟨Z21, rfl⟩
 simp only [Pq1]
 refine Walk.tell0 rfl rfl rfl (fun w1 hI hL K hK => ?_) ?_
 ·go_simp
  exact (told_t Z21 w1 (nle ((Tl.getF (kn (i := 9) (v := .agg #[.bool Z21.N.b, .slice Z21.N.p Z21.N.n Z21.N.c, .bool Z21.D.b, .slice Z21.D.p Z21.D.n Z21.D.c]) rfl (by simp) (pred_of (by as_aux_lemma => kernel_rfl)) hL)).1) bz) (dle ((Tl.getF (kn (i := 9) (v := .agg #[.bool Z21.N.b, .slice Z21.N.p Z21.N.n Z21.N.c, .bool Z21.D.b, .slice Z21.D.p Z21.D.n Z21.D.c]) rfl (by simp) (pred_of (by as_aux_lemma => kernel_rfl)) hL)).1) bz)).mono (tellTold hK (Tl.getF (kn (i := 9) (v := .agg #[.bool Z21.N.b, .slice Z21.N.p Z21.N.n Z21.N.c, .bool Z21.D.b, .slice Z21.D.p Z21.D.n Z21.D.c]) rfl (by simp) (pred_of (by as_aux_lemma => kernel_rfl)) hL)).1 (Tl.getF (kn (i := 9) (v := .agg #[.bool Z21.N.b, .slice Z21.N.p Z21.N.n Z21.N.c, .bool Z21.D.b, .slice Z21.D.p Z21.D.n Z21.D.c]) rfl (by simp) (pred_of (by as_aux_lemma => kernel_rfl)) hL)).2)
 rintro _ ⟨Z22, rfl⟩
 simp only [Pq1]
 iterate 2
  refine Walk.one (x := ?_) rfl rfl (fun w1 hI hL K hK => ?_) ?_
  rotate_left
  ·obtain ⟨hc, hf⟩ := bcell hI
   go_simp
   repeat (first | (go_ints; try go_simp) | (simp only [↓IntWalk.iteOmega]; try go_simp))
   exact hK
  simp only [Pq1]
 refine Walk.nilF fun w6 ew6 kzL kzX => ?_
 have zw6 := ew6.size
 obtain ⟨hZ22, oZ22⟩ := Tl.getFe0 (kz (i := 10) (v := .tuple #[.agg #[.bool Z22.N.b, .slice Z22.N.p Z22.N.n Z22.N.c, .bool Z22.D.b, .slice Z22.D.p Z22.D.n Z22.D.c], .int .i64 0]) rfl (by simp) kzL)
 replace oZ22 := oZ22.mono xw_w5.size
 clear kzL kzX
 simp only [List.drop_succ_cons, List.drop_zero, List.drop_nil]
 have xw3_w6 := eg xw3_w5 ew6
 replace B3 := B3.ext xw3_w6
 have b3_w6 := B3.c4
 have fb3_w6 := B3.f4
 have xw_w6 := eg xw_w5 ew6
 obtain ⟨w7, hww7, kw7, Nw7, zw7⟩ := B3.put4 (.bool Z22.N.b) (.slice Z22.N.p Z22.N.n Z22.N.c) (.bool Z22.D.b) (.slice Z22.D.p Z22.D.n Z22.D.c)
 have nuw7 : NoU #[.bool false, .slice none 0 0, .bool false, .slice none 0 0] := by simp [NoU]
 replace hZ22 := FR.kb hZ22 B3 nuw7 kw7
 replace oZ22 := OF.kb oZ22 B3 (by decide) kw7
 have xw_w7 := Ext.kb xw_w6 kw7 (by omega)
 replace B3 := Nw7
 clear Nw7 kw7
 have b3_w7 := B3.c4
 go_wp2_with fail
 clear hww7
 clear b1_w5 b2_w5 b3_w6 fb3_w6
 replace zw7 := le2 zw7
 refine bodyPost_ret (v := .tuple #[.agg #[.bool Z22.N.b, .slice Z22.N.p Z22.N.n Z22.N.c, .bool Z22.D.b, .slice Z22.D.p Z22.D.n Z22.D.c], .int .i64 0]) (by simp [results, Tryz.results72, go_sem, b3_w7]) rfl ?_
 exact Gv.of_fe (X := Z22) (hZ22) (oZ22) xw_w7

set_option maxRecDepth 100000 in
theorem fCmp (X : Fr) (Y : Fr) (x : Rat) (y : Rat) (w : World) (hX : FR w X x) (hY : FR w Y y) (bx : Sz x) (by_ : Sz y) :
    Calls Tryz.prog 34 #[.agg #[.bool X.N.b, .slice X.N.p X.N.n X.N.c, .bool X.D.b, .slice X.D.p X.D.n X.D.c], .agg #[.bool Y.N.b, .slice Y.N.p Y.N.n Y.N.c, .bool Y.D.b, .slice Y.D.p Y.D.n Y.D.c]] w (Gv (.v (.int .i64 (cmpQ x y))) w) := by
 obtain ⟨w1, hww1, ew1, B1, zw1⟩ := alloc_at w (w.heap.size) (by omega) #[.bool X.N.b, .slice X.N.p X.N.n X.N.c, .bool X.D.b, .slice X.D.p X.D.n X.D.c] 40
 obtain ⟨w2, hww2, ew2, B2, zw2⟩ := alloc_at w1 (w.heap.size + 1) (by omega) #[.bool Y.N.b, .slice Y.N.p Y.N.n Y.N.c, .bool Y.D.b, .slice Y.D.p Y.D.n Y.D.c] 40
 replace B1 := B1.ext ew2
 have b1_w2 := B1.c4
 have b2_w2 := B2.c4
 obtain ⟨w3, hww3, ew3, B3, zw3⟩ := alloc_at w2 (w.heap.size + 1 + 1) (by omega) #[.bool X.N.b, .slice X.N.p X.N.n X.N.c, .bool X.D.b, .slice X.D.p X.D.n X.D.c, .bool Y.N.b, .slice Y.N.p Y.N.n Y.N.c, .bool Y.D.b, .slice Y.D.p Y.D.n Y.D.c] 40
 have xw_w3 := eg (eg ew1 ew2) ew3
 replace hX := hX.ext xw_w3
 replace hY := hY.ext xw_w3
 go_enter Tryz.func34, Tryz.ntmps34
 go_wp2_with fail
 clear hww1 hww2 hww3
 clear b1_w2 b2_w2
 replace zw1 := le2 zw1
 replace zw2 := le2 zw2
 replace zw3 := le2 zw3
 refine (fvalid2 _ X Y _ _ _ B3 hX hY bx by_).mono (Gv.onV fun w4 ew4 zw4 => ?_)
 have xw2_w4 := eg ew3 ew4
 replace B1 := B1.ext xw2_w4
 have b1_w4 := B1.c4
 replace B2 := B2.ext xw2_w4
 have b2_w4 := B2.c4
 replace hX := hX.ext ew4
 replace hY := hY.ext ew4
 have xw_w4 := eg xw_w3 ew4
 go_wp2_with fail
 refine regionT 11 (fun kk => match kk with | 4 => some (.w ((x).num * (((y).den : Int)))) | 9 => some (.w ((y).num * (((x).den : Int)))) | 10 => some (.v (.int .i64 (cmpZ (x.num * y.den) (y.num * x.den)))) | _ => none) (by as_aux_lemma => kernel_rfl) (head_of (by as_aux_lemma => kernel_rfl)) ?_
 iterate 4
  refine Walk.one (x := ?_) rfl rfl (fun w1 hI hL K hK => ?_) ?_
  rotate_left
  ·obtain ⟨hc, hf⟩ := bcell hI
   go_simp
   repeat (first | (go_ints; try go_simp) | (simp only [↓IntWalk.iteOmega]; try go_simp))
   exact hK
  simp only [Pq1]
 refine Walk.tell rfl rfl (fun w1 hI hL K hK => ?_) ?_
 ·go_simp
  exact (fproduct X.N Y.D _ _ w1 ((hX.1).ext hI) ((hY.2).ext hI) (sp5 bx.n by_.d)).mono (tell hK)
 rintro _ ⟨Z14, rfl⟩
 simp only [Pq1]
 iterate 4
  refine Walk.one (x := ?_) rfl rfl (fun w1 hI hL K hK => ?_) ?_
  rotate_left
  ·obtain ⟨hc, hf⟩ := bcell hI
   go_simp
   repeat (first | (go_ints; try go_simp) | (simp only [↓IntWalk.iteOmega]; try go_simp))
   exact hK
  simp only [Pq1]
 refine Walk.tell rfl rfl (fun w1 hI hL K hK => ?_) ?_
 ·go_simp
  exact (fproduct Y.N X.D _ _ w1 ((hY.1).ext hI) ((hX.2).ext hI) (sp5 by_.n bx.d)).mono (tell hK)
 rintro _ ⟨Z19, rfl⟩
 simp only [Pq1]
 refine Walk.tell rfl rfl (fun w1 hI hL K hK => ?_) ?_
 ·go_simp
  exact (kCmp Z14 Z19 _ _ w1 ((Tl.getW (kn (i := 4) (v := .agg #[.bool Z14.b, .slice Z14.p Z14.n Z14.c]) rfl (by simp) (pred_of (by as_aux_lemma => kernel_rfl)) hL)).1) ((Tl.getW (kn (i := 9) (v := .agg #[.bool Z19.b, .slice Z19.p Z19.n Z19.c]) rfl (by simp) (pred_of (by as_aux_lemma => kernel_rfl)) hL)).1) (sp6 bx.n by_.d) (sp6 by_.n bx.d)).mono (tell hK)
 rintro _ rfl
 simp only [Pq1]
 refine Walk.nilF fun w5 ew5 kzL kzX => ?_
 have zw5 := ew5.size
 clear kzL kzX
 simp only [List.drop_succ_cons, List.drop_zero, List.drop_nil]
 have xw_w5 := eg xw_w4 ew5
 go_wp2_with fail
 clear b1_w4 b2_w4
 refine bodyPost_ret (v := .int .i64 (cmpZ (x.num * y.den) (y.num * x.den))) (by simp [results, Tryz.results34, go_sem]) rfl ?_
 exact Gv.of_v xw_w5
end Go.Proofs.YtndgaecfeaedeaaGreat
namespace Go.Proofs.YtndgaecfeaedeaaGreat
open Go.RowKit Lex Mth
attribute [local go_sem] run_indexAt_at add_zero_map Oper.semAt_some at_zero

theorem rFromInt (n : Int) (w : World) (h1 : -9223372036854775808 ≤ n) (h2 : n ≤ 9223372036854775807) : Calls Tryz.prog 124 #[.int .i64 n] w (Gv (.w n) w) :=
 (rFromInt_any n w h1 h2).mono fun _ _ ⟨b, p, n, c, he, h1, h2, h3⟩ => by subst he; exact Gv.of_w (X := ⟨b, p, n, c⟩) h1 h2 h3
theorem rSame1_t (X Y : Wh) (x y : Int) (w : World) (hx : WR w X x) (hy : WR w Y y) (h : x = y) : Calls Tryz.prog 87 #[X.val, Y.val] w (Gv (.v (.bool true)) w) :=
 (rSame_any _ _ _ _ _ _ _ _ _ _ w hx.u16.2 hy.u16.2).mono fun _ _ ⟨he, h3⟩ => by
  subst h he
  rw [show X.b = Y.b by rw [hx.neg, hy.neg]]
  simp
  exact Gv.of_v h3
theorem rSame1_f (X Y : Wh) (x y : Int) (w : World) (hx : WR w X x) (hy : WR w Y y) (h : x ≠ y) : Calls Tryz.prog 87 #[X.val, Y.val] w (Gv (.v (.bool false)) w) :=
 (rSame_any _ _ _ _ _ _ _ _ _ _ w hx.u16.2 hy.u16.2).mono fun _ _ ⟨he, h3⟩ => by
  subst he
  rw [hx.neg, hy.neg, natAbs_dec h]
  exact Gv.of_v h3
theorem rCommon (X Y : Wh) (l m : List Nat) (w : World) (hX : U16 w X.p X.n X.c l) (hY : U16 w Y.p Y.n Y.c m) (x y : Nat) (hl : l = limbs x) (hm : m = limbs y) (b : X.n ≤ 1048576) (b' : Y.n ≤ 1048576) :
    Calls Tryz.prog 83 #[.slice X.p X.n X.c, .slice Y.p Y.n Y.c] w (Gv (.c0 (limbs (Nat.gcd x y))) w) := by
 subst hl hm
 exact (Common_any _ _ _ _ _ _ x y w hX hY b b').mono fun _ _ ⟨p, n, c, he, h1, h3⟩ => by subst he; exact Gv.of_c0 (X := ⟨false, p, n, c⟩) h1 h3
theorem rDivided (X Y : Wh) (l m : List Nat) (w : World) (hX : U16 w X.p X.n X.c l) (hY : U16 w Y.p Y.n Y.c m) (x y : Nat) (hl : l = limbs x) (hm : m = limbs y) (h0 : y ≠ 0) (b : X.n ≤ 1048576) (b' : Y.n ≤ 1048576) :
    Calls Tryz.prog 141 #[.slice X.p X.n X.c, .slice Y.p Y.n Y.c] w fun e w' => ∃ Z R : Wh, e = .returned (.tuple #[.slice Z.p Z.n Z.c, .slice R.p R.n R.c]) ∧ UW w' Z (limbs (x / y)) ∧ UW w' R (limbs (x % y)) ∧ OW w.heap.size w' Z ∧ OW w.heap.size w' R ∧ Ext w w' := by
 subst hl hm
 exact (Divided_any _ _ _ _ _ _ x y w hX hY h0 b b').mono fun _ _ ⟨hd, h3⟩ => by
  obtain ⟨p, n, c, p', n', c', he, h1, h2, o1, o2⟩ := hd
  exact ⟨⟨false, p, n, c⟩, ⟨false, p', n', c'⟩, he, h1, h2, o1, o2, h3⟩
theorem rMake (b : Bool) (X : Wh) (w : World) (h : X.n ≤ 70368744177664) {s : Bool} (hs : (b && decide (0 < X.n)) = s) : Calls Tryz.prog 144 #[.bool b, .slice X.p X.n X.c] w (Gv (.v (.agg #[.bool s, .slice X.p X.n X.c])) w) :=
 (Make_any b X.p X.n X.c w h).mono fun _ _ ⟨he, h3⟩ => by subst he hs; exact Gv.of_v h3

set_option maxRecDepth 100000 in
theorem rSame_t (X : Fr) (Y : Fr) (a : Int) (b : Int) (c : Int) (d : Int) (w : World) (hX : PR w X a b) (hY : PR w Y c d) (h1 : a = c) (h2 : b = d) :
    Calls Tryz.prog 44 #[.agg #[.bool X.N.b, .slice X.N.p X.N.n X.N.c, .bool X.D.b, .slice X.D.p X.D.n X.D.c], .agg #[.bool Y.N.b, .slice Y.N.p Y.N.n Y.N.c, .bool Y.D.b, .slice Y.D.p Y.D.n Y.D.c]] w (Gv (.v (.bool true)) w) := by
 have H1 := Lib.hid h1
 clear h1
 have H2 := Lib.hid h2
 clear h2
 obtain ⟨w1, hww1, ew1, B1, zw1⟩ := alloc_at w (w.heap.size) (by omega) #[.bool X.N.b, .slice X.N.p X.N.n X.N.c, .bool X.D.b, .slice X.D.p X.D.n X.D.c] 40
 obtain ⟨w2, hww2, ew2, B2, zw2⟩ := alloc_at w1 (w.heap.size + 1) (by omega) #[.bool Y.N.b, .slice Y.N.p Y.N.n Y.N.c, .bool Y.D.b, .slice Y.D.p Y.D.n Y.D.c] 40
 replace B1 := B1.ext ew2
 have b1_w2 := B1.c4
 have b2_w2 := B2.c4
 have xw_w2 := eg ew1 ew2
 replace hX := hX.ext xw_w2
 replace hY := hY.ext xw_w2
 go_enter Tryz.func44, Tryz.ntmps44
 go_wp2_with fail
 clear hww1 hww2
 replace zw1 := le2 zw1
 replace zw2 := le2 zw2
 refine (rSame1_t X.N Y.N _ _ _ (hX.1) (hY.1) (H1.out)).mono (Gv.onV fun w3 ew3 zw3 => ?_)
 replace B1 := B1.ext ew3
 have b1_w3 := B1.c4
 replace B2 := B2.ext ew3
 have b2_w3 := B2.c4
 replace hX := hX.ext ew3
 replace hY := hY.ext ew3
 have xw_w3 := eg xw_w2 ew3
 go_wp2_with fail
 clear b1_w2 b2_w2
 refine (rSame1_t X.D Y.D _ _ _ (hX.2) (hY.2) (H2.out)).mono (Gv.onV fun w4 ew4 zw4 => ?_)
 have xw_w4 := eg xw_w3 ew4
 go_wp2_with fail
 clear b1_w3 b2_w3
 refine bodyPost_ret (v := .bool true) (by simp [results, Tryz.results44, go_sem]) rfl ?_
 exact Gv.of_v xw_w4

set_option maxRecDepth 100000 in
theorem rSame_n (X : Fr) (Y : Fr) (a : Int) (b : Int) (c : Int) (d : Int) (w : World) (hX : PR w X a b) (hY : PR w Y c d) (h1 : a ≠ c) :
    Calls Tryz.prog 44 #[.agg #[.bool X.N.b, .slice X.N.p X.N.n X.N.c, .bool X.D.b, .slice X.D.p X.D.n X.D.c], .agg #[.bool Y.N.b, .slice Y.N.p Y.N.n Y.N.c, .bool Y.D.b, .slice Y.D.p Y.D.n Y.D.c]] w (Gv (.v (.bool false)) w) := by
 have H1 := Lib.hid h1
 clear h1
 obtain ⟨w1, hww1, ew1, B1, zw1⟩ := alloc_at w (w.heap.size) (by omega) #[.bool X.N.b, .slice X.N.p X.N.n X.N.c, .bool X.D.b, .slice X.D.p X.D.n X.D.c] 40
 obtain ⟨w2, hww2, ew2, B2, zw2⟩ := alloc_at w1 (w.heap.size + 1) (by omega) #[.bool Y.N.b, .slice Y.N.p Y.N.n Y.N.c, .bool Y.D.b, .slice Y.D.p Y.D.n Y.D.c] 40
 replace B1 := B1.ext ew2
 have b1_w2 := B1.c4
 have b2_w2 := B2.c4
 have xw_w2 := eg ew1 ew2
 replace hX := hX.ext xw_w2
 replace hY := hY.ext xw_w2
 go_enter Tryz.func44, Tryz.ntmps44
 go_wp2_with fail
 clear hww1 hww2
 replace zw1 := le2 zw1
 replace zw2 := le2 zw2
 refine (rSame1_f X.N Y.N _ _ _ (hX.1) (hY.1) (H1.out)).mono (Gv.onV fun w3 ew3 zw3 => ?_)
 have xw_w3 := eg xw_w2 ew3
 go_wp2_with fail
 clear b1_w2 b2_w2
 refine bodyPost_ret (v := .bool false) (by simp [results, Tryz.results44, go_sem]) rfl ?_
 exact Gv.of_v xw_w3

set_option maxRecDepth 100000 in
theorem rSame_d (X : Fr) (Y : Fr) (a : Int) (b : Int) (c : Int) (d : Int) (w : World) (hX : PR w X a b) (hY : PR w Y c d) (h1 : a = c) (h2 : b ≠ d) :
    Calls Tryz.prog 44 #[.agg #[.bool X.N.b, .slice X.N.p X.N.n X.N.c, .bool X.D.b, .slice X.D.p X.D.n X.D.c], .agg #[.bool Y.N.b, .slice Y.N.p Y.N.n Y.N.c, .bool Y.D.b, .slice Y.D.p Y.D.n Y.D.c]] w (Gv (.v (.bool false)) w) := by
 have H1 := Lib.hid h1
 clear h1
 have H2 := Lib.hid h2
 clear h2
 obtain ⟨w1, hww1, ew1, B1, zw1⟩ := alloc_at w (w.heap.size) (by omega) #[.bool X.N.b, .slice X.N.p X.N.n X.N.c, .bool X.D.b, .slice X.D.p X.D.n X.D.c] 40
 obtain ⟨w2, hww2, ew2, B2, zw2⟩ := alloc_at w1 (w.heap.size + 1) (by omega) #[.bool Y.N.b, .slice Y.N.p Y.N.n Y.N.c, .bool Y.D.b, .slice Y.D.p Y.D.n Y.D.c] 40
 replace B1 := B1.ext ew2
 have b1_w2 := B1.c4
 have b2_w2 := B2.c4
 have xw_w2 := eg ew1 ew2
 replace hX := hX.ext xw_w2
 replace hY := hY.ext xw_w2
 go_enter Tryz.func44, Tryz.ntmps44
 go_wp2_with fail
 clear hww1 hww2
 replace zw1 := le2 zw1
 replace zw2 := le2 zw2
 refine (rSame1_t X.N Y.N _ _ _ (hX.1) (hY.1) (H1.out)).mono (Gv.onV fun w3 ew3 zw3 => ?_)
 replace B1 := B1.ext ew3
 have b1_w3 := B1.c4
 replace B2 := B2.ext ew3
 have b2_w3 := B2.c4
 replace hX := hX.ext ew3
 replace hY := hY.ext ew3
 have xw_w3 := eg xw_w2 ew3
 go_wp2_with fail
 clear b1_w2 b2_w2
 refine (rSame1_f X.D Y.D _ _ _ (hX.2) (hY.2) (H2.out)).mono (Gv.onV fun w4 ew4 zw4 => ?_)
 have xw_w4 := eg xw_w3 ew4
 go_wp2_with fail
 clear b1_w3 b2_w3
 refine bodyPost_ret (v := .bool false) (by simp [results, Tryz.results44, go_sem]) rfl ?_
 exact Gv.of_v xw_w4

theorem rSame (X Y : Fr) (a b c d : Int) (w : World) (hX : PR w X a b) (hY : PR w Y c d) : Calls Tryz.prog 44 #[X.val, Y.val] w (Gv (.v (.bool (decide (a = c) && decide (b = d)))) w) := by
 by_cases h1 : a = c
 ·by_cases h2 : b = d
  ·simpa only [h1, h2, decide_true, Bool.and_self] using rSame_t X Y a b c d w hX hY h1 h2
  ·simpa only [h1, h2, decide_true, decide_false, Bool.and_false] using rSame_d X Y a b c d w hX hY h1 h2
 ·simpa only [h1, decide_false, Bool.false_and] using rSame_n X Y a b c d w hX hY h1
/-- Two fractions are the same. -/
def eqQ (x y : Rat) : Bool := decide (x.num = y.num) && decide ((x.den : Int) = y.den)
theorem eqQ_iff {x y : Rat} : eqQ x y = true ↔ x = y := by
 unfold eqQ
 simp only [Bool.and_eq_true, decide_eq_true_eq]
 exact ⟨fun h => Rat.ext h.1 (by omega), fun h => by subst h; exact ⟨rfl, rfl⟩⟩
theorem rSameQ (X Y : Fr) (x y : Rat) (w : World) (hX : FR w X x) (hY : FR w Y y) : Calls Tryz.prog 44 #[X.val, Y.val] w (Gv (.v (.bool (eqQ x y))) w) := rSame X Y _ _ _ _ w hX hY
theorem fSameQ (X Y : Fr) (x y : Rat) (w : World) (hX : FR w X x) (hY : FR w Y y) : Calls Tryz.prog 39 #[X.val, Y.val] w (Gv (.v (.bool (eqQ x y))) w) := fSame X Y _ _ _ _ w hX hY

set_option maxRecDepth 100000 in
theorem rone_b (X : Wh) (w : World) (h0 : X.n ≠ 1) :
    Calls Tryz.prog 82 #[.slice X.p X.n X.c] w (Gv (.v (.bool false)) w) := by
 have h0d : ((X.n : Int) == 1) = false := by simp; omega
 clear h0
 go_enter Tryz.func82, Tryz.ntmps82
 go_wp2_with fail
 refine bodyPost_ret (v := .bool false) (by simp [results, Tryz.results82, go_sem]) rfl ?_
 exact Gv.of_v (Below.refl _ _)

set_option maxRecDepth 100000 in
theorem rone_c (X : Wh) (w : World) (x : Nat) (hX : U16 w X.p X.n X.c (limbs x)) (h0 : X.n = 1) (hd : x = 1) :
    Calls Tryz.prog 82 #[.slice X.p X.n X.c] w (Gv (.v (.bool true)) w) := by
 obtain ⟨u, hu⟩ : ∃ u, u = dig (limbs x) 0 := ⟨_, rfl⟩
 have hx0 : dig (limbs x) 0 = x := by
  have h1 : siz x = X.n := hX.len
  have h2 : x ≠ 0 := fun e => by rw [e, siz_zero] at h1; omega
  have h3 := siz_one.1 (Nat.le_of_eq (h1.trans h0))
  rw [limbs_pos h2]; simp [dig]; omega
 have hud : (((u : Nat) : Int) == 1) = true := by rw [hu, hx0]; simp; omega
 have c0 : w.cell? (at_ X.p 0) = some (.int .u16 (u : Nat)) := by rw [hu]; exact hX.cell 0 (by omega)
 have hh := hX.has
 have h0d : ((X.n : Int) == 1) = true := by simp; omega
 have h0p : 0 < X.n := by omega
 clear hu hx0 hd h0 hX
 go_enter Tryz.func82, Tryz.ntmps82
 go_wp2_with fail
 refine bodyPost_ret (v := .bool true) (by simp [results, Tryz.results82, go_sem]) rfl ?_
 exact Gv.of_v (Below.refl _ _)

set_option maxRecDepth 100000 in
theorem rone_d (X : Wh) (w : World) (x : Nat) (hX : U16 w X.p X.n X.c (limbs x)) (h0 : X.n = 1) (hd : x ≠ 1) :
    Calls Tryz.prog 82 #[.slice X.p X.n X.c] w (Gv (.v (.bool false)) w) := by
 obtain ⟨u, hu⟩ : ∃ u, u = dig (limbs x) 0 := ⟨_, rfl⟩
 have hx0 : dig (limbs x) 0 = x := by
  have h1 : siz x = X.n := hX.len
  have h2 : x ≠ 0 := fun e => by rw [e, siz_zero] at h1; omega
  have h3 := siz_one.1 (Nat.le_of_eq (h1.trans h0))
  rw [limbs_pos h2]; simp [dig]; omega
 have hud : (((u : Nat) : Int) == 1) = false := by rw [hu, hx0]; simp; omega
 have c0 : w.cell? (at_ X.p 0) = some (.int .u16 (u : Nat)) := by rw [hu]; exact hX.cell 0 (by omega)
 have hh := hX.has
 have h0d : ((X.n : Int) == 1) = true := by simp; omega
 have h0p : 0 < X.n := by omega
 clear hu hx0 hd h0 hX
 go_enter Tryz.func82, Tryz.ntmps82
 go_wp2_with fail
 refine bodyPost_ret (v := .bool false) (by simp [results, Tryz.results82, go_sem]) rfl ?_
 exact Gv.of_v (Below.refl _ _)

theorem rone (X : Wh) (x : Nat) (w : World) (hX : U16 w X.p X.n X.c (limbs x)) {b : Bool} (hb : decide (x = 1) = b) : Calls Tryz.prog 82 #[.slice X.p X.n X.c] w (Gv (.v (.bool b)) w) := by
 subst hb
 by_cases h0 : X.n = 1
 ·by_cases hd : x = 1
  ·simpa only [hd, decide_true] using rone_c X w x hX h0 hd
  ·simpa only [hd, decide_false] using rone_d X w x hX h0 hd
 ·have hd : x ≠ 1 := fun e => h0 (by have := hX.len; rw [← this, e]; simp [limbs])
  simpa only [hd, decide_false] using rone_b X w h0
end Go.Proofs.YtndgaecfeaedeaaGreat
namespace Go.Proofs.YtndgaecfeaedeaaGreat
open Go.RowKit Lex Mth
attribute [local go_sem] run_indexAt_at add_zero_map Oper.semAt_some at_zero

theorem low_facts (x y : Int) (hy : y ≠ 0) : (Rat.divInt x y).num.natAbs = x.natAbs / Nat.gcd x.natAbs y.natAbs ∧ (Rat.divInt x y).den = y.natAbs / Nat.gcd x.natAbs y.natAbs ∧ ((decide (x < 0) != decide (y < 0)) && decide (x ≠ 0)) = decide ((Rat.divInt x y).num < 0) := by
 have hg : Int.gcd y x = Nat.gcd x.natAbs y.natAbs := Nat.gcd_comm _ _
 have hgd : Nat.gcd x.natAbs y.natAbs ∣ x.natAbs := Nat.gcd_dvd_left _ _
 have hg0 : 0 < Nat.gcd x.natAbs y.natAbs := Nat.gcd_pos_of_pos_right _ (by omega)
 rw [Rat.num_divInt, Rat.den_divInt, if_neg hy, hg]
 generalize hG : Nat.gcd x.natAbs y.natAbs = g at *
 obtain ⟨k, hk⟩ := hgd
 have hx : x = (g : Int) * (sgn (decide (x < 0)) k) := by
  unfold sgn
  have : (x.natAbs : Int) = (g : Int) * k := by rw [hk]; simp
  by_cases h : x < 0
  ·simp only [h, decide_true, if_true, Int.mul_neg]; omega
  ·simp only [h, decide_false, Bool.false_eq_true, if_false]; omega
 have hq : y.sign * x / (g : Int) = y.sign * sgn (decide (x < 0)) k := by
  conv => lhs; rw [hx]
  rw [Int.mul_left_comm, Int.mul_ediv_cancel_left _ (by omega)]
 have hs : y.sign = 1 ∧ 0 < y ∨ y.sign = -1 ∧ y < 0 := by
  rcases (by omega : 0 < y ∨ y < 0) with h | h
  ·exact .inl ⟨Int.sign_eq_one_of_pos h, h⟩
  ·exact .inr ⟨Int.sign_eq_neg_one_of_neg h, h⟩
 have hk0 : x ≠ 0 ↔ k ≠ 0 := by
  constructor
  ·intro h e; subst e; simp at hk; omega
  ·intro h e; subst e
   have : g * k = 0 := by simpa using hk.symm
   rcases Nat.mul_eq_zero.1 this with h' | h' <;> omega
 refine ⟨?_, rfl, ?_⟩
 ·rw [hq, Int.natAbs_mul, sgn_natAbs, hk, Nat.mul_div_cancel_left _ hg0]
  rcases hs with h | h <;> rw [h.1] <;> simp
 ·rw [hq]
  by_cases h0 : x = 0
  ·have : k = 0 := by
    apply Decidable.byContradiction; intro hne; exact (hk0.2 hne) h0
   subst this
   simp [h0, sgn]
  ·have hkp : 0 < k := by have := hk0.1 h0; omega
   simp only [h0, ne_eq, not_false_eq_true, decide_true, Bool.and_true]
   rcases hs with ⟨e, hp⟩ | ⟨e, hp⟩
   ·have hyd : decide (y < 0) = false := by simp; omega
    rw [e, hyd, Int.one_mul, Bool.bne_false]
    cases hd : decide (x < 0)
    ·simp [sgn]
    ·simp [sgn]; omega
   ·have hyd : decide (y < 0) = true := by simp; omega
    rw [e, hyd]
    cases hd : decide (x < 0)
    ·simp [sgn]; omega
    ·simp [sgn]
theorem low_R {w : World} {X Y : Wh} {x y : Int} (hy : y ≠ 0) (u : U16 w X.p X.n X.c (limbs (x.natAbs / Nat.gcd x.natAbs y.natAbs))) (v : U16 w Y.p Y.n Y.c (limbs (y.natAbs / Nat.gcd x.natAbs y.natAbs))) :
    FR w ⟨⟨decide ((Rat.divInt x y).num < 0), X.p, X.n, X.c⟩, ⟨false, Y.p, Y.n, Y.c⟩⟩ (Rat.divInt x y) := by
 obtain ⟨h1, h2, h3⟩ := low_facts x y hy
 refine ⟨WR.mk rfl (by rw [h1]; exact u), WR.mk (by simp) ?_⟩
 rw [Int.natAbs_natCast, h2]; exact v
theorem low_sign {w w' : World} {X Y Z : Wh} {x y : Int} (hy : y ≠ 0) (hx : WR w X x) (hy' : WR w Y y) (u : U16 w' Z.p Z.n Z.c (limbs (x.natAbs / Nat.gcd x.natAbs y.natAbs))) : ((X.b != Y.b) && decide (0 < Z.n)) = decide ((Rat.divInt x y).num < 0) := by
 obtain ⟨h1, h2, h3⟩ := low_facts x y hy
 rw [hx.neg, hy'.neg, ← h3]
 have hn : Z.n = siz (x.natAbs / Nat.gcd x.natAbs y.natAbs) := u.len.symm
 have : decide (0 < Z.n) = decide (x ≠ 0) := by
  rw [hn, ← h1]
  have hz : x = 0 ↔ (Rat.divInt x y).num.natAbs = 0 := by
   rw [h1]
   have hg0 : 0 < Nat.gcd x.natAbs y.natAbs := Nat.gcd_pos_of_pos_right _ (by omega)
   constructor
   ·intro e; subst e; simp
   ·intro e
    rcases Nat.div_eq_zero_iff.1 e with h | h
    ·omega
    ·have := Nat.gcd_dvd_left x.natAbs y.natAbs
     apply Decidable.byContradiction
     intro hx0
     have := Nat.le_of_dvd (by omega) this
     omega
  rw [decide_eq_decide]
  constructor
  ·intro h e; rw [hz.1 e, siz_zero] at h; omega
  ·intro h; exact siz_pos fun e => h (hz.2 e)
 rw [this]
theorem gcd_ne (x y : Int) (hy : y ≠ 0) : Nat.gcd x.natAbs y.natAbs ≠ 0 := by
 have := Nat.gcd_pos_of_pos_right x.natAbs (show 0 < y.natAbs by omega)
 omega
theorem gcd_n {w : World} {X : Wh} {x y : Int} (hy : y ≠ 0) (u : U16 w X.p X.n X.c (limbs (Nat.gcd x.natAbs y.natAbs))) (b : siz y.natAbs ≤ 1024) : X.n ≤ 1048576 := by
 have h1 : siz (Nat.gcd x.natAbs y.natAbs) = X.n := u.len
 have h2 := siz_mono (Nat.le_of_dvd (show 0 < y.natAbs by omega) (Nat.gcd_dvd_right x.natAbs y.natAbs))
 omega
theorem WR.n20 {w : World} {X : Wh} {x : Int} (h : WR w X x) (b : siz x.natAbs ≤ 1024) : X.n ≤ 1048576 := by rw [h.n]; omega
theorem div_one_limbs {w : World} {X : Wh} {x y : Int} (h1 : Nat.gcd x.natAbs y.natAbs = 1) (h : WR w X x) : U16 w X.p X.n X.c (limbs (x.natAbs / Nat.gcd x.natAbs y.natAbs)) := by rw [h1, Nat.div_one]; exact h.u16.2
theorem div_one_limbs' {w : World} {X : Wh} {x y : Int} (h1 : Nat.gcd x.natAbs y.natAbs = 1) (h : WR w X y) : U16 w X.p X.n X.c (limbs (y.natAbs / Nat.gcd x.natAbs y.natAbs)) := by rw [h1, Nat.div_one]; exact h.u16.2

theorem siz64 {x : Int} (h1 : -9223372036854775808 ≤ x) (h2 : x ≤ 9223372036854775807) : siz x.natAbs ≤ 1024 := by
 have : siz x.natAbs ≤ 4 := siz_le.2 (by have : x.natAbs ≤ 9223372036854775808 := by omega
                                         omega)
 omega

set_option maxRecDepth 100000 in
theorem rLow1 (X : Wh) (Y : Wh) (x : Int) (y : Int) (w : World) (hX : WR w X x) (hY : WR w Y y) (hy0 : y ≠ 0) (b : siz x.natAbs ≤ 1024) (b' : siz y.natAbs ≤ 1024) (h1 : Nat.gcd x.natAbs y.natAbs = 1) :
    Calls Tryz.prog 123 #[.agg #[.bool X.b, .slice X.p X.n X.c], .agg #[.bool Y.b, .slice Y.p Y.n Y.c]] w (Gv (.f0 (Rat.divInt x y)) w) := by
 have H1 := Lib.hid h1
 clear h1
 have Hy := Lib.hid hy0
 clear hy0
 obtain ⟨w1, hww1, ew1, B1, zw1⟩ := alloc_at w (w.heap.size) (by omega) #[.bool X.b, .slice X.p X.n X.c] 38
 obtain ⟨w2, hww2, ew2, B2, zw2⟩ := alloc_at w1 (w.heap.size + 1) (by omega) #[.bool Y.b, .slice Y.p Y.n Y.c] 38
 obtain ⟨w3, hww3, ew3, B3, zw3⟩ := alloc_at w2 (w.heap.size + 1 + 1) (by omega) #[.bool false, .slice none 0 0, .bool false, .slice none 0 0] 40
 have xw1_w3 := eg ew2 ew3
 replace B1 := B1.ext xw1_w3
 have b1_w3 := B1.c2
 replace B2 := B2.ext ew3
 have b2_w3 := B2.c2
 have xw_w3 := eg (eg ew1 ew2) ew3
 replace hX := hX.ext xw_w3
 replace hY := hY.ext xw_w3
 go_enter Tryz.func123, Tryz.ntmps123
 go_wp2_with fail
 clear hww1 hww2 hww3
 replace zw1 := le2 zw1
 replace zw2 := le2 zw2
 replace zw3 := le2 zw3
 refine (rCommon X Y _ _ _ ((hX).u16.2) ((hY).u16.2) (x.natAbs) (y.natAbs) (rfl) (rfl) (WR.n20 (hX) b) (WR.n20 (hY) b')).mono (Gv.onC0 fun Z14 w4 hZ14 ew4 zw4 => ?_)
 have xw_w4 := eg xw_w3 ew4
 go_wp2_with fail
 clear b1_w3 b2_w3
 refine (rone (b := true) Z14 _ _ (hZ14) (by simp [H1.out])).mono (Gv.onV fun w5 ew5 zw5 => ?_)
 have xw3_w5 := eg ew4 ew5
 replace B1 := B1.ext xw3_w5
 have b1_w5 := B1.c2
 replace B2 := B2.ext xw3_w5
 have b2_w5 := B2.c2
 replace hX := hX.ext xw3_w5
 replace hY := hY.ext xw3_w5
 have xw_w5 := eg xw_w4 ew5
 go_wp2_with fail
 refine regionT 12 (fun kk => match kk with | 7 => some (.v (.agg #[.bool (decide ((Rat.divInt x y).num < 0)), .slice X.p X.n X.c])) | 10 => some (.v (.agg #[.bool false, .slice Y.p Y.n Y.c])) | _ => none) (by as_aux_lemma => kernel_rfl) (head_of (by as_aux_lemma => kernel_rfl)) ?_
 iterate 7
  refine Walk.one (x := ?_) rfl rfl (fun w1 hI hL K hK => ?_) ?_
  rotate_left
  ·obtain ⟨hc, hf⟩ := bcell hI
   go_simp
   repeat (first | (go_ints; try go_simp) | (simp only [↓IntWalk.iteOmega]; try go_simp))
   exact hK
  simp only [Pq1]
 refine Walk.tell rfl rfl (fun w1 hI hL K hK => ?_) ?_
 ·go_simp
  exact (rMake (s := decide ((Rat.divInt x y).num < 0)) ((X.b != Y.b)) X w1 (((hX).ext hI).u16.2.reach) (low_sign Hy.out ((hX).ext hI) ((hY).ext hI) (div_one_limbs H1.out ((hX).ext hI)))).mono (tell hK)
 rintro _ rfl
 simp only [Pq1]
 iterate 2
  refine Walk.one (x := ?_) rfl rfl (fun w1 hI hL K hK => ?_) ?_
  rotate_left
  ·obtain ⟨hc, hf⟩ := bcell hI
   go_simp
   repeat (first | (go_ints; try go_simp) | (simp only [↓IntWalk.iteOmega]; try go_simp))
   exact hK
  simp only [Pq1]
 refine Walk.tell rfl rfl (fun w1 hI hL K hK => ?_) ?_
 ·go_simp
  exact (rMake (s := false) (false) Y w1 (((hY).ext hI).u16.2.reach) (by simp)).mono (tell hK)
 rintro _ rfl
 simp only [Pq1]
 refine Walk.one (x := ?_) rfl rfl (fun w1 hI hL K hK => ?_) ?_
 rotate_left
 ·obtain ⟨hc, hf⟩ := bcell hI
  go_simp
  repeat (first | (go_ints; try go_simp) | (simp only [↓IntWalk.iteOmega]; try go_simp))
  exact hK
 simp only [Pq1]
 refine Walk.nilF fun w6 ew6 kzL kzX => ?_
 have zw6 := ew6.size
 clear kzL kzX
 simp only [List.drop_succ_cons, List.drop_zero, List.drop_nil]
 have xw3_w6 := eg xw3_w5 ew6
 replace B3 := B3.ext xw3_w6
 have b3_w6 := B3.c4
 have fb3_w6 := B3.f4
 replace hX := hX.ext ew6
 replace hY := hY.ext ew6
 have xw_w6 := eg xw_w5 ew6
 obtain ⟨w7, hww7, kw7, Nw7, zw7⟩ := B3.put4 (.bool (decide ((Rat.divInt x y).num < 0))) (.slice X.p X.n X.c) (.bool false) (.slice Y.p Y.n Y.c)
 have nuw7 : NoU #[.bool false, .slice none 0 0, .bool false, .slice none 0 0] := by simp [NoU]
 replace hX := WR.kb hX B3 nuw7 kw7
 replace hY := WR.kb hY B3 nuw7 kw7
 have xw_w7 := Ext.kb xw_w6 kw7 (by omega)
 replace B3 := Nw7
 clear Nw7 kw7
 have b3_w7 := B3.c4
 go_wp2_with fail
 clear hww7
 clear b1_w5 b2_w5 b3_w6 fb3_w6
 replace zw7 := le2 zw7
 refine bodyPost_ret (v := .agg #[.bool (decide ((Rat.divInt x y).num < 0)), .slice X.p X.n X.c, .bool false, .slice Y.p Y.n Y.c]) (by simp [results, Tryz.results123, go_sem, b3_w7]) rfl ?_
 exact Gv.of_f0 (X := ⟨⟨decide ((Rat.divInt x y).num < 0), X.p, X.n, X.c⟩, ⟨false, Y.p, Y.n, Y.c⟩⟩) (low_R Hy.out (div_one_limbs H1.out hX) (div_one_limbs' H1.out hY)) xw_w7

set_option maxRecDepth 100000 in
theorem rLow2 (X : Wh) (Y : Wh) (x : Int) (y : Int) (w : World) (hX : WR w X x) (hY : WR w Y y) (hy0 : y ≠ 0) (b : siz x.natAbs ≤ 1024) (b' : siz y.natAbs ≤ 1024) (h1 : Nat.gcd x.natAbs y.natAbs ≠ 1) :
    Calls Tryz.prog 123 #[.agg #[.bool X.b, .slice X.p X.n X.c], .agg #[.bool Y.b, .slice Y.p Y.n Y.c]] w (Gv (.f0 (Rat.divInt x y)) w) := by
 have H1 := Lib.hid h1
 clear h1
 have Hy := Lib.hid hy0
 clear hy0
 obtain ⟨w1, hww1, ew1, B1, zw1⟩ := alloc_at w (w.heap.size) (by omega) #[.bool X.b, .slice X.p X.n X.c] 38
 obtain ⟨w2, hww2, ew2, B2, zw2⟩ := alloc_at w1 (w.heap.size + 1) (by omega) #[.bool Y.b, .slice Y.p Y.n Y.c] 38
 obtain ⟨w3, hww3, ew3, B3, zw3⟩ := alloc_at w2 (w.heap.size + 1 + 1) (by omega) #[.bool false, .slice none 0 0, .bool false, .slice none 0 0] 40
 have xw1_w3 := eg ew2 ew3
 replace B1 := B1.ext xw1_w3
 have b1_w3 := B1.c2
 replace B2 := B2.ext ew3
 have b2_w3 := B2.c2
 have xw_w3 := eg (eg ew1 ew2) ew3
 replace hX := hX.ext xw_w3
 replace hY := hY.ext xw_w3
 go_enter Tryz.func123, Tryz.ntmps123
 go_wp2_with fail
 clear hww1 hww2 hww3
 replace zw1 := le2 zw1
 replace zw2 := le2 zw2
 replace zw3 := le2 zw3
 refine (rCommon X Y _ _ _ ((hX).u16.2) ((hY).u16.2) (x.natAbs) (y.natAbs) (rfl) (rfl) (WR.n20 (hX) b) (WR.n20 (hY) b')).mono (Gv.onC0 fun Z14 w4 hZ14 ew4 zw4 => ?_)
 have xw_w4 := eg xw_w3 ew4
 go_wp2_with fail
 clear b1_w3 b2_w3
 refine (rone (b := false) Z14 _ _ (hZ14) (by simp [H1.out])).mono (Gv.onV fun w5 ew5 zw5 => ?_)
 have xw3_w5 := eg ew4 ew5
 replace B1 := B1.ext xw3_w5
 have b1_w5 := B1.c2
 replace hX := hX.ext xw3_w5
 replace hZ14 := hZ14.ext ew5
 have xw_w5 := eg xw_w4 ew5
 go_wp2_with fail
 refine (rDivided X Z14 _ _ _ ((hX).u16.2) (hZ14) (x.natAbs) (Nat.gcd x.natAbs y.natAbs) (rfl) (rfl) (gcd_ne _ _ Hy.out) (WR.n20 (hX) b) (gcd_n Hy.out (hZ14) b')).mono ?_
 intro ee w6 gg
 obtain ⟨Z33, Z33r, rfl, hZ33, -, -, -, ew6⟩ := gg
 have zw6 := ew6.size
 have xw3_w6 := eg xw3_w5 ew6
 replace B2 := B2.ext xw3_w6
 have b2_w6 := B2.c2
 replace hY := hY.ext xw3_w6
 replace hZ14 := hZ14.ext ew6
 have xw_w6 := eg xw_w5 ew6
 go_wp2_with fail
 clear b1_w5
 refine (rDivided Y Z14 _ _ _ ((hY).u16.2) (hZ14) (y.natAbs) (Nat.gcd x.natAbs y.natAbs) (rfl) (rfl) (gcd_ne _ _ Hy.out) (WR.n20 (hY) b') (gcd_n Hy.out (hZ14) b')).mono ?_
 intro ee w7 gg
 obtain ⟨Z40, Z40r, rfl, hZ40, -, -, -, ew7⟩ := gg
 have zw7 := ew7.size
 have xw5_w7 := eg ew6 ew7
 replace B1 := B1.ext xw5_w7
 have b1_w7 := B1.c2
 replace B2 := B2.ext ew7
 have b2_w7 := B2.c2
 replace hZ33 := hZ33.ext ew7
 replace hX := hX.ext xw5_w7
 replace hY := hY.ext ew7
 have xw_w7 := eg xw_w6 ew7
 go_wp2_with fail
 clear b2_w6
 refine (rMake (s := decide ((Rat.divInt x y).num < 0)) ((X.b != Y.b)) Z33 _ (U16.reach (hZ33)) (low_sign Hy.out (hX) (hY) (hZ33))).mono (Gv.onV fun w8 ew8 zw8 => ?_)
 replace hZ40 := hZ40.ext ew8
 have xw_w8 := eg xw_w7 ew8
 go_wp2_with fail
 clear b1_w7 b2_w7
 refine (rMake (s := false) (false) Z40 _ (U16.reach (hZ40)) (by simp)).mono (Gv.onV fun w9 ew9 zw9 => ?_)
 have xw3_w9 := eg (eg (eg xw3_w6 ew7) ew8) ew9
 replace B3 := B3.ext xw3_w9
 have b3_w9 := B3.c4
 have fb3_w9 := B3.f4
 have xw7_w9 := eg ew8 ew9
 replace hZ33 := hZ33.ext xw7_w9
 replace hZ40 := hZ40.ext ew9
 have xw_w9 := eg xw_w8 ew9
 obtain ⟨w10, hww10, kw10, Nw10, zw10⟩ := B3.put4 (.bool (decide ((Rat.divInt x y).num < 0))) (.slice Z33.p Z33.n Z33.c) (.bool false) (.slice Z40.p Z40.n Z40.c)
 have nuw10 : NoU #[.bool false, .slice none 0 0, .bool false, .slice none 0 0] := by simp [NoU]
 replace hZ33 := UW.kb hZ33 B3 nuw10 kw10
 replace hZ40 := UW.kb hZ40 B3 nuw10 kw10
 have xw_w10 := Ext.kb xw_w9 kw10 (by omega)
 replace B3 := Nw10
 clear Nw10 kw10
 have b3_w10 := B3.c4
 go_wp2_with fail
 clear hww10
 clear b3_w9 fb3_w9
 replace zw10 := le2 zw10
 refine bodyPost_ret (v := .agg #[.bool (decide ((Rat.divInt x y).num < 0)), .slice Z33.p Z33.n Z33.c, .bool false, .slice Z40.p Z40.n Z40.c]) (by simp [results, Tryz.results123, go_sem, b3_w10]) rfl ?_
 exact Gv.of_f0 (X := ⟨⟨decide ((Rat.divInt x y).num < 0), Z33.p, Z33.n, Z33.c⟩, ⟨false, Z40.p, Z40.n, Z40.c⟩⟩) (low_R Hy.out hZ33 hZ40) xw_w10

theorem rLowest (X Y : Wh) (x y : Int) (w : World) (hX : WR w X x) (hY : WR w Y y) (hy0 : y ≠ 0) (b : siz x.natAbs ≤ 1024) (b' : siz y.natAbs ≤ 1024) : Calls Tryz.prog 123 #[.agg #[.bool X.b, .slice X.p X.n X.c], .agg #[.bool Y.b, .slice Y.p Y.n Y.c]] w (Gv (.f0 (Rat.divInt x y)) w) := by
 by_cases h1 : Nat.gcd x.natAbs y.natAbs = 1
 ·exact rLow1 X Y x y w hX hY hy0 b b' h1
 ·exact rLow2 X Y x y w hX hY hy0 b b' h1

set_option maxRecDepth 100000 in
theorem rQuick (x : Int) (y : Int) (w : World) (hy0 : y ≠ 0) (bx : -9223372036854775808 ≤ x ∧ x ≤ 9223372036854775807) (by_ : -9223372036854775808 ≤ y ∧ y ≤ 9223372036854775807) :
    Calls Tryz.prog 68 #[.int .i64 x, .int .i64 y] w (Gv (.f0 (Rat.divInt x y)) w) := by
 have Hy := Lib.hid hy0
 clear hy0
 obtain ⟨w1, hww1, ew1, B1, zw1⟩ := alloc_at w (w.heap.size) (by omega) #[.bool false, .slice none 0 0, .bool false, .slice none 0 0] 40
 go_enter Tryz.func68, Tryz.ntmps68
 go_wp2_with fail
 clear hww1
 replace zw1 := le2 zw1
 refine (rFromInt (x) _ (bx.1) (bx.2)).mono (Gv.onW fun Z6 w2 hZ6 ew2 zw2 => ?_)
 have xw_w2 := eg ew1 ew2
 go_wp2_with fail
 refine (rFromInt (y) _ (by_.1) (by_.2)).mono (Gv.onW fun Z8 w3 hZ8 ew3 zw3 => ?_)
 replace hZ6 := hZ6.ext ew3
 have xw_w3 := eg xw_w2 ew3
 go_wp2_with fail
 refine (rLowest Z6 Z8 _ _ _ (hZ6) (hZ8) (Hy.out) (siz64 bx.1 bx.2) (siz64 by_.1 by_.2)).mono (Gv.onF0 fun Z9 w4 hZ9 ew4 zw4 => ?_)
 have xw1_w4 := eg (eg ew2 ew3) ew4
 replace B1 := B1.ext xw1_w4
 have b1_w4 := B1.c4
 have fb1_w4 := B1.f4
 have xw_w4 := eg xw_w3 ew4
 obtain ⟨w5, hww5, kw5, Nw5, zw5⟩ := B1.put4 (.bool Z9.N.b) (.slice Z9.N.p Z9.N.n Z9.N.c) (.bool Z9.D.b) (.slice Z9.D.p Z9.D.n Z9.D.c)
 have nuw5 : NoU #[.bool false, .slice none 0 0, .bool false, .slice none 0 0] := by simp [NoU]
 replace hZ9 := FR.kb hZ9 B1 nuw5 kw5
 have xw_w5 := Ext.kb xw_w4 kw5 (by omega)
 replace B1 := Nw5
 clear Nw5 kw5
 have b1_w5 := B1.c4
 go_wp2_with fail
 clear hww5
 clear b1_w4 fb1_w4
 replace zw5 := le2 zw5
 refine bodyPost_ret (v := .agg #[.bool Z9.N.b, .slice Z9.N.p Z9.N.n Z9.N.c, .bool Z9.D.b, .slice Z9.D.p Z9.D.n Z9.D.c]) (by simp [results, Tryz.results68, go_sem, b1_w5]) rfl ?_
 exact Gv.of_f0 (X := Z9) (hZ9) xw_w5
end Go.Proofs.YtndgaecfeaedeaaGreat
