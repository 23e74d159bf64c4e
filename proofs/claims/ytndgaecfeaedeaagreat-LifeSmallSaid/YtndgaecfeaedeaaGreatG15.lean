/- Walks of package life: sums and products; rates. -/
import Derived.Test.YtndgaecfeaedeaaGreatG10
import Derived.Test.YtndgaecfeaedeaaGreatG14
set_option linter.unusedSimpArgs false
set_option linter.unusedVariables false
namespace Go.Proofs.YtndgaecfeaedeaaGreat
open Go.RowKit Lex Mth
attribute [local go_sem] run_indexAt_at add_zero_map Oper.semAt_some at_zero

theorem fFromInt_1 (w : World) : Calls Tryz.prog 40 #[.int .i64 1] w (Gv (.f 1) w) := by simpa using fFromInt 1 w (by decide) (by decide)
theorem fFromInt_0 (w : World) : Calls Tryz.prog 40 #[.int .i64 0] w (Gv (.f 0) w) := by simpa using fFromInt 0 w (by decide) (by decide)
theorem FR.cast {w : World} {X : Fr} {q q' : Rat} (h : FR w X q) (e : q = q') : FR w X q' := e ▸ h
theorem sz_one : Sz 1 := ⟨by show siz 1 ≤ 256; have := siz_one (n := 1); omega, by show siz 1 ≤ 256; have := siz_one (n := 1); omega⟩
theorem sz_sub {x y : Rat} (h : Sz (x - y)) : Sz (x + -y) := by rwa [add_neg']

set_option maxRecDepth 100000 in
theorem ltimes (X : Fr) (Y : Fr) (x : Rat) (y : Rat) (w : World) (hX : FR w X x) (hY : FR w Y y) (bx : Sz x) (by_ : Sz y) (bz : Sz (x * y)) :
    Calls Tryz.prog 59 #[.agg #[.bool X.N.b, .slice X.N.p X.N.n X.N.c, .bool X.D.b, .slice X.D.p X.D.n X.D.c], .agg #[.bool Y.N.b, .slice Y.N.p Y.N.n Y.N.c, .bool Y.D.b, .slice Y.D.p Y.D.n Y.D.c]] w (Gv (.f (x * y)) w) := by
 obtain ⟨w1, hww1, ew1, B1, zw1⟩ := alloc_at w (w.heap.size) (by omega) #[.bool X.N.b, .slice X.N.p X.N.n X.N.c, .bool X.D.b, .slice X.D.p X.D.n X.D.c] 40
 obtain ⟨w2, hww2, ew2, B2, zw2⟩ := alloc_at w1 (w.heap.size + 1) (by omega) #[.bool Y.N.b, .slice Y.N.p Y.N.n Y.N.c, .bool Y.D.b, .slice Y.D.p Y.D.n Y.D.c] 40
 obtain ⟨w3, hww3, ew3, B3, zw3⟩ := alloc_at w2 (w.heap.size + 1 + 1) (by omega) #[.bool false, .slice none 0 0, .bool false, .slice none 0 0] 40
 have xw1_w3 := eg ew2 ew3
 replace B1 := B1.ext xw1_w3
 have b1_w3 := B1.c4
 replace B2 := B2.ext ew3
 have b2_w3 := B2.c4
 have xw_w3 := eg (eg ew1 ew2) ew3
 replace hX := hX.ext xw_w3
 replace hY := hY.ext xw_w3
 go_enter Tryz.func59, Tryz.ntmps59
 go_wp2_with fail
 clear hww1 hww2 hww3
 replace zw1 := le2 zw1
 replace zw2 := le2 zw2
 replace zw3 := le2 zw3
 refine (fMul X Y _ _ _ (hX) (hY) (bx) (by_) (bz)).mono (Gv.onFeo fun Z10 w4 hZ10 oZ10 ew4 zw4 => ?_)
 replace oZ10 := oZ10.mono xw_w3.size
 obtain ⟨w5, hww5, ew5, B4, zw5⟩ := alloc_at w4 (w4.heap.size) (by omega) #[.bool Z10.N.b, .slice Z10.N.p Z10.N.n Z10.N.c, .bool Z10.D.b, .slice Z10.D.p Z10.D.n Z10.D.c] 40
 have b4_w5 := B4.c4
 have xw3_w5 := eg ew4 ew5
 replace B3 := B3.ext xw3_w5
 have b3_w5 := B3.c4
 have fb3_w5 := B3.f4
 replace hZ10 := hZ10.ext ew5
 replace oZ10 := oZ10.ext ew5
 have xw_w5 := eg (eg xw_w3 ew4) ew5
 obtain ⟨w6, hww6, kw6, Nw6, zw6⟩ := B3.put4 (.bool Z10.N.b) (.slice Z10.N.p Z10.N.n Z10.N.c) (.bool Z10.D.b) (.slice Z10.D.p Z10.D.n Z10.D.c)
 have nuw6 : NoU #[.bool false, .slice none 0 0, .bool false, .slice none 0 0] := by simp [NoU]
 replace hZ10 := FR.kb hZ10 B3 nuw6 kw6
 replace oZ10 := OF.kb oZ10 B3 (by decide) kw6
 have xw_w6 := Ext.kb xw_w5 kw6 (by omega)
 replace B3 := Nw6
 clear Nw6 kw6
 have b3_w6 := B3.c4
 go_wp2_with fail
 clear hww5 hww6
 clear b1_w3 b2_w3 b4_w5 b3_w5 fb3_w5
 replace zw5 := le2 zw5
 replace zw6 := le2 zw6
 refine bodyPost_ret (v := .agg #[.bool Z10.N.b, .slice Z10.N.p Z10.N.n Z10.N.c, .bool Z10.D.b, .slice Z10.D.p Z10.D.n Z10.D.c]) (by simp [results, Tryz.results59, go_sem, b3_w6]) rfl ?_
 exact Gv.of_f (X := Z10) (hZ10) (oZ10) xw_w6

set_option maxRecDepth 100000 in
theorem lplus (X : Fr) (Y : Fr) (x : Rat) (y : Rat) (w : World) (hX : FR w X x) (hY : FR w Y y) (bx : Sz x) (by_ : Sz y) (bz : Sz (x + y)) :
    Calls Tryz.prog 61 #[.agg #[.bool X.N.b, .slice X.N.p X.N.n X.N.c, .bool X.D.b, .slice X.D.p X.D.n X.D.c], .agg #[.bool Y.N.b, .slice Y.N.p Y.N.n Y.N.c, .bool Y.D.b, .slice Y.D.p Y.D.n Y.D.c]] w (Gv (.f (x + y)) w) := by
 obtain ⟨w1, hww1, ew1, B1, zw1⟩ := alloc_at w (w.heap.size) (by omega) #[.bool X.N.b, .slice X.N.p X.N.n X.N.c, .bool X.D.b, .slice X.D.p X.D.n X.D.c] 40
 obtain ⟨w2, hww2, ew2, B2, zw2⟩ := alloc_at w1 (w.heap.size + 1) (by omega) #[.bool Y.N.b, .slice Y.N.p Y.N.n Y.N.c, .bool Y.D.b, .slice Y.D.p Y.D.n Y.D.c] 40
 obtain ⟨w3, hww3, ew3, B3, zw3⟩ := alloc_at w2 (w.heap.size + 1 + 1) (by omega) #[.bool false, .slice none 0 0, .bool false, .slice none 0 0] 40
 have xw1_w3 := eg ew2 ew3
 replace B1 := B1.ext xw1_w3
 have b1_w3 := B1.c4
 replace B2 := B2.ext ew3
 have b2_w3 := B2.c4
 have xw_w3 := eg (eg ew1 ew2) ew3
 replace hX := hX.ext xw_w3
 replace hY := hY.ext xw_w3
 go_enter Tryz.func61, Tryz.ntmps61
 go_wp2_with fail
 clear hww1 hww2 hww3
 replace zw1 := le2 zw1
 replace zw2 := le2 zw2
 replace zw3 := le2 zw3
 refine (fAdd X Y _ _ _ (hX) (hY) (bx) (by_) (bz)).mono (Gv.onFeo fun Z10 w4 hZ10 oZ10 ew4 zw4 => ?_)
 replace oZ10 := oZ10.mono xw_w3.size
 obtain ⟨w5, hww5, ew5, B4, zw5⟩ := alloc_at w4 (w4.heap.size) (by omega) #[.bool Z10.N.b, .slice Z10.N.p Z10.N.n Z10.N.c, .bool Z10.D.b, .slice Z10.D.p Z10.D.n Z10.D.c] 40
 have b4_w5 := B4.c4
 have xw3_w5 := eg ew4 ew5
 replace B3 := B3.ext xw3_w5
 have b3_w5 := B3.c4
 have fb3_w5 := B3.f4
 replace hZ10 := hZ10.ext ew5
 replace oZ10 := oZ10.ext ew5
 have xw_w5 := eg (eg xw_w3 ew4) ew5
 obtain ⟨w6, hww6, kw6, Nw6, zw6⟩ := B3.put4 (.bool Z10.N.b) (.slice Z10.N.p Z10.N.n Z10.N.c) (.bool Z10.D.b) (.slice Z10.D.p Z10.D.n Z10.D.c)
 have nuw6 : NoU #[.bool false, .slice none 0 0, .bool false, .slice none 0 0] := by simp [NoU]
 replace hZ10 := FR.kb hZ10 B3 nuw6 kw6
 replace oZ10 := OF.kb oZ10 B3 (by decide) kw6
 have xw_w6 := Ext.kb xw_w5 kw6 (by omega)
 replace B3 := Nw6
 clear Nw6 kw6
 have b3_w6 := B3.c4
 go_wp2_with fail
 clear hww5 hww6
 clear b1_w3 b2_w3 b4_w5 b3_w5 fb3_w5
 replace zw5 := le2 zw5
 replace zw6 := le2 zw6
 refine bodyPost_ret (v := .agg #[.bool Z10.N.b, .slice Z10.N.p Z10.N.n Z10.N.c, .bool Z10.D.b, .slice Z10.D.p Z10.D.n Z10.D.c]) (by simp [results, Tryz.results61, go_sem, b3_w6]) rfl ?_
 exact Gv.of_f (X := Z10) (hZ10) (oZ10) xw_w6

set_option maxRecDepth 100000 in
theorem lnot (X : Fr) (x : Rat) (w : World) (hX : FR w X x) (bx : Sz x) (bz : Sz (1 - x)) :
    Calls Tryz.prog 60 #[.agg #[.bool X.N.b, .slice X.N.p X.N.n X.N.c, .bool X.D.b, .slice X.D.p X.D.n X.D.c]] w (Gv (.f (1 - x)) w) := by
 obtain ⟨w1, hww1, ew1, B1, zw1⟩ := alloc_at w (w.heap.size) (by omega) #[.bool X.N.b, .slice X.N.p X.N.n X.N.c, .bool X.D.b, .slice X.D.p X.D.n X.D.c] 40
 obtain ⟨w2, hww2, ew2, B2, zw2⟩ := alloc_at w1 (w.heap.size + 1) (by omega) #[.bool false, .slice none 0 0, .bool false, .slice none 0 0] 40
 replace B1 := B1.ext ew2
 have b1_w2 := B1.c4
 have xw_w2 := eg ew1 ew2
 replace hX := hX.ext xw_w2
 go_enter Tryz.func60, Tryz.ntmps60
 go_wp2_with fail
 clear hww1 hww2
 replace zw1 := le2 zw1
 replace zw2 := le2 zw2
 refine regionS ⟨7, 6, 2, 40, 4, lvT⟩ 8 (fun kk => match kk with | 0 => some (.f (1)) | 2 => some (.fe (1 + -x) 0) | 6 => some (.boxS 40 4) | _ => none) (by as_aux_lemma => kernel_rfl) (head_of (by as_aux_lemma => kernel_rfl)) (by decide) ?hT1 rfl (pred_of (by as_aux_lemma => kernel_rfl)) (pred_of (by as_aux_lemma => kernel_rfl)) ?_
 case hT1 =>
  intro k t h
  split at h <;> first | (cases h; first | exact st_f _ | exact st_fe _ _ | exact st_bs _ _ | exact st_v _ | exact st_w _ | exact st_we _ _ | exact st_f0 _ | exact st_w0 _ | exact st_fn _ _ | exact st_ro _) | cases h
 refine Walk.tellS rfl rfl (.inl (by simp)) rfl (fun w1 hI hL K hK => ?_) ?_
 ·go_simp
  exact (fFromInt_1 w1).mono (tell hK)
 rintro _ ⟨Z6, rfl⟩
 simp only [Pq1]
 refine Walk.one (x := ?_) rfl rfl (fun w1 hI hL K hK => ?_) ?_
 rotate_left
 ·obtain ⟨hc, hf⟩ := bcell hI
  go_simp
  repeat (first | (go_ints; try go_simp) | (simp only [↓IntWalk.iteOmega]; try go_simp))
  exact hK
 simp only [Pq1]
 refine Walk.tellS rfl rfl (.inl (by simp)) rfl (fun w1 hI hL K hK => ?_) ?_
 ·go_simp
  exact (fSub Z6 X _ _ w1 ((Tl.getF (knS (i := 0) (v := .agg #[.bool Z6.N.b, .slice Z6.N.p Z6.N.n Z6.N.c, .bool Z6.D.b, .slice Z6.D.p Z6.D.n Z6.D.c]) rfl rfl (by simp) (pred_of (by as_aux_lemma => kernel_rfl)) hL)).1) ((hX).ext hI) (sz_one) (bx) (sz_sub bz)).mono (tell hK)
 rintro _ ⟨Z8, rfl⟩
 simp only [Pq1]
 iterate 3
  refine Walk.one (x := ?_) rfl rfl (fun w1 hI hL K hK => ?_) ?_
  rotate_left
  ·obtain ⟨hc, hf⟩ := bcell hI
   go_simp
   repeat (first | (go_ints; try go_simp) | (simp only [↓IntWalk.iteOmega]; try go_simp))
   exact hK
  simp only [Pq1]
 refine Walk.tellS rfl rfl (.inl (by simp)) rfl (fun w1 hI hL K hK => ?_) ?_
 ·go_simp
  exact tellBS rfl (by simp [NoU]) hK
 rintro _ ⟨g3, rfl⟩
 simp only [Pq1]
 refine Walk.storeS (g := g3) (vc := .tuple #[.agg #[.bool Z8.N.b, .slice Z8.N.p Z8.N.n Z8.N.c, .bool Z8.D.b, .slice Z8.D.p Z8.D.n Z8.D.c], .int .i64 0]) rfl rfl rfl rfl rfl (by simp) (pred_of (by as_aux_lemma => kernel_rfl)) (by simp) (by simp) (by simp) (fun c hc => splice4 (.bool Z8.N.b) (.slice Z8.N.p Z8.N.n Z8.N.c) (.bool Z8.D.b) (.slice Z8.D.p Z8.D.n Z8.D.c) c hc) (by simp [NoU, lvT]) (fun w1 c hI hC hc hL K hK => ?_) ?_
 ·obtain ⟨u0, c0⟩ := hC.some (k := 0) (by have hc2 : c.size = 4 := hc; omega)
  obtain ⟨u1, c1⟩ := hC.some (k := 1) (by have hc2 : c.size = 4 := hc; omega)
  obtain ⟨u2, c2⟩ := hC.some (k := 2) (by have hc2 : c.size = 4 := hc; omega)
  obtain ⟨u3, c3⟩ := hC.some (k := 3) (by have hc2 : c.size = 4 := hc; omega)
  have f0 := hC.frozen 0
  have f1 := hC.frozen 1
  have f2 := hC.frozen 2
  have f3 := hC.frozen 3
  go_simp
  exact hK
 intro vs
 simp only [Pq1]
 refine Walk.nilS (g := g3) (vc := .tuple #[.agg #[.bool Z8.N.b, .slice Z8.N.p Z8.N.n Z8.N.c, .bool Z8.D.b, .slice Z8.D.p Z8.D.n Z8.D.c], .int .i64 0]) (vs := vs) (by simp) (by simp) (by simp) (by decide) (by decide) fun w3 ew3 kzL kzC kzX => ?_
 have zw3 := ew3.size
 obtain ⟨hZ8, oZ8⟩ := Tl.getFe (kzS (i := 2) (v := .tuple #[.agg #[.bool Z8.N.b, .slice Z8.N.p Z8.N.n Z8.N.c, .bool Z8.D.b, .slice Z8.D.p Z8.D.n Z8.D.c], .int .i64 0]) rfl rfl (by simp) kzL)
 replace oZ8 := oZ8.mono xw_w2.size
 obtain ⟨B3, yB3⟩ := kzC
 replace B3 : Cells w3 (g3) 40 #[.bool Z8.N.b, .slice Z8.N.p Z8.N.n Z8.N.c, .bool Z8.D.b, .slice Z8.D.p Z8.D.n Z8.D.c] := B3
 have lB3 := B3.lt
 clear kzL kzX
 simp only [List.drop_succ_cons, List.drop_zero, List.drop_nil]
 have b3_w3 := B3.c4
 replace B2 := B2.ext ew3
 have b2_w3 := B2.c4
 have fb2_w3 := B2.f4
 have xw_w3 := eg xw_w2 ew3
 obtain ⟨w4, hww4, kw4, Nw4, zw4⟩ := B2.put4 (.bool Z8.N.b) (.slice Z8.N.p Z8.N.n Z8.N.c) (.bool Z8.D.b) (.slice Z8.D.p Z8.D.n Z8.D.c)
 have nuw4 : NoU #[.bool false, .slice none 0 0, .bool false, .slice none 0 0] := by simp [NoU]
 replace hZ8 := FR.kb hZ8 B2 nuw4 kw4
 replace oZ8 := OF.kb oZ8 B2 (by decide) kw4
 have xw_w4 := Ext.kb xw_w3 kw4 (by omega)
 replace B2 := Nw4
 clear Nw4 kw4
 have b2_w4 := B2.c4
 go_wp2_with fail
 clear hww4
 clear b1_w2 b3_w3 b2_w3 fb2_w3
 replace zw4 := le2 zw4
 refine bodyPost_ret (v := .agg #[.bool Z8.N.b, .slice Z8.N.p Z8.N.n Z8.N.c, .bool Z8.D.b, .slice Z8.D.p Z8.D.n Z8.D.c]) (by simp [results, Tryz.results60, go_sem, b2_w4]) rfl ?_
 exact Gv.of_f (X := Z8) (FR.cast hZ8 (add_neg' 1 x)) oZ8 xw_w4

set_option maxRecDepth 100000 in
theorem lrate1 (X : Fr) (l m : List Nat) (w : World) (hX : UF w X l m) (h1 : ¬ X.N.n ≤ 1) :
    Calls Tryz.prog 38 #[.agg #[.bool X.N.b, .slice X.N.p X.N.n X.N.c, .bool X.D.b, .slice X.D.p X.D.n X.D.c]] w (Gv (.v (.bool false)) w) := by
 have d1 : decide (((X.N.n : Nat) : Int) ≤ 1) = false := by simp; omega
 have e1 : decide (X.N.n ≤ 1) = false := by simp; omega
 obtain ⟨w1, hww1, ew1, B1, zw1⟩ := alloc_at w (w.heap.size) (by omega) #[.bool X.N.b, .slice X.N.p X.N.n X.N.c, .bool X.D.b, .slice X.D.p X.D.n X.D.c] 40
 have b1_w1 := B1.c4
 go_enter Tryz.func38, Tryz.ntmps38
 go_wp2_with fail
 clear hww1
 replace zw1 := le2 zw1
 refine regionT 28 (fun _ => none) (by as_aux_lemma => kernel_rfl) (head_of (by as_aux_lemma => kernel_rfl)) ?_
 iterate 6
  refine Walk.one (x := ?_) rfl rfl (fun w1 hI hL K hK => ?_) ?_
  rotate_left
  ·obtain ⟨hc, hf⟩ := bcell hI
   go_simp
   repeat (first | (go_ints; try go_simp) | (simp only [↓IntWalk.iteOmega]; try go_simp))
   exact hK
  simp only [Pq1]
 refine Walk.skip rfl (by as_aux_lemma => kernel_rfl) ?_
 simp only [Pq1]
 refine Walk.skip rfl (by as_aux_lemma => kernel_rfl) ?_
 simp only [Pq1]
 refine Walk.skip rfl (by as_aux_lemma => kernel_rfl) ?_
 simp only [Pq1]
 refine Walk.skip rfl (by as_aux_lemma => kernel_rfl) ?_
 simp only [Pq1]
 refine Walk.skip rfl (by as_aux_lemma => kernel_rfl) ?_
 simp only [Pq1]
 iterate 2
  refine Walk.one (x := ?_) rfl rfl (fun w1 hI hL K hK => ?_) ?_
  rotate_left
  ·obtain ⟨hc, hf⟩ := bcell hI
   go_simp
   repeat (first | (go_ints; try go_simp) | (simp only [↓IntWalk.iteOmega]; try go_simp))
   exact hK
  simp only [Pq1]
 refine Walk.skip rfl (by as_aux_lemma => kernel_rfl) ?_
 simp only [Pq1]
 refine Walk.skip rfl (by as_aux_lemma => kernel_rfl) ?_
 simp only [Pq1]
 refine Walk.skip rfl (by as_aux_lemma => kernel_rfl) ?_
 simp only [Pq1]
 refine Walk.skip rfl (by as_aux_lemma => kernel_rfl) ?_
 simp only [Pq1]
 iterate 2
  refine Walk.one (x := ?_) rfl rfl (fun w1 hI hL K hK => ?_) ?_
  rotate_left
  ·obtain ⟨hc, hf⟩ := bcell hI
   go_simp
   repeat (first | (go_ints; try go_simp) | (simp only [↓IntWalk.iteOmega]; try go_simp))
   exact hK
  simp only [Pq1]
 refine Walk.skip rfl (by as_aux_lemma => kernel_rfl) ?_
 simp only [Pq1]
 refine Walk.skip rfl (by as_aux_lemma => kernel_rfl) ?_
 simp only [Pq1]
 iterate 2
  refine Walk.one (x := ?_) rfl rfl (fun w1 hI hL K hK => ?_) ?_
  rotate_left
  ·obtain ⟨hc, hf⟩ := bcell hI
   go_simp
   repeat (first | (go_ints; try go_simp) | (simp only [↓IntWalk.iteOmega]; try go_simp))
   exact hK
  simp only [Pq1]
 refine Walk.skip rfl (by as_aux_lemma => kernel_rfl) ?_
 simp only [Pq1]
 refine Walk.skip rfl (by as_aux_lemma => kernel_rfl) ?_
 simp only [Pq1]
 refine Walk.skip rfl (by as_aux_lemma => kernel_rfl) ?_
 simp only [Pq1]
 refine Walk.skip rfl (by as_aux_lemma => kernel_rfl) ?_
 simp only [Pq1]
 refine Walk.one (x := ?_) rfl rfl (fun w1 hI hL K hK => ?_) ?_
 rotate_left
 ·obtain ⟨hc, hf⟩ := bcell hI
  go_simp
  repeat (first | (go_ints; try go_simp) | (simp only [↓IntWalk.iteOmega]; try go_simp))
  exact hK
 simp only [Pq1]
 refine Walk.nilF fun w2 ew2 kzL kzX => ?_
 have zw2 := ew2.size
 clear kzL kzX
 simp only [List.drop_succ_cons, List.drop_zero, List.drop_nil]
 have xw_w2 := eg ew1 ew2
 go_wp2_with fail
 clear b1_w1
 refine bodyPost_ret (v := .bool false) (by simp [results, Tryz.results38, go_sem]) rfl ?_
 exact Gv.of_v xw_w2

set_option maxRecDepth 100000 in
theorem lrate2 (X : Fr) (l m : List Nat) (w : World) (hX : UF w X l m) (h1 : X.N.n ≤ 1) (h2 : ¬ X.D.n ≤ 1) :
    Calls Tryz.prog 38 #[.agg #[.bool X.N.b, .slice X.N.p X.N.n X.N.c, .bool X.D.b, .slice X.D.p X.D.n X.D.c]] w (Gv (.v (.bool false)) w) := by
 have d1 : decide (((X.N.n : Nat) : Int) ≤ 1) = true := by simp; omega
 have e1 : decide (X.N.n ≤ 1) = true := by simp; omega
 have d2 : decide (((X.D.n : Nat) : Int) ≤ 1) = false := by simp; omega
 have e2 : decide (X.D.n ≤ 1) = false := by simp; omega
 obtain ⟨w1, hww1, ew1, B1, zw1⟩ := alloc_at w (w.heap.size) (by omega) #[.bool X.N.b, .slice X.N.p X.N.n X.N.c, .bool X.D.b, .slice X.D.p X.D.n X.D.c] 40
 have b1_w1 := B1.c4
 go_enter Tryz.func38, Tryz.ntmps38
 go_wp2_with fail
 clear hww1
 replace zw1 := le2 zw1
 refine regionT 28 (fun _ => none) (by as_aux_lemma => kernel_rfl) (head_of (by as_aux_lemma => kernel_rfl)) ?_
 iterate 6
  refine Walk.one (x := ?_) rfl rfl (fun w1 hI hL K hK => ?_) ?_
  rotate_left
  ·obtain ⟨hc, hf⟩ := bcell hI
   go_simp
   repeat (first | (go_ints; try go_simp) | (simp only [↓IntWalk.iteOmega]; try go_simp))
   exact hK
  simp only [Pq1]
 refine Walk.oneG (x := ?_) rfl (by as_aux_lemma => kernel_rfl) (fun w1 hI hL K hK => ?_) ?_
 rotate_left
 ·obtain ⟨hc, hf⟩ := bcell hI
  go_simp
  repeat (first | (go_ints; try go_simp) | (simp only [↓IntWalk.iteOmega]; try go_simp))
  exact hK
 simp only [Pq1]
 refine Walk.oneG (x := ?_) rfl (by as_aux_lemma => kernel_rfl) (fun w1 hI hL K hK => ?_) ?_
 rotate_left
 ·obtain ⟨hc, hf⟩ := bcell hI
  go_simp
  repeat (first | (go_ints; try go_simp) | (simp only [↓IntWalk.iteOmega]; try go_simp))
  exact hK
 simp only [Pq1]
 refine Walk.oneG (x := ?_) rfl (by as_aux_lemma => kernel_rfl) (fun w1 hI hL K hK => ?_) ?_
 rotate_left
 ·obtain ⟨hc, hf⟩ := bcell hI
  go_simp
  repeat (first | (go_ints; try go_simp) | (simp only [↓IntWalk.iteOmega]; try go_simp))
  exact hK
 simp only [Pq1]
 refine Walk.oneG (x := ?_) rfl (by as_aux_lemma => kernel_rfl) (fun w1 hI hL K hK => ?_) ?_
 rotate_left
 ·obtain ⟨hc, hf⟩ := bcell hI
  go_simp
  repeat (first | (go_ints; try go_simp) | (simp only [↓IntWalk.iteOmega]; try go_simp))
  exact hK
 simp only [Pq1]
 refine Walk.oneG (x := ?_) rfl (by as_aux_lemma => kernel_rfl) (fun w1 hI hL K hK => ?_) ?_
 rotate_left
 ·obtain ⟨hc, hf⟩ := bcell hI
  go_simp
  repeat (first | (go_ints; try go_simp) | (simp only [↓IntWalk.iteOmega]; try go_simp))
  exact hK
 simp only [Pq1]
 iterate 2
  refine Walk.one (x := ?_) rfl rfl (fun w1 hI hL K hK => ?_) ?_
  rotate_left
  ·obtain ⟨hc, hf⟩ := bcell hI
   go_simp
   repeat (first | (go_ints; try go_simp) | (simp only [↓IntWalk.iteOmega]; try go_simp))
   exact hK
  simp only [Pq1]
 refine Walk.skip rfl (by as_aux_lemma => kernel_rfl) ?_
 simp only [Pq1]
 refine Walk.skip rfl (by as_aux_lemma => kernel_rfl) ?_
 simp only [Pq1]
 refine Walk.skip rfl (by as_aux_lemma => kernel_rfl) ?_
 simp only [Pq1]
 refine Walk.skip rfl (by as_aux_lemma => kernel_rfl) ?_
 simp only [Pq1]
 iterate 2
  refine Walk.one (x := ?_) rfl rfl (fun w1 hI hL K hK => ?_) ?_
  rotate_left
  ·obtain ⟨hc, hf⟩ := bcell hI
   go_simp
   repeat (first | (go_ints; try go_simp) | (simp only [↓IntWalk.iteOmega]; try go_simp))
   exact hK
  simp only [Pq1]
 refine Walk.skip rfl (by as_aux_lemma => kernel_rfl) ?_
 simp only [Pq1]
 refine Walk.skip rfl (by as_aux_lemma => kernel_rfl) ?_
 simp only [Pq1]
 iterate 2
  refine Walk.one (x := ?_) rfl rfl (fun w1 hI hL K hK => ?_) ?_
  rotate_left
  ·obtain ⟨hc, hf⟩ := bcell hI
   go_simp
   repeat (first | (go_ints; try go_simp) | (simp only [↓IntWalk.iteOmega]; try go_simp))
   exact hK
  simp only [Pq1]
 refine Walk.skip rfl (by as_aux_lemma => kernel_rfl) ?_
 simp only [Pq1]
 refine Walk.skip rfl (by as_aux_lemma => kernel_rfl) ?_
 simp only [Pq1]
 refine Walk.skip rfl (by as_aux_lemma => kernel_rfl) ?_
 simp only [Pq1]
 refine Walk.skip rfl (by as_aux_lemma => kernel_rfl) ?_
 simp only [Pq1]
 refine Walk.one (x := ?_) rfl rfl (fun w1 hI hL K hK => ?_) ?_
 rotate_left
 ·obtain ⟨hc, hf⟩ := bcell hI
  go_simp
  repeat (first | (go_ints; try go_simp) | (simp only [↓IntWalk.iteOmega]; try go_simp))
  exact hK
 simp only [Pq1]
 refine Walk.nilF fun w2 ew2 kzL kzX => ?_
 have zw2 := ew2.size
 clear kzL kzX
 simp only [List.drop_succ_cons, List.drop_zero, List.drop_nil]
 have xw_w2 := eg ew1 ew2
 go_wp2_with fail
 clear b1_w1
 refine bodyPost_ret (v := .bool false) (by simp [results, Tryz.results38, go_sem]) rfl ?_
 exact Gv.of_v xw_w2

set_option maxRecDepth 100000 in
theorem lrate3 (XNp : Option Addr) (XNn : Nat) (XNc : Nat) (XDb : Bool) (XDp : Option Addr) (XDn : Nat) (XDc : Nat) (l m : List Nat) (w : World) (hX : UF w ⟨⟨true, XNp, XNn, XNc⟩, ⟨XDb, XDp, XDn, XDc⟩⟩ l m) (h1 : XNn ≤ 1) (h2 : XDn ≤ 1) :
    Calls Tryz.prog 38 #[.agg #[.bool true, .slice XNp XNn XNc, .bool XDb, .slice XDp XDn XDc]] w (Gv (.v (.bool false)) w) := by
 have d1 : decide (((XNn : Nat) : Int) ≤ 1) = true := by simp; omega
 have e1 : decide (XNn ≤ 1) = true := by simp; omega
 have d2 : decide (((XDn : Nat) : Int) ≤ 1) = true := by simp; omega
 have e2 : decide (XDn ≤ 1) = true := by simp; omega
 obtain ⟨w1, hww1, ew1, B1, zw1⟩ := alloc_at w (w.heap.size) (by omega) #[.bool true, .slice XNp XNn XNc, .bool XDb, .slice XDp XDn XDc] 40
 have b1_w1 := B1.c4
 go_enter Tryz.func38, Tryz.ntmps38
 go_wp2_with fail
 clear hww1
 replace zw1 := le2 zw1
 refine regionT 28 (fun _ => none) (by as_aux_lemma => kernel_rfl) (head_of (by as_aux_lemma => kernel_rfl)) ?_
 iterate 6
  refine Walk.one (x := ?_) rfl rfl (fun w1 hI hL K hK => ?_) ?_
  rotate_left
  ·obtain ⟨hc, hf⟩ := bcell hI
   go_simp
   repeat (first | (go_ints; try go_simp) | (simp only [↓IntWalk.iteOmega]; try go_simp))
   exact hK
  simp only [Pq1]
 refine Walk.oneG (x := ?_) rfl (by as_aux_lemma => kernel_rfl) (fun w1 hI hL K hK => ?_) ?_
 rotate_left
 ·obtain ⟨hc, hf⟩ := bcell hI
  go_simp
  repeat (first | (go_ints; try go_simp) | (simp only [↓IntWalk.iteOmega]; try go_simp))
  exact hK
 simp only [Pq1]
 refine Walk.oneG (x := ?_) rfl (by as_aux_lemma => kernel_rfl) (fun w1 hI hL K hK => ?_) ?_
 rotate_left
 ·obtain ⟨hc, hf⟩ := bcell hI
  go_simp
  repeat (first | (go_ints; try go_simp) | (simp only [↓IntWalk.iteOmega]; try go_simp))
  exact hK
 simp only [Pq1]
 refine Walk.oneG (x := ?_) rfl (by as_aux_lemma => kernel_rfl) (fun w1 hI hL K hK => ?_) ?_
 rotate_left
 ·obtain ⟨hc, hf⟩ := bcell hI
  go_simp
  repeat (first | (go_ints; try go_simp) | (simp only [↓IntWalk.iteOmega]; try go_simp))
  exact hK
 simp only [Pq1]
 refine Walk.oneG (x := ?_) rfl (by as_aux_lemma => kernel_rfl) (fun w1 hI hL K hK => ?_) ?_
 rotate_left
 ·obtain ⟨hc, hf⟩ := bcell hI
  go_simp
  repeat (first | (go_ints; try go_simp) | (simp only [↓IntWalk.iteOmega]; try go_simp))
  exact hK
 simp only [Pq1]
 refine Walk.oneG (x := ?_) rfl (by as_aux_lemma => kernel_rfl) (fun w1 hI hL K hK => ?_) ?_
 rotate_left
 ·obtain ⟨hc, hf⟩ := bcell hI
  go_simp
  repeat (first | (go_ints; try go_simp) | (simp only [↓IntWalk.iteOmega]; try go_simp))
  exact hK
 simp only [Pq1]
 iterate 2
  refine Walk.one (x := ?_) rfl rfl (fun w1 hI hL K hK => ?_) ?_
  rotate_left
  ·obtain ⟨hc, hf⟩ := bcell hI
   go_simp
   repeat (first | (go_ints; try go_simp) | (simp only [↓IntWalk.iteOmega]; try go_simp))
   exact hK
  simp only [Pq1]
 refine Walk.oneG (x := ?_) rfl (by as_aux_lemma => kernel_rfl) (fun w1 hI hL K hK => ?_) ?_
 rotate_left
 ·obtain ⟨hc, hf⟩ := bcell hI
  go_simp
  repeat (first | (go_ints; try go_simp) | (simp only [↓IntWalk.iteOmega]; try go_simp))
  exact hK
 simp only [Pq1]
 refine Walk.oneG (x := ?_) rfl (by as_aux_lemma => kernel_rfl) (fun w1 hI hL K hK => ?_) ?_
 rotate_left
 ·obtain ⟨hc, hf⟩ := bcell hI
  go_simp
  repeat (first | (go_ints; try go_simp) | (simp only [↓IntWalk.iteOmega]; try go_simp))
  exact hK
 simp only [Pq1]
 refine Walk.oneG (x := ?_) rfl (by as_aux_lemma => kernel_rfl) (fun w1 hI hL K hK => ?_) ?_
 rotate_left
 ·obtain ⟨hc, hf⟩ := bcell hI
  go_simp
  repeat (first | (go_ints; try go_simp) | (simp only [↓IntWalk.iteOmega]; try go_simp))
  exact hK
 simp only [Pq1]
 refine Walk.oneG (x := ?_) rfl (by as_aux_lemma => kernel_rfl) (fun w1 hI hL K hK => ?_) ?_
 rotate_left
 ·obtain ⟨hc, hf⟩ := bcell hI
  go_simp
  repeat (first | (go_ints; try go_simp) | (simp only [↓IntWalk.iteOmega]; try go_simp))
  exact hK
 simp only [Pq1]
 iterate 2
  refine Walk.one (x := ?_) rfl rfl (fun w1 hI hL K hK => ?_) ?_
  rotate_left
  ·obtain ⟨hc, hf⟩ := bcell hI
   go_simp
   repeat (first | (go_ints; try go_simp) | (simp only [↓IntWalk.iteOmega]; try go_simp))
   exact hK
  simp only [Pq1]
 refine Walk.skip rfl (by as_aux_lemma => kernel_rfl) ?_
 simp only [Pq1]
 refine Walk.skip rfl (by as_aux_lemma => kernel_rfl) ?_
 simp only [Pq1]
 iterate 2
  refine Walk.one (x := ?_) rfl rfl (fun w1 hI hL K hK => ?_) ?_
  rotate_left
  ·obtain ⟨hc, hf⟩ := bcell hI
   go_simp
   repeat (first | (go_ints; try go_simp) | (simp only [↓IntWalk.iteOmega]; try go_simp))
   exact hK
  simp only [Pq1]
 refine Walk.skip rfl (by as_aux_lemma => kernel_rfl) ?_
 simp only [Pq1]
 refine Walk.skip rfl (by as_aux_lemma => kernel_rfl) ?_
 simp only [Pq1]
 refine Walk.skip rfl (by as_aux_lemma => kernel_rfl) ?_
 simp only [Pq1]
 refine Walk.skip rfl (by as_aux_lemma => kernel_rfl) ?_
 simp only [Pq1]
 refine Walk.one (x := ?_) rfl rfl (fun w1 hI hL K hK => ?_) ?_
 rotate_left
 ·obtain ⟨hc, hf⟩ := bcell hI
  go_simp
  repeat (first | (go_ints; try go_simp) | (simp only [↓IntWalk.iteOmega]; try go_simp))
  exact hK
 simp only [Pq1]
 refine Walk.nilF fun w2 ew2 kzL kzX => ?_
 have zw2 := ew2.size
 clear kzL kzX
 simp only [List.drop_succ_cons, List.drop_zero, List.drop_nil]
 have xw_w2 := eg ew1 ew2
 go_wp2_with fail
 clear b1_w1
 refine bodyPost_ret (v := .bool false) (by simp [results, Tryz.results38, go_sem]) rfl ?_
 exact Gv.of_v xw_w2

theorem fValid_b (X : Fr) (l m : List Nat) (w : World) (h : UF w X l m) {b : Bool} (hb : okF X.N.b l X.D.b m = b) : Calls Tryz.prog 70 #[.agg #[.bool X.N.b, .slice X.N.p X.N.n X.N.c, .bool X.D.b, .slice X.D.p X.D.n X.D.c]] w (Gv (.v (.bool b)) w) := hb ▸ fValid X l m w h
theorem fValid_q (X : Fr) (x : Rat) (w : World) (h : FR w X x) (b : Sz x) : Calls Tryz.prog 70 #[.agg #[.bool X.N.b, .slice X.N.p X.N.n X.N.c, .bool X.D.b, .slice X.D.p X.D.n X.D.c]] w (Gv (.v (.bool true)) w) := fValid_b X _ _ w ⟨h.1.u16.2, h.2.u16.2⟩ (okF_of h b)

set_option maxRecDepth 100000 in
theorem lrate4 (XNp : Option Addr) (XNn : Nat) (XNc : Nat) (XDb : Bool) (XDp : Option Addr) (XDn : Nat) (XDc : Nat) (l m : List Nat) (w : World) (hX : UF w ⟨⟨false, XNp, XNn, XNc⟩, ⟨XDb, XDp, XDn, XDc⟩⟩ l m) (h1 : XNn ≤ 1) (h2 : XDn ≤ 1) (h3 : okF false l XDb m = false) :
    Calls Tryz.prog 38 #[.agg #[.bool false, .slice XNp XNn XNc, .bool XDb, .slice XDp XDn XDc]] w (Gv (.v (.bool false)) w) := by
 have H3 := Lib.hid h3
 clear h3
 have d1 : decide (((XNn : Nat) : Int) ≤ 1) = true := by simp; omega
 have e1 : decide (XNn ≤ 1) = true := by simp; omega
 have d2 : decide (((XDn : Nat) : Int) ≤ 1) = true := by simp; omega
 have e2 : decide (XDn ≤ 1) = true := by simp; omega
 obtain ⟨w1, hww1, ew1, B1, zw1⟩ := alloc_at w (w.heap.size) (by omega) #[.bool false, .slice XNp XNn XNc, .bool XDb, .slice XDp XDn XDc] 40
 have b1_w1 := B1.c4
 replace hX := hX.ext ew1
 go_enter Tryz.func38, Tryz.ntmps38
 go_wp2_with fail
 clear hww1
 replace zw1 := le2 zw1
 refine regionT 28 (fun kk => match kk with | 20 => some (.v (.bool false)) | _ => none) (by as_aux_lemma => kernel_rfl) (head_of (by as_aux_lemma => kernel_rfl)) ?_
 iterate 6
  refine Walk.one (x := ?_) rfl rfl (fun w1 hI hL K hK => ?_) ?_
  rotate_left
  ·obtain ⟨hc, hf⟩ := bcell hI
   go_simp
   repeat (first | (go_ints; try go_simp) | (simp only [↓IntWalk.iteOmega]; try go_simp))
   exact hK
  simp only [Pq1]
 refine Walk.oneG (x := ?_) rfl (by as_aux_lemma => kernel_rfl) (fun w1 hI hL K hK => ?_) ?_
 rotate_left
 ·obtain ⟨hc, hf⟩ := bcell hI
  go_simp
  repeat (first | (go_ints; try go_simp) | (simp only [↓IntWalk.iteOmega]; try go_simp))
  exact hK
 simp only [Pq1]
 refine Walk.oneG (x := ?_) rfl (by as_aux_lemma => kernel_rfl) (fun w1 hI hL K hK => ?_) ?_
 rotate_left
 ·obtain ⟨hc, hf⟩ := bcell hI
  go_simp
  repeat (first | (go_ints; try go_simp) | (simp only [↓IntWalk.iteOmega]; try go_simp))
  exact hK
 simp only [Pq1]
 refine Walk.oneG (x := ?_) rfl (by as_aux_lemma => kernel_rfl) (fun w1 hI hL K hK => ?_) ?_
 rotate_left
 ·obtain ⟨hc, hf⟩ := bcell hI
  go_simp
  repeat (first | (go_ints; try go_simp) | (simp only [↓IntWalk.iteOmega]; try go_simp))
  exact hK
 simp only [Pq1]
 refine Walk.oneG (x := ?_) rfl (by as_aux_lemma => kernel_rfl) (fun w1 hI hL K hK => ?_) ?_
 rotate_left
 ·obtain ⟨hc, hf⟩ := bcell hI
  go_simp
  repeat (first | (go_ints; try go_simp) | (simp only [↓IntWalk.iteOmega]; try go_simp))
  exact hK
 simp only [Pq1]
 refine Walk.oneG (x := ?_) rfl (by as_aux_lemma => kernel_rfl) (fun w1 hI hL K hK => ?_) ?_
 rotate_left
 ·obtain ⟨hc, hf⟩ := bcell hI
  go_simp
  repeat (first | (go_ints; try go_simp) | (simp only [↓IntWalk.iteOmega]; try go_simp))
  exact hK
 simp only [Pq1]
 iterate 2
  refine Walk.one (x := ?_) rfl rfl (fun w1 hI hL K hK => ?_) ?_
  rotate_left
  ·obtain ⟨hc, hf⟩ := bcell hI
   go_simp
   repeat (first | (go_ints; try go_simp) | (simp only [↓IntWalk.iteOmega]; try go_simp))
   exact hK
  simp only [Pq1]
 refine Walk.oneG (x := ?_) rfl (by as_aux_lemma => kernel_rfl) (fun w1 hI hL K hK => ?_) ?_
 rotate_left
 ·obtain ⟨hc, hf⟩ := bcell hI
  go_simp
  repeat (first | (go_ints; try go_simp) | (simp only [↓IntWalk.iteOmega]; try go_simp))
  exact hK
 simp only [Pq1]
 refine Walk.oneG (x := ?_) rfl (by as_aux_lemma => kernel_rfl) (fun w1 hI hL K hK => ?_) ?_
 rotate_left
 ·obtain ⟨hc, hf⟩ := bcell hI
  go_simp
  repeat (first | (go_ints; try go_simp) | (simp only [↓IntWalk.iteOmega]; try go_simp))
  exact hK
 simp only [Pq1]
 refine Walk.oneG (x := ?_) rfl (by as_aux_lemma => kernel_rfl) (fun w1 hI hL K hK => ?_) ?_
 rotate_left
 ·obtain ⟨hc, hf⟩ := bcell hI
  go_simp
  repeat (first | (go_ints; try go_simp) | (simp only [↓IntWalk.iteOmega]; try go_simp))
  exact hK
 simp only [Pq1]
 refine Walk.oneG (x := ?_) rfl (by as_aux_lemma => kernel_rfl) (fun w1 hI hL K hK => ?_) ?_
 rotate_left
 ·obtain ⟨hc, hf⟩ := bcell hI
  go_simp
  repeat (first | (go_ints; try go_simp) | (simp only [↓IntWalk.iteOmega]; try go_simp))
  exact hK
 simp only [Pq1]
 iterate 2
  refine Walk.one (x := ?_) rfl rfl (fun w1 hI hL K hK => ?_) ?_
  rotate_left
  ·obtain ⟨hc, hf⟩ := bcell hI
   go_simp
   repeat (first | (go_ints; try go_simp) | (simp only [↓IntWalk.iteOmega]; try go_simp))
   exact hK
  simp only [Pq1]
 refine Walk.oneG (x := ?_) rfl (by as_aux_lemma => kernel_rfl) (fun w1 hI hL K hK => ?_) ?_
 rotate_left
 ·obtain ⟨hc, hf⟩ := bcell hI
  go_simp
  repeat (first | (go_ints; try go_simp) | (simp only [↓IntWalk.iteOmega]; try go_simp))
  exact hK
 simp only [Pq1]
 refine Walk.tellG rfl (by as_aux_lemma => kernel_rfl) (fun w1 hI hL K hK => ?_) ?_
 ·go_simp
  exact (fValid_b ⟨⟨false, XNp, XNn, XNc⟩, ⟨XDb, XDp, XDn, XDc⟩⟩ l m w1 ((hX).ext hI) H3.out).mono (tell hK)
 rintro _ rfl
 simp only [Pq1]
 iterate 2
  refine Walk.one (x := ?_) rfl rfl (fun w1 hI hL K hK => ?_) ?_
  rotate_left
  ·obtain ⟨hc, hf⟩ := bcell hI
   go_simp
   repeat (first | (go_ints; try go_simp) | (simp only [↓IntWalk.iteOmega]; try go_simp))
   exact hK
  simp only [Pq1]
 refine Walk.skip rfl (by as_aux_lemma => kernel_rfl) ?_
 simp only [Pq1]
 refine Walk.skip rfl (by as_aux_lemma => kernel_rfl) ?_
 simp only [Pq1]
 refine Walk.skip rfl (by as_aux_lemma => kernel_rfl) ?_
 simp only [Pq1]
 refine Walk.skip rfl (by as_aux_lemma => kernel_rfl) ?_
 simp only [Pq1]
 refine Walk.one (x := ?_) rfl rfl (fun w1 hI hL K hK => ?_) ?_
 rotate_left
 ·obtain ⟨hc, hf⟩ := bcell hI
  go_simp
  repeat (first | (go_ints; try go_simp) | (simp only [↓IntWalk.iteOmega]; try go_simp))
  exact hK
 simp only [Pq1]
 refine Walk.nilF fun w2 ew2 kzL kzX => ?_
 have zw2 := ew2.size
 clear kzL kzX
 simp only [List.drop_succ_cons, List.drop_zero, List.drop_nil]
 have xw_w2 := eg ew1 ew2
 go_wp2_with fail
 clear b1_w1
 refine bodyPost_ret (v := .bool false) (by simp [results, Tryz.results38, go_sem]) rfl ?_
 exact Gv.of_v xw_w2

set_option maxRecDepth 100000 in
theorem lrate5t (XNp : Option Addr) (XNn : Nat) (XNc : Nat) (XDb : Bool) (XDp : Option Addr) (XDn : Nat) (XDc : Nat) (x : Rat) (w : World) (hX : FR w ⟨⟨false, XNp, XNn, XNc⟩, ⟨XDb, XDp, XDn, XDc⟩⟩ x) (h1 : XNn ≤ 1) (h2 : XDn ≤ 1) (bx : Sz x) (hc : decide (cmpQ x 1 ≤ 0) = true) :
    Calls Tryz.prog 38 #[.agg #[.bool false, .slice XNp XNn XNc, .bool XDb, .slice XDp XDn XDc]] w (Gv (.v (.bool true)) w) := by
 have d1 : decide (((XNn : Nat) : Int) ≤ 1) = true := by simp; omega
 have e1 : decide (XNn ≤ 1) = true := by simp; omega
 have d2 : decide (((XDn : Nat) : Int) ≤ 1) = true := by simp; omega
 have e2 : decide (XDn ≤ 1) = true := by simp; omega
 obtain ⟨w1, hww1, ew1, B1, zw1⟩ := alloc_at w (w.heap.size) (by omega) #[.bool false, .slice XNp XNn XNc, .bool XDb, .slice XDp XDn XDc] 40
 have b1_w1 := B1.c4
 replace hX := hX.ext ew1
 go_enter Tryz.func38, Tryz.ntmps38
 go_wp2_with fail
 clear hww1
 replace zw1 := le2 zw1
 refine regionT 28 (fun kk => match kk with | 20 => some (.v (.bool true)) | 24 => some (.f (1)) | 25 => some (.v (.int .i64 (cmpQ x 1))) | _ => none) (by as_aux_lemma => kernel_rfl) (head_of (by as_aux_lemma => kernel_rfl)) ?_
 iterate 6
  refine Walk.one (x := ?_) rfl rfl (fun w1 hI hL K hK => ?_) ?_
  rotate_left
  ·obtain ⟨hc, hf⟩ := bcell hI
   go_simp
   repeat (first | (go_ints; try go_simp) | (simp only [↓IntWalk.iteOmega]; try go_simp))
   exact hK
  simp only [Pq1]
 refine Walk.oneG (x := ?_) rfl (by as_aux_lemma => kernel_rfl) (fun w1 hI hL K hK => ?_) ?_
 rotate_left
 ·obtain ⟨hc, hf⟩ := bcell hI
  go_simp
  repeat (first | (go_ints; try go_simp) | (simp only [↓IntWalk.iteOmega]; try go_simp))
  exact hK
 simp only [Pq1]
 refine Walk.oneG (x := ?_) rfl (by as_aux_lemma => kernel_rfl) (fun w1 hI hL K hK => ?_) ?_
 rotate_left
 ·obtain ⟨hc, hf⟩ := bcell hI
  go_simp
  repeat (first | (go_ints; try go_simp) | (simp only [↓IntWalk.iteOmega]; try go_simp))
  exact hK
 simp only [Pq1]
 refine Walk.oneG (x := ?_) rfl (by as_aux_lemma => kernel_rfl) (fun w1 hI hL K hK => ?_) ?_
 rotate_left
 ·obtain ⟨hc, hf⟩ := bcell hI
  go_simp
  repeat (first | (go_ints; try go_simp) | (simp only [↓IntWalk.iteOmega]; try go_simp))
  exact hK
 simp only [Pq1]
 refine Walk.oneG (x := ?_) rfl (by as_aux_lemma => kernel_rfl) (fun w1 hI hL K hK => ?_) ?_
 rotate_left
 ·obtain ⟨hc, hf⟩ := bcell hI
  go_simp
  repeat (first | (go_ints; try go_simp) | (simp only [↓IntWalk.iteOmega]; try go_simp))
  exact hK
 simp only [Pq1]
 refine Walk.oneG (x := ?_) rfl (by as_aux_lemma => kernel_rfl) (fun w1 hI hL K hK => ?_) ?_
 rotate_left
 ·obtain ⟨hc, hf⟩ := bcell hI
  go_simp
  repeat (first | (go_ints; try go_simp) | (simp only [↓IntWalk.iteOmega]; try go_simp))
  exact hK
 simp only [Pq1]
 iterate 2
  refine Walk.one (x := ?_) rfl rfl (fun w1 hI hL K hK => ?_) ?_
  rotate_left
  ·obtain ⟨hc, hf⟩ := bcell hI
   go_simp
   repeat (first | (go_ints; try go_simp) | (simp only [↓IntWalk.iteOmega]; try go_simp))
   exact hK
  simp only [Pq1]
 refine Walk.oneG (x := ?_) rfl (by as_aux_lemma => kernel_rfl) (fun w1 hI hL K hK => ?_) ?_
 rotate_left
 ·obtain ⟨hc, hf⟩ := bcell hI
  go_simp
  repeat (first | (go_ints; try go_simp) | (simp only [↓IntWalk.iteOmega]; try go_simp))
  exact hK
 simp only [Pq1]
 refine Walk.oneG (x := ?_) rfl (by as_aux_lemma => kernel_rfl) (fun w1 hI hL K hK => ?_) ?_
 rotate_left
 ·obtain ⟨hc, hf⟩ := bcell hI
  go_simp
  repeat (first | (go_ints; try go_simp) | (simp only [↓IntWalk.iteOmega]; try go_simp))
  exact hK
 simp only [Pq1]
 refine Walk.oneG (x := ?_) rfl (by as_aux_lemma => kernel_rfl) (fun w1 hI hL K hK => ?_) ?_
 rotate_left
 ·obtain ⟨hc, hf⟩ := bcell hI
  go_simp
  repeat (first | (go_ints; try go_simp) | (simp only [↓IntWalk.iteOmega]; try go_simp))
  exact hK
 simp only [Pq1]
 refine Walk.oneG (x := ?_) rfl (by as_aux_lemma => kernel_rfl) (fun w1 hI hL K hK => ?_) ?_
 rotate_left
 ·obtain ⟨hc, hf⟩ := bcell hI
  go_simp
  repeat (first | (go_ints; try go_simp) | (simp only [↓IntWalk.iteOmega]; try go_simp))
  exact hK
 simp only [Pq1]
 iterate 2
  refine Walk.one (x := ?_) rfl rfl (fun w1 hI hL K hK => ?_) ?_
  rotate_left
  ·obtain ⟨hc, hf⟩ := bcell hI
   go_simp
   repeat (first | (go_ints; try go_simp) | (simp only [↓IntWalk.iteOmega]; try go_simp))
   exact hK
  simp only [Pq1]
 refine Walk.oneG (x := ?_) rfl (by as_aux_lemma => kernel_rfl) (fun w1 hI hL K hK => ?_) ?_
 rotate_left
 ·obtain ⟨hc, hf⟩ := bcell hI
  go_simp
  repeat (first | (go_ints; try go_simp) | (simp only [↓IntWalk.iteOmega]; try go_simp))
  exact hK
 simp only [Pq1]
 refine Walk.tellG rfl (by as_aux_lemma => kernel_rfl) (fun w1 hI hL K hK => ?_) ?_
 ·go_simp
  exact (fValid_q ⟨⟨false, XNp, XNn, XNc⟩, ⟨XDb, XDp, XDn, XDc⟩⟩ x w1 ((hX).ext hI) bx).mono (tell hK)
 rintro _ rfl
 simp only [Pq1]
 iterate 2
  refine Walk.one (x := ?_) rfl rfl (fun w1 hI hL K hK => ?_) ?_
  rotate_left
  ·obtain ⟨hc, hf⟩ := bcell hI
   go_simp
   repeat (first | (go_ints; try go_simp) | (simp only [↓IntWalk.iteOmega]; try go_simp))
   exact hK
  simp only [Pq1]
 refine Walk.oneG (x := ?_) rfl (by as_aux_lemma => kernel_rfl) (fun w1 hI hL K hK => ?_) ?_
 rotate_left
 ·obtain ⟨hc, hf⟩ := bcell hI
  go_simp
  repeat (first | (go_ints; try go_simp) | (simp only [↓IntWalk.iteOmega]; try go_simp))
  exact hK
 simp only [Pq1]
 refine Walk.tellG rfl (by as_aux_lemma => kernel_rfl) (fun w1 hI hL K hK => ?_) ?_
 ·go_simp
  exact (fFromInt_1 w1).mono (tell hK)
 rintro _ ⟨Z27, rfl⟩
 simp only [Pq1]
 refine Walk.tellG rfl (by as_aux_lemma => kernel_rfl) (fun w1 hI hL K hK => ?_) ?_
 ·go_simp
  exact (fCmp ⟨⟨false, XNp, XNn, XNc⟩, ⟨XDb, XDp, XDn, XDc⟩⟩ Z27 x 1 w1 ((hX).ext hI) ((Tl.getF (kn (i := 24) (v := .agg #[.bool Z27.N.b, .slice Z27.N.p Z27.N.n Z27.N.c, .bool Z27.D.b, .slice Z27.D.p Z27.D.n Z27.D.c]) rfl (by simp) (pred_of (by as_aux_lemma => kernel_rfl)) hL)).1) bx sz_one).mono (tell hK)
 rintro _ rfl
 simp only [Pq1]
 refine Walk.oneG (x := ?_) rfl (by as_aux_lemma => kernel_rfl) (fun w1 hI hL K hK => ?_) ?_
 rotate_left
 ·obtain ⟨hc, hf⟩ := bcell hI
  go_simp
  repeat (first | (go_ints; try go_simp) | (simp only [↓IntWalk.iteOmega]; try go_simp))
  exact hK
 simp only [Pq1]
 refine Walk.one (x := ?_) rfl rfl (fun w1 hI hL K hK => ?_) ?_
 rotate_left
 ·obtain ⟨hc, hf⟩ := bcell hI
  go_simp
  repeat (first | (go_ints; try go_simp) | (simp only [↓IntWalk.iteOmega]; try go_simp))
  exact hK
 simp only [Pq1]
 refine Walk.nilF fun w2 ew2 kzL kzX => ?_
 have zw2 := ew2.size
 clear kzL kzX
 simp only [List.drop_succ_cons, List.drop_zero, List.drop_nil]
 have xw_w2 := eg ew1 ew2
 go_wp2_with fail
 clear b1_w1
 refine bodyPost_ret (v := .bool true) (by simp [results, Tryz.results38, go_sem]) rfl ?_
 exact Gv.of_v xw_w2

set_option maxRecDepth 100000 in
theorem lrate5f (XNp : Option Addr) (XNn : Nat) (XNc : Nat) (XDb : Bool) (XDp : Option Addr) (XDn : Nat) (XDc : Nat) (x : Rat) (w : World) (hX : FR w ⟨⟨false, XNp, XNn, XNc⟩, ⟨XDb, XDp, XDn, XDc⟩⟩ x) (h1 : XNn ≤ 1) (h2 : XDn ≤ 1) (bx : Sz x) (hc : decide (cmpQ x 1 ≤ 0) = false) :
    Calls Tryz.prog 38 #[.agg #[.bool false, .slice XNp XNn XNc, .bool XDb, .slice XDp XDn XDc]] w (Gv (.v (.bool false)) w) := by
 have d1 : decide (((XNn : Nat) : Int) ≤ 1) = true := by simp; omega
 have e1 : decide (XNn ≤ 1) = true := by simp; omega
 have d2 : decide (((XDn : Nat) : Int) ≤ 1) = true := by simp; omega
 have e2 : decide (XDn ≤ 1) = true := by simp; omega
 obtain ⟨w1, hww1, ew1, B1, zw1⟩ := alloc_at w (w.heap.size) (by omega) #[.bool false, .slice XNp XNn XNc, .bool XDb, .slice XDp XDn XDc] 40
 have b1_w1 := B1.c4
 replace hX := hX.ext ew1
 go_enter Tryz.func38, Tryz.ntmps38
 go_wp2_with fail
 clear hww1
 replace zw1 := le2 zw1
 refine regionT 28 (fun kk => match kk with | 20 => some (.v (.bool true)) | 24 => some (.f (1)) | 25 => some (.v (.int .i64 (cmpQ x 1))) | _ => none) (by as_aux_lemma => kernel_rfl) (head_of (by as_aux_lemma => kernel_rfl)) ?_
 iterate 6
  refine Walk.one (x := ?_) rfl rfl (fun w1 hI hL K hK => ?_) ?_
  rotate_left
  ·obtain ⟨hc, hf⟩ := bcell hI
   go_simp
   repeat (first | (go_ints; try go_simp) | (simp only [↓IntWalk.iteOmega]; try go_simp))
   exact hK
  simp only [Pq1]
 refine Walk.oneG (x := ?_) rfl (by as_aux_lemma => kernel_rfl) (fun w1 hI hL K hK => ?_) ?_
 rotate_left
 ·obtain ⟨hc, hf⟩ := bcell hI
  go_simp
  repeat (first | (go_ints; try go_simp) | (simp only [↓IntWalk.iteOmega]; try go_simp))
  exact hK
 simp only [Pq1]
 refine Walk.oneG (x := ?_) rfl (by as_aux_lemma => kernel_rfl) (fun w1 hI hL K hK => ?_) ?_
 rotate_left
 ·obtain ⟨hc, hf⟩ := bcell hI
  go_simp
  repeat (first | (go_ints; try go_simp) | (simp only [↓IntWalk.iteOmega]; try go_simp))
  exact hK
 simp only [Pq1]
 refine Walk.oneG (x := ?_) rfl (by as_aux_lemma => kernel_rfl) (fun w1 hI hL K hK => ?_) ?_
 rotate_left
 ·obtain ⟨hc, hf⟩ := bcell hI
  go_simp
  repeat (first | (go_ints; try go_simp) | (simp only [↓IntWalk.iteOmega]; try go_simp))
  exact hK
 simp only [Pq1]
 refine Walk.oneG (x := ?_) rfl (by as_aux_lemma => kernel_rfl) (fun w1 hI hL K hK => ?_) ?_
 rotate_left
 ·obtain ⟨hc, hf⟩ := bcell hI
  go_simp
  repeat (first | (go_ints; try go_simp) | (simp only [↓IntWalk.iteOmega]; try go_simp))
  exact hK
 simp only [Pq1]
 refine Walk.oneG (x := ?_) rfl (by as_aux_lemma => kernel_rfl) (fun w1 hI hL K hK => ?_) ?_
 rotate_left
 ·obtain ⟨hc, hf⟩ := bcell hI
  go_simp
  repeat (first | (go_ints; try go_simp) | (simp only [↓IntWalk.iteOmega]; try go_simp))
  exact hK
 simp only [Pq1]
 iterate 2
  refine Walk.one (x := ?_) rfl rfl (fun w1 hI hL K hK => ?_) ?_
  rotate_left
  ·obtain ⟨hc, hf⟩ := bcell hI
   go_simp
   repeat (first | (go_ints; try go_simp) | (simp only [↓IntWalk.iteOmega]; try go_simp))
   exact hK
  simp only [Pq1]
 refine Walk.oneG (x := ?_) rfl (by as_aux_lemma => kernel_rfl) (fun w1 hI hL K hK => ?_) ?_
 rotate_left
 ·obtain ⟨hc, hf⟩ := bcell hI
  go_simp
  repeat (first | (go_ints; try go_simp) | (simp only [↓IntWalk.iteOmega]; try go_simp))
  exact hK
 simp only [Pq1]
 refine Walk.oneG (x := ?_) rfl (by as_aux_lemma => kernel_rfl) (fun w1 hI hL K hK => ?_) ?_
 rotate_left
 ·obtain ⟨hc, hf⟩ := bcell hI
  go_simp
  repeat (first | (go_ints; try go_simp) | (simp only [↓IntWalk.iteOmega]; try go_simp))
  exact hK
 simp only [Pq1]
 refine Walk.oneG (x := ?_) rfl (by as_aux_lemma => kernel_rfl) (fun w1 hI hL K hK => ?_) ?_
 rotate_left
 ·obtain ⟨hc, hf⟩ := bcell hI
  go_simp
  repeat (first | (go_ints; try go_simp) | (simp only [↓IntWalk.iteOmega]; try go_simp))
  exact hK
 simp only [Pq1]
 refine Walk.oneG (x := ?_) rfl (by as_aux_lemma => kernel_rfl) (fun w1 hI hL K hK => ?_) ?_
 rotate_left
 ·obtain ⟨hc, hf⟩ := bcell hI
  go_simp
  repeat (first | (go_ints; try go_simp) | (simp only [↓IntWalk.iteOmega]; try go_simp))
  exact hK
 simp only [Pq1]
 iterate 2
  refine Walk.one (x := ?_) rfl rfl (fun w1 hI hL K hK => ?_) ?_
  rotate_left
  ·obtain ⟨hc, hf⟩ := bcell hI
   go_simp
   repeat (first | (go_ints; try go_simp) | (simp only [↓IntWalk.iteOmega]; try go_simp))
   exact hK
  simp only [Pq1]
 refine Walk.oneG (x := ?_) rfl (by as_aux_lemma => kernel_rfl) (fun w1 hI hL K hK => ?_) ?_
 rotate_left
 ·obtain ⟨hc, hf⟩ := bcell hI
  go_simp
  repeat (first | (go_ints; try go_simp) | (simp only [↓IntWalk.iteOmega]; try go_simp))
  exact hK
 simp only [Pq1]
 refine Walk.tellG rfl (by as_aux_lemma => kernel_rfl) (fun w1 hI hL K hK => ?_) ?_
 ·go_simp
  exact (fValid_q ⟨⟨false, XNp, XNn, XNc⟩, ⟨XDb, XDp, XDn, XDc⟩⟩ x w1 ((hX).ext hI) bx).mono (tell hK)
 rintro _ rfl
 simp only [Pq1]
 iterate 2
  refine Walk.one (x := ?_) rfl rfl (fun w1 hI hL K hK => ?_) ?_
  rotate_left
  ·obtain ⟨hc, hf⟩ := bcell hI
   go_simp
   repeat (first | (go_ints; try go_simp) | (simp only [↓IntWalk.iteOmega]; try go_simp))
   exact hK
  simp only [Pq1]
 refine Walk.oneG (x := ?_) rfl (by as_aux_lemma => kernel_rfl) (fun w1 hI hL K hK => ?_) ?_
 rotate_left
 ·obtain ⟨hc, hf⟩ := bcell hI
  go_simp
  repeat (first | (go_ints; try go_simp) | (simp only [↓IntWalk.iteOmega]; try go_simp))
  exact hK
 simp only [Pq1]
 refine Walk.tellG rfl (by as_aux_lemma => kernel_rfl) (fun w1 hI hL K hK => ?_) ?_
 ·go_simp
  exact (fFromInt_1 w1).mono (tell hK)
 rintro _ ⟨Z27, rfl⟩
 simp only [Pq1]
 refine Walk.tellG rfl (by as_aux_lemma => kernel_rfl) (fun w1 hI hL K hK => ?_) ?_
 ·go_simp
  exact (fCmp ⟨⟨false, XNp, XNn, XNc⟩, ⟨XDb, XDp, XDn, XDc⟩⟩ Z27 x 1 w1 ((hX).ext hI) ((Tl.getF (kn (i := 24) (v := .agg #[.bool Z27.N.b, .slice Z27.N.p Z27.N.n Z27.N.c, .bool Z27.D.b, .slice Z27.D.p Z27.D.n Z27.D.c]) rfl (by simp) (pred_of (by as_aux_lemma => kernel_rfl)) hL)).1) bx sz_one).mono (tell hK)
 rintro _ rfl
 simp only [Pq1]
 refine Walk.oneG (x := ?_) rfl (by as_aux_lemma => kernel_rfl) (fun w1 hI hL K hK => ?_) ?_
 rotate_left
 ·obtain ⟨hc, hf⟩ := bcell hI
  go_simp
  repeat (first | (go_ints; try go_simp) | (simp only [↓IntWalk.iteOmega]; try go_simp))
  exact hK
 simp only [Pq1]
 refine Walk.one (x := ?_) rfl rfl (fun w1 hI hL K hK => ?_) ?_
 rotate_left
 ·obtain ⟨hc, hf⟩ := bcell hI
  go_simp
  repeat (first | (go_ints; try go_simp) | (simp only [↓IntWalk.iteOmega]; try go_simp))
  exact hK
 simp only [Pq1]
 refine Walk.nilF fun w2 ew2 kzL kzX => ?_
 have zw2 := ew2.size
 clear kzL kzX
 simp only [List.drop_succ_cons, List.drop_zero, List.drop_nil]
 have xw_w2 := eg ew1 ew2
 go_wp2_with fail
 clear b1_w1
 refine bodyPost_ret (v := .bool false) (by simp [results, Tryz.results38, go_sem]) rfl ?_
 exact Gv.of_v xw_w2

/-- What isRate looks at. -/
def okR (n : Bool) (l : List Nat) (n' : Bool) (l' : List Nat) : Bool := decide (l.length ≤ 1) && decide (l'.length ≤ 1) && !n && okF n l n' l' && decide (val l ≤ val l')
theorem cmpZ_le (a b : Int) : cmpZ a b ≤ 0 ↔ a ≤ b := by
 unfold cmpZ
 by_cases h1 : a < b
 ·rw [if_pos h1]; omega
 ·rw [if_neg h1]
  by_cases h2 : b < a
  ·rw [if_pos h2]; omega
  ·rw [if_neg h2]; omega
theorem cmp_one {w : World} {X : Fr} {l m : List Nat} {q : Rat} (h : UF w X l m) (hq : FR w X q) (hn : X.N.b = false) : decide (cmpQ q 1 ≤ 0) = decide (val l ≤ val m) := by
 have e1 := WR.neg hq.1
 rw [hn] at e1
 have p1 : ¬ q.num < 0 := of_decide_eq_false e1.symm
 have a1 : l = limbs q.num.natAbs := by
  have u := hq.1.u16.2
  have v := h.1
  have l1 : l.length = X.N.n := v.len
  have l2 : (limbs q.num.natAbs).length = X.N.n := u.len
  refine ext_getD (by rw [l1, l2]) fun k hk => ?_
  have c1 := v.cell k (by omega)
  have c2 := u.cell k (by omega)
  rw [c1] at c2
  simp only [Option.some.injEq, Value.int.injEq, true_and] at c2
  have c3 : dig l k = dig (limbs q.num.natAbs) k := by omega
  exact c3
 have a2 : m = limbs q.den := by
  have u := hq.2.u16.2
  have v := h.2
  have l1 : m.length = X.D.n := v.len
  have l2 : (limbs ((q.den : Nat) : Int).natAbs).length = X.D.n := u.len
  refine ext_getD (by rw [l1]; exact l2.symm) fun k hk => ?_
  have c1 := v.cell k (by omega)
  have c2 := u.cell k (by omega)
  rw [c1] at c2
  simp only [Option.some.injEq, Value.int.injEq, true_and] at c2
  have c3 : dig m k = dig (limbs q.den) k := by
   have : dig m k = dig (limbs ((q.den : Nat) : Int).natAbs) k := by omega
   exact this
  exact c3
 rw [a1, a2, val_limbs, val_limbs, decide_eq_decide]
 unfold cmpQ
 rw [cmpZ_le]
 have h1 : (1 : Rat).num = 1 := rfl
 have h2 : (1 : Rat).den = 1 := rfl
 rw [h1, h2]
 omega
theorem lisRate (X : Fr) (l m : List Nat) (w : World) (h : UF w X l m) {b : Bool} (hb : okR X.N.b l X.D.b m = b) : Calls Tryz.prog 38 #[.agg #[.bool X.N.b, .slice X.N.p X.N.n X.N.c, .bool X.D.b, .slice X.D.p X.D.n X.D.c]] w (Gv (.v (.bool b)) w) := by
 subst hb
 have u1 := h.u1
 have u2 := h.u2
 by_cases h1 : X.N.n ≤ 1
 ·by_cases h2 : X.D.n ≤ 1
  ·obtain ⟨⟨nb, np, nn, nc⟩, ⟨db, dp, dn, dc⟩⟩ := X
   cases nb
   ·cases h3 : okF false l db m
    ·have e : okR false l db m = false := by unfold okR; simp [h3]
     simp only [e]; exact lrate4 np nn nc db dp dn dc l m w h h1 h2 h3
    ·obtain ⟨q, hq, hs, _⟩ := okF_FR h h3
     have hc := cmp_one h hq rfl
     have e : okR false l db m = decide (val l ≤ val m) := by
      unfold okR; rw [h3, ← u1, ← u2]; simp only [h1, h2, decide_true, Bool.not_false, Bool.true_and]
     simp only [e]
     cases hv : decide (val l ≤ val m)
     ·rw [hv] at hc; exact lrate5f np nn nc db dp dn dc q w hq h1 h2 hs hc
     ·rw [hv] at hc; exact lrate5t np nn nc db dp dn dc q w hq h1 h2 hs hc
   ·have e : okR true l db m = false := by unfold okR; simp
    simp only [e]; exact lrate3 np nn nc db dp dn dc l m w h h1 h2
  ·have e : okR X.N.b l X.D.b m = false := by unfold okR; rw [← u2]; simp [h2]
   rw [e]; exact lrate2 X l m w h h1 h2
 ·have e : okR X.N.b l X.D.b m = false := by unfold okR; rw [← u1]; simp [h1]
  rw [e]; exact lrate1 X l m w h h1

set_option maxRecDepth 100000 in
theorem lValid1 (X : Fr) (l m : List Nat) (w : World) (hX : UF w X l m) (b : Bool) (hb : okR X.N.b l X.D.b m = b) :
    Calls Tryz.prog 37 #[.agg #[.bool X.N.b, .slice X.N.p X.N.n X.N.c, .bool X.D.b, .slice X.D.p X.D.n X.D.c]] w (Gv (.v (.bool (!b))) w) := by
 have Hb := Lib.hid hb
 clear hb
 obtain ⟨w1, hww1, ew1, B1, zw1⟩ := alloc_at w (w.heap.size) (by omega) #[.bool X.N.b, .slice X.N.p X.N.n X.N.c, .bool X.D.b, .slice X.D.p X.D.n X.D.c] 40
 have b1_w1 := B1.c4
 replace hX := hX.ext ew1
 go_enter Tryz.func37, Tryz.ntmps37
 go_wp2_with fail
 clear hww1
 replace zw1 := le2 zw1
 refine (lisRate X l m _ (hX) Hb.out).mono (Gv.onV fun w2 ew2 zw2 => ?_)
 have xw_w2 := eg ew1 ew2
 go_wp2_with fail
 clear b1_w1
 refine bodyPost_ret (v := .bool (!b)) (by simp [results, Tryz.results37, go_sem]) rfl ?_
 exact Gv.of_v xw_w2
end Go.Proofs.YtndgaecfeaedeaaGreat
