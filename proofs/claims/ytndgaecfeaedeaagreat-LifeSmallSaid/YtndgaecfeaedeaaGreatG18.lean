/- Walks of the document's answer on lives: Valid. -/
import Derived.Test.YtndgaecfeaedeaaGreatG16
import Derived.Test.YtndgaecfeaedeaaGreatG17
set_option linter.unusedSimpArgs false
set_option linter.unusedVariables false
namespace Go.Proofs.YtndgaecfeaedeaaGreat
open Go.RowKit Lex Mth
attribute [local go_sem] run_indexAt_at add_zero_map Oper.semAt_some at_zero at_add at_mk1 at_mk2 at_mk3

theorem tel_cases (T : Tb) (i j : Nat) : (∃ np nn nc db dp dn dc, j < T.rn i ∧ T.el i j = ⟨⟨false, np, nn, nc⟩, ⟨db, dp, dn, dc⟩⟩) ∨ (∃ np nn nc db dp dn dc, j < T.rn i ∧ T.el i j = ⟨⟨true, np, nn, nc⟩, ⟨db, dp, dn, dc⟩⟩) ∨ T.rn i ≤ j := by
 rcases Nat.lt_or_ge j (T.rn i) with h | h
 ·rcases hx : T.el i j with ⟨⟨nb, np, nn, nc⟩, ⟨db, dp, dn, dc⟩⟩
  cases nb
  ·exact .inl ⟨np, nn, nc, db, dp, dn, dc, h, rfl⟩
  ·exact .inr (.inl ⟨np, nn, nc, db, dp, dn, dc, h, rfl⟩)
 ·exact .inr (.inr h)
theorem okT_len {T : Tb} {i : Nat} (hi : i < T.N) (h : ¬ (T.rn i : Int) = T.sel + 1) : okT T = false := okT_f fun ok => h (ok.2.1 i hi).1
theorem okT_el {T : Tb} {i j : Nat} (hi : i < T.N) (hj : j < T.rn i) (h : okR (T.el i j).N.b (T.ln i j) (T.el i j).D.b (T.ld i j) = false) : okT T = false := okT_f fun ok => by
 have := (ok.2.1 i hi).2 j hj
 rw [h] at this; cases this

set_option maxRecDepth 100000 in
theorem tOne (w : World) :
    Calls Tryz.prog 43 #[] w (Gv (.f 1) w) := by
 obtain ⟨w1, hww1, ew1, B1, zw1⟩ := alloc_at w (w.heap.size) (by omega) #[.bool false, .slice none 0 0, .bool false, .slice none 0 0] 40
 go_enter Tryz.func43, Tryz.ntmps43
 go_wp2_with fail
 clear hww1
 replace zw1 := le2 zw1
 refine (rFromIntQ_1 _).mono (Gv.onFo fun Z1 w2 hZ1 oZ1 ew2 zw2 => ?_)
 replace B1 := B1.ext ew2
 have b1_w2 := B1.c4
 have fb1_w2 := B1.f4
 have xw_w2 := eg ew1 ew2
 replace oZ1 := oZ1.mono ew1.size
 obtain ⟨w3, hww3, kw3, Nw3, zw3⟩ := B1.put4 (.bool Z1.N.b) (.slice Z1.N.p Z1.N.n Z1.N.c) (.bool Z1.D.b) (.slice Z1.D.p Z1.D.n Z1.D.c)
 have nuw3 : NoU #[.bool false, .slice none 0 0, .bool false, .slice none 0 0] := by simp [NoU]
 replace hZ1 := FR.kb hZ1 B1 nuw3 kw3
 replace oZ1 := OF.kb oZ1 B1 (by decide) kw3
 have xw_w3 := Ext.kb xw_w2 kw3 (by omega)
 replace B1 := Nw3
 clear Nw3 kw3
 have b1_w3 := B1.c4
 go_wp2_with fail
 clear hww3
 clear b1_w2 fb1_w2
 replace zw3 := le2 zw3
 refine bodyPost_ret (v := .agg #[.bool Z1.N.b, .slice Z1.N.p Z1.N.n Z1.N.c, .bool Z1.D.b, .slice Z1.D.p Z1.D.n Z1.D.c]) (by simp [results, Tryz.results43, go_sem, b1_w3]) rfl ?_
 exact Gv.of_f (X := Z1) (hZ1) (oZ1) xw_w3

set_option maxRecDepth 100000 in
set_option maxHeartbeats 20000000 in
theorem tValid (T : Tb) (w : World) (h : TW w T) :
    Calls Tryz.prog 11 #[.agg #[.int .i64 T.first, .int .i64 T.sel, .slice T.P T.N T.C]] w (Gv (.v (.bool (okT T))) w) := by
 have f1 := h.f1
 have f2 := h.f2
 have s1 := h.s1
 have s2 := h.s2
 have hr := h.reach
 have hhp := h.has
 obtain ⟨w1, hww1, ew1, B1, zw1⟩ := alloc_at w (w.heap.size) (by omega) #[.int .i64 T.first, .int .i64 T.sel, .slice T.P T.N T.C] 31
 go_enter Tryz.func11, Tryz.ntmps11
 rcases (by omega : T.first < 0 ∨ (0 ≤ T.first ∧ 150 < T.first) ∨ (0 ≤ T.first ∧ T.first ≤ 150 ∧ T.sel < 0) ∨ (0 ≤ T.first ∧ T.first ≤ 150 ∧ 0 ≤ T.sel ∧ 5 < T.sel) ∨ (0 ≤ T.first ∧ T.first ≤ 150 ∧ 0 ≤ T.sel ∧ T.sel ≤ 5 ∧ T.N < 1) ∨ (0 ≤ T.first ∧ T.first ≤ 150 ∧ 0 ≤ T.sel ∧ T.sel ≤ 5 ∧ 1 ≤ T.N ∧ 111 < T.N) ∨ (0 ≤ T.first ∧ T.first ≤ 150 ∧ 0 ≤ T.sel ∧ T.sel ≤ 5 ∧ 1 ≤ T.N ∧ T.N ≤ 111)) with h1 | ⟨h1, h2⟩ | ⟨h1, h2, h3⟩ | ⟨h1, h2, h3, h4⟩ | ⟨h1, h2, h3, h4, h5⟩ | ⟨h1, h2, h3, h4, h5, h6⟩ | ⟨b1, b2, b3, b4, b5, b6⟩
 ·skip
  have b1_w1 := B1.c3
  have hno := Lib.hid (okT_f (T := T) (fun ok => by have := ok.1; unfold boundsOk at this; omega))
  go_wp2_with fail
  clear hww1
  replace zw1 := le2 zw1
  refine bodyPost_ret (v := .bool false) (by simp [results, Tryz.results11, go_sem]) rfl ?_
  rw [hno.out]
  exact Gv.of_v ew1
 ·skip
  have b1_w1 := B1.c3
  have hno := Lib.hid (okT_f (T := T) (fun ok => by have := ok.1; unfold boundsOk at this; omega))
  go_wp2_with fail
  clear hww1
  replace zw1 := le2 zw1
  refine bodyPost_ret (v := .bool false) (by simp [results, Tryz.results11, go_sem]) rfl ?_
  rw [hno.out]
  exact Gv.of_v ew1
 ·skip
  have b1_w1 := B1.c3
  have hno := Lib.hid (okT_f (T := T) (fun ok => by have := ok.1; unfold boundsOk at this; omega))
  go_wp2_with fail
  clear hww1
  replace zw1 := le2 zw1
  refine bodyPost_ret (v := .bool false) (by simp [results, Tryz.results11, go_sem]) rfl ?_
  rw [hno.out]
  exact Gv.of_v ew1
 ·skip
  have b1_w1 := B1.c3
  have hno := Lib.hid (okT_f (T := T) (fun ok => by have := ok.1; unfold boundsOk at this; omega))
  go_wp2_with fail
  clear hww1
  replace zw1 := le2 zw1
  refine bodyPost_ret (v := .bool false) (by simp [results, Tryz.results11, go_sem]) rfl ?_
  rw [hno.out]
  exact Gv.of_v ew1
 ·skip
  have b1_w1 := B1.c3
  have hno := Lib.hid (okT_f (T := T) (fun ok => by have := ok.1; unfold boundsOk at this; omega))
  go_wp2_with fail
  clear hww1
  replace zw1 := le2 zw1
  refine bodyPost_ret (v := .bool false) (by simp [results, Tryz.results11, go_sem]) rfl ?_
  rw [hno.out]
  exact Gv.of_v ew1
 ·skip
  have b1_w1 := B1.c3
  have hno := Lib.hid (okT_f (T := T) (fun ok => by have := ok.1; unfold boundsOk at this; omega))
  go_wp2_with fail
  clear hww1
  replace zw1 := le2 zw1
  refine bodyPost_ret (v := .bool false) (by simp [results, Tryz.results11, go_sem]) rfl ?_
  rw [hno.out]
  exact Gv.of_v ew1
 ·skip
  have b1_w1 := B1.c3
  have Hb : Hid (boundsOk T) := ⟨b1, b2, b3, b4, b5, b6⟩
  go_wp2_with fail
  clear hww1
  replace zw1 := le2 zw1
  go_loopw [3] (fun v3 r4 => ∃ (i : Nat), v3 = .int .i64 (i : Nat) ∧ i ≤ T.N ∧ Hid (∀ j, j < i → rowOk T j) ∧ Cells r4 (w.heap.size) 31 #[.int .i64 T.first, .int .i64 T.sel, .slice T.P T.N T.C] ∧ Ext w r4) (fun v3 _ => (T.N - intOf v3).toNat)
  case atStart => exact ⟨0, rfl, by omega, Lib.hid (fun j hj => absurd hj (Nat.not_lt_zero _)), B1, ew1⟩
  case round =>
   obtain ⟨r4, hqr4⟩ : ∃ r, r = wr := ⟨_, rfl⟩
   subst hqr4
   clear B1
   clear b1_w1
   obtain ⟨i, rfl, hi, hall, B1, xw_r4⟩ := hrel
   have zr4 := xw_r4.size
   have lB1_r4 := B1.lt
   have b1_r4 := B1.c3
   by_cases hin : i < T.N
   ·skip
    have hsl := cell_ext xw_r4 (h.sl i hin)
    have hr1 := (h.row i hin).reach
    by_cases hlen : (T.rn i : Int) = T.sel + 1
    ·skip
     have hl : ((T.rn i : Int) != T.sel + 1) = false := by rw [bne_eq_false_iff_eq]; exact hlen
     have Hlen := Lib.hid hlen
     clear hlen
     go_wp2_with fail
     refine regionT 10 (fun _ => none) (by as_aux_lemma => kernel_rfl) (head_of (by as_aux_lemma => kernel_rfl)) ?_
     iterate 4
      refine Walk.one (x := ?_) rfl rfl (fun w1 hI hL K hK => ?_) ?_
      rotate_left
      ·obtain ⟨hc, hf⟩ := bcell hI
       go_simp
       repeat (first | (go_ints; try go_simp) | (simp only [↓IntWalk.iteOmega]; try go_simp))
       exact hK
      simp only [Pq1]
     refine Walk.one (x := ?_) rfl rfl (fun w1 hI hL K hK => ?_) ?_
     rotate_left
     ·have x0 := cell_ext hI hsl
      go_simp
      repeat (first | (go_ints; try go_simp) | (simp only [↓IntWalk.iteOmega]; try go_simp))
      exact hK
     simp only [Pq1]
     iterate 5
      refine Walk.one (x := ?_) rfl rfl (fun w1 hI hL K hK => ?_) ?_
      rotate_left
      ·obtain ⟨hc, hf⟩ := bcell hI
       go_simp
       repeat (first | (go_ints; try go_simp) | (simp only [↓IntWalk.iteOmega]; try go_simp))
       exact hK
      simp only [Pq1]
     refine Walk.nilF fun w2 ew2 kzL kzX => ?_
     have zw2 := ew2.size
     clear kzL kzX
     simp only [List.drop_succ_cons, List.drop_zero, List.drop_nil]
     replace B1 := B1.ext ew2
     have xw_w2 := eg xw_r4 ew2
     go_wp2_with fail
     clear b1_r4
     go_loopw [4] (fun v4 r9 => ∃ (j : Nat), v4 = .int .i64 (j : Nat) ∧ j ≤ T.rn i ∧ Hid (∀ l, l < j → okR (T.el i l).N.b (T.ln i l) (T.el i l).D.b (T.ld i l) = true) ∧ Cells r9 (w.heap.size) 31 #[.int .i64 T.first, .int .i64 T.sel, .slice T.P T.N T.C] ∧ Ext w r9) (fun v4 _ => (T.rn i - intOf v4).toNat)
     case atStart => exact ⟨0, rfl, by omega, Lib.hid (fun j hj => absurd hj (Nat.not_lt_zero _)), B1, xw_w2⟩
     case round =>
      obtain ⟨r9, hqr9⟩ : ∃ r, r = wr := ⟨_, rfl⟩
      subst hqr9
      clear B1
      obtain ⟨j, rfl, hj, hallj, B1, xw_r9⟩ := hrel
      have zr9 := xw_r9.size
      have lB1_r9 := B1.lt
      have b1_r9 := B1.c3
      rcases tel_cases T i j with ⟨np, nn, nc, db, dp, dn, dc, hjn, hXe⟩ | ⟨np, nn, nc, db, dp, dn, dc, hjn, hXe⟩ | hjn
      ·skip
       have hX0 := h.raw i hin j hjn
       have hel0 := (h.row i hin).el j hjn
       rw [hXe] at hX0 hel0
       have hX := hX0.ext xw_r9
       have hel := hel0.ext xw_r9
       have y0 := hel.c0
       have y1 := hel.c1
       have y2 := hel.c2
       have y3 := hel.c3
       have hsl := cell_ext xw_r9 (h.sl i hin)
       have hhr := (h.row i hin).has
       have l1 : nn ≤ (T.ln i j).length := Nat.le_of_eq hX0.u1
       have l3 : (T.ln i j).length ≤ nn := Nat.le_of_eq hX0.u1.symm
       have l2 : dn ≤ (T.ld i j).length := Nat.le_of_eq hX0.u2
       have l4 : (T.ld i j).length ≤ dn := Nat.le_of_eq hX0.u2.symm
       obtain ⟨w3, hww3, ew3, B2, zw3⟩ := alloc_at r9 (r9.heap.size) (by omega) #[.bool false, .slice np nn nc, .bool db, .slice dp dn dc] 40
       rcases (by by_cases n1 : 1 < nn; exact .inl n1; by_cases n2 : 1 < dn; exact .inr (.inl ⟨n1, n2⟩); cases ok : okF false (T.ln i j) db (T.ld i j); exact .inr (.inr (.inl ⟨n1, n2, rfl⟩)); by_cases hc : val (T.ln i j) ≤ val (T.ld i j); exact .inr (.inr (.inr (.inl ⟨n1, n2, rfl, hc⟩))); exact .inr (.inr (.inr (.inr ⟨n1, n2, rfl, hc⟩))) : 1 < nn ∨ (¬ 1 < nn ∧ 1 < dn) ∨ (¬ 1 < nn ∧ ¬ 1 < dn ∧ okF false (T.ln i j) db (T.ld i j) = false) ∨ (¬ 1 < nn ∧ ¬ 1 < dn ∧ okF false (T.ln i j) db (T.ld i j) = true ∧ val (T.ln i j) ≤ val (T.ld i j)) ∨ (¬ 1 < nn ∧ ¬ 1 < dn ∧ okF false (T.ln i j) db (T.ld i j) = true ∧ ¬ val (T.ln i j) ≤ val (T.ld i j))) with n1 | ⟨n1, n2⟩ | ⟨n1, n2, ok⟩ | ⟨n1, n2, ok, hc⟩ | ⟨n1, n2, ok, hc⟩
       ·skip
        have b2_w3 := B2.c4
        have xw_w3 := eg xw_r9 ew3
        have hno := Lib.hid (okT_el hin hjn (by rw [hXe]; unfold okR; simp; omega))
        have d1 : decide (1 < ((nn : Nat) : Int)) = true := by simp; omega
        have e1 : decide (1 < nn) = true := by simp; omega
        go_wp2_with fail
        clear hww3
        clear b1_r9
        replace zw3 := le2 zw3
        refine regionT 28 (fun _ => none) (by as_aux_lemma => kernel_rfl) (head_of (by as_aux_lemma => kernel_rfl)) ?_
        iterate 6
         refine Walk.one (x := ?_) rfl rfl (fun w1 hI hL K hK => ?_) ?_
         rotate_left
         ·obtain ⟨hc, hf⟩ := bcell hI
          go_simp
          repeat (first | (go_ints; try go_simp) | (simp only [↓IntWalk.iteOmega]; try go_simp))
          exact hK
         simp only [Pq1]
        refine Walk.skip rfl (by as_aux_lemma => kernel_rfl) ?_
        simp only [Pq1]
        refine Walk.skip rfl (by as_aux_lemma => kernel_rfl) ?_
        simp only [Pq1]
        refine Walk.skip rfl (by as_aux_lemma => kernel_rfl) ?_
        simp only [Pq1]
        refine Walk.skip rfl (by as_aux_lemma => kernel_rfl) ?_
        simp only [Pq1]
        refine Walk.skip rfl (by as_aux_lemma => kernel_rfl) ?_
        simp only [Pq1]
        iterate 2
         refine Walk.one (x := ?_) rfl rfl (fun w1 hI hL K hK => ?_) ?_
         rotate_left
         ·obtain ⟨hc, hf⟩ := bcell hI
          go_simp
          repeat (first | (go_ints; try go_simp) | (simp only [↓IntWalk.iteOmega]; try go_simp))
          exact hK
         simp only [Pq1]
        refine Walk.skip rfl (by as_aux_lemma => kernel_rfl) ?_
        simp only [Pq1]
        refine Walk.skip rfl (by as_aux_lemma => kernel_rfl) ?_
        simp only [Pq1]
        refine Walk.skip rfl (by as_aux_lemma => kernel_rfl) ?_
        simp only [Pq1]
        iterate 2
         refine Walk.one (x := ?_) rfl rfl (fun w1 hI hL K hK => ?_) ?_
         rotate_left
         ·obtain ⟨hc, hf⟩ := bcell hI
          go_simp
          repeat (first | (go_ints; try go_simp) | (simp only [↓IntWalk.iteOmega]; try go_simp))
          exact hK
         simp only [Pq1]
        refine Walk.skip rfl (by as_aux_lemma => kernel_rfl) ?_
        simp only [Pq1]
        refine Walk.skip rfl (by as_aux_lemma => kernel_rfl) ?_
        simp only [Pq1]
        refine Walk.skip rfl (by as_aux_lemma => kernel_rfl) ?_
        simp only [Pq1]
        iterate 2
         refine Walk.one (x := ?_) rfl rfl (fun w1 hI hL K hK => ?_) ?_
         rotate_left
         ·obtain ⟨hc, hf⟩ := bcell hI
          go_simp
          repeat (first | (go_ints; try go_simp) | (simp only [↓IntWalk.iteOmega]; try go_simp))
          exact hK
         simp only [Pq1]
        refine Walk.skip rfl (by as_aux_lemma => kernel_rfl) ?_
        simp only [Pq1]
        refine Walk.skip rfl (by as_aux_lemma => kernel_rfl) ?_
        simp only [Pq1]
        refine Walk.skip rfl (by as_aux_lemma => kernel_rfl) ?_
        simp only [Pq1]
        refine Walk.skip rfl (by as_aux_lemma => kernel_rfl) ?_
        simp only [Pq1]
        refine Walk.one (x := ?_) rfl rfl (fun w1 hI hL K hK => ?_) ?_
        rotate_left
        ·obtain ⟨hc, hf⟩ := bcell hI
         go_simp
         repeat (first | (go_ints; try go_simp) | (simp only [↓IntWalk.iteOmega]; try go_simp))
         exact hK
        simp only [Pq1]
        refine Walk.nilF fun w4 ew4 kzL kzX => ?_
        have zw4 := ew4.size
        clear kzL kzX
        simp only [List.drop_succ_cons, List.drop_zero, List.drop_nil]
        have xw_w4 := eg xw_w3 ew4
        go_wp2_with fail
        clear b2_w3
        refine bodyPost_ret (v := .bool false) (by simp [results, Tryz.results11, go_sem]) rfl ?_
        rw [hno.out]
        exact Gv.of_v xw_w4
       ·skip
        have b2_w3 := B2.c4
        have xw_w3 := eg xw_r9 ew3
        have hno := Lib.hid (okT_el hin hjn (by rw [hXe]; unfold okR; simp; omega))
        have d1 : decide (1 < ((nn : Nat) : Int)) = false := by simp; omega
        have e1 : decide (1 < nn) = false := by simp; omega
        have d2 : decide (1 < ((dn : Nat) : Int)) = true := by simp; omega
        have e2 : decide (1 < dn) = true := by simp; omega
        go_wp2_with fail
        clear hww3
        clear b1_r9
        replace zw3 := le2 zw3
        refine regionT 28 (fun _ => none) (by as_aux_lemma => kernel_rfl) (head_of (by as_aux_lemma => kernel_rfl)) ?_
        iterate 6
         refine Walk.one (x := ?_) rfl rfl (fun w1 hI hL K hK => ?_) ?_
         rotate_left
         ·obtain ⟨hc, hf⟩ := bcell hI
          go_simp
          repeat (first | (go_ints; try go_simp) | (simp only [↓IntWalk.iteOmega]; try go_simp))
          exact hK
         simp only [Pq1]
        refine Walk.oneG (x := ?_) rfl (by as_aux_lemma => kernel_rfl) (fun w1 hI hL K hK => ?_) ?_
        rotate_left
        ·obtain ⟨hc, hf⟩ := bcell hI
         go_simp
         repeat (first | (go_ints; try go_simp) | (simp only [↓IntWalk.iteOmega]; try go_simp))
         exact hK
        simp only [Pq1]
        refine Walk.oneG (x := ?_) rfl (by as_aux_lemma => kernel_rfl) (fun w1 hI hL K hK => ?_) ?_
        rotate_left
        ·obtain ⟨hc, hf⟩ := bcell hI
         go_simp
         repeat (first | (go_ints; try go_simp) | (simp only [↓IntWalk.iteOmega]; try go_simp))
         exact hK
        simp only [Pq1]
        refine Walk.oneG (x := ?_) rfl (by as_aux_lemma => kernel_rfl) (fun w1 hI hL K hK => ?_) ?_
        rotate_left
        ·obtain ⟨hc, hf⟩ := bcell hI
         go_simp
         repeat (first | (go_ints; try go_simp) | (simp only [↓IntWalk.iteOmega]; try go_simp))
         exact hK
        simp only [Pq1]
        refine Walk.oneG (x := ?_) rfl (by as_aux_lemma => kernel_rfl) (fun w1 hI hL K hK => ?_) ?_
        rotate_left
        ·obtain ⟨hc, hf⟩ := bcell hI
         go_simp
         repeat (first | (go_ints; try go_simp) | (simp only [↓IntWalk.iteOmega]; try go_simp))
         exact hK
        simp only [Pq1]
        refine Walk.oneG (x := ?_) rfl (by as_aux_lemma => kernel_rfl) (fun w1 hI hL K hK => ?_) ?_
        rotate_left
        ·obtain ⟨hc, hf⟩ := bcell hI
         go_simp
         repeat (first | (go_ints; try go_simp) | (simp only [↓IntWalk.iteOmega]; try go_simp))
         exact hK
        simp only [Pq1]
        iterate 2
         refine Walk.one (x := ?_) rfl rfl (fun w1 hI hL K hK => ?_) ?_
         rotate_left
         ·obtain ⟨hc, hf⟩ := bcell hI
          go_simp
          repeat (first | (go_ints; try go_simp) | (simp only [↓IntWalk.iteOmega]; try go_simp))
          exact hK
         simp only [Pq1]
        refine Walk.skip rfl (by as_aux_lemma => kernel_rfl) ?_
        simp only [Pq1]
        refine Walk.skip rfl (by as_aux_lemma => kernel_rfl) ?_
        simp only [Pq1]
        refine Walk.skip rfl (by as_aux_lemma => kernel_rfl) ?_
        simp only [Pq1]
        iterate 2
         refine Walk.one (x := ?_) rfl rfl (fun w1 hI hL K hK => ?_) ?_
         rotate_left
         ·obtain ⟨hc, hf⟩ := bcell hI
          go_simp
          repeat (first | (go_ints; try go_simp) | (simp only [↓IntWalk.iteOmega]; try go_simp))
          exact hK
         simp only [Pq1]
        refine Walk.skip rfl (by as_aux_lemma => kernel_rfl) ?_
        simp only [Pq1]
        refine Walk.skip rfl (by as_aux_lemma => kernel_rfl) ?_
        simp only [Pq1]
        refine Walk.skip rfl (by as_aux_lemma => kernel_rfl) ?_
        simp only [Pq1]
        iterate 2
         refine Walk.one (x := ?_) rfl rfl (fun w1 hI hL K hK => ?_) ?_
         rotate_left
         ·obtain ⟨hc, hf⟩ := bcell hI
          go_simp
          repeat (first | (go_ints; try go_simp) | (simp only [↓IntWalk.iteOmega]; try go_simp))
          exact hK
         simp only [Pq1]
        refine Walk.skip rfl (by as_aux_lemma => kernel_rfl) ?_
        simp only [Pq1]
        refine Walk.skip rfl (by as_aux_lemma => kernel_rfl) ?_
        simp only [Pq1]
        refine Walk.skip rfl (by as_aux_lemma => kernel_rfl) ?_
        simp only [Pq1]
        refine Walk.skip rfl (by as_aux_lemma => kernel_rfl) ?_
        simp only [Pq1]
        refine Walk.one (x := ?_) rfl rfl (fun w1 hI hL K hK => ?_) ?_
        rotate_left
        ·obtain ⟨hc, hf⟩ := bcell hI
         go_simp
         repeat (first | (go_ints; try go_simp) | (simp only [↓IntWalk.iteOmega]; try go_simp))
         exact hK
        simp only [Pq1]
        refine Walk.nilF fun w5 ew5 kzL kzX => ?_
        have zw5 := ew5.size
        clear kzL kzX
        simp only [List.drop_succ_cons, List.drop_zero, List.drop_nil]
        have xw_w5 := eg xw_w3 ew5
        go_wp2_with fail
        clear b2_w3
        refine bodyPost_ret (v := .bool false) (by simp [results, Tryz.results11, go_sem]) rfl ?_
        rw [hno.out]
        exact Gv.of_v xw_w5
       ·skip
        have b2_w3 := B2.c4
        replace hX := hX.ext ew3
        have xw_w3 := eg xw_r9 ew3
        have hno := Lib.hid (okT_el hin hjn (by rw [hXe]; unfold okR; simp [ok]))
        have d1 : decide (1 < ((nn : Nat) : Int)) = false := by simp; omega
        have e1 : decide (1 < nn) = false := by simp; omega
        have d2 : decide (1 < ((dn : Nat) : Int)) = false := by simp; omega
        have e2 : decide (1 < dn) = false := by simp; omega
        have Hok := Lib.hid ok
        clear ok
        go_wp2_with fail
        clear hww3
        clear b1_r9
        replace zw3 := le2 zw3
        refine regionT 28 (fun kk => match kk with | 19 => some (.v (.bool false)) | _ => none) (by as_aux_lemma => kernel_rfl) (head_of (by as_aux_lemma => kernel_rfl)) ?_
        iterate 6
         refine Walk.one (x := ?_) rfl rfl (fun w1 hI hL K hK => ?_) ?_
         rotate_left
         ·obtain ⟨hc, hf⟩ := bcell hI
          go_simp
          repeat (first | (go_ints; try go_simp) | (simp only [↓IntWalk.iteOmega]; try go_simp))
          exact hK
         simp only [Pq1]
        refine Walk.oneG (x := ?_) rfl (by as_aux_lemma => kernel_rfl) (fun w1 hI hL K hK => ?_) ?_
        rotate_left
        ·obtain ⟨hc, hf⟩ := bcell hI
         go_simp
         repeat (first | (go_ints; try go_simp) | (simp only [↓IntWalk.iteOmega]; try go_simp))
         exact hK
        simp only [Pq1]
        refine Walk.oneG (x := ?_) rfl (by as_aux_lemma => kernel_rfl) (fun w1 hI hL K hK => ?_) ?_
        rotate_left
        ·obtain ⟨hc, hf⟩ := bcell hI
         go_simp
         repeat (first | (go_ints; try go_simp) | (simp only [↓IntWalk.iteOmega]; try go_simp))
         exact hK
        simp only [Pq1]
        refine Walk.oneG (x := ?_) rfl (by as_aux_lemma => kernel_rfl) (fun w1 hI hL K hK => ?_) ?_
        rotate_left
        ·obtain ⟨hc, hf⟩ := bcell hI
         go_simp
         repeat (first | (go_ints; try go_simp) | (simp only [↓IntWalk.iteOmega]; try go_simp))
         exact hK
        simp only [Pq1]
        refine Walk.oneG (x := ?_) rfl (by as_aux_lemma => kernel_rfl) (fun w1 hI hL K hK => ?_) ?_
        rotate_left
        ·obtain ⟨hc, hf⟩ := bcell hI
         go_simp
         repeat (first | (go_ints; try go_simp) | (simp only [↓IntWalk.iteOmega]; try go_simp))
         exact hK
        simp only [Pq1]
        refine Walk.oneG (x := ?_) rfl (by as_aux_lemma => kernel_rfl) (fun w1 hI hL K hK => ?_) ?_
        rotate_left
        ·obtain ⟨hc, hf⟩ := bcell hI
         go_simp
         repeat (first | (go_ints; try go_simp) | (simp only [↓IntWalk.iteOmega]; try go_simp))
         exact hK
        simp only [Pq1]
        iterate 2
         refine Walk.one (x := ?_) rfl rfl (fun w1 hI hL K hK => ?_) ?_
         rotate_left
         ·obtain ⟨hc, hf⟩ := bcell hI
          go_simp
          repeat (first | (go_ints; try go_simp) | (simp only [↓IntWalk.iteOmega]; try go_simp))
          exact hK
         simp only [Pq1]
        refine Walk.oneG (x := ?_) rfl (by as_aux_lemma => kernel_rfl) (fun w1 hI hL K hK => ?_) ?_
        rotate_left
        ·obtain ⟨hc, hf⟩ := bcell hI
         go_simp
         repeat (first | (go_ints; try go_simp) | (simp only [↓IntWalk.iteOmega]; try go_simp))
         exact hK
        simp only [Pq1]
        refine Walk.oneG (x := ?_) rfl (by as_aux_lemma => kernel_rfl) (fun w1 hI hL K hK => ?_) ?_
        rotate_left
        ·obtain ⟨hc, hf⟩ := bcell hI
         go_simp
         repeat (first | (go_ints; try go_simp) | (simp only [↓IntWalk.iteOmega]; try go_simp))
         exact hK
        simp only [Pq1]
        refine Walk.oneG (x := ?_) rfl (by as_aux_lemma => kernel_rfl) (fun w1 hI hL K hK => ?_) ?_
        rotate_left
        ·obtain ⟨hc, hf⟩ := bcell hI
         go_simp
         repeat (first | (go_ints; try go_simp) | (simp only [↓IntWalk.iteOmega]; try go_simp))
         exact hK
        simp only [Pq1]
        iterate 2
         refine Walk.one (x := ?_) rfl rfl (fun w1 hI hL K hK => ?_) ?_
         rotate_left
         ·obtain ⟨hc, hf⟩ := bcell hI
          go_simp
          repeat (first | (go_ints; try go_simp) | (simp only [↓IntWalk.iteOmega]; try go_simp))
          exact hK
         simp only [Pq1]
        refine Walk.oneG (x := ?_) rfl (by as_aux_lemma => kernel_rfl) (fun w1 hI hL K hK => ?_) ?_
        rotate_left
        ·obtain ⟨hc, hf⟩ := bcell hI
         go_simp
         repeat (first | (go_ints; try go_simp) | (simp only [↓IntWalk.iteOmega]; try go_simp))
         exact hK
        simp only [Pq1]
        refine Walk.tellG rfl (by as_aux_lemma => kernel_rfl) (fun w1 hI hL K hK => ?_) ?_
        ·go_simp
         exact (rValid02_b ⟨⟨false, np, nn, nc⟩, ⟨db, dp, dn, dc⟩⟩ _ _ w1 ((hX).ext hI) Hok.out).mono (tell hK)
        rintro _ rfl
        simp only [Pq1]
        refine Walk.oneG (x := ?_) rfl (by as_aux_lemma => kernel_rfl) (fun w1 hI hL K hK => ?_) ?_
        rotate_left
        ·obtain ⟨hc, hf⟩ := bcell hI
         go_simp
         repeat (first | (go_ints; try go_simp) | (simp only [↓IntWalk.iteOmega]; try go_simp))
         exact hK
        simp only [Pq1]
        iterate 2
         refine Walk.one (x := ?_) rfl rfl (fun w1 hI hL K hK => ?_) ?_
         rotate_left
         ·obtain ⟨hc, hf⟩ := bcell hI
          go_simp
          repeat (first | (go_ints; try go_simp) | (simp only [↓IntWalk.iteOmega]; try go_simp))
          exact hK
         simp only [Pq1]
        refine Walk.skip rfl (by as_aux_lemma => kernel_rfl) ?_
        simp only [Pq1]
        refine Walk.skip rfl (by as_aux_lemma => kernel_rfl) ?_
        simp only [Pq1]
        refine Walk.skip rfl (by as_aux_lemma => kernel_rfl) ?_
        simp only [Pq1]
        refine Walk.skip rfl (by as_aux_lemma => kernel_rfl) ?_
        simp only [Pq1]
        refine Walk.one (x := ?_) rfl rfl (fun w1 hI hL K hK => ?_) ?_
        rotate_left
        ·obtain ⟨hc, hf⟩ := bcell hI
         go_simp
         repeat (first | (go_ints; try go_simp) | (simp only [↓IntWalk.iteOmega]; try go_simp))
         exact hK
        simp only [Pq1]
        refine Walk.nilF fun w6 ew6 kzL kzX => ?_
        have zw6 := ew6.size
        clear kzL kzX
        simp only [List.drop_succ_cons, List.drop_zero, List.drop_nil]
        have xw_w6 := eg xw_w3 ew6
        go_wp2_with fail
        clear b2_w3
        refine bodyPost_ret (v := .bool false) (by simp [results, Tryz.results11, go_sem]) rfl ?_
        rw [hno.out]
        exact Gv.of_v xw_w6
       ·skip
        have xw_w3 := eg xw_r9 ew3
        have b2_w3 := B2.c4
        replace hX := hX.ext ew3
        have d1 : decide (1 < ((nn : Nat) : Int)) = false := by simp; omega
        have e1 : decide (1 < nn) = false := by simp; omega
        have d2 : decide (1 < ((dn : Nat) : Int)) = false := by simp; omega
        have e2 : decide (1 < dn) = false := by simp; omega
        obtain ⟨q, hq0, bq, -⟩ := okF_FR hX0 ok
        have hcq := cmp_one hX0 hq0 rfl
        have Hok := Lib.hid ok
        clear ok
        have hQ := hq0.ext xw_w3
        clear hq0
        have hd : decide (0 < cmpQ q 1) = false := by have := of_decide_eq_true (hcq.trans (decide_eq_true hc)); simp; omega
        have Hc : Hid (okR (T.el i j).N.b (T.ln i j) (T.el i j).D.b (T.ld i j) = true) := by rw [hXe]; show okR false _ db _ = true; unfold okR; rw [Hok.out]; simp; omega
        clear hcq hc
        go_wp2_with fail
        clear hww3
        clear b1_r9
        replace zw3 := le2 zw3
        refine regionT 28 (fun kk => match kk with | 19 => some (.v (.bool true)) | 24 => some (.f (1)) | 25 => some (.v (.int .i64 (cmpQ q 1))) | _ => none) (by as_aux_lemma => kernel_rfl) (head_of (by as_aux_lemma => kernel_rfl)) ?_
        iterate 6
         refine Walk.one (x := ?_) rfl rfl (fun w1 hI hL K hK => ?_) ?_
         rotate_left
         ·obtain ⟨hc, hf⟩ := bcell hI
          go_simp
          repeat (first | (go_ints; try go_simp) | (simp only [↓IntWalk.iteOmega]; try go_simp))
          exact hK
         simp only [Pq1]
        refine Walk.oneG (x := ?_) rfl (by as_aux_lemma => kernel_rfl) (fun w1 hI hL K hK => ?_) ?_
        rotate_left
        ·obtain ⟨hc, hf⟩ := bcell hI
         go_simp
         repeat (first | (go_ints; try go_simp) | (simp only [↓IntWalk.iteOmega]; try go_simp))
         exact hK
        simp only [Pq1]
        refine Walk.oneG (x := ?_) rfl (by as_aux_lemma => kernel_rfl) (fun w1 hI hL K hK => ?_) ?_
        rotate_left
        ·obtain ⟨hc, hf⟩ := bcell hI
         go_simp
         repeat (first | (go_ints; try go_simp) | (simp only [↓IntWalk.iteOmega]; try go_simp))
         exact hK
        simp only [Pq1]
        refine Walk.oneG (x := ?_) rfl (by as_aux_lemma => kernel_rfl) (fun w1 hI hL K hK => ?_) ?_
        rotate_left
        ·obtain ⟨hc, hf⟩ := bcell hI
         go_simp
         repeat (first | (go_ints; try go_simp) | (simp only [↓IntWalk.iteOmega]; try go_simp))
         exact hK
        simp only [Pq1]
        refine Walk.oneG (x := ?_) rfl (by as_aux_lemma => kernel_rfl) (fun w1 hI hL K hK => ?_) ?_
        rotate_left
        ·obtain ⟨hc, hf⟩ := bcell hI
         go_simp
         repeat (first | (go_ints; try go_simp) | (simp only [↓IntWalk.iteOmega]; try go_simp))
         exact hK
        simp only [Pq1]
        refine Walk.oneG (x := ?_) rfl (by as_aux_lemma => kernel_rfl) (fun w1 hI hL K hK => ?_) ?_
        rotate_left
        ·obtain ⟨hc, hf⟩ := bcell hI
         go_simp
         repeat (first | (go_ints; try go_simp) | (simp only [↓IntWalk.iteOmega]; try go_simp))
         exact hK
        simp only [Pq1]
        iterate 2
         refine Walk.one (x := ?_) rfl rfl (fun w1 hI hL K hK => ?_) ?_
         rotate_left
         ·obtain ⟨hc, hf⟩ := bcell hI
          go_simp
          repeat (first | (go_ints; try go_simp) | (simp only [↓IntWalk.iteOmega]; try go_simp))
          exact hK
         simp only [Pq1]
        refine Walk.oneG (x := ?_) rfl (by as_aux_lemma => kernel_rfl) (fun w1 hI hL K hK => ?_) ?_
        rotate_left
        ·obtain ⟨hc, hf⟩ := bcell hI
         go_simp
         repeat (first | (go_ints; try go_simp) | (simp only [↓IntWalk.iteOmega]; try go_simp))
         exact hK
        simp only [Pq1]
        refine Walk.oneG (x := ?_) rfl (by as_aux_lemma => kernel_rfl) (fun w1 hI hL K hK => ?_) ?_
        rotate_left
        ·obtain ⟨hc, hf⟩ := bcell hI
         go_simp
         repeat (first | (go_ints; try go_simp) | (simp only [↓IntWalk.iteOmega]; try go_simp))
         exact hK
        simp only [Pq1]
        refine Walk.oneG (x := ?_) rfl (by as_aux_lemma => kernel_rfl) (fun w1 hI hL K hK => ?_) ?_
        rotate_left
        ·obtain ⟨hc, hf⟩ := bcell hI
         go_simp
         repeat (first | (go_ints; try go_simp) | (simp only [↓IntWalk.iteOmega]; try go_simp))
         exact hK
        simp only [Pq1]
        iterate 2
         refine Walk.one (x := ?_) rfl rfl (fun w1 hI hL K hK => ?_) ?_
         rotate_left
         ·obtain ⟨hc, hf⟩ := bcell hI
          go_simp
          repeat (first | (go_ints; try go_simp) | (simp only [↓IntWalk.iteOmega]; try go_simp))
          exact hK
         simp only [Pq1]
        refine Walk.oneG (x := ?_) rfl (by as_aux_lemma => kernel_rfl) (fun w1 hI hL K hK => ?_) ?_
        rotate_left
        ·obtain ⟨hc, hf⟩ := bcell hI
         go_simp
         repeat (first | (go_ints; try go_simp) | (simp only [↓IntWalk.iteOmega]; try go_simp))
         exact hK
        simp only [Pq1]
        refine Walk.tellG rfl (by as_aux_lemma => kernel_rfl) (fun w1 hI hL K hK => ?_) ?_
        ·go_simp
         exact (rValid02_b ⟨⟨false, np, nn, nc⟩, ⟨db, dp, dn, dc⟩⟩ _ _ w1 ((hX).ext hI) Hok.out).mono (tell hK)
        rintro _ rfl
        simp only [Pq1]
        refine Walk.oneG (x := ?_) rfl (by as_aux_lemma => kernel_rfl) (fun w1 hI hL K hK => ?_) ?_
        rotate_left
        ·obtain ⟨hc, hf⟩ := bcell hI
         go_simp
         repeat (first | (go_ints; try go_simp) | (simp only [↓IntWalk.iteOmega]; try go_simp))
         exact hK
        simp only [Pq1]
        iterate 2
         refine Walk.one (x := ?_) rfl rfl (fun w1 hI hL K hK => ?_) ?_
         rotate_left
         ·obtain ⟨hc, hf⟩ := bcell hI
          go_simp
          repeat (first | (go_ints; try go_simp) | (simp only [↓IntWalk.iteOmega]; try go_simp))
          exact hK
         simp only [Pq1]
        refine Walk.oneG (x := ?_) rfl (by as_aux_lemma => kernel_rfl) (fun w1 hI hL K hK => ?_) ?_
        rotate_left
        ·obtain ⟨hc, hf⟩ := bcell hI
         go_simp
         repeat (first | (go_ints; try go_simp) | (simp only [↓IntWalk.iteOmega]; try go_simp))
         exact hK
        simp only [Pq1]
        refine Walk.tellG rfl (by as_aux_lemma => kernel_rfl) (fun w1 hI hL K hK => ?_) ?_
        ·go_simp
         exact (tOne  w1).mono (tell hK)
        rintro _ ⟨Z95, rfl⟩
        simp only [Pq1]
        refine Walk.tellG rfl (by as_aux_lemma => kernel_rfl) (fun w1 hI hL K hK => ?_) ?_
        ·go_simp
         exact (rOrderQ ⟨⟨false, np, nn, nc⟩, ⟨db, dp, dn, dc⟩⟩ Z95 q 1 w1 ((hQ).ext hI) ((Tl.getF (kn (i := 24) (v := .agg #[.bool Z95.N.b, .slice Z95.N.p Z95.N.n Z95.N.c, .bool Z95.D.b, .slice Z95.D.p Z95.D.n Z95.D.c]) rfl (by simp) (pred_of (by as_aux_lemma => kernel_rfl)) hL)).1) bq sz_one).mono (tell hK)
        rintro _ rfl
        simp only [Pq1]
        refine Walk.oneG (x := ?_) rfl (by as_aux_lemma => kernel_rfl) (fun w1 hI hL K hK => ?_) ?_
        rotate_left
        ·obtain ⟨hc, hf⟩ := bcell hI
         go_simp
         repeat (first | (go_ints; try go_simp) | (simp only [↓IntWalk.iteOmega]; try go_simp))
         exact hK
        simp only [Pq1]
        refine Walk.one (x := ?_) rfl rfl (fun w1 hI hL K hK => ?_) ?_
        rotate_left
        ·obtain ⟨hc, hf⟩ := bcell hI
         go_simp
         repeat (first | (go_ints; try go_simp) | (simp only [↓IntWalk.iteOmega]; try go_simp))
         exact hK
        simp only [Pq1]
        refine Walk.nilF fun w7 ew7 kzL kzX => ?_
        have zw7 := ew7.size
        clear kzL kzX
        simp only [List.drop_succ_cons, List.drop_zero, List.drop_nil]
        have xr9_w7 := eg ew3 ew7
        replace B1 := B1.ext xr9_w7
        have xw_w7 := eg xw_w3 ew7
        go_wp2_with fail
        clear b2_w3
        go_roundw
        case rel => exact ⟨j + 1, rfl, by omega, Lib.hid (fun k hk => (Nat.lt_or_eq_of_le (Nat.le_of_lt_succ hk)).elim (hallj.out k) (fun e => e ▸ Hc.out)), B1, xw_w7⟩
        case measure => simp [intOf] <;> omega
       ·skip
        have xw_w3 := eg xw_r9 ew3
        have b2_w3 := B2.c4
        replace hX := hX.ext ew3
        have hno := Lib.hid (okT_el hin hjn (by rw [hXe]; unfold okR; simp; omega))
        have d1 : decide (1 < ((nn : Nat) : Int)) = false := by simp; omega
        have e1 : decide (1 < nn) = false := by simp; omega
        have d2 : decide (1 < ((dn : Nat) : Int)) = false := by simp; omega
        have e2 : decide (1 < dn) = false := by simp; omega
        obtain ⟨q, hq0, bq, -⟩ := okF_FR hX0 ok
        have hcq := cmp_one hX0 hq0 rfl
        have Hok := Lib.hid ok
        clear ok
        have hQ := hq0.ext xw_w3
        clear hq0
        have hd : decide (0 < cmpQ q 1) = true := by have := of_decide_eq_false (hcq.trans (decide_eq_false hc)); simp; omega
        clear hcq hc
        go_wp2_with fail
        clear hww3
        clear b1_r9
        replace zw3 := le2 zw3
        refine regionT 28 (fun kk => match kk with | 19 => some (.v (.bool true)) | 24 => some (.f (1)) | 25 => some (.v (.int .i64 (cmpQ q 1))) | _ => none) (by as_aux_lemma => kernel_rfl) (head_of (by as_aux_lemma => kernel_rfl)) ?_
        iterate 6
         refine Walk.one (x := ?_) rfl rfl (fun w1 hI hL K hK => ?_) ?_
         rotate_left
         ·obtain ⟨hc, hf⟩ := bcell hI
          go_simp
          repeat (first | (go_ints; try go_simp) | (simp only [↓IntWalk.iteOmega]; try go_simp))
          exact hK
         simp only [Pq1]
        refine Walk.oneG (x := ?_) rfl (by as_aux_lemma => kernel_rfl) (fun w1 hI hL K hK => ?_) ?_
        rotate_left
        ·obtain ⟨hc, hf⟩ := bcell hI
         go_simp
         repeat (first | (go_ints; try go_simp) | (simp only [↓IntWalk.iteOmega]; try go_simp))
         exact hK
        simp only [Pq1]
        refine Walk.oneG (x := ?_) rfl (by as_aux_lemma => kernel_rfl) (fun w1 hI hL K hK => ?_) ?_
        rotate_left
        ·obtain ⟨hc, hf⟩ := bcell hI
         go_simp
         repeat (first | (go_ints; try go_simp) | (simp only [↓IntWalk.iteOmega]; try go_simp))
         exact hK
        simp only [Pq1]
        refine Walk.oneG (x := ?_) rfl (by as_aux_lemma => kernel_rfl) (fun w1 hI hL K hK => ?_) ?_
        rotate_left
        ·obtain ⟨hc, hf⟩ := bcell hI
         go_simp
         repeat (first | (go_ints; try go_simp) | (simp only [↓IntWalk.iteOmega]; try go_simp))
         exact hK
        simp only [Pq1]
        refine Walk.oneG (x := ?_) rfl (by as_aux_lemma => kernel_rfl) (fun w1 hI hL K hK => ?_) ?_
        rotate_left
        ·obtain ⟨hc, hf⟩ := bcell hI
         go_simp
         repeat (first | (go_ints; try go_simp) | (simp only [↓IntWalk.iteOmega]; try go_simp))
         exact hK
        simp only [Pq1]
        refine Walk.oneG (x := ?_) rfl (by as_aux_lemma => kernel_rfl) (fun w1 hI hL K hK => ?_) ?_
        rotate_left
        ·obtain ⟨hc, hf⟩ := bcell hI
         go_simp
         repeat (first | (go_ints; try go_simp) | (simp only [↓IntWalk.iteOmega]; try go_simp))
         exact hK
        simp only [Pq1]
        iterate 2
         refine Walk.one (x := ?_) rfl rfl (fun w1 hI hL K hK => ?_) ?_
         rotate_left
         ·obtain ⟨hc, hf⟩ := bcell hI
          go_simp
          repeat (first | (go_ints; try go_simp) | (simp only [↓IntWalk.iteOmega]; try go_simp))
          exact hK
         simp only [Pq1]
        refine Walk.oneG (x := ?_) rfl (by as_aux_lemma => kernel_rfl) (fun w1 hI hL K hK => ?_) ?_
        rotate_left
        ·obtain ⟨hc, hf⟩ := bcell hI
         go_simp
         repeat (first | (go_ints; try go_simp) | (simp only [↓IntWalk.iteOmega]; try go_simp))
         exact hK
        simp only [Pq1]
        refine Walk.oneG (x := ?_) rfl (by as_aux_lemma => kernel_rfl) (fun w1 hI hL K hK => ?_) ?_
        rotate_left
        ·obtain ⟨hc, hf⟩ := bcell hI
         go_simp
         repeat (first | (go_ints; try go_simp) | (simp only [↓IntWalk.iteOmega]; try go_simp))
         exact hK
        simp only [Pq1]
        refine Walk.oneG (x := ?_) rfl (by as_aux_lemma => kernel_rfl) (fun w1 hI hL K hK => ?_) ?_
        rotate_left
        ·obtain ⟨hc, hf⟩ := bcell hI
         go_simp
         repeat (first | (go_ints; try go_simp) | (simp only [↓IntWalk.iteOmega]; try go_simp))
         exact hK
        simp only [Pq1]
        iterate 2
         refine Walk.one (x := ?_) rfl rfl (fun w1 hI hL K hK => ?_) ?_
         rotate_left
         ·obtain ⟨hc, hf⟩ := bcell hI
          go_simp
          repeat (first | (go_ints; try go_simp) | (simp only [↓IntWalk.iteOmega]; try go_simp))
          exact hK
         simp only [Pq1]
        refine Walk.oneG (x := ?_) rfl (by as_aux_lemma => kernel_rfl) (fun w1 hI hL K hK => ?_) ?_
        rotate_left
        ·obtain ⟨hc, hf⟩ := bcell hI
         go_simp
         repeat (first | (go_ints; try go_simp) | (simp only [↓IntWalk.iteOmega]; try go_simp))
         exact hK
        simp only [Pq1]
        refine Walk.tellG rfl (by as_aux_lemma => kernel_rfl) (fun w1 hI hL K hK => ?_) ?_
        ·go_simp
         exact (rValid02_b ⟨⟨false, np, nn, nc⟩, ⟨db, dp, dn, dc⟩⟩ _ _ w1 ((hX).ext hI) Hok.out).mono (tell hK)
        rintro _ rfl
        simp only [Pq1]
        refine Walk.oneG (x := ?_) rfl (by as_aux_lemma => kernel_rfl) (fun w1 hI hL K hK => ?_) ?_
        rotate_left
        ·obtain ⟨hc, hf⟩ := bcell hI
         go_simp
         repeat (first | (go_ints; try go_simp) | (simp only [↓IntWalk.iteOmega]; try go_simp))
         exact hK
        simp only [Pq1]
        iterate 2
         refine Walk.one (x := ?_) rfl rfl (fun w1 hI hL K hK => ?_) ?_
         rotate_left
         ·obtain ⟨hc, hf⟩ := bcell hI
          go_simp
          repeat (first | (go_ints; try go_simp) | (simp only [↓IntWalk.iteOmega]; try go_simp))
          exact hK
         simp only [Pq1]
        refine Walk.oneG (x := ?_) rfl (by as_aux_lemma => kernel_rfl) (fun w1 hI hL K hK => ?_) ?_
        rotate_left
        ·obtain ⟨hc, hf⟩ := bcell hI
         go_simp
         repeat (first | (go_ints; try go_simp) | (simp only [↓IntWalk.iteOmega]; try go_simp))
         exact hK
        simp only [Pq1]
        refine Walk.tellG rfl (by as_aux_lemma => kernel_rfl) (fun w1 hI hL K hK => ?_) ?_
        ·go_simp
         exact (tOne  w1).mono (tell hK)
        rintro _ ⟨Z95, rfl⟩
        simp only [Pq1]
        refine Walk.tellG rfl (by as_aux_lemma => kernel_rfl) (fun w1 hI hL K hK => ?_) ?_
        ·go_simp
         exact (rOrderQ ⟨⟨false, np, nn, nc⟩, ⟨db, dp, dn, dc⟩⟩ Z95 q 1 w1 ((hQ).ext hI) ((Tl.getF (kn (i := 24) (v := .agg #[.bool Z95.N.b, .slice Z95.N.p Z95.N.n Z95.N.c, .bool Z95.D.b, .slice Z95.D.p Z95.D.n Z95.D.c]) rfl (by simp) (pred_of (by as_aux_lemma => kernel_rfl)) hL)).1) bq sz_one).mono (tell hK)
        rintro _ rfl
        simp only [Pq1]
        refine Walk.oneG (x := ?_) rfl (by as_aux_lemma => kernel_rfl) (fun w1 hI hL K hK => ?_) ?_
        rotate_left
        ·obtain ⟨hc, hf⟩ := bcell hI
         go_simp
         repeat (first | (go_ints; try go_simp) | (simp only [↓IntWalk.iteOmega]; try go_simp))
         exact hK
        simp only [Pq1]
        refine Walk.one (x := ?_) rfl rfl (fun w1 hI hL K hK => ?_) ?_
        rotate_left
        ·obtain ⟨hc, hf⟩ := bcell hI
         go_simp
         repeat (first | (go_ints; try go_simp) | (simp only [↓IntWalk.iteOmega]; try go_simp))
         exact hK
        simp only [Pq1]
        refine Walk.nilF fun w8 ew8 kzL kzX => ?_
        have zw8 := ew8.size
        clear kzL kzX
        simp only [List.drop_succ_cons, List.drop_zero, List.drop_nil]
        have xw_w8 := eg xw_w3 ew8
        go_wp2_with fail
        clear b2_w3
        refine bodyPost_ret (v := .bool false) (by simp [results, Tryz.results11, go_sem]) rfl ?_
        rw [hno.out]
        exact Gv.of_v xw_w8
      ·skip
       have hX0 := h.raw i hin j hjn
       have hel0 := (h.row i hin).el j hjn
       rw [hXe] at hX0 hel0
       have hX := hX0.ext xw_r9
       have hel := hel0.ext xw_r9
       have y0 := hel.c0
       have y1 := hel.c1
       have y2 := hel.c2
       have y3 := hel.c3
       have hsl := cell_ext xw_r9 (h.sl i hin)
       have hhr := (h.row i hin).has
       have l1 : nn ≤ (T.ln i j).length := Nat.le_of_eq hX0.u1
       have l3 : (T.ln i j).length ≤ nn := Nat.le_of_eq hX0.u1.symm
       have l2 : dn ≤ (T.ld i j).length := Nat.le_of_eq hX0.u2
       have l4 : (T.ld i j).length ≤ dn := Nat.le_of_eq hX0.u2.symm
       obtain ⟨w9, hww9, ew9, B3, zw9⟩ := alloc_at r9 (r9.heap.size) (by omega) #[.bool true, .slice np nn nc, .bool db, .slice dp dn dc] 40
       rcases (by omega : 1 < nn ∨ (¬ 1 < nn ∧ 1 < dn) ∨ (¬ 1 < nn ∧ ¬ 1 < dn)) with n1 | ⟨n1, n2⟩ | ⟨n1, n2⟩
       ·skip
        have b3_w9 := B3.c4
        have xw_w9 := eg xw_r9 ew9
        have hno := Lib.hid (okT_el hin hjn (by rw [hXe]; unfold okR; simp))
        have d1 : decide (1 < ((nn : Nat) : Int)) = true := by simp; omega
        have e1 : decide (1 < nn) = true := by simp; omega
        go_wp2_with fail
        clear hww9
        clear b1_r9
        replace zw9 := le2 zw9
        refine regionT 28 (fun _ => none) (by as_aux_lemma => kernel_rfl) (head_of (by as_aux_lemma => kernel_rfl)) ?_
        iterate 6
         refine Walk.one (x := ?_) rfl rfl (fun w1 hI hL K hK => ?_) ?_
         rotate_left
         ·obtain ⟨hc, hf⟩ := bcell hI
          go_simp
          repeat (first | (go_ints; try go_simp) | (simp only [↓IntWalk.iteOmega]; try go_simp))
          exact hK
         simp only [Pq1]
        refine Walk.skip rfl (by as_aux_lemma => kernel_rfl) ?_
        simp only [Pq1]
        refine Walk.skip rfl (by as_aux_lemma => kernel_rfl) ?_
        simp only [Pq1]
        refine Walk.skip rfl (by as_aux_lemma => kernel_rfl) ?_
        simp only [Pq1]
        refine Walk.skip rfl (by as_aux_lemma => kernel_rfl) ?_
        simp only [Pq1]
        refine Walk.skip rfl (by as_aux_lemma => kernel_rfl) ?_
        simp only [Pq1]
        iterate 2
         refine Walk.one (x := ?_) rfl rfl (fun w1 hI hL K hK => ?_) ?_
         rotate_left
         ·obtain ⟨hc, hf⟩ := bcell hI
          go_simp
          repeat (first | (go_ints; try go_simp) | (simp only [↓IntWalk.iteOmega]; try go_simp))
          exact hK
         simp only [Pq1]
        refine Walk.skip rfl (by as_aux_lemma => kernel_rfl) ?_
        simp only [Pq1]
        refine Walk.skip rfl (by as_aux_lemma => kernel_rfl) ?_
        simp only [Pq1]
        refine Walk.skip rfl (by as_aux_lemma => kernel_rfl) ?_
        simp only [Pq1]
        iterate 2
         refine Walk.one (x := ?_) rfl rfl (fun w1 hI hL K hK => ?_) ?_
         rotate_left
         ·obtain ⟨hc, hf⟩ := bcell hI
          go_simp
          repeat (first | (go_ints; try go_simp) | (simp only [↓IntWalk.iteOmega]; try go_simp))
          exact hK
         simp only [Pq1]
        refine Walk.skip rfl (by as_aux_lemma => kernel_rfl) ?_
        simp only [Pq1]
        refine Walk.skip rfl (by as_aux_lemma => kernel_rfl) ?_
        simp only [Pq1]
        refine Walk.skip rfl (by as_aux_lemma => kernel_rfl) ?_
        simp only [Pq1]
        iterate 2
         refine Walk.one (x := ?_) rfl rfl (fun w1 hI hL K hK => ?_) ?_
         rotate_left
         ·obtain ⟨hc, hf⟩ := bcell hI
          go_simp
          repeat (first | (go_ints; try go_simp) | (simp only [↓IntWalk.iteOmega]; try go_simp))
          exact hK
         simp only [Pq1]
        refine Walk.skip rfl (by as_aux_lemma => kernel_rfl) ?_
        simp only [Pq1]
        refine Walk.skip rfl (by as_aux_lemma => kernel_rfl) ?_
        simp only [Pq1]
        refine Walk.skip rfl (by as_aux_lemma => kernel_rfl) ?_
        simp only [Pq1]
        refine Walk.skip rfl (by as_aux_lemma => kernel_rfl) ?_
        simp only [Pq1]
        refine Walk.one (x := ?_) rfl rfl (fun w1 hI hL K hK => ?_) ?_
        rotate_left
        ·obtain ⟨hc, hf⟩ := bcell hI
         go_simp
         repeat (first | (go_ints; try go_simp) | (simp only [↓IntWalk.iteOmega]; try go_simp))
         exact hK
        simp only [Pq1]
        refine Walk.nilF fun w10 ew10 kzL kzX => ?_
        have zw10 := ew10.size
        clear kzL kzX
        simp only [List.drop_succ_cons, List.drop_zero, List.drop_nil]
        have xw_w10 := eg xw_w9 ew10
        go_wp2_with fail
        clear b3_w9
        refine bodyPost_ret (v := .bool false) (by simp [results, Tryz.results11, go_sem]) rfl ?_
        rw [hno.out]
        exact Gv.of_v xw_w10
       ·skip
        have b3_w9 := B3.c4
        have xw_w9 := eg xw_r9 ew9
        have hno := Lib.hid (okT_el hin hjn (by rw [hXe]; unfold okR; simp))
        have d1 : decide (1 < ((nn : Nat) : Int)) = false := by simp; omega
        have e1 : decide (1 < nn) = false := by simp; omega
        have d2 : decide (1 < ((dn : Nat) : Int)) = true := by simp; omega
        have e2 : decide (1 < dn) = true := by simp; omega
        go_wp2_with fail
        clear hww9
        clear b1_r9
        replace zw9 := le2 zw9
        refine regionT 28 (fun _ => none) (by as_aux_lemma => kernel_rfl) (head_of (by as_aux_lemma => kernel_rfl)) ?_
        iterate 6
         refine Walk.one (x := ?_) rfl rfl (fun w1 hI hL K hK => ?_) ?_
         rotate_left
         ·obtain ⟨hc, hf⟩ := bcell hI
          go_simp
          repeat (first | (go_ints; try go_simp) | (simp only [↓IntWalk.iteOmega]; try go_simp))
          exact hK
         simp only [Pq1]
        refine Walk.oneG (x := ?_) rfl (by as_aux_lemma => kernel_rfl) (fun w1 hI hL K hK => ?_) ?_
        rotate_left
        ·obtain ⟨hc, hf⟩ := bcell hI
         go_simp
         repeat (first | (go_ints; try go_simp) | (simp only [↓IntWalk.iteOmega]; try go_simp))
         exact hK
        simp only [Pq1]
        refine Walk.oneG (x := ?_) rfl (by as_aux_lemma => kernel_rfl) (fun w1 hI hL K hK => ?_) ?_
        rotate_left
        ·obtain ⟨hc, hf⟩ := bcell hI
         go_simp
         repeat (first | (go_ints; try go_simp) | (simp only [↓IntWalk.iteOmega]; try go_simp))
         exact hK
        simp only [Pq1]
        refine Walk.oneG (x := ?_) rfl (by as_aux_lemma => kernel_rfl) (fun w1 hI hL K hK => ?_) ?_
        rotate_left
        ·obtain ⟨hc, hf⟩ := bcell hI
         go_simp
         repeat (first | (go_ints; try go_simp) | (simp only [↓IntWalk.iteOmega]; try go_simp))
         exact hK
        simp only [Pq1]
        refine Walk.oneG (x := ?_) rfl (by as_aux_lemma => kernel_rfl) (fun w1 hI hL K hK => ?_) ?_
        rotate_left
        ·obtain ⟨hc, hf⟩ := bcell hI
         go_simp
         repeat (first | (go_ints; try go_simp) | (simp only [↓IntWalk.iteOmega]; try go_simp))
         exact hK
        simp only [Pq1]
        refine Walk.oneG (x := ?_) rfl (by as_aux_lemma => kernel_rfl) (fun w1 hI hL K hK => ?_) ?_
        rotate_left
        ·obtain ⟨hc, hf⟩ := bcell hI
         go_simp
         repeat (first | (go_ints; try go_simp) | (simp only [↓IntWalk.iteOmega]; try go_simp))
         exact hK
        simp only [Pq1]
        iterate 2
         refine Walk.one (x := ?_) rfl rfl (fun w1 hI hL K hK => ?_) ?_
         rotate_left
         ·obtain ⟨hc, hf⟩ := bcell hI
          go_simp
          repeat (first | (go_ints; try go_simp) | (simp only [↓IntWalk.iteOmega]; try go_simp))
          exact hK
         simp only [Pq1]
        refine Walk.skip rfl (by as_aux_lemma => kernel_rfl) ?_
        simp only [Pq1]
        refine Walk.skip rfl (by as_aux_lemma => kernel_rfl) ?_
        simp only [Pq1]
        refine Walk.skip rfl (by as_aux_lemma => kernel_rfl) ?_
        simp only [Pq1]
        iterate 2
         refine Walk.one (x := ?_) rfl rfl (fun w1 hI hL K hK => ?_) ?_
         rotate_left
         ·obtain ⟨hc, hf⟩ := bcell hI
          go_simp
          repeat (first | (go_ints; try go_simp) | (simp only [↓IntWalk.iteOmega]; try go_simp))
          exact hK
         simp only [Pq1]
        refine Walk.skip rfl (by as_aux_lemma => kernel_rfl) ?_
        simp only [Pq1]
        refine Walk.skip rfl (by as_aux_lemma => kernel_rfl) ?_
        simp only [Pq1]
        refine Walk.skip rfl (by as_aux_lemma => kernel_rfl) ?_
        simp only [Pq1]
        iterate 2
         refine Walk.one (x := ?_) rfl rfl (fun w1 hI hL K hK => ?_) ?_
         rotate_left
         ·obtain ⟨hc, hf⟩ := bcell hI
          go_simp
          repeat (first | (go_ints; try go_simp) | (simp only [↓IntWalk.iteOmega]; try go_simp))
          exact hK
         simp only [Pq1]
        refine Walk.skip rfl (by as_aux_lemma => kernel_rfl) ?_
        simp only [Pq1]
        refine Walk.skip rfl (by as_aux_lemma => kernel_rfl) ?_
        simp only [Pq1]
        refine Walk.skip rfl (by as_aux_lemma => kernel_rfl) ?_
        simp only [Pq1]
        refine Walk.skip rfl (by as_aux_lemma => kernel_rfl) ?_
        simp only [Pq1]
        refine Walk.one (x := ?_) rfl rfl (fun w1 hI hL K hK => ?_) ?_
        rotate_left
        ·obtain ⟨hc, hf⟩ := bcell hI
         go_simp
         repeat (first | (go_ints; try go_simp) | (simp only [↓IntWalk.iteOmega]; try go_simp))
         exact hK
        simp only [Pq1]
        refine Walk.nilF fun w11 ew11 kzL kzX => ?_
        have zw11 := ew11.size
        clear kzL kzX
        simp only [List.drop_succ_cons, List.drop_zero, List.drop_nil]
        have xw_w11 := eg xw_w9 ew11
        go_wp2_with fail
        clear b3_w9
        refine bodyPost_ret (v := .bool false) (by simp [results, Tryz.results11, go_sem]) rfl ?_
        rw [hno.out]
        exact Gv.of_v xw_w11
       ·skip
        have b3_w9 := B3.c4
        have xw_w9 := eg xw_r9 ew9
        have hno := Lib.hid (okT_el hin hjn (by rw [hXe]; unfold okR; simp))
        have d1 : decide (1 < ((nn : Nat) : Int)) = false := by simp; omega
        have e1 : decide (1 < nn) = false := by simp; omega
        have d2 : decide (1 < ((dn : Nat) : Int)) = false := by simp; omega
        have e2 : decide (1 < dn) = false := by simp; omega
        go_wp2_with fail
        clear hww9
        clear b1_r9
        replace zw9 := le2 zw9
        refine regionT 28 (fun _ => none) (by as_aux_lemma => kernel_rfl) (head_of (by as_aux_lemma => kernel_rfl)) ?_
        iterate 6
         refine Walk.one (x := ?_) rfl rfl (fun w1 hI hL K hK => ?_) ?_
         rotate_left
         ·obtain ⟨hc, hf⟩ := bcell hI
          go_simp
          repeat (first | (go_ints; try go_simp) | (simp only [↓IntWalk.iteOmega]; try go_simp))
          exact hK
         simp only [Pq1]
        refine Walk.oneG (x := ?_) rfl (by as_aux_lemma => kernel_rfl) (fun w1 hI hL K hK => ?_) ?_
        rotate_left
        ·obtain ⟨hc, hf⟩ := bcell hI
         go_simp
         repeat (first | (go_ints; try go_simp) | (simp only [↓IntWalk.iteOmega]; try go_simp))
         exact hK
        simp only [Pq1]
        refine Walk.oneG (x := ?_) rfl (by as_aux_lemma => kernel_rfl) (fun w1 hI hL K hK => ?_) ?_
        rotate_left
        ·obtain ⟨hc, hf⟩ := bcell hI
         go_simp
         repeat (first | (go_ints; try go_simp) | (simp only [↓IntWalk.iteOmega]; try go_simp))
         exact hK
        simp only [Pq1]
        refine Walk.oneG (x := ?_) rfl (by as_aux_lemma => kernel_rfl) (fun w1 hI hL K hK => ?_) ?_
        rotate_left
        ·obtain ⟨hc, hf⟩ := bcell hI
         go_simp
         repeat (first | (go_ints; try go_simp) | (simp only [↓IntWalk.iteOmega]; try go_simp))
         exact hK
        simp only [Pq1]
        refine Walk.oneG (x := ?_) rfl (by as_aux_lemma => kernel_rfl) (fun w1 hI hL K hK => ?_) ?_
        rotate_left
        ·obtain ⟨hc, hf⟩ := bcell hI
         go_simp
         repeat (first | (go_ints; try go_simp) | (simp only [↓IntWalk.iteOmega]; try go_simp))
         exact hK
        simp only [Pq1]
        refine Walk.oneG (x := ?_) rfl (by as_aux_lemma => kernel_rfl) (fun w1 hI hL K hK => ?_) ?_
        rotate_left
        ·obtain ⟨hc, hf⟩ := bcell hI
         go_simp
         repeat (first | (go_ints; try go_simp) | (simp only [↓IntWalk.iteOmega]; try go_simp))
         exact hK
        simp only [Pq1]
        iterate 2
         refine Walk.one (x := ?_) rfl rfl (fun w1 hI hL K hK => ?_) ?_
         rotate_left
         ·obtain ⟨hc, hf⟩ := bcell hI
          go_simp
          repeat (first | (go_ints; try go_simp) | (simp only [↓IntWalk.iteOmega]; try go_simp))
          exact hK
         simp only [Pq1]
        refine Walk.oneG (x := ?_) rfl (by as_aux_lemma => kernel_rfl) (fun w1 hI hL K hK => ?_) ?_
        rotate_left
        ·obtain ⟨hc, hf⟩ := bcell hI
         go_simp
         repeat (first | (go_ints; try go_simp) | (simp only [↓IntWalk.iteOmega]; try go_simp))
         exact hK
        simp only [Pq1]
        refine Walk.oneG (x := ?_) rfl (by as_aux_lemma => kernel_rfl) (fun w1 hI hL K hK => ?_) ?_
        rotate_left
        ·obtain ⟨hc, hf⟩ := bcell hI
         go_simp
         repeat (first | (go_ints; try go_simp) | (simp only [↓IntWalk.iteOmega]; try go_simp))
         exact hK
        simp only [Pq1]
        refine Walk.oneG (x := ?_) rfl (by as_aux_lemma => kernel_rfl) (fun w1 hI hL K hK => ?_) ?_
        rotate_left
        ·obtain ⟨hc, hf⟩ := bcell hI
         go_simp
         repeat (first | (go_ints; try go_simp) | (simp only [↓IntWalk.iteOmega]; try go_simp))
         exact hK
        simp only [Pq1]
        iterate 2
         refine Walk.one (x := ?_) rfl rfl (fun w1 hI hL K hK => ?_) ?_
         rotate_left
         ·obtain ⟨hc, hf⟩ := bcell hI
          go_simp
          repeat (first | (go_ints; try go_simp) | (simp only [↓IntWalk.iteOmega]; try go_simp))
          exact hK
         simp only [Pq1]
        refine Walk.skip rfl (by as_aux_lemma => kernel_rfl) ?_
        simp only [Pq1]
        refine Walk.skip rfl (by as_aux_lemma => kernel_rfl) ?_
        simp only [Pq1]
        refine Walk.skip rfl (by as_aux_lemma => kernel_rfl) ?_
        simp only [Pq1]
        iterate 2
         refine Walk.one (x := ?_) rfl rfl (fun w1 hI hL K hK => ?_) ?_
         rotate_left
         ·obtain ⟨hc, hf⟩ := bcell hI
          go_simp
          repeat (first | (go_ints; try go_simp) | (simp only [↓IntWalk.iteOmega]; try go_simp))
          exact hK
         simp only [Pq1]
        refine Walk.skip rfl (by as_aux_lemma => kernel_rfl) ?_
        simp only [Pq1]
        refine Walk.skip rfl (by as_aux_lemma => kernel_rfl) ?_
        simp only [Pq1]
        refine Walk.skip rfl (by as_aux_lemma => kernel_rfl) ?_
        simp only [Pq1]
        refine Walk.skip rfl (by as_aux_lemma => kernel_rfl) ?_
        simp only [Pq1]
        refine Walk.one (x := ?_) rfl rfl (fun w1 hI hL K hK => ?_) ?_
        rotate_left
        ·obtain ⟨hc, hf⟩ := bcell hI
         go_simp
         repeat (first | (go_ints; try go_simp) | (simp only [↓IntWalk.iteOmega]; try go_simp))
         exact hK
        simp only [Pq1]
        refine Walk.nilF fun w12 ew12 kzL kzX => ?_
        have zw12 := ew12.size
        clear kzL kzX
        simp only [List.drop_succ_cons, List.drop_zero, List.drop_nil]
        have xw_w12 := eg xw_w9 ew12
        go_wp2_with fail
        clear b3_w9
        refine bodyPost_ret (v := .bool false) (by simp [results, Tryz.results11, go_sem]) rfl ?_
        rw [hno.out]
        exact Gv.of_v xw_w12
      ·skip
       have hsl := cell_ext xw_r9 (h.sl i hin)
       go_wp2_with fail
       go_roundw
       case rel => exact ⟨i + 1, rfl, by omega, Lib.hid (fun k hk => (Nat.lt_or_eq_of_le (Nat.le_of_lt_succ hk)).elim (hall.out k) (fun e => e ▸ ⟨Hlen.out, fun l hl => hallj.out l (Nat.lt_of_lt_of_le hl hjn)⟩)), B1, xw_r9⟩
       case measure => simp [intOf] <;> omega
    ·skip
     have hl : ((T.rn i : Int) != T.sel + 1) = true := by rw [bne_iff_ne]; exact hlen
     have hno := Lib.hid (okT_len hin hlen)
     clear hlen
     go_wp2_with fail
     refine regionT 10 (fun _ => none) (by as_aux_lemma => kernel_rfl) (head_of (by as_aux_lemma => kernel_rfl)) ?_
     iterate 4
      refine Walk.one (x := ?_) rfl rfl (fun w1 hI hL K hK => ?_) ?_
      rotate_left
      ·obtain ⟨hc, hf⟩ := bcell hI
       go_simp
       repeat (first | (go_ints; try go_simp) | (simp only [↓IntWalk.iteOmega]; try go_simp))
       exact hK
      simp only [Pq1]
     refine Walk.one (x := ?_) rfl rfl (fun w1 hI hL K hK => ?_) ?_
     rotate_left
     ·have x0 := cell_ext hI hsl
      go_simp
      repeat (first | (go_ints; try go_simp) | (simp only [↓IntWalk.iteOmega]; try go_simp))
      exact hK
     simp only [Pq1]
     iterate 5
      refine Walk.one (x := ?_) rfl rfl (fun w1 hI hL K hK => ?_) ?_
      rotate_left
      ·obtain ⟨hc, hf⟩ := bcell hI
       go_simp
       repeat (first | (go_ints; try go_simp) | (simp only [↓IntWalk.iteOmega]; try go_simp))
       exact hK
      simp only [Pq1]
     refine Walk.nilF fun w13 ew13 kzL kzX => ?_
     have zw13 := ew13.size
     clear kzL kzX
     simp only [List.drop_succ_cons, List.drop_zero, List.drop_nil]
     have xw_w13 := eg xw_r4 ew13
     go_wp2_with fail
     clear b1_r4
     refine bodyPost_ret (v := .bool false) (by simp [results, Tryz.results11, go_sem]) rfl ?_
     rw [hno.out]
     exact Gv.of_v xw_w13
   ·skip
    obtain rfl : i = T.N := by omega
    obtain ⟨R, tq⟩ := TQ.of h Hb.out hall.out
    have hN : T.N - 1 < T.N := by omega
    have hrn := tq.rn (T.N - 1) hN
    have hsel : T.sel.toNat < T.rn (T.N - 1) := by omega
    have hv : okT T = eqQ (R (T.N - 1) T.sel.toNat) 1 := by
     have h1 := eq_one_iff (tq.tw.raw (T.N - 1) hN T.sel.toNat hsel) (tq.q (T.N - 1) hN T.sel.toNat hsel) (tq.sz (T.N - 1) hN T.sel.toNat hsel).2.2.1
     rw [Bool.eq_iff_iff, okT_iff, h1]
     exact ⟨fun ok => ok.2.2, fun e => ⟨Hb.out, hall.out, e⟩⟩
    have Hv := Lib.hid hv
    obtain ⟨Y, hYe⟩ : ∃ Y, Y = T.el (T.N - 1) T.sel.toNat := ⟨_, rfl⟩
    have hY := (tq.q (T.N - 1) hN T.sel.toNat hsel).ext xw_r4
    have hel := ((h.row (T.N - 1) hN).el T.sel.toNat hsel).ext xw_r4
    rw [← hYe] at hY hel
    clear hYe
    have hsl := cell_ext xw_r4 (h.sl (T.N - 1) hN)
    have hhr := (h.row (T.N - 1) hN).has
    have hs1 : IntKind.i64.wrap ((T.N : Int) - 1) = ((T.N - 1 : Nat) : Int) := by simp [IntKind.wrap, IntKind.bits, IntKind.signed]; omega
    have hN1 : ((T.N : Int) - 1).toNat = T.N - 1 := by omega
    clear hv hrn
    go_wp2_with fail
    refine regionT 14 (fun kk => match kk with | 12 => some (.f (1)) | 13 => some (.v (.bool (eqQ (R (T.N - 1) T.sel.toNat) 1))) | _ => none) (by as_aux_lemma => kernel_rfl) (head_of (by as_aux_lemma => kernel_rfl)) ?_
    iterate 7
     refine Walk.one (x := ?_) rfl rfl (fun w1 hI hL K hK => ?_) ?_
     rotate_left
     ·obtain ⟨hc, hf⟩ := bcell hI
      go_simp
      repeat (first | (go_ints; try go_simp) | (simp only [↓IntWalk.iteOmega]; try go_simp))
      exact hK
     simp only [Pq1]
    refine Walk.one (x := ?_) rfl rfl (fun w1 hI hL K hK => ?_) ?_
    rotate_left
    ·have x0 := cell_ext hI hsl
     go_simp
     repeat (first | (go_ints; try go_simp) | (simp only [↓IntWalk.iteOmega]; try go_simp))
     exact hK
    simp only [Pq1]
    iterate 3
     refine Walk.one (x := ?_) rfl rfl (fun w1 hI hL K hK => ?_) ?_
     rotate_left
     ·obtain ⟨hc, hf⟩ := bcell hI
      go_simp
      repeat (first | (go_ints; try go_simp) | (simp only [↓IntWalk.iteOmega]; try go_simp))
      exact hK
     simp only [Pq1]
    refine Walk.one (x := ?_) rfl rfl (fun w1 hI hL K hK => ?_) ?_
    rotate_left
    ·have x1 := hel.ext hI
     have y0 := x1.c0
     have y1 := x1.c1
     have y2 := x1.c2
     have y3 := x1.c3
     go_simp
     repeat (first | (go_ints; try go_simp) | (simp only [↓IntWalk.iteOmega]; try go_simp))
     exact hK
    simp only [Pq1]
    refine Walk.tell rfl rfl (fun w1 hI hL K hK => ?_) ?_
    ·go_simp
     exact (tOne  w1).mono (tell hK)
    rintro _ ⟨Z111, rfl⟩
    simp only [Pq1]
    refine Walk.tell rfl rfl (fun w1 hI hL K hK => ?_) ?_
    ·go_simp
     exact (rSameQ Y Z111 _ 1 w1 ((hY).ext hI) ((Tl.getF (kn (i := 12) (v := .agg #[.bool Z111.N.b, .slice Z111.N.p Z111.N.n Z111.N.c, .bool Z111.D.b, .slice Z111.D.p Z111.D.n Z111.D.c]) rfl (by simp) (pred_of (by as_aux_lemma => kernel_rfl)) hL)).1)).mono (tell hK)
    rintro _ rfl
    simp only [Pq1]
    refine Walk.nilF fun w14 ew14 kzL kzX => ?_
    have zw14 := ew14.size
    clear kzL kzX
    simp only [List.drop_succ_cons, List.drop_zero, List.drop_nil]
    have xw_w14 := eg xw_r4 ew14
    go_wp2_with fail
    clear b1_r4
    refine bodyPost_ret (v := .bool (eqQ (R (T.N - 1) T.sel.toNat) 1)) (by simp [results, Tryz.results11, go_sem]) rfl ?_
    rw [Hv.out]
    exact Gv.of_v xw_w14
end Go.Proofs.YtndgaecfeaedeaaGreat
