/- Walks of package life: Valid. -/
import Derived.Test.YtndgaecfeaedeaaGreatG17
namespace Go.Proofs.YtndgaecfeaedeaaGreat
set_option linter.unusedSimpArgs false
set_option linter.unusedVariables false
open Go.RowKit Lex Mth
attribute [local go_sem] run_indexAt_at add_zero_map Oper.semAt_some at_zero at_add at_mk1 at_mk2 at_mk3

theorem cf37 : ∀ args w, (callFunc 37 args).run Tryz.prog w = .ok (.enter 37 args) w := fun args w => by simp [go_sem]
theorem okT_f {T : Tb} (h : ¬ OkT T) : okT T = false := by rw [Bool.eq_false_iff]; exact fun e => h (okT_iff.1 e)

set_option maxRecDepth 100000 in
theorem lValid_no (T : Tb) (w : World) (h : TW w T) (hb : ¬ boundsOk T) : Calls Tryz.prog 10 #[T.val] w (Gv (.v (.bool false)) w) := by
  have f1 := h.f1
  have f2 := h.f2
  have s1 := h.s1
  have s2 := h.s2
  have hr := h.reach
  have hE : Ext w (w.alloc (.cells #[.int .i64 T.first, .int .i64 T.sel, .slice T.P T.N T.C] 24)) := ea _ _
  unfold boundsOk at hb
  rcases (by omega : T.first < 0 ∨ (0 ≤ T.first ∧ 150 < T.first) ∨ (0 ≤ T.first ∧ T.first ≤ 150 ∧ T.sel < 0) ∨ (0 ≤ T.first ∧ T.first ≤ 150 ∧ 0 ≤ T.sel ∧ 5 < T.sel) ∨ (0 ≤ T.first ∧ T.first ≤ 150 ∧ 0 ≤ T.sel ∧ T.sel ≤ 5 ∧ T.N < 1) ∨ (0 ≤ T.first ∧ T.first ≤ 150 ∧ 0 ≤ T.sel ∧ T.sel ≤ 5 ∧ 1 ≤ T.N ∧ 111 < T.N)) with h1 | ⟨h1, h2⟩ | ⟨h1, h2, h3⟩ | ⟨h1, h2, h3, h4⟩ | ⟨h1, h2, h3, h4, h5⟩ | ⟨h1, h2, h3, h4, h5, h6⟩
  all_goals
    clear hb
    go_enter Tryz.func10, Tryz.ntmps10
    go_wp2
    go_ret
    exact Gv.of_v hE

set_option maxRecDepth 100000 in
set_option maxHeartbeats 1000000 in
theorem lValid_yes (T : Tb) (w : World) (h : TW w T) (hb : boundsOk T) : Calls Tryz.prog 10 #[T.val] w (Gv (.v (.bool (okT T))) w) := by
  have hhp := h.has
  obtain ⟨b1, b2, b3, b4, b5, b6⟩ := id hb
  obtain ⟨w1, hw1⟩ : ∃ W, w.alloc (.cells #[.int .i64 T.first, .int .i64 T.sel, .slice T.P T.N T.C] 24) = W := ⟨_, rfl⟩
  have e1 : Ext w w1 := by rw [← hw1]; exact ea _ _
  have B1 : Cells w1 w.heap.size 24 #[.int .i64 T.first, .int .i64 T.sel, .slice T.P T.N T.C] := by rw [← hw1]; exact Cells.newAt _ _ rfl
  have c0 := B1.cell (k := 0) rfl
  have c1 := B1.cell (k := 1) rfl
  have c2 := B1.cell (k := 2) rfl
  go_enter Tryz.func10, Tryz.ntmps10
  go_wp2_with fail
  clear hw1
  go_loopw [38] (fun v wr => ∃ i : Nat, v = .int .i64 (i : Nat) ∧ i ≤ T.N ∧ Hid (∀ j, j < i → rowOk T j) ∧ Ext w1 wr) (fun v _ => (T.N - intOf v).toNat)
  case atStart => exact ⟨0, rfl, by omega, Lib.hid (fun j hj => absurd hj (Nat.not_lt_zero _)), Below.refl _ _⟩
  case round =>
    obtain ⟨i, rfl, hi, hall, hE⟩ := hrel
    have D1 := B1.ext hE
    have d0 := D1.cell (k := 0) rfl
    have d1 := D1.cell (k := 1) rfl
    have d2 := D1.cell (k := 2) rfl
    have hEr : Ext w wr := eg e1 hE
    by_cases hik : i < T.N
    · have cs := cell_ext hEr (h.sl i hik)
      have hrow := (h.row i hik).ext hEr
      have hr1 := hrow.reach
      by_cases hlen : (T.rn i : Int) = T.sel + 1
      · have hl : ((T.rn i : Int) != T.sel + 1) = false := by rw [bne_eq_false_iff_eq]; exact hlen
        have Hlen := Lib.hid hlen
        clear hlen
        go_wp2_with fail
        by_cases hq : ∀ j, j < T.rn i → okR (T.el i j).N.b (T.ln i j) (T.el i j).D.b (T.ld i j) = true
        · have Hq := Lib.hid hq
          clear hq
          refine (fContains _ cf37 _ _ _ (T.el i) (fun j => !okR (T.el i j).N.b (T.ln i j) (T.el i j).D.b (T.ld i j)) wr hrow (fun j hj w2 e2 => lValid1 _ _ _ w2 ((h.raw i hik j hj).ext (eg hEr e2)) _ rfl) (b := false) ?_).mono ?_
          · simp only [Bool.false_eq_true, false_iff]
            rintro ⟨j, hj, hv⟩
            rw [Hq.out j hj] at hv; cases hv
          · intro ee w2 gg
            obtain ⟨rfl, e2⟩ := Gv.v gg
            go_wp2_with fail
            go_roundw
            case rel => exact ⟨i + 1, rfl, by omega, Lib.hid (fun j hj => (Nat.lt_or_eq_of_le (Nat.le_of_lt_succ hj)).elim (hall.out j) (fun e => e ▸ ⟨Hlen.out, Hq.out⟩)), eg hE e2⟩
            case measure => simp [intOf]; omega
        · have hq' : ∃ j, j < T.rn i ∧ (!okR (T.el i j).N.b (T.ln i j) (T.el i j).D.b (T.ld i j)) = true := by
            apply Classical.byContradiction
            intro hn
            apply hq
            intro j hj
            cases hv : okR (T.el i j).N.b (T.ln i j) (T.el i j).D.b (T.ld i j)
            · exact absurd ⟨j, hj, by rw [hv]; rfl⟩ hn
            · rfl
          have Hq := Lib.hid hq
          have Hq' := Lib.hid hq'
          clear hq hq'
          refine (fContains _ cf37 _ _ _ (T.el i) (fun j => !okR (T.el i j).N.b (T.ln i j) (T.el i j).D.b (T.ld i j)) wr hrow (fun j hj w2 e2 => lValid1 _ _ _ w2 ((h.raw i hik j hj).ext (eg hEr e2)) _ rfl) (b := true) ?_).mono ?_
          · simp only [true_iff]
            exact Hq'.out
          · intro ee w2 gg
            obtain ⟨rfl, e2⟩ := Gv.v gg
            have hno : okT T = false := okT_f fun ok => Hq.out (ok.2.1 i hik).2
            have Hno := Lib.hid hno
            clear hno
            go_wp2_with fail
            go_ret
            rw [Hno.out]
            exact Gv.of_v (eg hEr e2)
      · have hl : ((T.rn i : Int) != T.sel + 1) = true := by rw [bne_iff_ne]; exact hlen
        have hno : okT T = false := okT_f fun ok => hlen (ok.2.1 i hik).1
        have Hno := Lib.hid hno
        clear hno hlen
        go_wp2_with fail
        go_ret
        rw [Hno.out]
        exact Gv.of_v hEr
    · obtain rfl : i = T.N := by omega
      obtain ⟨R, tq⟩ := TQ.of h hb hall.out
      have tr := tq.ext hEr
      have hN : T.N - 1 < T.N := by omega
      have hrn := tq.rn (T.N - 1) hN
      have hsel : T.sel.toNat < T.rn (T.N - 1) := by omega
      have hrow := tr.tw.row (T.N - 1) hN
      have hhr := hrow.has
      have hfr := tr.q (T.N - 1) hN T.sel.toNat hsel
      have hel := hrow.el T.sel.toNat hsel
      have hsl := tr.tw.sl (T.N - 1) hN
      have Hrn := Lib.hid hrn
      clear hrn
      go_wp2_with fail
      have hv : okT T = eqQ (R (T.N - 1) T.sel.toNat) 1 := by
        have h1 := eq_one_iff (tr.tw.raw (T.N - 1) hN T.sel.toNat hsel) hfr (tq.sz (T.N - 1) hN T.sel.toNat hsel).2.2.1
        rw [Bool.eq_iff_iff, okT_iff, h1]
        exact ⟨fun ok => ok.2.2, fun e => ⟨hb, hall.out, e⟩⟩
      have Hv := Lib.hid hv
      clear hv
      have lB := D1.lt
      have hs1 : IntKind.i64.wrap ((T.N : Int) - 1) = ((T.N - 1 : Nat) : Int) := by simp [IntKind.wrap, IntKind.bits, IntKind.signed]; omega
      have hN1 : ((T.N : Int) - 1).toNat = T.N - 1 := by omega
      refine regionT 12 (fun k => match k with | 10 => some (.f 1) | 11 => some (.v (.bool (eqQ (R (T.N - 1) T.sel.toNat) 1))) | _ => none) (by kernel_rfl) (by kernel_rfl) ?_
      iterate 10
        refine Walk.one (x := ?_) rfl rfl (fun w1 hI hL K hK => ?_) ?_
        rotate_left
        · obtain ⟨hc, hf⟩ := bcell hI
          have x0 := cell_ext hI hsl
          have x1 := hel.ext hI
          have y0 := x1.c0
          have y1 := x1.c1
          have y2 := x1.c2
          have y3 := x1.c3
          go_simp
          repeat (first | (go_ints; try go_simp) | (simp only [↓IntWalk.iteOmega]; try go_simp))
          exact hK
        simp only [Act.put, List.setIfInBounds_toArray, List.set_cons_zero, List.set_cons_succ]
      refine Walk.tell rfl rfl (fun w1 hI hL K hK => ?_) ?_
      · go_simp
        exact (fFromInt_1 w1).mono (tell hK)
      rintro _ ⟨Z63, rfl⟩
      simp only [Act.put, List.setIfInBounds_toArray, List.set_cons_zero, List.set_cons_succ]
      refine Walk.tell rfl rfl (fun w1 hI hL K hK => ?_) ?_
      · have z := (Tl.getF (kn (i := 10) (v := .agg #[.bool Z63.N.b, .slice Z63.N.p Z63.N.n Z63.N.c, .bool Z63.D.b, .slice Z63.D.p Z63.D.n Z63.D.c]) rfl (by simp) (by kernel_rfl) hL)).1
        clear hL
        go_simp
        exact (fSameQ _ Z63 _ 1 w1 (hfr.ext hI) z).mono (tell hK)
      rintro _ rfl
      simp only [Act.put, List.setIfInBounds_toArray, List.set_cons_zero, List.set_cons_succ]
      refine Walk.nil fun w4 hI4 _ => ?_
      simp only [List.drop_succ_cons, List.drop_zero, List.drop_nil]
      go_wp2_with fail
      go_ret
      rw [Hv.out]
      exact Gv.of_v (eg hEr hI4)
theorem lValid (T : Tb) (w : World) (h : TW w T) : Calls Tryz.prog 10 #[T.val] w (Gv (.v (.bool (okT T))) w) := by
  by_cases hb : boundsOk T
  · exact lValid_yes T w h hb
  · rw [okT_f fun ok => hb ok.1]
    exact lValid_no T w h hb
end Go.Proofs.YtndgaecfeaedeaaGreat
