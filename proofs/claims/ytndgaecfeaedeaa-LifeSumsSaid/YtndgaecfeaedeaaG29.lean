/- The walk of LifeSums. -/
import Derived.Test.YtndgaecfeaedeaaG28
namespace Go.Proofs.Ytndgaecfeaedeaa
set_option linter.unusedSimpArgs false
set_option linter.unusedVariables false
open Go.RowKit Lex Mth
attribute [local go_sem] run_indexAt_at add_zero_map Oper.semAt_some at_zero at_add at_mk1 at_mk2 at_mk3

theorem lal_bounds {w : World} {T : Tb} {R : Nat → Nat → Rat} {e y : Int} (hT : TQ w T R) (hok : okL T e y = true) (n : Nat) : 0 ≤ lal T R e y n ∧ lal T R e y n ≤ 1 := by
  obtain ⟨h1, h2, h3, h4⟩ := okL_q4 hok
  exact ⟨al_nonneg (rs_rt hT h1 h2 h3) n, al_le (rs_rt hT h1 h2 h3) n⟩
theorem ldq_bounds {w : World} {T : Tb} {R : Nat → Nat → Rat} {e y : Int} (hT : TQ w T R) (hok : okL T e y = true) (n : Nat) : 0 ≤ ldq T R e y n ∧ ldq T R e y n ≤ 1 := by
  obtain ⟨h1, h2, h3, h4⟩ := okL_q4 hok
  have h := dies_sm (rs_rt hT h1 h2 h3) n
  have := h.le
  rw [natCast_one] at this
  exact ⟨h.nonneg, this⟩
theorem lal_next (T : Tb) (R : Nat → Nat → Rat) (e y : Int) (n : Nat) : lal T R e y n + -ldq T R e y n = lal T R e y (n + 1) := by
  show _ = lal T R e y n * (1 - rt T R e (y + (n : Nat)))
  unfold ldq
  rw [Rat.sub_eq_add_neg, Rat.mul_add, Rat.mul_one, Rat.mul_neg]
theorem lal_over {w : World} {T : Tb} {R : Nat → Nat → Rat} {e y : Int} (hT : TQ w T R) (hok : okL T e y = true) (n : Nat) (h0 : 0 < n) (h : T.first + (T.N : Int) < e + y + n) : lal T R e y n = 0 := by
  obtain ⟨h1, h2, h3, h4⟩ := okL_q4 hok
  exact al_end (rs_rt hT h1 h2 h3) n (by unfold yN; omega)
theorem FR.none {w : World} {X : Fr} {q : Rat} (h : FR w X q) (hq : q = 0) : X.N.n = 0 := by
  subst hq
  rw [h.1.n]
  decide +kernel

set_option maxRecDepth 100000 in
set_option maxHeartbeats 4000000 in
theorem nSums1 (T : Tb) (R : Nat → Nat → Rat) (e y : Int) (w : World) (hT : TQ w T R) (ey : -9223372036854775808 ≤ e ∧ e ≤ 9223372036854775807 ∧ -9223372036854775808 ≤ y ∧ y ≤ 9223372036854775807) (hu : okU T e y = true) :
    Calls Try.prog 3 #[.agg #[.int .i64 T.first, .int .i64 T.sel, .slice T.P T.N T.C], .agg #[.int .i64 e, .int .i64 y]] w (Gv (.v (.bool true)) w) := by
  have hW := hT.tw
  have Hok := Lib.hid (okU_l hu)
  obtain ⟨q1, q2, q3, q4⟩ := okL_q4 (okU_l hu)
  obtain ⟨b1, b2, b3, b4, b5, b6⟩ := id hT.b
  have HU := Lib.hid hu
  clear hu
  obtain ⟨w2, hw2⟩ : ∃ W, (w.alloc (.cells #[.int .i64 T.first, .int .i64 T.sel, .slice T.P T.N T.C] 24)).alloc (.cells #[.int .i64 e, .int .i64 y] 26) = W := ⟨_, rfl⟩
  have e2 : Ext w w2 := by rw [← hw2]; exact eg (ea _ _) (ea _ _)
  have A1 : Cells w2 w.heap.size 24 #[.int .i64 T.first, .int .i64 T.sel, .slice T.P T.N T.C] := by rw [← hw2]; exact (Cells.newAt _ _ rfl).alloc _
  have AL : Cells w2 (w.heap.size + 1) 26 #[.int .i64 e, .int .i64 y] := by rw [← hw2]; exact Cells.newAt _ _ (by simp)
  have lA := A1.lt
  have lL := AL.lt
  go_enter Try.func3, Try.ntmps3
  go_wp2_with fail
  clear hw2
  refine (nawake _).mono ?_
  intro ee w3 gg
  obtain ⟨rfl, e3⟩ := Gv.v gg
  replace A1 := A1.ext e3
  replace AL := AL.ext e3
  have a0 := A1.cell (k := 0) rfl
  have a1 := A1.cell (k := 1) rfl
  have a2 := A1.cell (k := 2) rfl
  have a3 := AL.cell (k := 0) rfl
  have a4 := AL.cell (k := 1) rfl
  go_wp2_with fail
  clear a0 a1 a2 a3 a4
  refine (nusable T e y w3 (hW.ext (eg e2 e3)) ey HU.out).mono ?_
  intro ee w4 gg
  obtain ⟨rfl, e4⟩ := Gv.v gg
  replace A1 := A1.ext e4
  replace AL := AL.ext e4
  go_wp2_with fail
  refine (fFromInt_1 w4).mono ?_
  intro ee w5 gg
  obtain ⟨O, rfl, hO, oO, e5⟩ := Gv.f gg
  obtain ⟨w6, hw6⟩ : ∃ W, w5.alloc (.cells #[.bool O.N.b, .slice O.N.p O.N.n O.N.c, .bool O.D.b, .slice O.D.p O.D.n O.D.c] 33) = W := ⟨_, rfl⟩
  have e6 : Ext w5 w6 := by rw [← hw6]; exact ea _ _
  have A5 : Cells w6 w5.heap.size 33 #[.bool O.N.b, .slice O.N.p O.N.n O.N.c, .bool O.D.b, .slice O.D.p O.D.n O.D.c] := by rw [← hw6]; exact Cells.newAt _ _ rfl
  replace A1 := A1.ext (eg e5 e6)
  replace AL := AL.ext (eg e5 e6)
  replace hO := hO.ext e6
  have eW : Ext w w6 := eg (eg (eg e2 e3) e4) (eg e5 e6)
  have s2 := e2.size
  have s3 := e3.size
  have s4 := e4.size
  have s5 := e5.size
  have l5 := A5.lt
  go_wp2_with fail
  clear hw6
  go_loopw [6] (fun v wr => ∃ (n : Nat) (O : Fr), v = .int .i64 (n : Nat) ∧ n ≤ T.N + 2 ∧ Cells wr w5.heap.size 33 #[.bool O.N.b, .slice O.N.p O.N.n O.N.c, .bool O.D.b, .slice O.D.p O.D.n O.D.c] ∧ FR wr O (lal T R e y n) ∧ Keeps (fun b => b = w5.heap.size) w6 wr) (fun v _ => (T.N + 2 - intOf v).toNat)
  case atStart => exact ⟨0, O, rfl, by omega, A5, hO, Keeps.refl _ _⟩
  case round =>
    obtain ⟨n, O, rfl, hn, C5, hO, hk⟩ := hrel
    have eR : Ext w wr := Keeps.go eW hk (fun b hb => by omega)
    have D1 := A1.keeps hk (by omega)
    have DL := AL.keeps hk (by omega)
    have a0 := D1.cell (k := 0) rfl
    have a1 := D1.cell (k := 1) rfl
    have a2 := D1.cell (k := 2) rfl
    have a3 := DL.cell (k := 0) rfl
    have a4 := DL.cell (k := 1) rfl
    have l1 := D1.lt
    have l2 := DL.lt
    have l3 := C5.lt
    by_cases hnN : n ≤ T.N + 1
    · go_wp2_with fail
      clear a0 a1 a2 a3 a4
      refine (lAlive T R e y n wr (hT.ext eR) Hok.out (by omega)).mono ?_
      intro ee v1 gg
      obtain ⟨X, rfl, hX, oX, f1⟩ := Gv.fe gg
      rw [Int.toNat_natCast] at hX
      obtain ⟨v2, hv2⟩ : ∃ W, v1.alloc (.cells #[.bool X.N.b, .slice X.N.p X.N.n X.N.c, .bool X.D.b, .slice X.D.p X.D.n X.D.c] 33) = W := ⟨_, rfl⟩
      have f2 : Ext v1 v2 := by rw [← hv2]; exact ea _ _
      have CX : Cells v2 v1.heap.size 33 #[.bool X.N.b, .slice X.N.p X.N.n X.N.c, .bool X.D.b, .slice X.D.p X.D.n X.D.c] := by rw [← hv2]; exact Cells.newAt _ _ rfl
      replace D1 := D1.ext (eg f1 f2)
      replace DL := DL.ext (eg f1 f2)
      replace C5 := C5.ext (eg f1 f2)
      replace hO := hO.ext (eg f1 f2)
      replace hX := hX.ext f2
      replace eR := eg eR (eg f1 f2)
      replace hk := hk.trans (Keeps.of_ext (eg f1 f2))
      have a0 := D1.cell (k := 0) rfl
      have a1 := D1.cell (k := 1) rfl
      have a2 := D1.cell (k := 2) rfl
      have a3 := DL.cell (k := 0) rfl
      have a4 := DL.cell (k := 1) rfl
      have z1 := f1.size
      have lX := CX.lt
      go_wp2_with fail
      clear hv2 a0 a1 a2 a3 a4
      refine (lDies T R e y n v2 (hT.ext eR) Hok.out (by omega)).mono ?_
      intro ee v3 gg
      obtain ⟨Y, rfl, hY, oY, f3⟩ := Gv.fe gg
      rw [Int.toNat_natCast] at hY
      obtain ⟨v4, hv4⟩ : ∃ W, v3.alloc (.cells #[.bool Y.N.b, .slice Y.N.p Y.N.n Y.N.c, .bool Y.D.b, .slice Y.D.p Y.D.n Y.D.c] 33) = W := ⟨_, rfl⟩
      have f4 : Ext v3 v4 := by rw [← hv4]; exact ea _ _
      have CY : Cells v4 v3.heap.size 33 #[.bool Y.N.b, .slice Y.N.p Y.N.n Y.N.c, .bool Y.D.b, .slice Y.D.p Y.D.n Y.D.c] := by rw [← hv4]; exact Cells.newAt _ _ rfl
      replace D1 := D1.ext (eg f3 f4)
      replace DL := DL.ext (eg f3 f4)
      replace C5 := C5.ext (eg f3 f4)
      replace CX := CX.ext (eg f3 f4)
      replace hO := hO.ext (eg f3 f4)
      replace hX := hX.ext (eg f3 f4)
      replace hY := hY.ext f4
      replace eR := eg eR (eg f3 f4)
      replace hk := hk.trans (Keeps.of_ext (eg f3 f4))
      have x0 := CX.cell (k := 0) rfl
      have x1 := CX.cell (k := 1) rfl
      have x2 := CX.cell (k := 2) rfl
      have x3 := CX.cell (k := 3) rfl
      have z3 := f3.size
      have lY := CY.lt
      have HSX := Lib.hid (lal_sz hT Hok.out n)
      have HSY := Lib.hid (ldq_sz hT Hok.out n)
      go_wp2_with fail
      clear hv4 x0 x1 x2 x3
      refine (nchance X _ v4 hX HSX.out (lal_bounds hT Hok.out n).1 (lal_bounds hT Hok.out n).2).mono ?_
      intro ee v5 gg
      obtain ⟨rfl, f5⟩ := Gv.v gg
      replace CX := CX.ext f5
      replace CY := CY.ext f5
      have x0 := CY.cell (k := 0) rfl
      have x1 := CY.cell (k := 1) rfl
      have x2 := CY.cell (k := 2) rfl
      have x3 := CY.cell (k := 3) rfl
      go_wp2_with fail
      clear x0 x1 x2 x3
      refine (nchance Y _ v5 (hY.ext f5) HSY.out (ldq_bounds hT Hok.out n).1 (ldq_bounds hT Hok.out n).2).mono ?_
      intro ee v6 gg
      obtain ⟨rfl, f6⟩ := Gv.v gg
      replace CX := CX.ext f6
      replace CY := CY.ext f6
      replace C5 := C5.ext (eg f5 f6)
      replace hO := hO.ext (eg f5 f6)
      replace hX := hX.ext (eg f5 f6)
      replace hY := hY.ext (eg f5 f6)
      have x0 := CX.cell (k := 0) rfl
      have x1 := CX.cell (k := 1) rfl
      have x2 := CX.cell (k := 2) rfl
      have x3 := CX.cell (k := 3) rfl
      have c0 := C5.cell (k := 0) rfl
      have c1 := C5.cell (k := 1) rfl
      have c2 := C5.cell (k := 2) rfl
      have c3 := C5.cell (k := 3) rfl
      go_wp2_with fail
      clear x0 x1 x2 x3 c0 c1 c2 c3
      refine (nequal_t X O _ _ v6 hX hO HSX.out HSX.out rfl).mono ?_
      intro ee v7 gg
      obtain ⟨rfl, f7⟩ := Gv.v gg
      replace D1 := D1.ext (eg (eg f5 f6) f7)
      replace DL := DL.ext (eg (eg f5 f6) f7)
      replace CX := CX.ext f7
      replace CY := CY.ext f7
      replace C5 := C5.ext f7
      replace hO := hO.ext f7
      replace hX := hX.ext f7
      replace hY := hY.ext f7
      replace eR := eg eR (eg (eg f5 f6) f7)
      replace hk := hk.trans (Keeps.of_ext (eg (eg f5 f6) f7))
      have a0 := D1.cell (k := 0) rfl
      have a1 := D1.cell (k := 1) rfl
      have a2 := D1.cell (k := 2) rfl
      have a3 := DL.cell (k := 0) rfl
      have a4 := DL.cell (k := 1) rfl
      have x0 := CX.cell (k := 0) rfl
      have x1 := CX.cell (k := 1) rfl
      have x2 := CX.cell (k := 2) rfl
      have x3 := CX.cell (k := 3) rfl
      have y0 := CY.cell (k := 0) rfl
      have y1 := CY.cell (k := 1) rfl
      have y2 := CY.cell (k := 2) rfl
      have y3 := CY.cell (k := 3) rfl
      have c0 := C5.cell (k := 0) rfl
      have c1 := C5.cell (k := 1) rfl
      have c2 := C5.cell (k := 2) rfl
      have c3 := C5.cell (k := 3) rfl
      have hover : 0 < n → T.first + (T.N : Int) < e + y + n → X.N.n ≤ 0 := fun h0 h => Nat.le_of_eq (FR.none hX (lal_over hT Hok.out n h0 h))
      have Hnext := Lib.hid (lal_next T R e y n)
      have HSZ := Lib.hid (lal_sz hT Hok.out (n + 1))
      rcases (by omega : n ≤ 0 ∨ (0 < n ∧ e + y + n ≤ T.first + (T.N : Int)) ∨ (0 < n ∧ T.first + (T.N : Int) < e + y + n ∧ X.N.n ≤ 0)) with h0 | ⟨h0, h1⟩ | ⟨h0, h1, h2⟩
      all_goals
        clear hover
        go_wp2_with fail
        clear a0 a1 a2 a3 a4 x0 x1 x2 x3 y0 y1 y2 y3 c0 c1 c2 c3
        refine (fSub O Y _ _ v7 hO hY HSX.out HSY.out (by rw [Hnext.out]; exact HSZ.out)).mono ?_
        intro ee v8 gg
        obtain ⟨Z, rfl, hZ, oZ, f8⟩ := Gv.fe gg
        rw [Hnext.out] at hZ
        replace C5 := C5.ext f8
        have g0 := C5.frozen 0
        have g1 := C5.frozen 1
        have g2 := C5.frozen 2
        have g3 := C5.frozen 3
        have c0 := C5.cell (k := 0) rfl
        have c1 := C5.cell (k := 1) rfl
        have c2 := C5.cell (k := 2) rfl
        have c3 := C5.cell (k := 3) rfl
        obtain ⟨v9, hv9⟩ : ∃ V, (((v8.setCell ⟨w5.heap.size, 0, none⟩ (.bool Z.N.b)).setCell ⟨w5.heap.size, 1, none⟩ (.slice Z.N.p Z.N.n Z.N.c)).setCell ⟨w5.heap.size, 2, none⟩ (.bool Z.D.b)).setCell ⟨w5.heap.size, 3, none⟩ (.slice Z.D.p Z.D.n Z.D.c) = V := ⟨_, rfl⟩
        have C9 : Cells v9 w5.heap.size 33 #[.bool Z.N.b, .slice Z.N.p Z.N.n Z.N.c, .bool Z.D.b, .slice Z.D.p Z.D.n Z.D.c] := by rw [← hv9]; exact Cells.sets [.bool Z.N.b, .slice Z.N.p Z.N.n Z.N.c, .bool Z.D.b, .slice Z.D.p Z.D.n Z.D.c] C5 0
        have hZ9 : FR v9 Z (lal T R e y (n + 1)) := by rw [← hv9]; exact FR.sets hZ C5 (by simp [NoU]) 0 [.bool Z.N.b, .slice Z.N.p Z.N.n Z.N.c, .bool Z.D.b, .slice Z.D.p Z.D.n Z.D.c]
        have k9 : Keeps (fun b => b = w5.heap.size) v8 v9 := by rw [← hv9]; exact sets_keeps w5.heap.size [.bool Z.N.b, .slice Z.N.p Z.N.n Z.N.c, .bool Z.D.b, .slice Z.D.p Z.D.n Z.D.c] v8 0
        go_wp2_with fail
        clear hv9
        go_roundw
        case rel => exact ⟨n + 1, Z, rfl, by omega, C9, hZ9, (hk.trans (Keeps.of_ext f8)).trans k9⟩
        case measure => simp [intOf]; omega
    · obtain rfl : n = T.N + 2 := by omega
      go_wp2_with fail
      clear a0 a1 a2 a3 a4
      have c0 := C5.cell (k := 0) rfl
      have c1 := C5.cell (k := 1) rfl
      have c2 := C5.cell (k := 2) rfl
      have c3 := C5.cell (k := 3) rfl
      have HS := Lib.hid (lal_sz hT Hok.out (T.N + 2))
      have HZ := Lib.hid (lal_over hT Hok.out (T.N + 2) (by omega) (by omega))
      refine regionT 3 (fun k => match k with | 1 => some (.f (0)) | 2 => some (.v (.bool true)) | _ => none) (by kernel_rfl) (by kernel_rfl) ?_
      refine Walk.one (x := ?_) rfl rfl (fun w1 hI hL K hK => ?_) ?_
      rotate_left
      · obtain ⟨hc, hf⟩ := bcell hI
        have x0 := (C5.ext hI).cell (k := 0) rfl
        have x1 := (C5.ext hI).cell (k := 1) rfl
        have x2 := (C5.ext hI).cell (k := 2) rfl
        have x3 := (C5.ext hI).cell (k := 3) rfl
        go_simp
        repeat (first | (go_ints; try go_simp) | (simp only [↓IntWalk.iteOmega]; try go_simp))
        exact hK
      simp only [Act.put, List.setIfInBounds_toArray, List.set_cons_zero, List.set_cons_succ]
      refine Walk.tell rfl rfl (fun w1 hI hL K hK => ?_) ?_
      · go_simp
        exact (fFromInt_0 w1).mono (tell hK)
      rintro _ ⟨Z53, rfl⟩
      simp only [Act.put, List.setIfInBounds_toArray, List.set_cons_zero, List.set_cons_succ]
      refine Walk.tell rfl rfl (fun w1 hI hL K hK => ?_) ?_
      · have z := (Tl.getF (kn (i := 1) (v := .agg #[.bool Z53.N.b, .slice Z53.N.p Z53.N.n Z53.N.c, .bool Z53.D.b, .slice Z53.D.p Z53.D.n Z53.D.c]) rfl (by simp) (by kernel_rfl) hL)).1
        clear hL
        go_simp
        exact (nequal_t O Z53 _ _ w1 (hO.ext hI) z HS.out sz_zero HZ.out).mono (tell hK)
      rintro _ rfl
      simp only [Act.put, List.setIfInBounds_toArray, List.set_cons_zero, List.set_cons_succ]
      refine Walk.nilF fun w8 ew8 kzL kzX => ?_
      clear kzL kzX
      simp only [List.drop_succ_cons, List.drop_zero, List.drop_nil]
      go_wp2_with fail
      go_ret
      exact Gv.of_v (eg eR ew8)
set_option maxRecDepth 100000 in
theorem nSums0 (T : Tb) (e y : Int) (w : World) (hT : TW w T) (ey : -9223372036854775808 ≤ e ∧ e ≤ 9223372036854775807 ∧ -9223372036854775808 ≤ y ∧ y ≤ 9223372036854775807) (hu : okU T e y = false) :
    Calls Try.prog 3 #[.agg #[.int .i64 T.first, .int .i64 T.sel, .slice T.P T.N T.C], .agg #[.int .i64 e, .int .i64 y]] w (Gv (.v (.bool true)) w) := by
  have HU := Lib.hid hu
  clear hu
  obtain ⟨w2, hw2⟩ : ∃ W, (w.alloc (.cells #[.int .i64 T.first, .int .i64 T.sel, .slice T.P T.N T.C] 24)).alloc (.cells #[.int .i64 e, .int .i64 y] 26) = W := ⟨_, rfl⟩
  have e2 : Ext w w2 := by rw [← hw2]; exact eg (ea _ _) (ea _ _)
  have A1 : Cells w2 w.heap.size 24 #[.int .i64 T.first, .int .i64 T.sel, .slice T.P T.N T.C] := by rw [← hw2]; exact (Cells.newAt _ _ rfl).alloc _
  have AL : Cells w2 (w.heap.size + 1) 26 #[.int .i64 e, .int .i64 y] := by rw [← hw2]; exact Cells.newAt _ _ (by simp)
  go_enter Try.func3, Try.ntmps3
  go_wp2_with fail
  clear hw2
  refine (nawake _).mono ?_
  intro ee w3 gg
  obtain ⟨rfl, e3⟩ := Gv.v gg
  replace A1 := A1.ext e3
  replace AL := AL.ext e3
  have a0 := A1.cell (k := 0) rfl
  have a1 := A1.cell (k := 1) rfl
  have a2 := A1.cell (k := 2) rfl
  have a3 := AL.cell (k := 0) rfl
  have a4 := AL.cell (k := 1) rfl
  go_wp2_with fail
  clear a0 a1 a2 a3 a4
  refine (nusable T e y w3 (hT.ext (eg e2 e3)) ey HU.out).mono ?_
  intro ee w4 gg
  obtain ⟨rfl, e4⟩ := Gv.v gg
  go_wp2_with fail
  go_ret
  exact Gv.of_v (eg (eg e2 e3) e4)
theorem nSums (T : Tb) (e y : Int) (w : World) (hT : TW w T) (ey : -9223372036854775808 ≤ e ∧ e ≤ 9223372036854775807 ∧ -9223372036854775808 ≤ y ∧ y ≤ 9223372036854775807) : Calls Try.prog 3 #[.agg #[.int .i64 T.first, .int .i64 T.sel, .slice T.P T.N T.C], .agg #[.int .i64 e, .int .i64 y]] w (Gv (.v (.bool true)) w) := by
  cases hu : okU T e y
  · exact nSums0 T e y w hT ey hu
  · obtain ⟨R, hR, _⟩ := okL_q hT (okU_l hu)
    exact nSums1 T R e y w hR ey hu
end Go.Proofs.Ytndgaecfeaedeaa
