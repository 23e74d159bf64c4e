/- Walks of package frac: sums and products of fractions. Walks of package frac: the negative, one, the same, whole numbers as fractions. -/
import Derived.Test.YtndgaecfeaedeaaGreatG12
namespace Go.Proofs.YtndgaecfeaedeaaGreat
set_option linter.unusedSimpArgs false
set_option linter.unusedVariables false
open Go.RowKit Lex Mth
attribute [local go_sem] run_indexAt_at add_zero_map Oper.semAt_some at_zero
set_option linter.unusedSimpArgs false
set_option linter.unusedVariables false

theorem Sz.n {q : Rat} (h : Sz q) : siz q.num.natAbs ≤ 256 := h.1
theorem Sz.d {q : Rat} (h : Sz q) : siz ((q.den : Nat) : Int).natAbs ≤ 256 := h.2
theorem sp {a b : Int} {g h : Nat} (ha : siz a.natAbs ≤ 256) (hb : siz b.natAbs ≤ 256) : siz (Int.fdiv a g).natAbs + siz (Int.fdiv b h).natAbs ≤ 1024 := by
  have := siz_fdiv a (y := (g : Int)) (by omega)
  have := siz_fdiv b (y := (h : Int)) (by omega)
  omega
theorem up4 {n : Nat} (h : n ≤ 256) : n ≤ 1024 := by omega
theorem sp2 {a b : Int} {h : Nat} (ha : siz a.natAbs ≤ 256) (hb : siz b.natAbs ≤ 256) : siz a.natAbs + siz (Int.fdiv b h).natAbs ≤ 1024 := by
  have := siz_fdiv b (y := (h : Int)) (by omega)
  omega
theorem sp3 {a b : Int} {h : Nat} (ha : siz a.natAbs ≤ 256) (hb : siz b.natAbs ≤ 256) : siz (a * Int.fdiv b h).natAbs ≤ 1000 := by
  have := siz_fdiv b (y := (h : Int)) (by omega)
  have := siz_imul a (Int.fdiv b h)
  omega
theorem sp4 {x y : Rat} (hx : Sz x) (hy : Sz y) : siz (sN x y).natAbs ≤ 1024 := by
  have h1 := siz_iadd (x.num * Int.fdiv (y.den : Int) (Int.gcd x.den y.den : Nat)) (y.num * Int.fdiv (x.den : Int) (Int.gcd x.den y.den : Nat))
  have h2 := sp3 (h := Int.gcd x.den y.den) hx.n hy.d
  have h3 := sp3 (h := Int.gcd x.den y.den) hy.n hx.d
  unfold sN
  omega
theorem g2_ne (x y : Rat) : ((Int.gcd (sN x y) (Int.gcd x.den y.den : Nat) : Nat) : Int) ≠ 0 := gcd_ne_left (gcd_ne_left (den_ne y))
theorem kClone (X : Wh) (l : List Nat) (w : World) (h : U16 w X.p X.n X.c l) : Calls Tryz.prog 139 #[.slice X.p X.n X.c] w (Gv (.c l) w) :=
  (clone_any X.p X.n X.c l w h).mono fun _ _ ⟨p', c', he, h1, h2, h3⟩ => by subst he; exact Gv.of_c (X := ⟨false, p', X.n, c'⟩) h1 h2 h3

set_option maxRecDepth 100000 in
theorem fits_t (X : Fr) (w : World) (h1 : X.N.n ≤ 256) (h2 : X.D.n ≤ 256) :
    Calls Tryz.prog 125 #[.agg #[.bool X.N.b, .slice X.N.p X.N.n X.N.c, .bool X.D.b, .slice X.D.p X.D.n X.D.c]] w (Gv (.v (.bool true)) w) := by
  have d1 : decide ((X.N.n : Int) ≤ 256) = true := by simp; omega
  have d2 : decide ((X.D.n : Int) ≤ 256) = true := by simp; omega
  obtain ⟨w1, hww1, ew1, B1, zw1⟩ := alloc_at w (w.heap.size) (by omega) #[.bool X.N.b, .slice X.N.p X.N.n X.N.c, .bool X.D.b, .slice X.D.p X.D.n X.D.c] 143
  have b1_w1 := B1.c4
  go_enter Tryz.func125, Tryz.ntmps125
  go_wp2_with fail
  clear hww1
  replace zw1 := le2 zw1
  refine bodyPost_ret (v := .bool true) (by simp [results, Tryz.results125, go_sem]) rfl ?_
  exact Gv.of_v ew1

set_option maxRecDepth 100000 in
theorem fits_n (X : Fr) (w : World) (h1 : ¬ X.N.n ≤ 256) :
    Calls Tryz.prog 125 #[.agg #[.bool X.N.b, .slice X.N.p X.N.n X.N.c, .bool X.D.b, .slice X.D.p X.D.n X.D.c]] w (Gv (.v (.bool false)) w) := by
  obtain ⟨w1, hww1, ew1, B1, zw1⟩ := alloc_at w (w.heap.size) (by omega) #[.bool X.N.b, .slice X.N.p X.N.n X.N.c, .bool X.D.b, .slice X.D.p X.D.n X.D.c] 143
  have b1_w1 := B1.c4
  go_enter Tryz.func125, Tryz.ntmps125
  go_wp2_with fail
  clear hww1
  replace zw1 := le2 zw1
  refine bodyPost_ret (v := .bool false) (by simp [results, Tryz.results125, go_sem]) rfl ?_
  exact Gv.of_v ew1

set_option maxRecDepth 100000 in
theorem fits_d (X : Fr) (w : World) (h1 : X.N.n ≤ 256) (h2 : ¬ X.D.n ≤ 256) :
    Calls Tryz.prog 125 #[.agg #[.bool X.N.b, .slice X.N.p X.N.n X.N.c, .bool X.D.b, .slice X.D.p X.D.n X.D.c]] w (Gv (.v (.bool false)) w) := by
  have d1 : decide ((X.N.n : Int) ≤ 256) = true := by simp; omega
  have d2 : decide ((X.D.n : Int) ≤ 256) = false := by simp; omega
  obtain ⟨w1, hww1, ew1, B1, zw1⟩ := alloc_at w (w.heap.size) (by omega) #[.bool X.N.b, .slice X.N.p X.N.n X.N.c, .bool X.D.b, .slice X.D.p X.D.n X.D.c] 143
  have b1_w1 := B1.c4
  go_enter Tryz.func125, Tryz.ntmps125
  go_wp2_with fail
  clear hww1
  replace zw1 := le2 zw1
  refine bodyPost_ret (v := .bool false) (by simp [results, Tryz.results125, go_sem]) rfl ?_
  exact Gv.of_v ew1

set_option maxRecDepth 100000 in
theorem told_t (X : Fr) (w : World) (h1 : X.N.n ≤ 256) (h2 : X.D.n ≤ 256) :
    Calls Tryz.prog 130 #[.agg #[.bool X.N.b, .slice X.N.p X.N.n X.N.c, .bool X.D.b, .slice X.D.p X.D.n X.D.c]] w (Gv (.v (.tuple #[.agg #[.bool X.N.b, .slice X.N.p X.N.n X.N.c, .bool X.D.b, .slice X.D.p X.D.n X.D.c], .int .i64 0])) w) := by
  obtain ⟨w1, hww1, ew1, B1, zw1⟩ := alloc_at w (w.heap.size) (by omega) #[.bool X.N.b, .slice X.N.p X.N.n X.N.c, .bool X.D.b, .slice X.D.p X.D.n X.D.c] 143
  obtain ⟨w2, hww2, ew2, B2, zw2⟩ := alloc_at w1 (w.heap.size + 1) (by omega) #[.bool false, .slice none 0 0, .bool false, .slice none 0 0] 40
  replace B1 := B1.ext ew2
  have b1_w2 := B1.c4
  have xw_w2 := eg ew1 ew2
  go_enter Tryz.func130, Tryz.ntmps130
  go_wp2_with fail
  clear hww1 hww2
  replace zw1 := le2 zw1
  replace zw2 := le2 zw2
  refine (fits_t X _ (h1) (h2)).mono (Gv.onV fun w3 ew3 zw3 => ?_)
  replace B1 := B1.ext ew3
  have b1_w3 := B1.c4
  replace B2 := B2.ext ew3
  have b2_w3 := B2.c4
  have fb2_w3 := B2.f4
  have xw_w3 := eg xw_w2 ew3
  obtain ⟨w4, hww4, kw4, Nw4, zw4⟩ := B2.put4 (.bool X.N.b) (.slice X.N.p X.N.n X.N.c) (.bool X.D.b) (.slice X.D.p X.D.n X.D.c)
  have xw_w4 := Ext.kb xw_w3 kw4 (by omega)
  replace B2 := Nw4
  clear Nw4 kw4
  have b2_w4 := B2.c4
  go_wp2_with fail
  clear hww4
  clear b1_w2 b1_w3 b2_w3 fb2_w3
  replace zw4 := le2 zw4
  refine bodyPost_ret (v := .tuple #[.agg #[.bool X.N.b, .slice X.N.p X.N.n X.N.c, .bool X.D.b, .slice X.D.p X.D.n X.D.c], .int .i64 0]) (by simp [results, Tryz.results130, go_sem, b2_w4]) rfl ?_
  exact Gv.of_v xw_w4

set_option maxRecDepth 100000 in
theorem ftimes (X : Fr) (Y : Fr) (x : Rat) (y : Rat) (w : World) (hX : FR w X x) (hY : FR w Y y) (bx : Sz x) (by_ : Sz y) :
    Calls Tryz.prog 132 #[.agg #[.bool X.N.b, .slice X.N.p X.N.n X.N.c, .bool X.D.b, .slice X.D.p X.D.n X.D.c], .agg #[.bool Y.N.b, .slice Y.N.p Y.N.n Y.N.c, .bool Y.D.b, .slice Y.D.p Y.D.n Y.D.c]] w (Gv (.f (x * y)) w) := by
  obtain ⟨w1, hww1, ew1, B1, zw1⟩ := alloc_at w (w.heap.size) (by omega) #[.bool X.N.b, .slice X.N.p X.N.n X.N.c, .bool X.D.b, .slice X.D.p X.D.n X.D.c] 143
  obtain ⟨w2, hww2, ew2, B2, zw2⟩ := alloc_at w1 (w.heap.size + 1) (by omega) #[.bool Y.N.b, .slice Y.N.p Y.N.n Y.N.c, .bool Y.D.b, .slice Y.D.p Y.D.n Y.D.c] 143
  obtain ⟨w3, hww3, ew3, B3, zw3⟩ := alloc_at w2 (w.heap.size + 1 + 1) (by omega) #[.bool false, .slice none 0 0, .bool false, .slice none 0 0] 143
  have xw1_w3 := eg ew2 ew3
  replace B1 := B1.ext xw1_w3
  have b1_w3 := B1.c4
  replace B2 := B2.ext ew3
  have b2_w3 := B2.c4
  have xw_w3 := eg (eg ew1 ew2) ew3
  replace hX := hX.ext xw_w3
  replace hY := hY.ext xw_w3
  go_enter Tryz.func132, Tryz.ntmps132
  go_wp2_with fail
  clear hww1 hww2 hww3
  replace zw1 := le2 zw1
  replace zw2 := le2 zw2
  replace zw3 := le2 zw3
  refine regionT 16 (fun kk => match kk with | 6 => some (.w ((Int.gcd ((x).num) ((((y).den : Int))) : Nat))) | 13 => some (.w ((Int.gcd ((y).num) ((((x).den : Int))) : Nat))) | 14 => some (.box 38 #[.bool false, .slice none 0 0]) | 15 => some (.box 38 #[.bool false, .slice none 0 0]) | _ => none) (by as_aux_lemma => kernel_rfl) (head_of (by as_aux_lemma => kernel_rfl)) ?_
  iterate 6
    refine Walk.one (x := ?_) rfl rfl (fun w1 hI hL K hK => ?_) ?_
    rotate_left
    · obtain ⟨hc, hf⟩ := bcell hI
      go_simp
      repeat (first | (go_ints; try go_simp) | (simp only [↓IntWalk.iteOmega]; try go_simp))
      exact hK
    simp only [Act.put, List.setIfInBounds_toArray, List.set_cons_zero, List.set_cons_succ]
  refine Walk.tell rfl rfl (fun w1 hI hL K hK => ?_) ?_
  · go_simp
    exact (fcommon X.N Y.D _ _ w1 ((hX.1).ext hI) ((hY.2).ext hI) (up4 bx.n) (up4 by_.d)).mono (tell hK)
  rintro _ ⟨Z13, rfl⟩
  simp only [Act.put, List.setIfInBounds_toArray, List.set_cons_zero, List.set_cons_succ]
  iterate 6
    refine Walk.one (x := ?_) rfl rfl (fun w1 hI hL K hK => ?_) ?_
    rotate_left
    · obtain ⟨hc, hf⟩ := bcell hI
      go_simp
      repeat (first | (go_ints; try go_simp) | (simp only [↓IntWalk.iteOmega]; try go_simp))
      exact hK
    simp only [Act.put, List.setIfInBounds_toArray, List.set_cons_zero, List.set_cons_succ]
  refine Walk.tell rfl rfl (fun w1 hI hL K hK => ?_) ?_
  · go_simp
    exact (fcommon Y.N X.D _ _ w1 ((hY.1).ext hI) ((hX.2).ext hI) (up4 by_.n) (up4 bx.d)).mono (tell hK)
  rintro _ ⟨Z20, rfl⟩
  simp only [Act.put, List.setIfInBounds_toArray, List.set_cons_zero, List.set_cons_succ]
  refine Walk.tell rfl rfl (fun w1 hI hL K hK => ?_) ?_
  · go_simp
    exact tellB hK
  rintro _ ⟨g5, rfl⟩
  simp only [Act.put, List.setIfInBounds_toArray, List.set_cons_zero, List.set_cons_succ]
  refine Walk.tell rfl rfl (fun w1 hI hL K hK => ?_) ?_
  · go_simp
    exact tellB hK
  rintro _ ⟨g6, rfl⟩
  simp only [Act.put, List.setIfInBounds_toArray, List.set_cons_zero, List.set_cons_succ]
  refine Walk.nilF fun w4 ew4 kzL kzX => ?_
  have zw4 := ew4.size
  obtain ⟨hZ13, -⟩ := Tl.getW (kz (i := 6) (v := .agg #[.bool Z13.b, .slice Z13.p Z13.n Z13.c]) rfl (by simp) kzL)
  obtain ⟨hZ20, -⟩ := Tl.getW (kz (i := 13) (v := .agg #[.bool Z20.b, .slice Z20.p Z20.n Z20.c]) rfl (by simp) kzL)
  obtain ⟨B4, yB4⟩ := Tl.getB (kz (i := 14) (v := .pointer (some ⟨g5, 0, none⟩)) rfl (by simp) kzL)
  obtain ⟨B5, yB5⟩ := Tl.getB (kz (i := 15) (v := .pointer (some ⟨g6, 0, none⟩)) rfl (by simp) kzL)
  have dB4B5 : g5 ≠ g6 := by
    have := kzX (14, .pointer (some ⟨g5, 0, none⟩)) (by simp) (15, .pointer (some ⟨g6, 0, none⟩)) (by simp) (by simp)
    simpa [TB, Tl.box, Bl, Bl1] using this
  have lB4 := B4.lt
  have lB5 := B5.lt
  clear kzL kzX
  simp only [List.drop_succ_cons, List.drop_zero, List.drop_nil]
  have b4_w4 := B4.c2
  have fb4_w4 := B4.f2
  replace hX := hX.ext ew4
  replace hY := hY.ext ew4
  replace B1 := B1.ext ew4
  replace B2 := B2.ext ew4
  replace B3 := B3.ext ew4
  have xw_w4 := eg xw_w3 ew4
  obtain ⟨w5, hww5, kw5, Nw5, zw5⟩ := B4.put2 (.bool Z13.b) (.slice Z13.p Z13.n Z13.c)
  have nuw5 : NoU #[.bool false, .slice none 0 0] := by simp [NoU]
  replace hX := FR.kb hX B4 nuw5 kw5
  replace hY := FR.kb hY B4 nuw5 kw5
  replace B1 := B1.kb kw5 (by omega)
  replace B2 := B2.kb kw5 (by omega)
  replace B3 := B3.kb kw5 (by omega)
  replace hZ13 := WR.kb hZ13 B4 nuw5 kw5
  replace hZ20 := WR.kb hZ20 B4 nuw5 kw5
  replace B5 := B5.kb kw5 (by omega)
  have xw_w5 := Ext.kb xw_w4 kw5 (by omega)
  replace B4 := Nw5
  clear Nw5 kw5
  have b5_w5 := B5.c2
  have fb5_w5 := B5.f2
  obtain ⟨w6, hww6, kw6, Nw6, zw6⟩ := B5.put2 (.bool Z20.b) (.slice Z20.p Z20.n Z20.c)
  have nuw6 : NoU #[.bool false, .slice none 0 0] := by simp [NoU]
  replace hX := FR.kb hX B5 nuw6 kw6
  replace hY := FR.kb hY B5 nuw6 kw6
  replace B1 := B1.kb kw6 (by omega)
  replace B2 := B2.kb kw6 (by omega)
  replace B3 := B3.kb kw6 (by omega)
  replace hZ13 := WR.kb hZ13 B5 nuw6 kw6
  replace hZ20 := WR.kb hZ20 B5 nuw6 kw6
  replace B4 := B4.kb kw6 (by omega)
  have xw_w6 := Ext.kb xw_w5 kw6 (by omega)
  replace B5 := Nw6
  clear Nw6 kw6
  have b1_w6 := B1.c4
  have b4_w6 := B4.c2
  have b2_w6 := B2.c4
  have b5_w6 := B5.c2
  go_wp2_with fail
  clear hww5 hww6
  clear b1_w3 b2_w3 b4_w4 fb4_w4 b5_w5 fb5_w5
  replace zw5 := le2 zw5
  replace zw6 := le2 zw6
  refine regionT 24 (fun kk => match kk with | 4 => some (.w (Int.fdiv ((x).num) (((Int.gcd ((x).num) ((((y).den : Int))) : Nat))))) | 9 => some (.w (Int.fdiv ((y).num) (((Int.gcd ((y).num) ((((x).den : Int))) : Nat))))) | 10 => some (.w ((Int.fdiv ((x).num) (((Int.gcd ((x).num) ((((y).den : Int))) : Nat)))) * (Int.fdiv ((y).num) (((Int.gcd ((y).num) ((((x).den : Int))) : Nat)))))) | 15 => some (.w (Int.fdiv ((((x).den : Int))) (((Int.gcd ((y).num) ((((x).den : Int))) : Nat))))) | 20 => some (.w (Int.fdiv ((((y).den : Int))) (((Int.gcd ((x).num) ((((y).den : Int))) : Nat))))) | 21 => some (.w ((Int.fdiv ((((x).den : Int))) (((Int.gcd ((y).num) ((((x).den : Int))) : Nat)))) * (Int.fdiv ((((y).den : Int))) (((Int.gcd ((x).num) ((((y).den : Int))) : Nat)))))) | _ => none) (by as_aux_lemma => kernel_rfl) (head_of (by as_aux_lemma => kernel_rfl)) ?_
  iterate 4
    refine Walk.one (x := ?_) rfl rfl (fun w1 hI hL K hK => ?_) ?_
    rotate_left
    · obtain ⟨hc, hf⟩ := bcell hI
      go_simp
      repeat (first | (go_ints; try go_simp) | (simp only [↓IntWalk.iteOmega]; try go_simp))
      exact hK
    simp only [Act.put, List.setIfInBounds_toArray, List.set_cons_zero, List.set_cons_succ]
  refine Walk.tell rfl rfl (fun w1 hI hL K hK => ?_) ?_
  · go_simp
    exact (fover X.N Z13 _ _ w1 ((hX.1).ext hI) ((hZ13).ext hI) (up4 bx.n) (Nat.le_trans (siz_gcd (den_ne y)) (up4 by_.d)) (gcd_ne_left (den_ne y))).mono (tell hK)
  rintro _ ⟨Z25, rfl⟩
  simp only [Act.put, List.setIfInBounds_toArray, List.set_cons_zero, List.set_cons_succ]
  iterate 4
    refine Walk.one (x := ?_) rfl rfl (fun w1 hI hL K hK => ?_) ?_
    rotate_left
    · obtain ⟨hc, hf⟩ := bcell hI
      go_simp
      repeat (first | (go_ints; try go_simp) | (simp only [↓IntWalk.iteOmega]; try go_simp))
      exact hK
    simp only [Act.put, List.setIfInBounds_toArray, List.set_cons_zero, List.set_cons_succ]
  refine Walk.tell rfl rfl (fun w1 hI hL K hK => ?_) ?_
  · go_simp
    exact (fover Y.N Z20 _ _ w1 ((hY.1).ext hI) ((hZ20).ext hI) (up4 by_.n) (Nat.le_trans (siz_gcd (den_ne x)) (up4 bx.d)) (gcd_ne_left (den_ne x))).mono (tell hK)
  rintro _ ⟨Z30, rfl⟩
  simp only [Act.put, List.setIfInBounds_toArray, List.set_cons_zero, List.set_cons_succ]
  refine Walk.tell rfl rfl (fun w1 hI hL K hK => ?_) ?_
  · go_simp
    exact (fproduct Z25 Z30 _ _ w1 ((Tl.getW (kn (i := 4) (v := .agg #[.bool Z25.b, .slice Z25.p Z25.n Z25.c]) rfl (by simp) (pred_of (by as_aux_lemma => kernel_rfl)) hL)).1) ((Tl.getW (kn (i := 9) (v := .agg #[.bool Z30.b, .slice Z30.p Z30.n Z30.c]) rfl (by simp) (pred_of (by as_aux_lemma => kernel_rfl)) hL)).1) (sp bx.n by_.n)).mono (tell hK)
  rintro _ ⟨Z31, rfl⟩
  simp only [Act.put, List.setIfInBounds_toArray, List.set_cons_zero, List.set_cons_succ]
  iterate 4
    refine Walk.one (x := ?_) rfl rfl (fun w1 hI hL K hK => ?_) ?_
    rotate_left
    · obtain ⟨hc, hf⟩ := bcell hI
      go_simp
      repeat (first | (go_ints; try go_simp) | (simp only [↓IntWalk.iteOmega]; try go_simp))
      exact hK
    simp only [Act.put, List.setIfInBounds_toArray, List.set_cons_zero, List.set_cons_succ]
  refine Walk.tell rfl rfl (fun w1 hI hL K hK => ?_) ?_
  · go_simp
    exact (fover X.D Z20 _ _ w1 ((hX.2).ext hI) ((hZ20).ext hI) (up4 bx.d) (Nat.le_trans (siz_gcd (den_ne x)) (up4 bx.d)) (gcd_ne_left (den_ne x))).mono (tell hK)
  rintro _ ⟨Z36, rfl⟩
  simp only [Act.put, List.setIfInBounds_toArray, List.set_cons_zero, List.set_cons_succ]
  iterate 4
    refine Walk.one (x := ?_) rfl rfl (fun w1 hI hL K hK => ?_) ?_
    rotate_left
    · obtain ⟨hc, hf⟩ := bcell hI
      go_simp
      repeat (first | (go_ints; try go_simp) | (simp only [↓IntWalk.iteOmega]; try go_simp))
      exact hK
    simp only [Act.put, List.setIfInBounds_toArray, List.set_cons_zero, List.set_cons_succ]
  refine Walk.tell rfl rfl (fun w1 hI hL K hK => ?_) ?_
  · go_simp
    exact (fover Y.D Z13 _ _ w1 ((hY.2).ext hI) ((hZ13).ext hI) (up4 by_.d) (Nat.le_trans (siz_gcd (den_ne y)) (up4 by_.d)) (gcd_ne_left (den_ne y))).mono (tell hK)
  rintro _ ⟨Z41, rfl⟩
  simp only [Act.put, List.setIfInBounds_toArray, List.set_cons_zero, List.set_cons_succ]
  refine Walk.tell rfl rfl (fun w1 hI hL K hK => ?_) ?_
  · go_simp
    exact (fproduct Z36 Z41 _ _ w1 ((Tl.getW (kn (i := 15) (v := .agg #[.bool Z36.b, .slice Z36.p Z36.n Z36.c]) rfl (by simp) (pred_of (by as_aux_lemma => kernel_rfl)) hL)).1) ((Tl.getW (kn (i := 20) (v := .agg #[.bool Z41.b, .slice Z41.p Z41.n Z41.c]) rfl (by simp) (pred_of (by as_aux_lemma => kernel_rfl)) hL)).1) (sp bx.d by_.d)).mono (tell hK)
  rintro _ ⟨Z42, rfl⟩
  simp only [Act.put, List.setIfInBounds_toArray, List.set_cons_zero, List.set_cons_succ]
  iterate 2
    refine Walk.one (x := ?_) rfl rfl (fun w1 hI hL K hK => ?_) ?_
    rotate_left
    · obtain ⟨hc, hf⟩ := bcell hI
      go_simp
      repeat (first | (go_ints; try go_simp) | (simp only [↓IntWalk.iteOmega]; try go_simp))
      exact hK
    simp only [Act.put, List.setIfInBounds_toArray, List.set_cons_zero, List.set_cons_succ]
  refine Walk.nilF fun w7 ew7 kzL kzX => ?_
  have zw7 := ew7.size
  obtain ⟨hZ31, oZ31⟩ := Tl.getW (kz (i := 10) (v := .agg #[.bool Z31.b, .slice Z31.p Z31.n Z31.c]) rfl (by simp) kzL)
  replace oZ31 := oZ31.mono xw_w6.size
  obtain ⟨hZ42, oZ42⟩ := Tl.getW (kz (i := 21) (v := .agg #[.bool Z42.b, .slice Z42.p Z42.n Z42.c]) rfl (by simp) kzL)
  replace oZ42 := oZ42.mono xw_w6.size
  have aZ31_Z42 : Apt Z31 Z42 := Apt.of (kzX (10, .agg #[.bool Z31.b, .slice Z31.p Z31.n Z31.c]) (by simp) (21, .agg #[.bool Z42.b, .slice Z42.p Z42.n Z42.c]) (by simp) (by simp))
  clear kzL kzX
  simp only [List.drop_succ_cons, List.drop_zero, List.drop_nil]
  replace B3 := B3.ext ew7
  have b3_w7 := B3.c4
  have fb3_w7 := B3.f4
  have xw_w7 := eg xw_w6 ew7
  obtain ⟨w8, hww8, kw8, Nw8, zw8⟩ := B3.put4 (.bool Z31.b) (.slice Z31.p Z31.n Z31.c) (.bool Z42.b) (.slice Z42.p Z42.n Z42.c)
  have nuw8 : NoU #[.bool false, .slice none 0 0, .bool false, .slice none 0 0] := by simp [NoU]
  replace hZ31 := WR.kb hZ31 B3 nuw8 kw8
  replace oZ31 := OW.kb oZ31 B3 (by decide) kw8
  replace hZ42 := WR.kb hZ42 B3 nuw8 kw8
  replace oZ42 := OW.kb oZ42 B3 (by decide) kw8
  have xw_w8 := Ext.kb xw_w7 kw8 (by omega)
  replace B3 := Nw8
  clear Nw8 kw8
  have b3_w8 := B3.c4
  go_wp2_with fail
  clear hww8
  clear b1_w6 b4_w6 b2_w6 b5_w6 b3_w7 fb3_w7
  replace zw8 := le2 zw8
  refine bodyPost_ret (v := .agg #[.bool Z31.b, .slice Z31.p Z31.n Z31.c, .bool Z42.b, .slice Z42.p Z42.n Z42.c]) (by simp [results, Tryz.results132, go_sem, b3_w8]) rfl ?_
  exact Gv.of_f (X := ⟨Z31, Z42⟩) (mkFR (WR.cast hZ31 (mul_num x y)) (WR.cast hZ42 (mul_den x y))) (mkOF oZ31 oZ42 aZ31_Z42) xw_w8

set_option maxRecDepth 100000 in
theorem fplus (X : Fr) (Y : Fr) (x : Rat) (y : Rat) (w : World) (hX : FR w X x) (hY : FR w Y y) (bx : Sz x) (by_ : Sz y) :
    Calls Tryz.prog 129 #[.agg #[.bool X.N.b, .slice X.N.p X.N.n X.N.c, .bool X.D.b, .slice X.D.p X.D.n X.D.c], .agg #[.bool Y.N.b, .slice Y.N.p Y.N.n Y.N.c, .bool Y.D.b, .slice Y.D.p Y.D.n Y.D.c]] w (Gv (.f (x + y)) w) := by
  obtain ⟨w1, hww1, ew1, B1, zw1⟩ := alloc_at w (w.heap.size) (by omega) #[.bool X.N.b, .slice X.N.p X.N.n X.N.c, .bool X.D.b, .slice X.D.p X.D.n X.D.c] 143
  obtain ⟨w2, hww2, ew2, B2, zw2⟩ := alloc_at w1 (w.heap.size + 1) (by omega) #[.bool Y.N.b, .slice Y.N.p Y.N.n Y.N.c, .bool Y.D.b, .slice Y.D.p Y.D.n Y.D.c] 143
  obtain ⟨w3, hww3, ew3, B3, zw3⟩ := alloc_at w2 (w.heap.size + 1 + 1) (by omega) #[.bool false, .slice none 0 0, .bool false, .slice none 0 0] 143
  have xw1_w3 := eg ew2 ew3
  replace B1 := B1.ext xw1_w3
  have b1_w3 := B1.c4
  replace B2 := B2.ext ew3
  have b2_w3 := B2.c4
  have xw_w3 := eg (eg ew1 ew2) ew3
  replace hX := hX.ext xw_w3
  replace hY := hY.ext xw_w3
  go_enter Tryz.func129, Tryz.ntmps129
  go_wp2_with fail
  clear hww1 hww2 hww3
  replace zw1 := le2 zw1
  replace zw2 := le2 zw2
  replace zw3 := le2 zw3
  refine (fcommon X.D Y.D _ _ _ (hX.2) (hY.2) (up4 bx.d) (up4 by_.d)).mono (Gv.onW fun Z15 w4 hZ15 ew4 zw4 => ?_)
  obtain ⟨w5, hww5, ew5, B4, zw5⟩ := alloc_at w4 (w4.heap.size) (by omega) #[.bool Z15.b, .slice Z15.p Z15.n Z15.c] 38
  have xw3_w5 := eg ew4 ew5
  replace B1 := B1.ext xw3_w5
  have b1_w5 := B1.c4
  have b4_w5 := B4.c2
  replace hX := hX.ext xw3_w5
  replace hZ15 := hZ15.ext ew5
  have xw_w5 := eg (eg xw_w3 ew4) ew5
  go_wp2_with fail
  clear hww5
  clear b1_w3 b2_w3
  replace zw5 := le2 zw5
  refine (fover X.D Z15 _ _ _ (hX.2) (hZ15) (up4 bx.d) (Nat.le_trans (siz_gcd (den_ne y)) (up4 by_.d)) (gcd_ne_left (den_ne y))).mono (Gv.onW fun Z20 w6 hZ20 ew6 zw6 => ?_)
  obtain ⟨w7, hww7, ew7, B5, zw7⟩ := alloc_at w6 (w6.heap.size) (by omega) #[.bool Z20.b, .slice Z20.p Z20.n Z20.c] 38
  have xw5_w7 := eg ew6 ew7
  replace B1 := B1.ext xw5_w7
  have b1_w7 := B1.c4
  have xw3_w7 := eg (eg xw3_w5 ew6) ew7
  replace B2 := B2.ext xw3_w7
  have b2_w7 := B2.c4
  replace B4 := B4.ext xw5_w7
  have b4_w7 := B4.c2
  replace hY := hY.ext xw3_w7
  replace hZ15 := hZ15.ext xw5_w7
  replace hX := hX.ext xw5_w7
  have b5_w7 := B5.c2
  replace hZ20 := hZ20.ext ew7
  have xw_w7 := eg (eg xw_w5 ew6) ew7
  go_wp2_with fail
  clear hww7
  clear b1_w5 b4_w5
  replace zw7 := le2 zw7
  refine regionT 16 (fun kk => match kk with | 7 => some (.w (Int.fdiv ((((y).den : Int))) (((Int.gcd ((((x).den : Int))) ((((y).den : Int))) : Nat))))) | 8 => some (.w ((x).num * (Int.fdiv ((((y).den : Int))) (((Int.gcd ((((x).den : Int))) ((((y).den : Int))) : Nat)))))) | 13 => some (.w ((y).num * (Int.fdiv ((((x).den : Int))) (((Int.gcd ((((x).den : Int))) ((((y).den : Int))) : Nat)))))) | 14 => some (.w (sN x y)) | 15 => some (.box 38 #[.bool false, .slice none 0 0]) | _ => none) (by as_aux_lemma => kernel_rfl) (head_of (by as_aux_lemma => kernel_rfl)) ?_
  iterate 7
    refine Walk.one (x := ?_) rfl rfl (fun w1 hI hL K hK => ?_) ?_
    rotate_left
    · obtain ⟨hc, hf⟩ := bcell hI
      go_simp
      repeat (first | (go_ints; try go_simp) | (simp only [↓IntWalk.iteOmega]; try go_simp))
      exact hK
    simp only [Act.put, List.setIfInBounds_toArray, List.set_cons_zero, List.set_cons_succ]
  refine Walk.tell rfl rfl (fun w1 hI hL K hK => ?_) ?_
  · go_simp
    exact (fover Y.D Z15 _ _ w1 ((hY.2).ext hI) ((hZ15).ext hI) (up4 by_.d) (Nat.le_trans (siz_gcd (den_ne y)) (up4 by_.d)) (gcd_ne_left (den_ne y))).mono (tell hK)
  rintro _ ⟨Z28, rfl⟩
  simp only [Act.put, List.setIfInBounds_toArray, List.set_cons_zero, List.set_cons_succ]
  refine Walk.tell rfl rfl (fun w1 hI hL K hK => ?_) ?_
  · go_simp
    exact (fproduct X.N Z28 _ _ w1 ((hX.1).ext hI) ((Tl.getW (kn (i := 7) (v := .agg #[.bool Z28.b, .slice Z28.p Z28.n Z28.c]) rfl (by simp) (pred_of (by as_aux_lemma => kernel_rfl)) hL)).1) (sp2 bx.n by_.d)).mono (tell hK)
  rintro _ ⟨Z29, rfl⟩
  simp only [Act.put, List.setIfInBounds_toArray, List.set_cons_zero, List.set_cons_succ]
  iterate 4
    refine Walk.one (x := ?_) rfl rfl (fun w1 hI hL K hK => ?_) ?_
    rotate_left
    · obtain ⟨hc, hf⟩ := bcell hI
      go_simp
      repeat (first | (go_ints; try go_simp) | (simp only [↓IntWalk.iteOmega]; try go_simp))
      exact hK
    simp only [Act.put, List.setIfInBounds_toArray, List.set_cons_zero, List.set_cons_succ]
  refine Walk.tell rfl rfl (fun w1 hI hL K hK => ?_) ?_
  · go_simp
    exact (fproduct Y.N Z20 _ _ w1 ((hY.1).ext hI) ((hZ20).ext hI) (sp2 by_.n bx.d)).mono (tell hK)
  rintro _ ⟨Z34, rfl⟩
  simp only [Act.put, List.setIfInBounds_toArray, List.set_cons_zero, List.set_cons_succ]
  refine Walk.tell rfl rfl (fun w1 hI hL K hK => ?_) ?_
  · go_simp
    exact (fsum Z29 Z34 _ _ w1 ((Tl.getW (kn (i := 8) (v := .agg #[.bool Z29.b, .slice Z29.p Z29.n Z29.c]) rfl (by simp) (pred_of (by as_aux_lemma => kernel_rfl)) hL)).1) ((Tl.getW (kn (i := 13) (v := .agg #[.bool Z34.b, .slice Z34.p Z34.n Z34.c]) rfl (by simp) (pred_of (by as_aux_lemma => kernel_rfl)) hL)).1) (sp3 bx.n by_.d) (sp3 by_.n bx.d)).mono (tell hK)
  rintro _ ⟨Z35, rfl⟩
  simp only [Act.put, List.setIfInBounds_toArray, List.set_cons_zero, List.set_cons_succ]
  refine Walk.tell rfl rfl (fun w1 hI hL K hK => ?_) ?_
  · go_simp
    exact tellB hK
  rintro _ ⟨g7, rfl⟩
  simp only [Act.put, List.setIfInBounds_toArray, List.set_cons_zero, List.set_cons_succ]
  refine Walk.nilF fun w8 ew8 kzL kzX => ?_
  have zw8 := ew8.size
  obtain ⟨hZ35, -⟩ := Tl.getW (kz (i := 14) (v := .agg #[.bool Z35.b, .slice Z35.p Z35.n Z35.c]) rfl (by simp) kzL)
  obtain ⟨B6, yB6⟩ := Tl.getB (kz (i := 15) (v := .pointer (some ⟨g7, 0, none⟩)) rfl (by simp) kzL)
  have lB6 := B6.lt
  clear kzL kzX
  simp only [List.drop_succ_cons, List.drop_zero, List.drop_nil]
  have b6_w8 := B6.c2
  have fb6_w8 := B6.f2
  replace hY := hY.ext ew8
  replace B2 := B2.ext ew8
  have xw3_w8 := eg xw3_w7 ew8
  replace B3 := B3.ext xw3_w8
  replace hZ15 := hZ15.ext ew8
  replace B4 := B4.ext ew8
  replace hZ20 := hZ20.ext ew8
  replace B5 := B5.ext ew8
  have xw_w8 := eg xw_w7 ew8
  obtain ⟨w9, hww9, kw9, Nw9, zw9⟩ := B6.put2 (.bool Z35.b) (.slice Z35.p Z35.n Z35.c)
  have nuw9 : NoU #[.bool false, .slice none 0 0] := by simp [NoU]
  replace hY := FR.kb hY B6 nuw9 kw9
  replace B2 := B2.kb kw9 (by omega)
  replace B3 := B3.kb kw9 (by omega)
  replace hZ15 := WR.kb hZ15 B6 nuw9 kw9
  replace B4 := B4.kb kw9 (by omega)
  replace hZ20 := WR.kb hZ20 B6 nuw9 kw9
  replace B5 := B5.kb kw9 (by omega)
  replace hZ35 := WR.kb hZ35 B6 nuw9 kw9
  have xw_w9 := Ext.kb xw_w8 kw9 (by omega)
  replace B6 := Nw9
  clear Nw9 kw9
  have b6_w9 := B6.c2
  have b4_w9 := B4.c2
  go_wp2_with fail
  clear hww9
  clear b1_w7 b2_w7 b4_w7 b5_w7 b6_w8 fb6_w8
  replace zw9 := le2 zw9
  refine (fcommon Z35 Z15 _ _ _ (hZ35) (hZ15) (sp4 bx by_) (Nat.le_trans (siz_gcd (den_ne y)) (up4 by_.d))).mono (Gv.onW fun Z38 w10 hZ38 ew10 zw10 => ?_)
  obtain ⟨w11, hww11, ew11, B7, zw11⟩ := alloc_at w10 (w10.heap.size) (by omega) #[.bool Z38.b, .slice Z38.p Z38.n Z38.c] 38
  have xw9_w11 := eg ew10 ew11
  replace B6 := B6.ext xw9_w11
  have b6_w11 := B6.c2
  have b7_w11 := B7.c2
  replace hZ35 := hZ35.ext xw9_w11
  replace hZ38 := hZ38.ext ew11
  replace B5 := B5.ext xw9_w11
  have b5_w11 := B5.c2
  replace B2 := B2.ext xw9_w11
  have b2_w11 := B2.c4
  replace hY := hY.ext xw9_w11
  replace hZ20 := hZ20.ext xw9_w11
  have xw_w11 := eg (eg xw_w9 ew10) ew11
  go_wp2_with fail
  clear hww11
  clear b6_w9 b4_w9
  replace zw11 := le2 zw11
  refine regionT 12 (fun kk => match kk with | 2 => some (.w (Int.fdiv ((sN x y)) (((Int.gcd ((sN x y)) (((Int.gcd ((((x).den : Int))) ((((y).den : Int))) : Nat))) : Nat))))) | 8 => some (.w (Int.fdiv ((((y).den : Int))) (((Int.gcd ((sN x y)) (((Int.gcd ((((x).den : Int))) ((((y).den : Int))) : Nat))) : Nat))))) | 9 => some (.w ((Int.fdiv ((((x).den : Int))) (((Int.gcd ((((x).den : Int))) ((((y).den : Int))) : Nat)))) * (Int.fdiv ((((y).den : Int))) (((Int.gcd ((sN x y)) (((Int.gcd ((((x).den : Int))) ((((y).den : Int))) : Nat))) : Nat)))))) | _ => none) (by as_aux_lemma => kernel_rfl) (head_of (by as_aux_lemma => kernel_rfl)) ?_
  iterate 2
    refine Walk.one (x := ?_) rfl rfl (fun w1 hI hL K hK => ?_) ?_
    rotate_left
    · obtain ⟨hc, hf⟩ := bcell hI
      go_simp
      repeat (first | (go_ints; try go_simp) | (simp only [↓IntWalk.iteOmega]; try go_simp))
      exact hK
    simp only [Act.put, List.setIfInBounds_toArray, List.set_cons_zero, List.set_cons_succ]
  refine Walk.tell rfl rfl (fun w1 hI hL K hK => ?_) ?_
  · go_simp
    exact (fover Z35 Z38 _ _ w1 ((hZ35).ext hI) ((hZ38).ext hI) (sp4 bx by_) (Nat.le_trans (siz_gcd (gcd_ne_left (den_ne y))) (Nat.le_trans (siz_gcd (den_ne y)) (up4 by_.d))) (g2_ne x y)).mono (tell hK)
  rintro _ ⟨Z41, rfl⟩
  simp only [Act.put, List.setIfInBounds_toArray, List.set_cons_zero, List.set_cons_succ]
  iterate 5
    refine Walk.one (x := ?_) rfl rfl (fun w1 hI hL K hK => ?_) ?_
    rotate_left
    · obtain ⟨hc, hf⟩ := bcell hI
      go_simp
      repeat (first | (go_ints; try go_simp) | (simp only [↓IntWalk.iteOmega]; try go_simp))
      exact hK
    simp only [Act.put, List.setIfInBounds_toArray, List.set_cons_zero, List.set_cons_succ]
  refine Walk.tell rfl rfl (fun w1 hI hL K hK => ?_) ?_
  · go_simp
    exact (fover Y.D Z38 _ _ w1 ((hY.2).ext hI) ((hZ38).ext hI) (up4 by_.d) (Nat.le_trans (siz_gcd (gcd_ne_left (den_ne y))) (Nat.le_trans (siz_gcd (den_ne y)) (up4 by_.d))) (g2_ne x y)).mono (tell hK)
  rintro _ ⟨Z47, rfl⟩
  simp only [Act.put, List.setIfInBounds_toArray, List.set_cons_zero, List.set_cons_succ]
  refine Walk.tell rfl rfl (fun w1 hI hL K hK => ?_) ?_
  · go_simp
    exact (fproduct Z20 Z47 _ _ w1 ((hZ20).ext hI) ((Tl.getW (kn (i := 8) (v := .agg #[.bool Z47.b, .slice Z47.p Z47.n Z47.c]) rfl (by simp) (pred_of (by as_aux_lemma => kernel_rfl)) hL)).1) (sp bx.d by_.d)).mono (tell hK)
  rintro _ ⟨Z48, rfl⟩
  simp only [Act.put, List.setIfInBounds_toArray, List.set_cons_zero, List.set_cons_succ]
  iterate 2
    refine Walk.one (x := ?_) rfl rfl (fun w1 hI hL K hK => ?_) ?_
    rotate_left
    · obtain ⟨hc, hf⟩ := bcell hI
      go_simp
      repeat (first | (go_ints; try go_simp) | (simp only [↓IntWalk.iteOmega]; try go_simp))
      exact hK
    simp only [Act.put, List.setIfInBounds_toArray, List.set_cons_zero, List.set_cons_succ]
  refine Walk.nilF fun w12 ew12 kzL kzX => ?_
  have zw12 := ew12.size
  obtain ⟨hZ41, oZ41⟩ := Tl.getW (kz (i := 2) (v := .agg #[.bool Z41.b, .slice Z41.p Z41.n Z41.c]) rfl (by simp) kzL)
  replace oZ41 := oZ41.mono xw_w11.size
  obtain ⟨hZ48, oZ48⟩ := Tl.getW (kz (i := 9) (v := .agg #[.bool Z48.b, .slice Z48.p Z48.n Z48.c]) rfl (by simp) kzL)
  replace oZ48 := oZ48.mono xw_w11.size
  have aZ41_Z48 : Apt Z41 Z48 := Apt.of (kzX (2, .agg #[.bool Z41.b, .slice Z41.p Z41.n Z41.c]) (by simp) (9, .agg #[.bool Z48.b, .slice Z48.p Z48.n Z48.c]) (by simp) (by simp))
  clear kzL kzX
  simp only [List.drop_succ_cons, List.drop_zero, List.drop_nil]
  have xw9_w12 := eg xw9_w11 ew12
  replace B3 := B3.ext xw9_w12
  have b3_w12 := B3.c4
  have fb3_w12 := B3.f4
  have xw_w12 := eg xw_w11 ew12
  obtain ⟨w13, hww13, kw13, Nw13, zw13⟩ := B3.put4 (.bool Z41.b) (.slice Z41.p Z41.n Z41.c) (.bool Z48.b) (.slice Z48.p Z48.n Z48.c)
  have nuw13 : NoU #[.bool false, .slice none 0 0, .bool false, .slice none 0 0] := by simp [NoU]
  replace hZ41 := WR.kb hZ41 B3 nuw13 kw13
  replace oZ41 := OW.kb oZ41 B3 (by decide) kw13
  replace hZ48 := WR.kb hZ48 B3 nuw13 kw13
  replace oZ48 := OW.kb oZ48 B3 (by decide) kw13
  have xw_w13 := Ext.kb xw_w12 kw13 (by omega)
  replace B3 := Nw13
  clear Nw13 kw13
  have b3_w13 := B3.c4
  go_wp2_with fail
  clear hww13
  clear b6_w11 b7_w11 b5_w11 b2_w11 b3_w12 fb3_w12
  replace zw13 := le2 zw13
  refine bodyPost_ret (v := .agg #[.bool Z41.b, .slice Z41.p Z41.n Z41.c, .bool Z48.b, .slice Z48.p Z48.n Z48.c]) (by simp [results, Tryz.results129, go_sem, b3_w13]) rfl ?_
  exact Gv.of_f (X := ⟨Z41, Z48⟩) (mkFR (WR.cast hZ41 (add_num x y)) (WR.cast hZ48 (add_den x y))) (mkOF oZ41 oZ48 aZ41_Z48) xw_w13
end Go.Proofs.YtndgaecfeaedeaaGreat

namespace Go.Proofs.YtndgaecfeaedeaaGreat
set_option linter.unusedSimpArgs false
set_option linter.unusedVariables false
open Go.RowKit Lex Mth
attribute [local go_sem] run_indexAt_at add_zero_map Oper.semAt_some at_zero
set_option linter.unusedSimpArgs false
set_option linter.unusedVariables false

theorem kSame_t (X Y : Wh) (x y : Int) (w : World) (hx : WR w X x) (hy : WR w Y y) (h : x = y) : Calls Tryz.prog 78 #[X.val, Y.val] w (Gv (.v (.bool true)) w) :=
  (Same_any _ _ _ _ _ _ _ _ _ _ w hx.u16.2 hy.u16.2).mono fun _ _ ⟨he, h3⟩ => by
    subst h he
    rw [show X.b = Y.b by rw [hx.neg, hy.neg]]
    simp
    exact Gv.of_v h3
theorem natAbs_dec {x y : Int} (h : x ≠ y) : ((decide (x < 0) == decide (y < 0)) && decide (limbs x.natAbs = limbs y.natAbs)) = false := by
  rw [Bool.eq_false_iff]
  intro e
  simp only [Bool.and_eq_true, beq_iff_eq, decide_eq_true_eq, decide_eq_decide] at e
  have := limbs_inj e.2
  omega
theorem kSame_f (X Y : Wh) (x y : Int) (w : World) (hx : WR w X x) (hy : WR w Y y) (h : x ≠ y) : Calls Tryz.prog 78 #[X.val, Y.val] w (Gv (.v (.bool false)) w) :=
  (Same_any _ _ _ _ _ _ _ _ _ _ w hx.u16.2 hy.u16.2).mono fun _ _ ⟨he, h3⟩ => by
    subst he
    rw [hx.neg, hy.neg, natAbs_dec h]
    exact Gv.of_v h3
theorem kFromInt (n : Int) (w : World) (h1 : -9223372036854775808 ≤ n) (h2 : n ≤ 9223372036854775807) : Calls Tryz.prog 79 #[.int .i64 n] w (Gv (.w n) w) :=
  (FromInt_any n w h1 h2).mono fun _ _ ⟨b, p, n, c, he, h1, h2, h3⟩ => by subst he; exact Gv.of_w (X := ⟨b, p, n, c⟩) h1 h2 h3
theorem kValid (X : Wh) (l : List Nat) (w : World) (h : UW w X l) {b : Bool} (hv : valW X.b l = b) : Calls Tryz.prog 126 #[X.val] w (Gv (.v (.bool b)) w) :=
  (Valid_any _ _ _ _ l w h).mono fun _ _ ⟨he, h3⟩ => by subst he hv; exact Gv.of_v h3
theorem kValidW (X : Wh) (x : Int) (w : World) (h : WR w X x) (b : siz x.natAbs ≤ 1024) : Calls Tryz.prog 126 #[X.val] w (Gv (.v (.bool true)) w) :=
  kValid X _ w h.u16.2 (by rw [h.neg]; exact valW_of b)
theorem kCmp (X Y : Wh) (x y : Int) (w : World) (hx : WR w X x) (hy : WR w Y y) (b : siz x.natAbs ≤ 1024) (b' : siz y.natAbs ≤ 1024) :
    Calls Tryz.prog 75 #[X.val, Y.val] w (Gv (.v (.int .i64 (cmpZ x y))) w) :=
  (Cmp_any _ _ _ _ _ _ _ _ x y w hx hy b b').mono fun _ _ ⟨he, h3⟩ => by subst he; exact Gv.of_v h3
theorem WR.of {w : World} {X : Wh} {l : List Nat} (h : UW w X l) (hv : valW X.b l = true) : WR w X (sgn X.b (val l)) := by
  unfold valW at hv
  simp only [Bool.and_eq_true, Bool.or_eq_true, decide_eq_true_eq, bne_iff_ne, ne_eq, Bool.not_eq_true'] at hv
  have hl : limbs (val l) = l := limbs_val h.lim (fun hne => by
    rcases hv.2 with h' | h'
    · exact absurd (List.eq_nil_of_length_eq_zero h'.1) hne
    · exact h'.2)
  refine WR.mk ?_ (by rw [sgn_natAbs, hl]; exact h)
  rw [sgn_neg]
  have : siz (val l) = l.length := by unfold siz; rw [hl]
  rw [this]
  rcases hv.2 with h' | h'
  · rw [h'.2]; rfl
  · simp [h'.1]
theorem neg_R {w : World} {X : Wh} {x : Int} {s : Bool} (h : U16 w X.p X.n X.c (limbs x.natAbs)) (hs : s = decide (-x < 0)) : WR w ⟨s, X.p, X.n, X.c⟩ (-x) := WR.mk hs (by rw [Int.natAbs_neg]; exact h)

set_option maxRecDepth 100000 in
theorem fneg_a (X : Wh) (x : Int) (w : World) (hX : WR w X x) (hb : X.b = true) :
    Calls Tryz.prog 131 #[.agg #[.bool true, .slice X.p X.n X.c]] w (Gv (.w (-x)) w) := by
  have HX : Hid (x < 0) := by have := hX.neg; rw [hb] at this; show x < 0; exact of_decide_eq_true this.symm
  clear hb
  obtain ⟨w1, hww1, ew1, B1, zw1⟩ := alloc_at w (w.heap.size) (by omega) #[.bool true, .slice X.p X.n X.c] 38
  obtain ⟨w2, hww2, ew2, B2, zw2⟩ := alloc_at w1 (w.heap.size + 1) (by omega) #[.bool false, .slice none 0 0] 38
  replace B1 := B1.ext ew2
  have b1_w2 := B1.c2
  have xw_w2 := eg ew1 ew2
  replace hX := hX.ext xw_w2
  go_enter Tryz.func131, Tryz.ntmps131
  go_wp2_with fail
  clear hww1 hww2
  replace zw1 := le2 zw1
  replace zw2 := le2 zw2
  refine regionT 13 (fun kk => match kk with | 11 => some (.c (limbs (x).natAbs)) | _ => none) (by as_aux_lemma => kernel_rfl) (head_of (by as_aux_lemma => kernel_rfl)) ?_
  iterate 4
    refine Walk.one (x := ?_) rfl rfl (fun w1 hI hL K hK => ?_) ?_
    rotate_left
    · obtain ⟨hc, hf⟩ := bcell hI
      go_simp
      repeat (first | (go_ints; try go_simp) | (simp only [↓IntWalk.iteOmega]; try go_simp))
      exact hK
    simp only [Act.put, List.setIfInBounds_toArray, List.set_cons_zero, List.set_cons_succ]
  refine Walk.skip rfl (by as_aux_lemma => kernel_rfl) ?_
  simp only [Act.put, List.setIfInBounds_toArray, List.set_cons_zero, List.set_cons_succ]
  refine Walk.skip rfl (by as_aux_lemma => kernel_rfl) ?_
  simp only [Act.put, List.setIfInBounds_toArray, List.set_cons_zero, List.set_cons_succ]
  refine Walk.skip rfl (by as_aux_lemma => kernel_rfl) ?_
  simp only [Act.put, List.setIfInBounds_toArray, List.set_cons_zero, List.set_cons_succ]
  refine Walk.skip rfl (by as_aux_lemma => kernel_rfl) ?_
  simp only [Act.put, List.setIfInBounds_toArray, List.set_cons_zero, List.set_cons_succ]
  iterate 3
    refine Walk.one (x := ?_) rfl rfl (fun w1 hI hL K hK => ?_) ?_
    rotate_left
    · obtain ⟨hc, hf⟩ := bcell hI
      go_simp
      repeat (first | (go_ints; try go_simp) | (simp only [↓IntWalk.iteOmega]; try go_simp))
      exact hK
    simp only [Act.put, List.setIfInBounds_toArray, List.set_cons_zero, List.set_cons_succ]
  refine Walk.tell rfl rfl (fun w1 hI hL K hK => ?_) ?_
  · go_simp
    exact (kClone X _ w1 (((hX).ext hI).u16.2)).mono (tell hK)
  rintro _ ⟨Z14, rfl⟩
  simp only [Act.put, List.setIfInBounds_toArray, List.set_cons_zero, List.set_cons_succ]
  refine Walk.one (x := ?_) rfl rfl (fun w1 hI hL K hK => ?_) ?_
  rotate_left
  · obtain ⟨hc, hf⟩ := bcell hI
    go_simp
    repeat (first | (go_ints; try go_simp) | (simp only [↓IntWalk.iteOmega]; try go_simp))
    exact hK
  simp only [Act.put, List.setIfInBounds_toArray, List.set_cons_zero, List.set_cons_succ]
  refine Walk.nilF fun w3 ew3 kzL kzX => ?_
  have zw3 := ew3.size
  obtain ⟨hZ14, oZ14⟩ := Tl.getC (kz (i := 11) (v := .slice Z14.p Z14.n Z14.c) rfl (by simp) kzL)
  replace oZ14 := oZ14.mono xw_w2.size
  clear kzL kzX
  simp only [List.drop_succ_cons, List.drop_zero, List.drop_nil]
  replace B2 := B2.ext ew3
  have b2_w3 := B2.c2
  have fb2_w3 := B2.f2
  have xw_w3 := eg xw_w2 ew3
  obtain ⟨w4, hww4, kw4, Nw4, zw4⟩ := B2.put2 (.bool false) (.slice Z14.p Z14.n Z14.c)
  have nuw4 : NoU #[.bool false, .slice none 0 0] := by simp [NoU]
  replace hZ14 := UW.kb hZ14 B2 nuw4 kw4
  replace oZ14 := OW.kb oZ14 B2 (by decide) kw4
  have xw_w4 := Ext.kb xw_w3 kw4 (by omega)
  replace B2 := Nw4
  clear Nw4 kw4
  have b2_w4 := B2.c2
  go_wp2_with fail
  clear hww4
  clear b1_w2 b2_w3 fb2_w3
  replace zw4 := le2 zw4
  refine bodyPost_ret (v := .agg #[.bool false, .slice Z14.p Z14.n Z14.c]) (by simp [results, Tryz.results131, go_sem, b2_w4]) rfl ?_
  exact Gv.of_w (X := ⟨false, Z14.p, Z14.n, Z14.c⟩) (neg_R hZ14 (by have := HX.out; simp; omega)) oZ14 xw_w4

set_option maxRecDepth 100000 in
theorem fneg_b (X : Wh) (x : Int) (w : World) (hX : WR w X x) (hb : X.b = false) (h0 : X.n = 0) :
    Calls Tryz.prog 131 #[.agg #[.bool false, .slice X.p X.n X.c]] w (Gv (.w (-x)) w) := by
  have HX : Hid (x = 0) := by have := hX.n; rw [h0] at this; have := siz_eq_zero.1 this.symm; show x = 0; omega
  have h0d : decide (0 < (X.n : Int)) = false := by simp; omega
  have h0e : decide (0 < X.n) = false := by simp; omega
  clear hb h0
  obtain ⟨w1, hww1, ew1, B1, zw1⟩ := alloc_at w (w.heap.size) (by omega) #[.bool false, .slice X.p X.n X.c] 38
  obtain ⟨w2, hww2, ew2, B2, zw2⟩ := alloc_at w1 (w.heap.size + 1) (by omega) #[.bool false, .slice none 0 0] 38
  replace B1 := B1.ext ew2
  have b1_w2 := B1.c2
  have xw_w2 := eg ew1 ew2
  replace hX := hX.ext xw_w2
  go_enter Tryz.func131, Tryz.ntmps131
  go_wp2_with fail
  clear hww1 hww2
  replace zw1 := le2 zw1
  replace zw2 := le2 zw2
  refine regionT 13 (fun kk => match kk with | 11 => some (.c (limbs (x).natAbs)) | _ => none) (by as_aux_lemma => kernel_rfl) (head_of (by as_aux_lemma => kernel_rfl)) ?_
  iterate 4
    refine Walk.one (x := ?_) rfl rfl (fun w1 hI hL K hK => ?_) ?_
    rotate_left
    · obtain ⟨hc, hf⟩ := bcell hI
      go_simp
      repeat (first | (go_ints; try go_simp) | (simp only [↓IntWalk.iteOmega]; try go_simp))
      exact hK
    simp only [Act.put, List.setIfInBounds_toArray, List.set_cons_zero, List.set_cons_succ]
  refine Walk.oneG (x := ?_) rfl (by as_aux_lemma => kernel_rfl) (fun w1 hI hL K hK => ?_) ?_
  rotate_left
  · obtain ⟨hc, hf⟩ := bcell hI
    go_simp
    repeat (first | (go_ints; try go_simp) | (simp only [↓IntWalk.iteOmega]; try go_simp))
    exact hK
  simp only [Act.put, List.setIfInBounds_toArray, List.set_cons_zero, List.set_cons_succ]
  refine Walk.oneG (x := ?_) rfl (by as_aux_lemma => kernel_rfl) (fun w1 hI hL K hK => ?_) ?_
  rotate_left
  · obtain ⟨hc, hf⟩ := bcell hI
    go_simp
    repeat (first | (go_ints; try go_simp) | (simp only [↓IntWalk.iteOmega]; try go_simp))
    exact hK
  simp only [Act.put, List.setIfInBounds_toArray, List.set_cons_zero, List.set_cons_succ]
  refine Walk.oneG (x := ?_) rfl (by as_aux_lemma => kernel_rfl) (fun w1 hI hL K hK => ?_) ?_
  rotate_left
  · obtain ⟨hc, hf⟩ := bcell hI
    go_simp
    repeat (first | (go_ints; try go_simp) | (simp only [↓IntWalk.iteOmega]; try go_simp))
    exact hK
  simp only [Act.put, List.setIfInBounds_toArray, List.set_cons_zero, List.set_cons_succ]
  refine Walk.oneG (x := ?_) rfl (by as_aux_lemma => kernel_rfl) (fun w1 hI hL K hK => ?_) ?_
  rotate_left
  · obtain ⟨hc, hf⟩ := bcell hI
    go_simp
    repeat (first | (go_ints; try go_simp) | (simp only [↓IntWalk.iteOmega]; try go_simp))
    exact hK
  simp only [Act.put, List.setIfInBounds_toArray, List.set_cons_zero, List.set_cons_succ]
  iterate 3
    refine Walk.one (x := ?_) rfl rfl (fun w1 hI hL K hK => ?_) ?_
    rotate_left
    · obtain ⟨hc, hf⟩ := bcell hI
      go_simp
      repeat (first | (go_ints; try go_simp) | (simp only [↓IntWalk.iteOmega]; try go_simp))
      exact hK
    simp only [Act.put, List.setIfInBounds_toArray, List.set_cons_zero, List.set_cons_succ]
  refine Walk.tell rfl rfl (fun w1 hI hL K hK => ?_) ?_
  · go_simp
    exact (kClone X _ w1 (((hX).ext hI).u16.2)).mono (tell hK)
  rintro _ ⟨Z14, rfl⟩
  simp only [Act.put, List.setIfInBounds_toArray, List.set_cons_zero, List.set_cons_succ]
  refine Walk.one (x := ?_) rfl rfl (fun w1 hI hL K hK => ?_) ?_
  rotate_left
  · obtain ⟨hc, hf⟩ := bcell hI
    go_simp
    repeat (first | (go_ints; try go_simp) | (simp only [↓IntWalk.iteOmega]; try go_simp))
    exact hK
  simp only [Act.put, List.setIfInBounds_toArray, List.set_cons_zero, List.set_cons_succ]
  refine Walk.nilF fun w3 ew3 kzL kzX => ?_
  have zw3 := ew3.size
  obtain ⟨hZ14, oZ14⟩ := Tl.getC (kz (i := 11) (v := .slice Z14.p Z14.n Z14.c) rfl (by simp) kzL)
  replace oZ14 := oZ14.mono xw_w2.size
  clear kzL kzX
  simp only [List.drop_succ_cons, List.drop_zero, List.drop_nil]
  replace B2 := B2.ext ew3
  have b2_w3 := B2.c2
  have fb2_w3 := B2.f2
  have xw_w3 := eg xw_w2 ew3
  obtain ⟨w4, hww4, kw4, Nw4, zw4⟩ := B2.put2 (.bool false) (.slice Z14.p Z14.n Z14.c)
  have nuw4 : NoU #[.bool false, .slice none 0 0] := by simp [NoU]
  replace hZ14 := UW.kb hZ14 B2 nuw4 kw4
  replace oZ14 := OW.kb oZ14 B2 (by decide) kw4
  have xw_w4 := Ext.kb xw_w3 kw4 (by omega)
  replace B2 := Nw4
  clear Nw4 kw4
  have b2_w4 := B2.c2
  go_wp2_with fail
  clear hww4
  clear b1_w2 b2_w3 fb2_w3
  replace zw4 := le2 zw4
  refine bodyPost_ret (v := .agg #[.bool false, .slice Z14.p Z14.n Z14.c]) (by simp [results, Tryz.results131, go_sem, b2_w4]) rfl ?_
  exact Gv.of_w (X := ⟨false, Z14.p, Z14.n, Z14.c⟩) (neg_R hZ14 (by have := HX.out; simp; omega)) oZ14 xw_w4

set_option maxRecDepth 100000 in
theorem fneg_c (X : Wh) (x : Int) (w : World) (hX : WR w X x) (hb : X.b = false) (h0 : 0 < X.n) :
    Calls Tryz.prog 131 #[.agg #[.bool false, .slice X.p X.n X.c]] w (Gv (.w (-x)) w) := by
  have HX : Hid (0 < x) := by
    have h1 := hX.neg
    rw [hb] at h1
    have h2 : x ≠ 0 := fun e => by subst e; have := hX.n; simp [siz_zero] at this; omega
    have h3 : ¬ x < 0 := of_decide_eq_false h1.symm
    show 0 < x; omega
  have h0d : decide (0 < (X.n : Int)) = true := by simp; omega
  have h0e : decide (0 < X.n) = true := by simp; omega
  clear hb h0
  obtain ⟨w1, hww1, ew1, B1, zw1⟩ := alloc_at w (w.heap.size) (by omega) #[.bool false, .slice X.p X.n X.c] 38
  obtain ⟨w2, hww2, ew2, B2, zw2⟩ := alloc_at w1 (w.heap.size + 1) (by omega) #[.bool false, .slice none 0 0] 38
  replace B1 := B1.ext ew2
  have b1_w2 := B1.c2
  have xw_w2 := eg ew1 ew2
  replace hX := hX.ext xw_w2
  go_enter Tryz.func131, Tryz.ntmps131
  go_wp2_with fail
  clear hww1 hww2
  replace zw1 := le2 zw1
  replace zw2 := le2 zw2
  refine regionT 13 (fun kk => match kk with | 11 => some (.c (limbs (x).natAbs)) | _ => none) (by as_aux_lemma => kernel_rfl) (head_of (by as_aux_lemma => kernel_rfl)) ?_
  iterate 4
    refine Walk.one (x := ?_) rfl rfl (fun w1 hI hL K hK => ?_) ?_
    rotate_left
    · obtain ⟨hc, hf⟩ := bcell hI
      go_simp
      repeat (first | (go_ints; try go_simp) | (simp only [↓IntWalk.iteOmega]; try go_simp))
      exact hK
    simp only [Act.put, List.setIfInBounds_toArray, List.set_cons_zero, List.set_cons_succ]
  refine Walk.oneG (x := ?_) rfl (by as_aux_lemma => kernel_rfl) (fun w1 hI hL K hK => ?_) ?_
  rotate_left
  · obtain ⟨hc, hf⟩ := bcell hI
    go_simp
    repeat (first | (go_ints; try go_simp) | (simp only [↓IntWalk.iteOmega]; try go_simp))
    exact hK
  simp only [Act.put, List.setIfInBounds_toArray, List.set_cons_zero, List.set_cons_succ]
  refine Walk.oneG (x := ?_) rfl (by as_aux_lemma => kernel_rfl) (fun w1 hI hL K hK => ?_) ?_
  rotate_left
  · obtain ⟨hc, hf⟩ := bcell hI
    go_simp
    repeat (first | (go_ints; try go_simp) | (simp only [↓IntWalk.iteOmega]; try go_simp))
    exact hK
  simp only [Act.put, List.setIfInBounds_toArray, List.set_cons_zero, List.set_cons_succ]
  refine Walk.oneG (x := ?_) rfl (by as_aux_lemma => kernel_rfl) (fun w1 hI hL K hK => ?_) ?_
  rotate_left
  · obtain ⟨hc, hf⟩ := bcell hI
    go_simp
    repeat (first | (go_ints; try go_simp) | (simp only [↓IntWalk.iteOmega]; try go_simp))
    exact hK
  simp only [Act.put, List.setIfInBounds_toArray, List.set_cons_zero, List.set_cons_succ]
  refine Walk.oneG (x := ?_) rfl (by as_aux_lemma => kernel_rfl) (fun w1 hI hL K hK => ?_) ?_
  rotate_left
  · obtain ⟨hc, hf⟩ := bcell hI
    go_simp
    repeat (first | (go_ints; try go_simp) | (simp only [↓IntWalk.iteOmega]; try go_simp))
    exact hK
  simp only [Act.put, List.setIfInBounds_toArray, List.set_cons_zero, List.set_cons_succ]
  iterate 3
    refine Walk.one (x := ?_) rfl rfl (fun w1 hI hL K hK => ?_) ?_
    rotate_left
    · obtain ⟨hc, hf⟩ := bcell hI
      go_simp
      repeat (first | (go_ints; try go_simp) | (simp only [↓IntWalk.iteOmega]; try go_simp))
      exact hK
    simp only [Act.put, List.setIfInBounds_toArray, List.set_cons_zero, List.set_cons_succ]
  refine Walk.tell rfl rfl (fun w1 hI hL K hK => ?_) ?_
  · go_simp
    exact (kClone X _ w1 (((hX).ext hI).u16.2)).mono (tell hK)
  rintro _ ⟨Z14, rfl⟩
  simp only [Act.put, List.setIfInBounds_toArray, List.set_cons_zero, List.set_cons_succ]
  refine Walk.one (x := ?_) rfl rfl (fun w1 hI hL K hK => ?_) ?_
  rotate_left
  · obtain ⟨hc, hf⟩ := bcell hI
    go_simp
    repeat (first | (go_ints; try go_simp) | (simp only [↓IntWalk.iteOmega]; try go_simp))
    exact hK
  simp only [Act.put, List.setIfInBounds_toArray, List.set_cons_zero, List.set_cons_succ]
  refine Walk.nilF fun w3 ew3 kzL kzX => ?_
  have zw3 := ew3.size
  obtain ⟨hZ14, oZ14⟩ := Tl.getC (kz (i := 11) (v := .slice Z14.p Z14.n Z14.c) rfl (by simp) kzL)
  replace oZ14 := oZ14.mono xw_w2.size
  clear kzL kzX
  simp only [List.drop_succ_cons, List.drop_zero, List.drop_nil]
  replace B2 := B2.ext ew3
  have b2_w3 := B2.c2
  have fb2_w3 := B2.f2
  have xw_w3 := eg xw_w2 ew3
  obtain ⟨w4, hww4, kw4, Nw4, zw4⟩ := B2.put2 (.bool true) (.slice Z14.p Z14.n Z14.c)
  have nuw4 : NoU #[.bool false, .slice none 0 0] := by simp [NoU]
  replace hZ14 := UW.kb hZ14 B2 nuw4 kw4
  replace oZ14 := OW.kb oZ14 B2 (by decide) kw4
  have xw_w4 := Ext.kb xw_w3 kw4 (by omega)
  replace B2 := Nw4
  clear Nw4 kw4
  have b2_w4 := B2.c2
  go_wp2_with fail
  clear hww4
  clear b1_w2 b2_w3 fb2_w3
  replace zw4 := le2 zw4
  refine bodyPost_ret (v := .agg #[.bool true, .slice Z14.p Z14.n Z14.c]) (by simp [results, Tryz.results131, go_sem, b2_w4]) rfl ?_
  exact Gv.of_w (X := ⟨true, Z14.p, Z14.n, Z14.c⟩) (neg_R hZ14 (by have := HX.out; simp; omega)) oZ14 xw_w4

theorem fneg (X : Wh) (x : Int) (w : World) (hX : WR w X x) : Calls Tryz.prog 131 #[.agg #[.bool X.b, .slice X.p X.n X.c]] w (Gv (.w (-x)) w) := by
  cases hb : X.b
  · rcases Nat.eq_zero_or_pos X.n with h0 | h0
    · have := fneg_b X x w hX hb h0; exact this
    · have := fneg_c X x w hX hb h0; exact this
  · have := fneg_a X x w hX hb; exact this

set_option maxRecDepth 100000 in
theorem fone_a (X : Wh) (x : Int) (w : World) (hX : WR w X x) (hb : X.b = true) :
    Calls Tryz.prog 127 #[.agg #[.bool true, .slice X.p X.n X.c]] w (Gv (.v (.bool false)) w) := by
  clear hb
  obtain ⟨w1, hww1, ew1, B1, zw1⟩ := alloc_at w (w.heap.size) (by omega) #[.bool true, .slice X.p X.n X.c] 38
  have b1_w1 := B1.c2
  go_enter Tryz.func127, Tryz.ntmps127
  go_wp2_with fail
  clear hww1
  replace zw1 := le2 zw1
  refine bodyPost_ret (v := .bool false) (by simp [results, Tryz.results127, go_sem]) rfl ?_
  exact Gv.of_v ew1

set_option maxRecDepth 100000 in
theorem fone_b (X : Wh) (x : Int) (w : World) (hX : WR w X x) (hb : X.b = false) (h0 : X.n ≠ 1) :
    Calls Tryz.prog 127 #[.agg #[.bool false, .slice X.p X.n X.c]] w (Gv (.v (.bool false)) w) := by
  have h0d : ((X.n : Int) == 1) = false := by simp; omega
  clear hb h0
  obtain ⟨w1, hww1, ew1, B1, zw1⟩ := alloc_at w (w.heap.size) (by omega) #[.bool false, .slice X.p X.n X.c] 38
  have b1_w1 := B1.c2
  go_enter Tryz.func127, Tryz.ntmps127
  go_wp2_with fail
  clear hww1
  replace zw1 := le2 zw1
  refine bodyPost_ret (v := .bool false) (by simp [results, Tryz.results127, go_sem]) rfl ?_
  exact Gv.of_v ew1

set_option maxRecDepth 100000 in
theorem fone_c (X : Wh) (x : Int) (w : World) (hX : WR w X x) (hb : X.b = false) (h0 : X.n = 1) (hd : x = 1) :
    Calls Tryz.prog 127 #[.agg #[.bool false, .slice X.p X.n X.c]] w (Gv (.v (.bool true)) w) := by
  obtain ⟨u, hu⟩ : ∃ u, u = dig (limbs x.natAbs) 0 := ⟨_, rfl⟩
  have hx0 : dig (limbs x.natAbs) 0 = x.natAbs := by
    have h1 := hX.n
    have h2 : x.natAbs ≠ 0 := fun e => by rw [e, siz_zero] at h1; omega
    have h3 := siz_one.1 (Nat.le_of_eq (h1.symm.trans h0))
    rw [limbs_pos h2]; simp [dig]; omega
  have hpos : ¬ x < 0 := by have := hX.neg; rw [hb] at this; exact of_decide_eq_false this.symm
  have hud : (((u : Nat) : Int) == 1) = true := by rw [hu, hx0]; simp; omega
  have hcell : ∀ w1 : World, Ext w w1 → w1.cell? (at_ X.p 0) = some (.int .u16 (u : Nat)) := fun w1 e => by rw [hu]; exact (hX.ext e).u16.2.cell 0 (by omega)
  have hh := hX.u16.2.has
  have h0d : ((X.n : Int) == 1) = true := by simp; omega
  have h0p : 0 < X.n := by omega
  have Hc := Lib.hid hcell
  clear hcell hu hx0 hpos hd h0 hb
  obtain ⟨w1, hww1, ew1, B1, zw1⟩ := alloc_at w (w.heap.size) (by omega) #[.bool false, .slice X.p X.n X.c] 38
  have b1_w1 := B1.c2
  have c0 := Hc.out _ ew1
  go_enter Tryz.func127, Tryz.ntmps127
  go_wp2_with fail
  clear hww1
  replace zw1 := le2 zw1
  refine bodyPost_ret (v := .bool true) (by simp [results, Tryz.results127, go_sem]) rfl ?_
  exact Gv.of_v ew1

set_option maxRecDepth 100000 in
theorem fone_d (X : Wh) (x : Int) (w : World) (hX : WR w X x) (hb : X.b = false) (h0 : X.n = 1) (hd : x ≠ 1) :
    Calls Tryz.prog 127 #[.agg #[.bool false, .slice X.p X.n X.c]] w (Gv (.v (.bool false)) w) := by
  obtain ⟨u, hu⟩ : ∃ u, u = dig (limbs x.natAbs) 0 := ⟨_, rfl⟩
  have hx0 : dig (limbs x.natAbs) 0 = x.natAbs := by
    have h1 := hX.n
    have h2 : x.natAbs ≠ 0 := fun e => by rw [e, siz_zero] at h1; omega
    have h3 := siz_one.1 (Nat.le_of_eq (h1.symm.trans h0))
    rw [limbs_pos h2]; simp [dig]; omega
  have hpos : ¬ x < 0 := by have := hX.neg; rw [hb] at this; exact of_decide_eq_false this.symm
  have hud : (((u : Nat) : Int) == 1) = false := by rw [hu, hx0]; simp; omega
  have hcell : ∀ w1 : World, Ext w w1 → w1.cell? (at_ X.p 0) = some (.int .u16 (u : Nat)) := fun w1 e => by rw [hu]; exact (hX.ext e).u16.2.cell 0 (by omega)
  have hh := hX.u16.2.has
  have h0d : ((X.n : Int) == 1) = true := by simp; omega
  have h0p : 0 < X.n := by omega
  have Hc := Lib.hid hcell
  clear hcell hu hx0 hpos hd h0 hb
  obtain ⟨w1, hww1, ew1, B1, zw1⟩ := alloc_at w (w.heap.size) (by omega) #[.bool false, .slice X.p X.n X.c] 38
  have b1_w1 := B1.c2
  have c0 := Hc.out _ ew1
  go_enter Tryz.func127, Tryz.ntmps127
  go_wp2_with fail
  clear hww1
  replace zw1 := le2 zw1
  refine bodyPost_ret (v := .bool false) (by simp [results, Tryz.results127, go_sem]) rfl ?_
  exact Gv.of_v ew1

theorem fisOne (X : Wh) (x : Int) (w : World) (hX : WR w X x) : Calls Tryz.prog 127 #[.agg #[.bool X.b, .slice X.p X.n X.c]] w (Gv (.v (.bool (decide (x = 1)))) w) := by
  cases hb : X.b
  · by_cases h0 : X.n = 1
    · by_cases hd : x = 1
      · have := fone_c X x w hX hb h0 hd; simpa only [hd, decide_true] using this
      · have := fone_d X x w hX hb h0 hd; simpa only [hd, decide_false] using this
    · have hd : x ≠ 1 := fun e => h0 (by rw [hX.n, e]; simp [siz, limbs])
      have := fone_b X x w hX hb h0; simpa only [hd, decide_false] using this
  · have hd : x ≠ 1 := fun e => by have := hX.neg; rw [hb, e] at this; simp at this
    have := fone_a X x w hX hb; simpa only [hd, decide_false] using this

set_option maxRecDepth 100000 in
theorem fSame_t (X : Fr) (Y : Fr) (a : Int) (b : Int) (c : Int) (d : Int) (w : World) (hX : PR w X a b) (hY : PR w Y c d) (h1 : a = c) (h2 : b = d) :
    Calls Tryz.prog 39 #[.agg #[.bool X.N.b, .slice X.N.p X.N.n X.N.c, .bool X.D.b, .slice X.D.p X.D.n X.D.c], .agg #[.bool Y.N.b, .slice Y.N.p Y.N.n Y.N.c, .bool Y.D.b, .slice Y.D.p Y.D.n Y.D.c]] w (Gv (.v (.bool true)) w) := by
  have H1 := Lib.hid h1
  have H2 := Lib.hid h2
  clear h1 h2
  obtain ⟨w1, hww1, ew1, B1, zw1⟩ := alloc_at w (w.heap.size) (by omega) #[.bool X.N.b, .slice X.N.p X.N.n X.N.c, .bool X.D.b, .slice X.D.p X.D.n X.D.c] 40
  obtain ⟨w2, hww2, ew2, B2, zw2⟩ := alloc_at w1 (w.heap.size + 1) (by omega) #[.bool Y.N.b, .slice Y.N.p Y.N.n Y.N.c, .bool Y.D.b, .slice Y.D.p Y.D.n Y.D.c] 40
  replace B1 := B1.ext ew2
  have b1_w2 := B1.c4
  have b2_w2 := B2.c4
  have xw_w2 := eg ew1 ew2
  replace hX := hX.ext xw_w2
  replace hY := hY.ext xw_w2
  go_enter Tryz.func39, Tryz.ntmps39
  go_wp2_with fail
  clear hww1 hww2
  replace zw1 := le2 zw1
  replace zw2 := le2 zw2
  refine (kSame_t X.N Y.N _ _ _ (hX.1) (hY.1) (H1.out)).mono (Gv.onV fun w3 ew3 zw3 => ?_)
  replace B1 := B1.ext ew3
  have b1_w3 := B1.c4
  replace B2 := B2.ext ew3
  have b2_w3 := B2.c4
  replace hX := hX.ext ew3
  replace hY := hY.ext ew3
  have xw_w3 := eg xw_w2 ew3
  go_wp2_with fail
  clear b1_w2 b2_w2
  refine (kSame_t X.D Y.D _ _ _ (hX.2) (hY.2) (H2.out)).mono (Gv.onV fun w4 ew4 zw4 => ?_)
  have xw_w4 := eg xw_w3 ew4
  go_wp2_with fail
  clear b1_w3 b2_w3
  refine bodyPost_ret (v := .bool true) (by simp [results, Tryz.results39, go_sem]) rfl ?_
  exact Gv.of_v xw_w4

set_option maxRecDepth 100000 in
theorem fSame_n (X : Fr) (Y : Fr) (a : Int) (b : Int) (c : Int) (d : Int) (w : World) (hX : PR w X a b) (hY : PR w Y c d) (h1 : a ≠ c) :
    Calls Tryz.prog 39 #[.agg #[.bool X.N.b, .slice X.N.p X.N.n X.N.c, .bool X.D.b, .slice X.D.p X.D.n X.D.c], .agg #[.bool Y.N.b, .slice Y.N.p Y.N.n Y.N.c, .bool Y.D.b, .slice Y.D.p Y.D.n Y.D.c]] w (Gv (.v (.bool false)) w) := by
  have H1 := Lib.hid h1
  clear h1
  obtain ⟨w1, hww1, ew1, B1, zw1⟩ := alloc_at w (w.heap.size) (by omega) #[.bool X.N.b, .slice X.N.p X.N.n X.N.c, .bool X.D.b, .slice X.D.p X.D.n X.D.c] 40
  obtain ⟨w2, hww2, ew2, B2, zw2⟩ := alloc_at w1 (w.heap.size + 1) (by omega) #[.bool Y.N.b, .slice Y.N.p Y.N.n Y.N.c, .bool Y.D.b, .slice Y.D.p Y.D.n Y.D.c] 40
  replace B1 := B1.ext ew2
  have b1_w2 := B1.c4
  have b2_w2 := B2.c4
  have xw_w2 := eg ew1 ew2
  replace hX := hX.ext xw_w2
  replace hY := hY.ext xw_w2
  go_enter Tryz.func39, Tryz.ntmps39
  go_wp2_with fail
  clear hww1 hww2
  replace zw1 := le2 zw1
  replace zw2 := le2 zw2
  refine (kSame_f X.N Y.N _ _ _ (hX.1) (hY.1) (H1.out)).mono (Gv.onV fun w3 ew3 zw3 => ?_)
  have xw_w3 := eg xw_w2 ew3
  go_wp2_with fail
  clear b1_w2 b2_w2
  refine bodyPost_ret (v := .bool false) (by simp [results, Tryz.results39, go_sem]) rfl ?_
  exact Gv.of_v xw_w3

set_option maxRecDepth 100000 in
theorem fSame_d (X : Fr) (Y : Fr) (a : Int) (b : Int) (c : Int) (d : Int) (w : World) (hX : PR w X a b) (hY : PR w Y c d) (h1 : a = c) (h2 : b ≠ d) :
    Calls Tryz.prog 39 #[.agg #[.bool X.N.b, .slice X.N.p X.N.n X.N.c, .bool X.D.b, .slice X.D.p X.D.n X.D.c], .agg #[.bool Y.N.b, .slice Y.N.p Y.N.n Y.N.c, .bool Y.D.b, .slice Y.D.p Y.D.n Y.D.c]] w (Gv (.v (.bool false)) w) := by
  have H1 := Lib.hid h1
  have H2 := Lib.hid h2
  clear h1 h2
  obtain ⟨w1, hww1, ew1, B1, zw1⟩ := alloc_at w (w.heap.size) (by omega) #[.bool X.N.b, .slice X.N.p X.N.n X.N.c, .bool X.D.b, .slice X.D.p X.D.n X.D.c] 40
  obtain ⟨w2, hww2, ew2, B2, zw2⟩ := alloc_at w1 (w.heap.size + 1) (by omega) #[.bool Y.N.b, .slice Y.N.p Y.N.n Y.N.c, .bool Y.D.b, .slice Y.D.p Y.D.n Y.D.c] 40
  replace B1 := B1.ext ew2
  have b1_w2 := B1.c4
  have b2_w2 := B2.c4
  have xw_w2 := eg ew1 ew2
  replace hX := hX.ext xw_w2
  replace hY := hY.ext xw_w2
  go_enter Tryz.func39, Tryz.ntmps39
  go_wp2_with fail
  clear hww1 hww2
  replace zw1 := le2 zw1
  replace zw2 := le2 zw2
  refine (kSame_t X.N Y.N _ _ _ (hX.1) (hY.1) (H1.out)).mono (Gv.onV fun w3 ew3 zw3 => ?_)
  replace B1 := B1.ext ew3
  have b1_w3 := B1.c4
  replace B2 := B2.ext ew3
  have b2_w3 := B2.c4
  replace hX := hX.ext ew3
  replace hY := hY.ext ew3
  have xw_w3 := eg xw_w2 ew3
  go_wp2_with fail
  clear b1_w2 b2_w2
  refine (kSame_f X.D Y.D _ _ _ (hX.2) (hY.2) (H2.out)).mono (Gv.onV fun w4 ew4 zw4 => ?_)
  have xw_w4 := eg xw_w3 ew4
  go_wp2_with fail
  clear b1_w3 b2_w3
  refine bodyPost_ret (v := .bool false) (by simp [results, Tryz.results39, go_sem]) rfl ?_
  exact Gv.of_v xw_w4

theorem fSame (X Y : Fr) (a b c d : Int) (w : World) (hX : PR w X a b) (hY : PR w Y c d) : Calls Tryz.prog 39 #[X.val, Y.val] w (Gv (.v (.bool (decide (a = c) && decide (b = d)))) w) := by
  by_cases h1 : a = c
  · by_cases h2 : b = d
    · simpa only [h1, h2, decide_true, Bool.and_self] using fSame_t X Y a b c d w hX hY h1 h2
    · simpa only [h1, h2, decide_true, decide_false, Bool.and_false] using fSame_d X Y a b c d w hX hY h1 h2
  · simpa only [h1, decide_false, Bool.false_and] using fSame_n X Y a b c d w hX hY h1

set_option maxRecDepth 100000 in
theorem fFromInt (n : Int) (w : World) (h1 : -9223372036854775808 ≤ n) (h2 : n ≤ 9223372036854775807) :
    Calls Tryz.prog 40 #[.int .i64 n] w (Gv (.f (n : Rat)) w) := by
  obtain ⟨w1, hww1, ew1, B1, zw1⟩ := alloc_at w (w.heap.size) (by omega) #[.bool false, .slice none 0 0, .bool false, .slice none 0 0] 40
  go_enter Tryz.func40, Tryz.ntmps40
  go_wp2_with fail
  clear hww1
  replace zw1 := le2 zw1
  refine (kFromInt (n) _ (h1) (h2)).mono (Gv.onWo fun Z4 w2 hZ4 oZ4 ew2 zw2 => ?_)
  have xw_w2 := eg ew1 ew2
  replace oZ4 := oZ4.mono ew1.size
  go_wp2_with fail
  refine (kFromInt (1) _ (by decide) (by decide)).mono (Gv.onWo fun Z5 w3 hZ5 oZ5 ew3 zw3 => ?_)
  have aZ4_Z5 : Apt Z4 Z5 := Apt.seq oZ4 oZ5
  have xw1_w3 := eg ew2 ew3
  replace B1 := B1.ext xw1_w3
  have b1_w3 := B1.c4
  have fb1_w3 := B1.f4
  replace hZ4 := hZ4.ext ew3
  replace oZ4 := oZ4.ext ew3
  have xw_w3 := eg xw_w2 ew3
  replace oZ5 := oZ5.mono xw_w2.size
  obtain ⟨w4, hww4, kw4, Nw4, zw4⟩ := B1.put4 (.bool Z4.b) (.slice Z4.p Z4.n Z4.c) (.bool Z5.b) (.slice Z5.p Z5.n Z5.c)
  have nuw4 : NoU #[.bool false, .slice none 0 0, .bool false, .slice none 0 0] := by simp [NoU]
  replace hZ4 := WR.kb hZ4 B1 nuw4 kw4
  replace oZ4 := OW.kb oZ4 B1 (by decide) kw4
  replace hZ5 := WR.kb hZ5 B1 nuw4 kw4
  replace oZ5 := OW.kb oZ5 B1 (by decide) kw4
  have xw_w4 := Ext.kb xw_w3 kw4 (by omega)
  replace B1 := Nw4
  clear Nw4 kw4
  have b1_w4 := B1.c4
  go_wp2_with fail
  clear hww4
  clear b1_w3 fb1_w3
  replace zw4 := le2 zw4
  refine bodyPost_ret (v := .agg #[.bool Z4.b, .slice Z4.p Z4.n Z4.c, .bool Z5.b, .slice Z5.p Z5.n Z5.c]) (by simp [results, Tryz.results40, go_sem, b1_w4]) rfl ?_
  exact Gv.of_f (X := ⟨Z4, Z5⟩) (mkFR (WR.cast hZ4 (by simp)) (WR.cast hZ5 (by simp))) (mkOF oZ4 oZ5 aZ4_Z5) xw_w4
end Go.Proofs.YtndgaecfeaedeaaGreat
