/- Walks of the document's answer on numbers: products, sums. Fractions: what the program's ways of adding and multiplying come to; sizes. No condition: plain laws of numbers. Walks of package frac: on whole numbers. Walks of package frac: division. -/
import Derived.Test.YtndgaecfeaedeaaGreatG10
import Derived.Test.YtndgaecfeaedeaaGreatG11
namespace Go.Proofs.YtndgaecfeaedeaaGreat
set_option linter.unusedSimpArgs false
set_option linter.unusedVariables false
open Go.RowKit Lex Mth
attribute [local go_sem] run_indexAt_at add_zero_map Oper.semAt_some at_zero
set_option linter.unusedSimpArgs false
set_option linter.unusedVariables false

/-- The document's answer on absolute values, in these words. -/
theorem rTimes (X Y : Wh) (l m : List Nat) (w : World) (hX : U16 w X.p X.n X.c l) (hY : U16 w Y.p Y.n Y.c m) (x y : Nat) (hl : l = limbs x) (hm : m = limbs y) (b : X.n ≤ 1048576) (b' : Y.n ≤ 1048576) :
    Calls Tryz.prog 145 #[.slice X.p X.n X.c, .slice Y.p Y.n Y.c] w (Gv (.c (limbs (x * y))) w) := by
  subst hl hm
  exact (Times_any _ _ _ _ _ _ x y w hX hY b b').mono fun _ _ ⟨p, n, c, he, h1, h2, h3⟩ => by subst he; exact Gv.of_c (X := ⟨false, p, n, c⟩) h1 h2 h3
theorem rPlusN (X Y : Wh) (l m : List Nat) (w : World) (hX : U16 w X.p X.n X.c l) (hY : U16 w Y.p Y.n Y.c m) (x y : Nat) (hl : l = limbs x) (hm : m = limbs y) (b : X.n ≤ 4194304) (b' : Y.n ≤ 4194304) :
    Calls Tryz.prog 192 #[.slice X.p X.n X.c, .slice Y.p Y.n Y.c] w (Gv (.c (limbs (x + y))) w) := by
  subst hl hm
  exact (Plus_any _ _ _ _ _ _ x y w hX hY b b').mono fun _ _ ⟨p, n, c, he, h1, h2, h3⟩ => by subst he; exact Gv.of_c (X := ⟨false, p, n, c⟩) h1 h2 h3
theorem rMinusN (X Y : Wh) (l m : List Nat) (w : World) (hX : U16 w X.p X.n X.c l) (hY : U16 w Y.p Y.n Y.c m) (x y : Nat) (hl : l = limbs x) (hm : m = limbs y) (hxy : y ≤ x) (b : X.n ≤ 4194304) :
    Calls Tryz.prog 194 #[.slice X.p X.n X.c, .slice Y.p Y.n Y.c] w (Gv (.c (limbs (x - y))) w) := by
  subst hl hm
  exact (Minus_any _ _ _ _ _ _ x y w hX hY hxy b).mono fun _ _ ⟨p, n, c, he, h1, h2, h3⟩ => by subst he; exact Gv.of_c (X := ⟨false, p, n, c⟩) h1 h2 h3
theorem rLess (X Y : Wh) (l m : List Nat) (w : World) (hX : U16 w X.p X.n X.c l) (hY : U16 w Y.p Y.n Y.c m) (x y : Nat) (hl : l = limbs x) (hm : m = limbs y) {b : Bool} (hb : decide (x < y) = b) :
    Calls Tryz.prog 191 #[.slice X.p X.n X.c, .slice Y.p Y.n Y.c] w (Gv (.v (.bool b)) w) := by
  subst hl hm hb
  exact (Less_any _ _ _ _ _ _ x y w hX hY).mono fun _ _ ⟨he, h3⟩ => by subst he; exact Gv.of_v h3
theorem rMakeW (b : Bool) (X : Wh) (l : List Nat) (w : World) (h : U16 w X.p X.n X.c l) (z : Int) (hl : l = limbs z.natAbs) (hs : (b && decide (0 < X.n)) = decide (z < 0)) : Calls Tryz.prog 144 #[.bool b, .slice X.p X.n X.c] w (Gv (.w0 z) w) := by
  subst hl
  exact (Make_any b X.p X.n X.c w h.reach).mono fun _ _ ⟨he, h3⟩ => by subst he; exact Gv.of_w0 (X := ⟨b && decide (0 < X.n), X.p, X.n, X.c⟩) (WR.mk hs (h.ext h3)) h3
theorem neg_R0 {w : World} {X : Wh} {x : Int} (h : WR w X x) : ((!X.b) && decide (0 < X.n)) = decide (-x < 0) := by
  rw [h.neg, h.n]
  by_cases h0 : x = 0
  · subst h0; simp [siz_zero]
  · have := siz_pos (n := x.natAbs) (by omega)
    by_cases h1 : x < 0
    · simp [h1]; omega
    · have h2 : -x < 0 := by omega
      simp [h1, this]; omega
theorem mul_sign {w w' : World} {X Y Z : Wh} {x y : Int} (hx : WR w X x) (hy : WR w Y y) (u : U16 w' Z.p Z.n Z.c (limbs (x.natAbs * y.natAbs))) : ((X.b != Y.b) && decide (0 < Z.n)) = decide (x * y < 0) := by
  have h1 : siz (x.natAbs * y.natAbs) = Z.n := u.len
  rw [hx.neg, hy.neg, ← h1, ← sgn_neg, sgn_mul]
theorem WR.natAbs_n {w : World} {X : Wh} {x : Int} (h : WR w X x) (b : siz x.natAbs ≤ 4096) : X.n ≤ 1048576 := by rw [h.n]; omega
theorem WR.natAbs_n4 {w : World} {X : Wh} {x : Int} (h : WR w X x) (b : siz x.natAbs ≤ 4096) : X.n ≤ 4194304 := by rw [h.n]; omega
theorem sum_sign {w w' : World} {X Y Z : Wh} {x y : Int} (hx : WR w X x) (hy : WR w Y y) (h : (X.b == Y.b) = true) (u : U16 w' Z.p Z.n Z.c (limbs (x.natAbs + y.natAbs))) : (X.b && decide (0 < Z.n)) = decide (x + y < 0) ∧ (x + y).natAbs = x.natAbs + y.natAbs := by
  have h1 : siz (x.natAbs + y.natAbs) = Z.n := u.len
  rw [← h1]
  have e1 := hx.neg
  have e2 := hy.neg
  rw [beq_iff_eq, e1, e2, decide_eq_decide] at h
  rw [e1]
  by_cases h0 : x < 0
  · have := h.1 h0
    have h3 := siz_pos (n := x.natAbs + y.natAbs) (by omega)
    simp [h0, h3]; omega
  · have : ¬ y < 0 := fun e => h0 (h.2 e)
    simp [h0]; omega
theorem dif_sign {w w' : World} {X Y Z : Wh} {x y : Int} (hx : WR w X x) (hy : WR w Y y) (h : (X.b == Y.b) = false) (hl : y.natAbs ≤ x.natAbs) (u : U16 w' Z.p Z.n Z.c (limbs (x.natAbs - y.natAbs))) : (X.b && decide (0 < Z.n)) = decide (x + y < 0) ∧ (x + y).natAbs = x.natAbs - y.natAbs := by
  have h1 : siz (x.natAbs - y.natAbs) = Z.n := u.len
  rw [← h1]
  have e1 := hx.neg
  have e2 := hy.neg
  rw [Bool.eq_false_iff, ne_eq, beq_iff_eq, e1, e2, decide_eq_decide] at h
  rw [e1]
  have h5 : x < 0 ∧ ¬ y < 0 ∨ ¬ x < 0 ∧ y < 0 := by omega
  by_cases h0 : x.natAbs = y.natAbs
  · rw [h0, Nat.sub_self, siz_zero]; simp; omega
  · have h3 := siz_pos (n := x.natAbs - y.natAbs) (by omega)
    rcases h5 with ⟨h5, h6⟩ | ⟨h5, h6⟩
    · simp [h5, h3]; omega
    · simp [h5]; omega

set_option maxRecDepth 100000 in
theorem rProduct (X : Wh) (Y : Wh) (x : Int) (y : Int) (w : World) (hX : WR w X x) (hY : WR w Y y) (b : siz x.natAbs ≤ 4096) (b' : siz y.natAbs ≤ 4096) :
    Calls Tryz.prog 85 #[.agg #[.bool X.b, .slice X.p X.n X.c], .agg #[.bool Y.b, .slice Y.p Y.n Y.c]] w (Gv (.w0 (x * y)) w) := by
  obtain ⟨w1, hww1, ew1, B1, zw1⟩ := alloc_at w (w.heap.size) (by omega) #[.bool X.b, .slice X.p X.n X.c] 38
  obtain ⟨w2, hww2, ew2, B2, zw2⟩ := alloc_at w1 (w.heap.size + 1) (by omega) #[.bool Y.b, .slice Y.p Y.n Y.c] 38
  obtain ⟨w3, hww3, ew3, B3, zw3⟩ := alloc_at w2 (w.heap.size + 1 + 1) (by omega) #[.bool false, .slice none 0 0] 38
  have xw1_w3 := eg ew2 ew3
  replace B1 := B1.ext xw1_w3
  have b1_w3 := B1.c2
  replace B2 := B2.ext ew3
  have b2_w3 := B2.c2
  have xw_w3 := eg (eg ew1 ew2) ew3
  replace hX := hX.ext xw_w3
  replace hY := hY.ext xw_w3
  go_enter Tryz.func85, Tryz.ntmps85
  go_wp2_with fail
  clear hww1 hww2 hww3
  replace zw1 := le2 zw1
  replace zw2 := le2 zw2
  replace zw3 := le2 zw3
  refine regionT 11 (fun kk => match kk with | 9 => some (.c (limbs (x.natAbs * y.natAbs))) | 10 => some (.w0 (x * y)) | _ => none) (by as_aux_lemma => kernel_rfl) (head_of (by as_aux_lemma => kernel_rfl)) ?_
  iterate 9
    refine Walk.one (x := ?_) rfl rfl (fun w1 hI hL K hK => ?_) ?_
    rotate_left
    · obtain ⟨hc, hf⟩ := bcell hI
      go_simp
      repeat (first | (go_ints; try go_simp) | (simp only [↓IntWalk.iteOmega]; try go_simp))
      exact hK
    simp only [Act.put, List.setIfInBounds_toArray, List.set_cons_zero, List.set_cons_succ]
  refine Walk.tell rfl rfl (fun w1 hI hL K hK => ?_) ?_
  · go_simp
    exact (rTimes X Y _ _ w1 (((hX).ext hI).u16.2) (((hY).ext hI).u16.2) (x.natAbs) (y.natAbs) (rfl) (rfl) (WR.natAbs_n ((hX).ext hI) b) (WR.natAbs_n ((hY).ext hI) b')).mono (tell hK)
  rintro _ ⟨Z14, rfl⟩
  simp only [Act.put, List.setIfInBounds_toArray, List.set_cons_zero, List.set_cons_succ]
  refine Walk.tell rfl rfl (fun w1 hI hL K hK => ?_) ?_
  · go_simp
    exact (rMakeW ((X.b != Y.b)) Z14 _ w1 ((Tl.getC (kn (i := 9) (v := .slice Z14.p Z14.n Z14.c) rfl (by simp) (pred_of (by as_aux_lemma => kernel_rfl)) hL)).1) (x * y) (by rw [Int.natAbs_mul]) (mul_sign ((hX).ext hI) ((hY).ext hI) ((Tl.getC (kn (i := 9) (v := .slice Z14.p Z14.n Z14.c) rfl (by simp) (pred_of (by as_aux_lemma => kernel_rfl)) hL)).1))).mono (tell hK)
  rintro _ ⟨Z15, rfl⟩
  simp only [Act.put, List.setIfInBounds_toArray, List.set_cons_zero, List.set_cons_succ]
  refine Walk.nilF fun w4 ew4 kzL kzX => ?_
  have zw4 := ew4.size
  have hZ15 := Tl.getW0 (kz (i := 10) (v := .agg #[.bool Z15.b, .slice Z15.p Z15.n Z15.c]) rfl (by simp) kzL)
  clear kzL kzX
  simp only [List.drop_succ_cons, List.drop_zero, List.drop_nil]
  replace B3 := B3.ext ew4
  have b3_w4 := B3.c2
  have fb3_w4 := B3.f2
  have xw_w4 := eg xw_w3 ew4
  obtain ⟨w5, hww5, kw5, Nw5, zw5⟩ := B3.put2 (.bool Z15.b) (.slice Z15.p Z15.n Z15.c)
  have nuw5 : NoU #[.bool false, .slice none 0 0] := by simp [NoU]
  replace hZ15 := WR.kb hZ15 B3 nuw5 kw5
  have xw_w5 := Ext.kb xw_w4 kw5 (by omega)
  replace B3 := Nw5
  clear Nw5 kw5
  have b3_w5 := B3.c2
  go_wp2_with fail
  clear hww5
  clear b1_w3 b2_w3 b3_w4 fb3_w4
  replace zw5 := le2 zw5
  refine bodyPost_ret (v := .agg #[.bool Z15.b, .slice Z15.p Z15.n Z15.c]) (by simp [results, Tryz.results85, go_sem, b3_w5]) rfl ?_
  exact Gv.of_w0 (X := Z15) (hZ15) xw_w5

set_option maxRecDepth 100000 in
theorem rNeg (X : Wh) (x : Int) (w : World) (hX : WR w X x) :
    Calls Tryz.prog 143 #[.agg #[.bool X.b, .slice X.p X.n X.c]] w (Gv (.w0 (-x)) w) := by
  obtain ⟨w1, hww1, ew1, B1, zw1⟩ := alloc_at w (w.heap.size) (by omega) #[.bool X.b, .slice X.p X.n X.c] 38
  obtain ⟨w2, hww2, ew2, B2, zw2⟩ := alloc_at w1 (w.heap.size + 1) (by omega) #[.bool false, .slice none 0 0] 38
  replace B1 := B1.ext ew2
  have b1_w2 := B1.c2
  have xw_w2 := eg ew1 ew2
  replace hX := hX.ext xw_w2
  go_enter Tryz.func143, Tryz.ntmps143
  go_wp2_with fail
  clear hww1 hww2
  replace zw1 := le2 zw1
  replace zw2 := le2 zw2
  refine (rMakeW ((!X.b)) X _ _ ((hX).u16.2) ((-x)) (by rw [Int.natAbs_neg]) (neg_R0 (hX))).mono (Gv.onW0 fun Z8 w3 hZ8 ew3 zw3 => ?_)
  replace B2 := B2.ext ew3
  have b2_w3 := B2.c2
  have fb2_w3 := B2.f2
  have xw_w3 := eg xw_w2 ew3
  obtain ⟨w4, hww4, kw4, Nw4, zw4⟩ := B2.put2 (.bool Z8.b) (.slice Z8.p Z8.n Z8.c)
  have nuw4 : NoU #[.bool false, .slice none 0 0] := by simp [NoU]
  replace hZ8 := WR.kb hZ8 B2 nuw4 kw4
  have xw_w4 := Ext.kb xw_w3 kw4 (by omega)
  replace B2 := Nw4
  clear Nw4 kw4
  have b2_w4 := B2.c2
  go_wp2_with fail
  clear hww4
  clear b1_w2 b2_w3 fb2_w3
  replace zw4 := le2 zw4
  refine bodyPost_ret (v := .agg #[.bool Z8.b, .slice Z8.p Z8.n Z8.c]) (by simp [results, Tryz.results143, go_sem, b2_w4]) rfl ?_
  exact Gv.of_w0 (X := Z8) (hZ8) xw_w4

set_option maxRecDepth 100000 in
theorem rSum (X : Wh) (Y : Wh) (x : Int) (y : Int) (w : World) (hX : WR w X x) (hY : WR w Y y) (b : siz x.natAbs ≤ 4096) (b' : siz y.natAbs ≤ 4096) :
    Calls Tryz.prog 142 #[.agg #[.bool X.b, .slice X.p X.n X.c], .agg #[.bool Y.b, .slice Y.p Y.n Y.c]] w (Gv (.w0 (x + y)) w) := by
  obtain ⟨w1, hww1, ew1, B1, zw1⟩ := alloc_at w (w.heap.size) (by omega) #[.bool X.b, .slice X.p X.n X.c] 38
  obtain ⟨w2, hww2, ew2, B2, zw2⟩ := alloc_at w1 (w.heap.size + 1) (by omega) #[.bool Y.b, .slice Y.p Y.n Y.c] 38
  obtain ⟨w3, hww3, ew3, B3, zw3⟩ := alloc_at w2 (w.heap.size + 1 + 1) (by omega) #[.bool false, .slice none 0 0] 38
  have xw1_w3 := eg ew2 ew3
  replace B1 := B1.ext xw1_w3
  have b1_w3 := B1.c2
  replace B2 := B2.ext ew3
  have b2_w3 := B2.c2
  go_enter Tryz.func142, Tryz.ntmps142
  cases hb : (X.b == Y.b)
  · skip
    cases hl : decide (x.natAbs < y.natAbs)
    · skip
      have xw_w3 := eg (eg ew1 ew2) ew3
      replace hX := hX.ext xw_w3
      replace hY := hY.ext xw_w3
      go_wp2_with fail
      clear hww1 hww2 hww3
      replace zw1 := le2 zw1
      replace zw2 := le2 zw2
      replace zw3 := le2 zw3
      refine (rLess X Y _ _ _ (hX).u16.2 (hY).u16.2 x.natAbs y.natAbs rfl rfl hl).mono (Gv.onV fun w4 ew4 zw4 => ?_)
      replace B1 := B1.ext ew4
      have b1_w4 := B1.c2
      replace B2 := B2.ext ew4
      have b2_w4 := B2.c2
      replace hX := hX.ext ew4
      replace hY := hY.ext ew4
      have xw_w4 := eg xw_w3 ew4
      go_wp2_with fail
      clear b1_w3 b2_w3
      refine regionT 8 (fun kk => match kk with | 6 => some (.c (limbs (x.natAbs - y.natAbs))) | 7 => some (.w0 (x + y)) | _ => none) (by as_aux_lemma => kernel_rfl) (head_of (by as_aux_lemma => kernel_rfl)) ?_
      iterate 6
        refine Walk.one (x := ?_) rfl rfl (fun w1 hI hL K hK => ?_) ?_
        rotate_left
        · obtain ⟨hc, hf⟩ := bcell hI
          go_simp
          repeat (first | (go_ints; try go_simp) | (simp only [↓IntWalk.iteOmega]; try go_simp))
          exact hK
        simp only [Act.put, List.setIfInBounds_toArray, List.set_cons_zero, List.set_cons_succ]
      refine Walk.tell rfl rfl (fun w1 hI hL K hK => ?_) ?_
      · go_simp
        exact (rMinusN X Y _ _ w1 (((hX).ext hI).u16.2) (((hY).ext hI).u16.2) (x.natAbs) (y.natAbs) (rfl) (rfl) (Nat.le_of_not_lt (of_decide_eq_false hl)) (WR.natAbs_n4 ((hX).ext hI) b)).mono (tell hK)
      rintro _ ⟨Z37, rfl⟩
      simp only [Act.put, List.setIfInBounds_toArray, List.set_cons_zero, List.set_cons_succ]
      refine Walk.tell rfl rfl (fun w1 hI hL K hK => ?_) ?_
      · go_simp
        exact (rMakeW (X.b) Z37 _ w1 ((Tl.getC (kn (i := 6) (v := .slice Z37.p Z37.n Z37.c) rfl (by simp) (pred_of (by as_aux_lemma => kernel_rfl)) hL)).1) (x + y) (by rw [(dif_sign ((hX).ext hI) ((hY).ext hI) hb (Nat.le_of_not_lt (of_decide_eq_false hl)) ((Tl.getC (kn (i := 6) (v := .slice Z37.p Z37.n Z37.c) rfl (by simp) (pred_of (by as_aux_lemma => kernel_rfl)) hL)).1)).2]) (by exact (dif_sign ((hX).ext hI) ((hY).ext hI) hb (Nat.le_of_not_lt (of_decide_eq_false hl)) ((Tl.getC (kn (i := 6) (v := .slice Z37.p Z37.n Z37.c) rfl (by simp) (pred_of (by as_aux_lemma => kernel_rfl)) hL)).1)).1)).mono (tell hK)
      rintro _ ⟨Z38, rfl⟩
      simp only [Act.put, List.setIfInBounds_toArray, List.set_cons_zero, List.set_cons_succ]
      refine Walk.nilF fun w5 ew5 kzL kzX => ?_
      have zw5 := ew5.size
      have hZ38 := Tl.getW0 (kz (i := 7) (v := .agg #[.bool Z38.b, .slice Z38.p Z38.n Z38.c]) rfl (by simp) kzL)
      clear kzL kzX
      simp only [List.drop_succ_cons, List.drop_zero, List.drop_nil]
      have xw3_w5 := eg ew4 ew5
      replace B3 := B3.ext xw3_w5
      have b3_w5 := B3.c2
      have fb3_w5 := B3.f2
      replace hX := hX.ext ew5
      replace hY := hY.ext ew5
      replace B1 := B1.ext ew5
      replace B2 := B2.ext ew5
      have xw_w5 := eg xw_w4 ew5
      obtain ⟨w6, hww6, kw6, Nw6, zw6⟩ := B3.put2 (.bool Z38.b) (.slice Z38.p Z38.n Z38.c)
      have nuw6 : NoU #[.bool false, .slice none 0 0] := by simp [NoU]
      replace hX := WR.kb hX B3 nuw6 kw6
      replace hY := WR.kb hY B3 nuw6 kw6
      replace B1 := B1.kb kw6 (by omega)
      replace B2 := B2.kb kw6 (by omega)
      replace hZ38 := WR.kb hZ38 B3 nuw6 kw6
      have xw_w6 := Ext.kb xw_w5 kw6 (by omega)
      replace B3 := Nw6
      clear Nw6 kw6
      have b3_w6 := B3.c2
      go_wp2_with fail
      clear hww6
      clear b1_w4 b2_w4 b3_w5 fb3_w5
      replace zw6 := le2 zw6
      refine bodyPost_ret (v := .agg #[.bool Z38.b, .slice Z38.p Z38.n Z38.c]) (by simp [results, Tryz.results142, go_sem, b3_w6]) rfl ?_
      exact Gv.of_w0 (X := Z38) (hZ38) xw_w6
    · skip
      have xw_w3 := eg (eg ew1 ew2) ew3
      replace hX := hX.ext xw_w3
      replace hY := hY.ext xw_w3
      go_wp2_with fail
      clear hww1 hww2 hww3
      replace zw1 := le2 zw1
      replace zw2 := le2 zw2
      replace zw3 := le2 zw3
      refine (rLess X Y _ _ _ (hX).u16.2 (hY).u16.2 x.natAbs y.natAbs rfl rfl hl).mono (Gv.onV fun w7 ew7 zw7 => ?_)
      replace B2 := B2.ext ew7
      have b2_w7 := B2.c2
      replace B1 := B1.ext ew7
      have b1_w7 := B1.c2
      replace hY := hY.ext ew7
      replace hX := hX.ext ew7
      have xw_w7 := eg xw_w3 ew7
      go_wp2_with fail
      clear b1_w3 b2_w3
      refine regionT 8 (fun kk => match kk with | 6 => some (.c (limbs (y.natAbs - x.natAbs))) | 7 => some (.w0 (x + y)) | _ => none) (by as_aux_lemma => kernel_rfl) (head_of (by as_aux_lemma => kernel_rfl)) ?_
      iterate 6
        refine Walk.one (x := ?_) rfl rfl (fun w1 hI hL K hK => ?_) ?_
        rotate_left
        · obtain ⟨hc, hf⟩ := bcell hI
          go_simp
          repeat (first | (go_ints; try go_simp) | (simp only [↓IntWalk.iteOmega]; try go_simp))
          exact hK
        simp only [Act.put, List.setIfInBounds_toArray, List.set_cons_zero, List.set_cons_succ]
      refine Walk.tell rfl rfl (fun w1 hI hL K hK => ?_) ?_
      · go_simp
        exact (rMinusN Y X _ _ w1 (((hY).ext hI).u16.2) (((hX).ext hI).u16.2) (y.natAbs) (x.natAbs) (rfl) (rfl) (Nat.le_of_lt (of_decide_eq_true hl)) (WR.natAbs_n4 ((hY).ext hI) b')).mono (tell hK)
      rintro _ ⟨Z29, rfl⟩
      simp only [Act.put, List.setIfInBounds_toArray, List.set_cons_zero, List.set_cons_succ]
      refine Walk.tell rfl rfl (fun w1 hI hL K hK => ?_) ?_
      · go_simp
        exact (rMakeW (Y.b) Z29 _ w1 ((Tl.getC (kn (i := 6) (v := .slice Z29.p Z29.n Z29.c) rfl (by simp) (pred_of (by as_aux_lemma => kernel_rfl)) hL)).1) (x + y) (by rw [Int.add_comm x y, (dif_sign ((hY).ext hI) ((hX).ext hI) (by rw [BEq.comm]; exact hb) (Nat.le_of_lt (of_decide_eq_true hl)) ((Tl.getC (kn (i := 6) (v := .slice Z29.p Z29.n Z29.c) rfl (by simp) (pred_of (by as_aux_lemma => kernel_rfl)) hL)).1)).2]) (by rw [Int.add_comm x y]; exact (dif_sign ((hY).ext hI) ((hX).ext hI) (by rw [BEq.comm]; exact hb) (Nat.le_of_lt (of_decide_eq_true hl)) ((Tl.getC (kn (i := 6) (v := .slice Z29.p Z29.n Z29.c) rfl (by simp) (pred_of (by as_aux_lemma => kernel_rfl)) hL)).1)).1)).mono (tell hK)
      rintro _ ⟨Z30, rfl⟩
      simp only [Act.put, List.setIfInBounds_toArray, List.set_cons_zero, List.set_cons_succ]
      refine Walk.nilF fun w8 ew8 kzL kzX => ?_
      have zw8 := ew8.size
      have hZ30 := Tl.getW0 (kz (i := 7) (v := .agg #[.bool Z30.b, .slice Z30.p Z30.n Z30.c]) rfl (by simp) kzL)
      clear kzL kzX
      simp only [List.drop_succ_cons, List.drop_zero, List.drop_nil]
      have xw3_w8 := eg ew7 ew8
      replace B3 := B3.ext xw3_w8
      have b3_w8 := B3.c2
      have fb3_w8 := B3.f2
      replace hX := hX.ext ew8
      replace hY := hY.ext ew8
      have xw_w8 := eg xw_w7 ew8
      obtain ⟨w9, hww9, kw9, Nw9, zw9⟩ := B3.put2 (.bool Z30.b) (.slice Z30.p Z30.n Z30.c)
      have nuw9 : NoU #[.bool false, .slice none 0 0] := by simp [NoU]
      replace hX := WR.kb hX B3 nuw9 kw9
      replace hY := WR.kb hY B3 nuw9 kw9
      replace hZ30 := WR.kb hZ30 B3 nuw9 kw9
      have xw_w9 := Ext.kb xw_w8 kw9 (by omega)
      replace B3 := Nw9
      clear Nw9 kw9
      have b3_w9 := B3.c2
      go_wp2_with fail
      clear hww9
      clear b2_w7 b1_w7 b3_w8 fb3_w8
      replace zw9 := le2 zw9
      refine bodyPost_ret (v := .agg #[.bool Z30.b, .slice Z30.p Z30.n Z30.c]) (by simp [results, Tryz.results142, go_sem, b3_w9]) rfl ?_
      exact Gv.of_w0 (X := Z30) (hZ30) xw_w9
  · skip
    have xw_w3 := eg (eg ew1 ew2) ew3
    replace hX := hX.ext xw_w3
    replace hY := hY.ext xw_w3
    go_wp2_with fail
    clear hww1 hww2 hww3
    replace zw1 := le2 zw1
    replace zw2 := le2 zw2
    replace zw3 := le2 zw3
    refine regionT 8 (fun kk => match kk with | 6 => some (.c (limbs (x.natAbs + y.natAbs))) | 7 => some (.w0 (x + y)) | _ => none) (by as_aux_lemma => kernel_rfl) (head_of (by as_aux_lemma => kernel_rfl)) ?_
    iterate 6
      refine Walk.one (x := ?_) rfl rfl (fun w1 hI hL K hK => ?_) ?_
      rotate_left
      · obtain ⟨hc, hf⟩ := bcell hI
        go_simp
        repeat (first | (go_ints; try go_simp) | (simp only [↓IntWalk.iteOmega]; try go_simp))
        exact hK
      simp only [Act.put, List.setIfInBounds_toArray, List.set_cons_zero, List.set_cons_succ]
    refine Walk.tell rfl rfl (fun w1 hI hL K hK => ?_) ?_
    · go_simp
      exact (rPlusN X Y _ _ w1 (((hX).ext hI).u16.2) (((hY).ext hI).u16.2) (x.natAbs) (y.natAbs) (rfl) (rfl) (WR.natAbs_n4 ((hX).ext hI) b) (WR.natAbs_n4 ((hY).ext hI) b')).mono (tell hK)
    rintro _ ⟨Z16, rfl⟩
    simp only [Act.put, List.setIfInBounds_toArray, List.set_cons_zero, List.set_cons_succ]
    refine Walk.tell rfl rfl (fun w1 hI hL K hK => ?_) ?_
    · go_simp
      exact (rMakeW (X.b) Z16 _ w1 ((Tl.getC (kn (i := 6) (v := .slice Z16.p Z16.n Z16.c) rfl (by simp) (pred_of (by as_aux_lemma => kernel_rfl)) hL)).1) (x + y) (by rw [(sum_sign ((hX).ext hI) ((hY).ext hI) hb ((Tl.getC (kn (i := 6) (v := .slice Z16.p Z16.n Z16.c) rfl (by simp) (pred_of (by as_aux_lemma => kernel_rfl)) hL)).1)).2]) (by exact (sum_sign ((hX).ext hI) ((hY).ext hI) hb ((Tl.getC (kn (i := 6) (v := .slice Z16.p Z16.n Z16.c) rfl (by simp) (pred_of (by as_aux_lemma => kernel_rfl)) hL)).1)).1)).mono (tell hK)
    rintro _ ⟨Z17, rfl⟩
    simp only [Act.put, List.setIfInBounds_toArray, List.set_cons_zero, List.set_cons_succ]
    refine Walk.nilF fun w10 ew10 kzL kzX => ?_
    have zw10 := ew10.size
    have hZ17 := Tl.getW0 (kz (i := 7) (v := .agg #[.bool Z17.b, .slice Z17.p Z17.n Z17.c]) rfl (by simp) kzL)
    clear kzL kzX
    simp only [List.drop_succ_cons, List.drop_zero, List.drop_nil]
    replace B3 := B3.ext ew10
    have b3_w10 := B3.c2
    have fb3_w10 := B3.f2
    have xw_w10 := eg xw_w3 ew10
    obtain ⟨w11, hww11, kw11, Nw11, zw11⟩ := B3.put2 (.bool Z17.b) (.slice Z17.p Z17.n Z17.c)
    have nuw11 : NoU #[.bool false, .slice none 0 0] := by simp [NoU]
    replace hZ17 := WR.kb hZ17 B3 nuw11 kw11
    have xw_w11 := Ext.kb xw_w10 kw11 (by omega)
    replace B3 := Nw11
    clear Nw11 kw11
    have b3_w11 := B3.c2
    go_wp2_with fail
    clear hww11
    clear b1_w3 b2_w3 b3_w10 fb3_w10
    replace zw11 := le2 zw11
    refine bodyPost_ret (v := .agg #[.bool Z17.b, .slice Z17.p Z17.n Z17.c]) (by simp [results, Tryz.results142, go_sem, b3_w11]) rfl ?_
    exact Gv.of_w0 (X := Z17) (hZ17) xw_w11
end Go.Proofs.YtndgaecfeaedeaaGreat

namespace Go.Proofs.YtndgaecfeaedeaaGreat
set_option linter.unusedSimpArgs false
set_option linter.unusedVariables false
open Go.RowKit Lex Mth

/-- A fraction whose parts are short enough. -/
def Sz (q : Rat) : Prop := siz q.num.natAbs ≤ 256 ∧ siz q.den ≤ 256
theorem WR.cast {w : World} {X : Wh} {z z' : Int} (h : WR w X z) (e : z = z') : WR w X z' := e ▸ h
theorem den_ne (q : Rat) : ((q.den : Nat) : Int) ≠ 0 := by have := q.den_nz; omega

theorem mul_num (x y : Rat) : Int.fdiv x.num (Int.gcd x.num y.den : Nat) * Int.fdiv y.num (Int.gcd y.num x.den : Nat) = (x * y).num := by
  show _ = (Rat.mul x y).num
  unfold Rat.mul
  simp only [Int.divExact_eq_ediv]
  rw [Int.fdiv_eq_ediv_of_nonneg _ (by omega), Int.fdiv_eq_ediv_of_nonneg _ (by omega)]
  rfl
theorem mul_den (x y : Rat) : Int.fdiv (x.den : Int) (Int.gcd y.num x.den : Nat) * Int.fdiv (y.den : Int) (Int.gcd x.num y.den : Nat) = ((x * y).den : Int) := by
  show _ = ((Rat.mul x y).den : Int)
  unfold Rat.mul
  simp only [Nat.divExact_eq_div]
  rw [Int.fdiv_eq_ediv_of_nonneg _ (by omega), Int.fdiv_eq_ediv_of_nonneg _ (by omega)]
  rfl

/-- The sum's numerator before it is brought to lowest terms. -/
def sN (x y : Rat) : Int := x.num * Int.fdiv (y.den : Int) (Int.gcd x.den y.den : Nat) + y.num * Int.fdiv (x.den : Int) (Int.gcd x.den y.den : Nat)
theorem add_eq (x y : Rat) : (x + y).num = Int.fdiv (sN x y) (Int.gcd (sN x y) (Int.gcd x.den y.den : Nat) : Nat) ∧ ((x + y).den : Int) = Int.fdiv (x.den : Int) (Int.gcd x.den y.den : Nat) * Int.fdiv (y.den : Int) (Int.gcd (sN x y) (Int.gcd x.den y.den : Nat) : Nat) := by
  have hs : sN x y = x.num * ((y.den / Nat.gcd x.den y.den : Nat) : Int) + y.num * ((x.den / Nat.gcd x.den y.den : Nat) : Int) := by
    unfold sN
    rw [Int.fdiv_eq_ediv_of_nonneg _ (by omega), Int.fdiv_eq_ediv_of_nonneg _ (by omega)]
    rfl
  rw [Int.fdiv_eq_ediv_of_nonneg _ (by omega), Int.fdiv_eq_ediv_of_nonneg _ (by omega), Int.fdiv_eq_ediv_of_nonneg _ (by omega)]
  have hg : Int.gcd (sN x y) (Int.gcd x.den y.den : Nat) = Nat.gcd (sN x y).natAbs (Nat.gcd x.den y.den) := rfl
  rw [hg]
  show (Rat.add x y).num = _ ∧ ((Rat.add x y).den : Int) = _
  unfold Rat.add
  by_cases h1 : x.den.gcd y.den = 1
  · simp only [h1, dif_pos]
    rw [hs, h1]
    simp only [Nat.div_one, Nat.gcd_one_right]
    have h1' : Int.gcd (x.den : Int) (y.den : Int) = 1 := h1
    rw [h1']
    constructor
    · simp
    · simp
  · simp only [h1, dif_neg, not_false_eq_true]
    rw [Rat.maybeNormalize_eq]
    simp only [Int.divExact_eq_ediv, Nat.divExact_eq_div]
    rw [← hs]
    constructor
    · rfl
    · have e : (x.den / x.den.gcd y.den * y.den) / ((sN x y).natAbs.gcd (x.den.gcd y.den)) = (x.den / x.den.gcd y.den) * (y.den / ((sN x y).natAbs.gcd (x.den.gcd y.den))) :=
        Nat.mul_div_assoc _ (Nat.dvd_trans (Nat.gcd_dvd_right _ _) (Nat.gcd_dvd_right _ _))
      rw [e]
      rfl
theorem add_num (x y : Rat) : Int.fdiv (sN x y) (Int.gcd (sN x y) (Int.gcd x.den y.den : Nat) : Nat) = (x + y).num := (add_eq x y).1.symm
theorem add_den (x y : Rat) : Int.fdiv (x.den : Int) (Int.gcd x.den y.den : Nat) * Int.fdiv (y.den : Int) (Int.gcd (sN x y) (Int.gcd x.den y.den : Nat) : Nat) = ((x + y).den : Int) := (add_eq x y).2.symm

theorem gcd_ne_left {x : Int} {y : Int} (h : y ≠ 0) : ((Int.gcd x y : Nat) : Int) ≠ 0 := by
  have := Int.gcd_eq_zero_iff (a := x) (b := y)
  omega
theorem siz_gcd {x y : Int} (h : y ≠ 0) : siz (((Int.gcd x y : Nat) : Int)).natAbs ≤ siz y.natAbs := by
  rw [Int.natAbs_natCast]
  exact siz_mono (Nat.le_of_dvd (by omega) (Int.gcd_dvd_natAbs_right x y))
theorem fdiv_le (x : Int) {y : Int} (h : 0 ≤ y) : (Int.fdiv x y).natAbs ≤ x.natAbs := by
  rw [Int.fdiv_eq_ediv_of_nonneg _ h]
  exact Int.natAbs_ediv_le_natAbs x y
theorem siz_fdiv (x : Int) {y : Int} (h : 0 ≤ y) : siz (Int.fdiv x y).natAbs ≤ siz x.natAbs := siz_mono (fdiv_le x h)
theorem siz_imul (x y : Int) : siz (x * y).natAbs ≤ siz x.natAbs + siz y.natAbs := by rw [Int.natAbs_mul]; exact siz_mul _ _
theorem siz_iadd (x y : Int) : siz (x + y).natAbs ≤ max (siz x.natAbs) (siz y.natAbs) + 1 := Nat.le_trans (siz_mono (Int.natAbs_add_le x y)) (siz_add _ _)
end Go.Proofs.YtndgaecfeaedeaaGreat

namespace Go.Proofs.YtndgaecfeaedeaaGreat
set_option linter.unusedSimpArgs false
set_option linter.unusedVariables false
open Go.RowKit Lex Mth
attribute [local go_sem] run_indexAt_at add_zero_map Oper.semAt_some at_zero
set_option linter.unusedSimpArgs false
set_option linter.unusedVariables false

/-- Package whole, in these words. -/
theorem kMul (X Y : Wh) (x y : Int) (w : World) (hx : WR w X x) (hy : WR w Y y) (b : siz x.natAbs + siz y.natAbs ≤ 1024) :
    Calls Tryz.prog 137 #[X.val, Y.val] w (Gv (.we (x * y) 0) w) :=
  (Mul_any _ _ _ _ _ _ _ _ x y w hx hy b).mono fun _ _ ⟨b, p, n, c, he, h1, h2, h3⟩ => by subst he; exact Gv.of_we (X := ⟨b, p, n, c⟩) h1 h2 h3
theorem kAdd (X Y : Wh) (x y : Int) (w : World) (hx : WR w X x) (hy : WR w Y y) (b : siz x.natAbs ≤ 1000) (b' : siz y.natAbs ≤ 1000) :
    Calls Tryz.prog 206 #[X.val, Y.val] w (Gv (.we (x + y) 0) w) :=
  (Add_any _ _ _ _ _ _ _ _ x y w hx hy b b').mono fun _ _ ⟨b, p, n, c, he, h1, h2, h3⟩ => by subst he; exact Gv.of_we (X := ⟨b, p, n, c⟩) h1 h2 h3
theorem kGcd (X Y : Wh) (x y : Int) (w : World) (hx : WR w X x) (hy : WR w Y y) (b : siz x.natAbs ≤ 1024) (b' : siz y.natAbs ≤ 1024) :
    Calls Tryz.prog 182 #[X.val, Y.val] w (Gv (.we (Int.gcd x y : Nat) 0) w) :=
  (Gcd_any _ _ _ _ _ _ _ _ x y w hx hy b b').mono fun _ _ ⟨b, p, n, c, he, h1, h2, h3⟩ => by subst he; exact Gv.of_we (X := ⟨b, p, n, c⟩) h1 h2 h3

set_option maxRecDepth 100000 in
theorem fproduct (X : Wh) (Y : Wh) (x : Int) (y : Int) (w : World) (hX : WR w X x) (hY : WR w Y y) (b : siz x.natAbs + siz y.natAbs ≤ 1024) :
    Calls Tryz.prog 76 #[.agg #[.bool X.b, .slice X.p X.n X.c], .agg #[.bool Y.b, .slice Y.p Y.n Y.c]] w (Gv (.w (x * y)) w) := by
  obtain ⟨w1, hww1, ew1, B1, zw1⟩ := alloc_at w (w.heap.size) (by omega) #[.bool X.b, .slice X.p X.n X.c] 38
  obtain ⟨w2, hww2, ew2, B2, zw2⟩ := alloc_at w1 (w.heap.size + 1) (by omega) #[.bool Y.b, .slice Y.p Y.n Y.c] 38
  obtain ⟨w3, hww3, ew3, B3, zw3⟩ := alloc_at w2 (w.heap.size + 1 + 1) (by omega) #[.bool false, .slice none 0 0] 38
  have xw1_w3 := eg ew2 ew3
  replace B1 := B1.ext xw1_w3
  have b1_w3 := B1.c2
  replace B2 := B2.ext ew3
  have b2_w3 := B2.c2
  have xw_w3 := eg (eg ew1 ew2) ew3
  replace hX := hX.ext xw_w3
  replace hY := hY.ext xw_w3
  go_enter Tryz.func76, Tryz.ntmps76
  go_wp2_with fail
  clear hww1 hww2 hww3
  replace zw1 := le2 zw1
  replace zw2 := le2 zw2
  replace zw3 := le2 zw3
  refine (kMul X Y _ _ _ (hX) (hY) (b)).mono (Gv.onWeo fun Z10 w4 hZ10 oZ10 ew4 zw4 => ?_)
  replace oZ10 := oZ10.mono xw_w3.size
  obtain ⟨w5, hww5, ew5, B4, zw5⟩ := alloc_at w4 (w4.heap.size) (by omega) #[.bool Z10.b, .slice Z10.p Z10.n Z10.c] 38
  have b4_w5 := B4.c2
  have xw3_w5 := eg ew4 ew5
  replace B3 := B3.ext xw3_w5
  have b3_w5 := B3.c2
  have fb3_w5 := B3.f2
  replace hZ10 := hZ10.ext ew5
  replace oZ10 := oZ10.ext ew5
  have xw_w5 := eg (eg xw_w3 ew4) ew5
  obtain ⟨w6, hww6, kw6, Nw6, zw6⟩ := B3.put2 (.bool Z10.b) (.slice Z10.p Z10.n Z10.c)
  have nuw6 : NoU #[.bool false, .slice none 0 0] := by simp [NoU]
  replace hZ10 := WR.kb hZ10 B3 nuw6 kw6
  replace oZ10 := OW.kb oZ10 B3 (by decide) kw6
  have xw_w6 := Ext.kb xw_w5 kw6 (by omega)
  replace B3 := Nw6
  clear Nw6 kw6
  have b3_w6 := B3.c2
  go_wp2_with fail
  clear hww5 hww6
  clear b1_w3 b2_w3 b4_w5 b3_w5 fb3_w5
  replace zw5 := le2 zw5
  replace zw6 := le2 zw6
  refine bodyPost_ret (v := .agg #[.bool Z10.b, .slice Z10.p Z10.n Z10.c]) (by simp [results, Tryz.results76, go_sem, b3_w6]) rfl ?_
  exact Gv.of_w (X := Z10) (hZ10) (oZ10) xw_w6

set_option maxRecDepth 100000 in
theorem fsum (X : Wh) (Y : Wh) (x : Int) (y : Int) (w : World) (hX : WR w X x) (hY : WR w Y y) (b : siz x.natAbs ≤ 1000) (b' : siz y.natAbs ≤ 1000) :
    Calls Tryz.prog 184 #[.agg #[.bool X.b, .slice X.p X.n X.c], .agg #[.bool Y.b, .slice Y.p Y.n Y.c]] w (Gv (.w (x + y)) w) := by
  obtain ⟨w1, hww1, ew1, B1, zw1⟩ := alloc_at w (w.heap.size) (by omega) #[.bool X.b, .slice X.p X.n X.c] 38
  obtain ⟨w2, hww2, ew2, B2, zw2⟩ := alloc_at w1 (w.heap.size + 1) (by omega) #[.bool Y.b, .slice Y.p Y.n Y.c] 38
  obtain ⟨w3, hww3, ew3, B3, zw3⟩ := alloc_at w2 (w.heap.size + 1 + 1) (by omega) #[.bool false, .slice none 0 0] 38
  have xw1_w3 := eg ew2 ew3
  replace B1 := B1.ext xw1_w3
  have b1_w3 := B1.c2
  replace B2 := B2.ext ew3
  have b2_w3 := B2.c2
  have xw_w3 := eg (eg ew1 ew2) ew3
  replace hX := hX.ext xw_w3
  replace hY := hY.ext xw_w3
  go_enter Tryz.func184, Tryz.ntmps184
  go_wp2_with fail
  clear hww1 hww2 hww3
  replace zw1 := le2 zw1
  replace zw2 := le2 zw2
  replace zw3 := le2 zw3
  refine (kAdd X Y _ _ _ (hX) (hY) (b) (b')).mono (Gv.onWeo fun Z10 w4 hZ10 oZ10 ew4 zw4 => ?_)
  replace oZ10 := oZ10.mono xw_w3.size
  obtain ⟨w5, hww5, ew5, B4, zw5⟩ := alloc_at w4 (w4.heap.size) (by omega) #[.bool Z10.b, .slice Z10.p Z10.n Z10.c] 38
  have b4_w5 := B4.c2
  have xw3_w5 := eg ew4 ew5
  replace B3 := B3.ext xw3_w5
  have b3_w5 := B3.c2
  have fb3_w5 := B3.f2
  replace hZ10 := hZ10.ext ew5
  replace oZ10 := oZ10.ext ew5
  have xw_w5 := eg (eg xw_w3 ew4) ew5
  obtain ⟨w6, hww6, kw6, Nw6, zw6⟩ := B3.put2 (.bool Z10.b) (.slice Z10.p Z10.n Z10.c)
  have nuw6 : NoU #[.bool false, .slice none 0 0] := by simp [NoU]
  replace hZ10 := WR.kb hZ10 B3 nuw6 kw6
  replace oZ10 := OW.kb oZ10 B3 (by decide) kw6
  have xw_w6 := Ext.kb xw_w5 kw6 (by omega)
  replace B3 := Nw6
  clear Nw6 kw6
  have b3_w6 := B3.c2
  go_wp2_with fail
  clear hww5 hww6
  clear b1_w3 b2_w3 b4_w5 b3_w5 fb3_w5
  replace zw5 := le2 zw5
  replace zw6 := le2 zw6
  refine bodyPost_ret (v := .agg #[.bool Z10.b, .slice Z10.p Z10.n Z10.c]) (by simp [results, Tryz.results184, go_sem, b3_w6]) rfl ?_
  exact Gv.of_w (X := Z10) (hZ10) (oZ10) xw_w6

set_option maxRecDepth 100000 in
theorem fcommon (X : Wh) (Y : Wh) (x : Int) (y : Int) (w : World) (hX : WR w X x) (hY : WR w Y y) (b : siz x.natAbs ≤ 1024) (b' : siz y.natAbs ≤ 1024) :
    Calls Tryz.prog 128 #[.agg #[.bool X.b, .slice X.p X.n X.c], .agg #[.bool Y.b, .slice Y.p Y.n Y.c]] w (Gv (.w (Int.gcd x y : Nat)) w) := by
  obtain ⟨w1, hww1, ew1, B1, zw1⟩ := alloc_at w (w.heap.size) (by omega) #[.bool X.b, .slice X.p X.n X.c] 38
  obtain ⟨w2, hww2, ew2, B2, zw2⟩ := alloc_at w1 (w.heap.size + 1) (by omega) #[.bool Y.b, .slice Y.p Y.n Y.c] 38
  obtain ⟨w3, hww3, ew3, B3, zw3⟩ := alloc_at w2 (w.heap.size + 1 + 1) (by omega) #[.bool false, .slice none 0 0] 38
  have xw1_w3 := eg ew2 ew3
  replace B1 := B1.ext xw1_w3
  have b1_w3 := B1.c2
  replace B2 := B2.ext ew3
  have b2_w3 := B2.c2
  have xw_w3 := eg (eg ew1 ew2) ew3
  replace hX := hX.ext xw_w3
  replace hY := hY.ext xw_w3
  go_enter Tryz.func128, Tryz.ntmps128
  go_wp2_with fail
  clear hww1 hww2 hww3
  replace zw1 := le2 zw1
  replace zw2 := le2 zw2
  replace zw3 := le2 zw3
  refine (kGcd X Y _ _ _ (hX) (hY) (b) (b')).mono (Gv.onWeo fun Z10 w4 hZ10 oZ10 ew4 zw4 => ?_)
  replace oZ10 := oZ10.mono xw_w3.size
  obtain ⟨w5, hww5, ew5, B4, zw5⟩ := alloc_at w4 (w4.heap.size) (by omega) #[.bool Z10.b, .slice Z10.p Z10.n Z10.c] 38
  have b4_w5 := B4.c2
  have xw3_w5 := eg ew4 ew5
  replace B3 := B3.ext xw3_w5
  have b3_w5 := B3.c2
  have fb3_w5 := B3.f2
  replace hZ10 := hZ10.ext ew5
  replace oZ10 := oZ10.ext ew5
  have xw_w5 := eg (eg xw_w3 ew4) ew5
  obtain ⟨w6, hww6, kw6, Nw6, zw6⟩ := B3.put2 (.bool Z10.b) (.slice Z10.p Z10.n Z10.c)
  have nuw6 : NoU #[.bool false, .slice none 0 0] := by simp [NoU]
  replace hZ10 := WR.kb hZ10 B3 nuw6 kw6
  replace oZ10 := OW.kb oZ10 B3 (by decide) kw6
  have xw_w6 := Ext.kb xw_w5 kw6 (by omega)
  replace B3 := Nw6
  clear Nw6 kw6
  have b3_w6 := B3.c2
  go_wp2_with fail
  clear hww5 hww6
  clear b1_w3 b2_w3 b4_w5 b3_w5 fb3_w5
  replace zw5 := le2 zw5
  replace zw6 := le2 zw6
  refine bodyPost_ret (v := .agg #[.bool Z10.b, .slice Z10.p Z10.n Z10.c]) (by simp [results, Tryz.results128, go_sem, b3_w6]) rfl ?_
  exact Gv.of_w (X := Z10) (hZ10) (oZ10) xw_w6
end Go.Proofs.YtndgaecfeaedeaaGreat

namespace Go.Proofs.YtndgaecfeaedeaaGreat
set_option linter.unusedSimpArgs false
set_option linter.unusedVariables false
open Go.RowKit Lex Mth
attribute [local go_sem] run_indexAt_at add_zero_map Oper.semAt_some at_zero
set_option linter.unusedSimpArgs false
set_option linter.unusedVariables false

theorem fd_unique {x y q r : Int} (hy : y ≠ 0) (h : FD x y q r) : q = Int.fdiv x y ∧ r = Int.fmod x y := by
  obtain ⟨h1, h2⟩ := h
  have e1 : Int.fmod x y + y * Int.fdiv x y = x := Int.fmod_add_mul_fdiv x y
  rcases (by omega : 0 < y ∨ y < 0) with h | h
  · have e2 := Int.fmod_nonneg_of_pos x h
    have e3 := Int.fmod_lt_of_pos x h
    have e4 : 0 ≤ r ∧ r < y := by omega
    have e5 : r - Int.fmod x y = y * (Int.fdiv x y - q) := by rw [Int.mul_sub]; omega
    have e6 : Int.fdiv x y - q = 0 := by
      rcases (by omega : Int.fdiv x y - q = 0 ∨ 1 ≤ Int.fdiv x y - q ∨ Int.fdiv x y - q ≤ -1) with h | h | h
      · exact h
      · have := Int.mul_le_mul_of_nonneg_left h (Int.le_of_lt ‹0 < y›); omega
      · have := Int.mul_le_mul_of_nonneg_left h (Int.le_of_lt ‹0 < y›); omega
    rw [e6] at e5
    omega
  · have e0 : Int.fdiv (-x) (-y) = Int.fdiv x y := Int.neg_fdiv_neg x y
    have e9 : Int.fmod (-x) (-y) + (-y) * Int.fdiv (-x) (-y) = -x := Int.fmod_add_mul_fdiv (-x) (-y)
    rw [e0, Int.neg_mul] at e9
    have e2 := Int.fmod_nonneg_of_pos (-x) (show 0 < -y by omega)
    have e3 := Int.fmod_lt_of_pos (-x) (show 0 < -y by omega)
    have e4 : y < r ∧ r ≤ 0 := by omega
    have e5 : r - Int.fmod x y = y * (Int.fdiv x y - q) := by rw [Int.mul_sub]; omega
    have e6 : Int.fdiv x y - q = 0 := by
      have e7 : (-y) * (Int.fdiv x y - q) = -(r - Int.fmod x y) := by rw [Int.neg_mul, ← e5]
      rcases (by omega : Int.fdiv x y - q = 0 ∨ 1 ≤ Int.fdiv x y - q ∨ Int.fdiv x y - q ≤ -1) with h | h | h
      · exact h
      · have := Int.mul_le_mul_of_nonneg_left h (show 0 ≤ -y by omega); omega
      · have := Int.mul_le_mul_of_nonneg_left h (show 0 ≤ -y by omega); omega
    rw [e6] at e5
    omega
theorem kDivMod (X Y : Wh) (x y : Int) (w : World) (hx : WR w X x) (hy : WR w Y y) (b : siz x.natAbs ≤ 1024) (b' : siz y.natAbs ≤ 1024) (h0 : y ≠ 0) :
    Calls Tryz.prog 205 #[X.val, Y.val] w fun e w' => ∃ Z R : Wh, e = .returned (.tuple #[.agg #[.bool Z.b, .slice Z.p Z.n Z.c], .agg #[.bool R.b, .slice R.p R.n R.c], .int .i64 0]) ∧ WR w' Z (Int.fdiv x y) ∧ WR w' R (Int.fmod x y) ∧ OW w.heap.size w' Z ∧ OW w.heap.size w' R ∧ Ext w w' :=
  (DivMod_any _ _ _ _ _ _ _ _ x y w hx hy b b' h0).mono fun _ _ ⟨b, p, n, c, b', p', n', c', q, r, he, hf, h1, h2, h3, h4, h5⟩ => by
    obtain ⟨rfl, rfl⟩ := fd_unique h0 hf
    exact ⟨⟨b, p, n, c⟩, ⟨b', p', n', c'⟩, he, h1, h2, h3, h4, h5⟩

set_option maxRecDepth 100000 in
theorem fover (X : Wh) (Y : Wh) (x : Int) (y : Int) (w : World) (hX : WR w X x) (hY : WR w Y y) (b : siz x.natAbs ≤ 1024) (b' : siz y.natAbs ≤ 1024) (h0 : y ≠ 0) :
    Calls Tryz.prog 183 #[.agg #[.bool X.b, .slice X.p X.n X.c], .agg #[.bool Y.b, .slice Y.p Y.n Y.c]] w (Gv (.w (Int.fdiv x y)) w) := by
  obtain ⟨w1, hww1, ew1, B1, zw1⟩ := alloc_at w (w.heap.size) (by omega) #[.bool X.b, .slice X.p X.n X.c] 38
  obtain ⟨w2, hww2, ew2, B2, zw2⟩ := alloc_at w1 (w.heap.size + 1) (by omega) #[.bool Y.b, .slice Y.p Y.n Y.c] 38
  obtain ⟨w3, hww3, ew3, B3, zw3⟩ := alloc_at w2 (w.heap.size + 1 + 1) (by omega) #[.bool false, .slice none 0 0] 38
  have xw1_w3 := eg ew2 ew3
  replace B1 := B1.ext xw1_w3
  have b1_w3 := B1.c2
  replace B2 := B2.ext ew3
  have b2_w3 := B2.c2
  have xw_w3 := eg (eg ew1 ew2) ew3
  replace hX := hX.ext xw_w3
  replace hY := hY.ext xw_w3
  go_enter Tryz.func183, Tryz.ntmps183
  go_wp2_with fail
  clear hww1 hww2 hww3
  replace zw1 := le2 zw1
  replace zw2 := le2 zw2
  replace zw3 := le2 zw3
  refine (kDivMod X Y _ _ _ (hX) (hY) (b) (b') (h0)).mono ?_
  intro ee w4 gg
  obtain ⟨Z11, Z11r, rfl, hZ11, -, oZ11, -, ew4⟩ := gg
  have zw4 := ew4.size
  replace oZ11 := oZ11.mono xw_w3.size
  obtain ⟨w5, hww5, ew5, B4, zw5⟩ := alloc_at w4 (w4.heap.size) (by omega) #[.bool false, .slice none 0 0] 38
  obtain ⟨w6, hww6, ew6, B5, zw6⟩ := alloc_at w5 (w4.heap.size + 1) (by omega) #[.bool false, .slice none 0 0] 38
  replace B4 := B4.ext ew6
  have b4_w6 := B4.c2
  have fb4_w6 := B4.f2
  have xw3_w6 := eg (eg ew4 ew5) ew6
  replace B3 := B3.ext xw3_w6
  have xw4_w6 := eg ew5 ew6
  replace hZ11 := hZ11.ext xw4_w6
  replace oZ11 := oZ11.ext xw4_w6
  have xw_w6 := eg (eg (eg xw_w3 ew4) ew5) ew6
  obtain ⟨w7, hww7, kw7, Nw7, zw7⟩ := B4.put2 (.bool Z11.b) (.slice Z11.p Z11.n Z11.c)
  have nuw7 : NoU #[.bool false, .slice none 0 0] := by simp [NoU]
  replace B3 := B3.kb kw7 (by omega)
  replace hZ11 := WR.kb hZ11 B4 nuw7 kw7
  replace oZ11 := OW.kb oZ11 B4 (by decide) kw7
  replace B5 := B5.kb kw7 (by omega)
  have xw_w7 := Ext.kb xw_w6 kw7 (by omega)
  replace B4 := Nw7
  clear Nw7 kw7
  have b5_w7 := B5.c2
  have fb5_w7 := B5.f2
  obtain ⟨w8, hww8, kw8, Nw8, zw8⟩ := B5.put2 (.bool Z11r.b) (.slice Z11r.p Z11r.n Z11r.c)
  have nuw8 : NoU #[.bool false, .slice none 0 0] := by simp [NoU]
  replace B3 := B3.kb kw8 (by omega)
  replace hZ11 := WR.kb hZ11 B5 nuw8 kw8
  replace oZ11 := OW.kb oZ11 B5 (by decide) kw8
  replace B4 := B4.kb kw8 (by omega)
  have xw_w8 := Ext.kb xw_w7 kw8 (by omega)
  replace B5 := Nw8
  clear Nw8 kw8
  have b4_w8 := B4.c2
  have b3_w8 := B3.c2
  have fb3_w8 := B3.f2
  obtain ⟨w9, hww9, kw9, Nw9, zw9⟩ := B3.put2 (.bool Z11.b) (.slice Z11.p Z11.n Z11.c)
  have nuw9 : NoU #[.bool false, .slice none 0 0] := by simp [NoU]
  replace hZ11 := WR.kb hZ11 B3 nuw9 kw9
  replace oZ11 := OW.kb oZ11 B3 (by decide) kw9
  have xw_w9 := Ext.kb xw_w8 kw9 (by omega)
  replace B3 := Nw9
  clear Nw9 kw9
  have b3_w9 := B3.c2
  go_wp2_with fail
  clear hww5 hww6 hww7 hww8 hww9
  clear b1_w3 b2_w3 b4_w6 fb4_w6 b5_w7 fb5_w7 b4_w8 b3_w8 fb3_w8
  replace zw5 := le2 zw5
  replace zw6 := le2 zw6
  replace zw7 := le2 zw7
  replace zw8 := le2 zw8
  replace zw9 := le2 zw9
  refine bodyPost_ret (v := .agg #[.bool Z11.b, .slice Z11.p Z11.n Z11.c]) (by simp [results, Tryz.results183, go_sem, b3_w9]) rfl ?_
  exact Gv.of_w (X := Z11) (hZ11) (oZ11) xw_w9
end Go.Proofs.YtndgaecfeaedeaaGreat
