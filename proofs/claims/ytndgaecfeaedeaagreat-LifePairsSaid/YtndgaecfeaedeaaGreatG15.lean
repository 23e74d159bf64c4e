/- Walks of package frac: Valid. Walks of package frac: lists of fractions, valid. -/
import Derived.Test.YtndgaecfeaedeaaGreatG14
namespace Go.Proofs.YtndgaecfeaedeaaGreat
set_option linter.unusedSimpArgs false
set_option linter.unusedVariables false
open Go.RowKit Lex Mth
attribute [local go_sem] run_indexAt_at add_zero_map Oper.semAt_some at_zero

/-- What Valid looks at. -/
def okF (n : Bool) (l : List Nat) (n' : Bool) (l' : List Nat) : Bool := decide (l.length ≤ 256) && decide (l'.length ≤ 256) && valW n l && valW n' l' && !n' && decide (l'.length ≠ 0) && decide (Nat.gcd (val l) (val l') = 1)
theorem okF_of {w : World} {X : Fr} {q : Rat} (h : FR w X q) (s : Sz q) : okF X.N.b (limbs q.num.natAbs) X.D.b (limbs q.den) = true := by
  have h1 := h.1.neg
  have h2 := h.2.neg
  have s1 : (limbs q.num.natAbs).length ≤ 256 := s.1
  have s2 : (limbs q.den).length ≤ 256 := s.2
  have d0 := q.den_nz
  have s3 : 0 < (limbs q.den).length := siz_pos d0
  have v1 : valW X.N.b (limbs q.num.natAbs) = true := by rw [h1]; exact valW_of (by have : siz q.num.natAbs ≤ 256 := s1; omega)
  have v2 : valW X.D.b (limbs q.den) = true := by
    rw [h2]
    have := valW_of (z := (q.den : Int)) (by have : siz q.den ≤ 256 := s2; rw [Int.natAbs_natCast]; omega)
    exact this
  have hd : X.D.b = false := by rw [h2]; simp
  unfold okF
  rw [v1, v2, hd]
  simp only [s1, s2, decide_true, Bool.true_and, Bool.not_false, val_limbs]
  simp only [show ¬ (limbs q.den).length = 0 by omega, ne_eq, not_false_eq_true, decide_true, Bool.true_and, decide_eq_true_eq]
  exact q.reduced
/-- A fraction that is valid. -/
theorem okF_FR {w : World} {X : Fr} {l m : List Nat} (h : UF w X l m) (ok : okF X.N.b l X.D.b m = true) : ∃ q : Rat, FR w X q ∧ Sz q ∧ X.D.b = false := by
  unfold okF at ok
  simp only [Bool.and_eq_true, decide_eq_true_eq, Bool.not_eq_true'] at ok
  obtain ⟨⟨⟨⟨⟨⟨h1, h2⟩, h3⟩, h4⟩, h5⟩, h6⟩, h7⟩ := ok
  have r1 := WR.of h.1 h3
  have r2 := WR.of h.2 h4
  rw [h5] at r2
  have hne : val m ≠ 0 := fun e => by
    have := r2.n
    rw [e] at this
    simp [sgn, siz_zero] at this
    exact h6 (by rw [h.2.len]; exact this)
  refine ⟨⟨sgn X.N.b (val l), val m, hne, by rw [sgn_natAbs]; exact h7⟩, ⟨r1, r2⟩, ⟨?_, ?_⟩, h5⟩
  · show siz (sgn X.N.b (val l)).natAbs ≤ 256
    rw [← r1.n, ← h.1.len]; exact h1
  · show siz (val m) ≤ 256
    have := r2.n
    simp only [sgn, Bool.false_eq_true, if_false, Int.natAbs_natCast] at this
    rw [← this, ← h.2.len]; exact h2
theorem UF.u1 {w : World} {X : Fr} {l m : List Nat} (h : UF w X l m) : X.N.n = l.length := h.1.len.symm
theorem UF.u2 {w : World} {X : Fr} {l m : List Nat} (h : UF w X l m) : X.D.n = m.length := h.2.len.symm

set_option maxRecDepth 100000 in
theorem fVal1 (X : Fr) (l m : List Nat) (w : World) (hX : UF w X l m) (h1 : ¬ X.N.n ≤ 256) :
    Calls Tryz.prog 70 #[.agg #[.bool X.N.b, .slice X.N.p X.N.n X.N.c, .bool X.D.b, .slice X.D.p X.D.n X.D.c]] w (Gv (.v (.bool false)) w) := by
  have hEw : Ext w w := Below.refl _ _
  obtain ⟨w1, hww1⟩ : ∃ W, w.alloc (.cells #[.bool X.N.b, .slice X.N.p X.N.n X.N.c, .bool X.D.b, .slice X.D.p X.D.n X.D.c] 40) = W := ⟨_, rfl⟩
  have ew1 : Ext w w1 := by rw [← hww1]; exact ea _ _
  have B1 : Cells w1 (w.heap.size) 40 #[.bool X.N.b, .slice X.N.p X.N.n X.N.c, .bool X.D.b, .slice X.D.p X.D.n X.D.c] := by rw [← hww1]; exact Cells.newAt _ _ (by omega)
  replace hX := hX.ext ew1
  have zw1 := alloc_lt hww1
  have hEw1 := eg hEw ew1
  have b1_0_w1 := B1.cell (k := 0) rfl
  have b1_1_w1 := B1.cell (k := 1) rfl
  have b1_2_w1 := B1.cell (k := 2) rfl
  have b1_3_w1 := B1.cell (k := 3) rfl
  have lB1_w1 := B1.lt
  obtain ⟨w2, hww2⟩ : ∃ W, w1.alloc (.cells #[.bool X.N.b, .slice X.N.p X.N.n X.N.c, .bool X.D.b, .slice X.D.p X.D.n X.D.c] 143) = W := ⟨_, rfl⟩
  have ew2 : Ext w1 w2 := by rw [← hww2]; exact ea _ _
  have B2 : Cells w2 (w.heap.size + 1) 143 #[.bool X.N.b, .slice X.N.p X.N.n X.N.c, .bool X.D.b, .slice X.D.p X.D.n X.D.c] := by rw [← hww2]; exact Cells.newAt _ _ (by omega)
  replace hX := hX.ext ew2
  replace B1 := B1.ext ew2
  have zw2 := alloc_lt hww2
  have hEw2 := eg hEw1 ew2
  have b2_0_w2 := B2.cell (k := 0) rfl
  have b2_1_w2 := B2.cell (k := 1) rfl
  have b2_2_w2 := B2.cell (k := 2) rfl
  have b2_3_w2 := B2.cell (k := 3) rfl
  have lB1_w2 := B1.lt
  have lB2_w2 := B2.lt
  go_enter Tryz.func70, Tryz.ntmps70
  go_wp2_with fail
  clear hww1
  clear hww2
  clear b1_0_w1 b1_1_w1 b1_2_w1 b1_3_w1 lB1_w1
  have yw1 := Nat.le_of_eq zw1
  replace zw1 := Nat.le_of_eq zw1.symm
  have yw2 := Nat.le_of_eq zw2
  replace zw2 := Nat.le_of_eq zw2.symm
  refine (fits_n X _ (h1)).mono ?_
  intro ee w3 gg
  obtain ⟨rfl, ew3⟩ := Gv.v gg
  replace hX := hX.ext ew3
  replace B1 := B1.ext ew3
  replace B2 := B2.ext ew3
  have hEw3 := eg hEw2 ew3
  have zw3 := ew3.size
  have lB1_w3 := B1.lt
  have lB2_w3 := B2.lt
  go_wp2_with fail
  clear b2_0_w2 b2_1_w2 b2_2_w2 b2_3_w2 lB1_w2 lB2_w2
  refine bodyPost_ret (v := .bool false) (by simp [results, Tryz.results70, go_sem]) rfl ?_
  exact Gv.of_v hEw3

set_option maxRecDepth 100000 in
theorem fVal2 (X : Fr) (l m : List Nat) (w : World) (hX : UF w X l m) (h1 : X.N.n ≤ 256) (h2 : ¬ X.D.n ≤ 256) :
    Calls Tryz.prog 70 #[.agg #[.bool X.N.b, .slice X.N.p X.N.n X.N.c, .bool X.D.b, .slice X.D.p X.D.n X.D.c]] w (Gv (.v (.bool false)) w) := by
  have hEw : Ext w w := Below.refl _ _
  obtain ⟨w1, hww1⟩ : ∃ W, w.alloc (.cells #[.bool X.N.b, .slice X.N.p X.N.n X.N.c, .bool X.D.b, .slice X.D.p X.D.n X.D.c] 40) = W := ⟨_, rfl⟩
  have ew1 : Ext w w1 := by rw [← hww1]; exact ea _ _
  have B1 : Cells w1 (w.heap.size) 40 #[.bool X.N.b, .slice X.N.p X.N.n X.N.c, .bool X.D.b, .slice X.D.p X.D.n X.D.c] := by rw [← hww1]; exact Cells.newAt _ _ (by omega)
  replace hX := hX.ext ew1
  have zw1 := alloc_lt hww1
  have hEw1 := eg hEw ew1
  have b1_0_w1 := B1.cell (k := 0) rfl
  have b1_1_w1 := B1.cell (k := 1) rfl
  have b1_2_w1 := B1.cell (k := 2) rfl
  have b1_3_w1 := B1.cell (k := 3) rfl
  have lB1_w1 := B1.lt
  obtain ⟨w2, hww2⟩ : ∃ W, w1.alloc (.cells #[.bool X.N.b, .slice X.N.p X.N.n X.N.c, .bool X.D.b, .slice X.D.p X.D.n X.D.c] 143) = W := ⟨_, rfl⟩
  have ew2 : Ext w1 w2 := by rw [← hww2]; exact ea _ _
  have B2 : Cells w2 (w.heap.size + 1) 143 #[.bool X.N.b, .slice X.N.p X.N.n X.N.c, .bool X.D.b, .slice X.D.p X.D.n X.D.c] := by rw [← hww2]; exact Cells.newAt _ _ (by omega)
  replace hX := hX.ext ew2
  replace B1 := B1.ext ew2
  have zw2 := alloc_lt hww2
  have hEw2 := eg hEw1 ew2
  have b2_0_w2 := B2.cell (k := 0) rfl
  have b2_1_w2 := B2.cell (k := 1) rfl
  have b2_2_w2 := B2.cell (k := 2) rfl
  have b2_3_w2 := B2.cell (k := 3) rfl
  have lB1_w2 := B1.lt
  have lB2_w2 := B2.lt
  go_enter Tryz.func70, Tryz.ntmps70
  go_wp2_with fail
  clear hww1
  clear hww2
  clear b1_0_w1 b1_1_w1 b1_2_w1 b1_3_w1 lB1_w1
  have yw1 := Nat.le_of_eq zw1
  replace zw1 := Nat.le_of_eq zw1.symm
  have yw2 := Nat.le_of_eq zw2
  replace zw2 := Nat.le_of_eq zw2.symm
  refine (fits_d X _ (h1) (h2)).mono ?_
  intro ee w3 gg
  obtain ⟨rfl, ew3⟩ := Gv.v gg
  replace hX := hX.ext ew3
  replace B1 := B1.ext ew3
  replace B2 := B2.ext ew3
  have hEw3 := eg hEw2 ew3
  have zw3 := ew3.size
  have lB1_w3 := B1.lt
  have lB2_w3 := B2.lt
  go_wp2_with fail
  clear b2_0_w2 b2_1_w2 b2_2_w2 b2_3_w2 lB1_w2 lB2_w2
  refine bodyPost_ret (v := .bool false) (by simp [results, Tryz.results70, go_sem]) rfl ?_
  exact Gv.of_v hEw3

set_option maxRecDepth 100000 in
theorem fVal3 (X : Fr) (l m : List Nat) (w : World) (hX : UF w X l m) (h1 : X.N.n ≤ 256) (h2 : X.D.n ≤ 256) (h3 : valW X.N.b l = false) :
    Calls Tryz.prog 70 #[.agg #[.bool X.N.b, .slice X.N.p X.N.n X.N.c, .bool X.D.b, .slice X.D.p X.D.n X.D.c]] w (Gv (.v (.bool false)) w) := by
  have H3 := Lib.hid h3
  clear h3
  have hEw : Ext w w := Below.refl _ _
  obtain ⟨w1, hww1⟩ : ∃ W, w.alloc (.cells #[.bool X.N.b, .slice X.N.p X.N.n X.N.c, .bool X.D.b, .slice X.D.p X.D.n X.D.c] 40) = W := ⟨_, rfl⟩
  have ew1 : Ext w w1 := by rw [← hww1]; exact ea _ _
  have B1 : Cells w1 (w.heap.size) 40 #[.bool X.N.b, .slice X.N.p X.N.n X.N.c, .bool X.D.b, .slice X.D.p X.D.n X.D.c] := by rw [← hww1]; exact Cells.newAt _ _ (by omega)
  replace hX := hX.ext ew1
  have zw1 := alloc_lt hww1
  have hEw1 := eg hEw ew1
  have b1_0_w1 := B1.cell (k := 0) rfl
  have b1_1_w1 := B1.cell (k := 1) rfl
  have b1_2_w1 := B1.cell (k := 2) rfl
  have b1_3_w1 := B1.cell (k := 3) rfl
  have lB1_w1 := B1.lt
  obtain ⟨w2, hww2⟩ : ∃ W, w1.alloc (.cells #[.bool X.N.b, .slice X.N.p X.N.n X.N.c, .bool X.D.b, .slice X.D.p X.D.n X.D.c] 143) = W := ⟨_, rfl⟩
  have ew2 : Ext w1 w2 := by rw [← hww2]; exact ea _ _
  have B2 : Cells w2 (w.heap.size + 1) 143 #[.bool X.N.b, .slice X.N.p X.N.n X.N.c, .bool X.D.b, .slice X.D.p X.D.n X.D.c] := by rw [← hww2]; exact Cells.newAt _ _ (by omega)
  replace hX := hX.ext ew2
  replace B1 := B1.ext ew2
  have zw2 := alloc_lt hww2
  have hEw2 := eg hEw1 ew2
  have b2_0_w2 := B2.cell (k := 0) rfl
  have b2_1_w2 := B2.cell (k := 1) rfl
  have b2_2_w2 := B2.cell (k := 2) rfl
  have b2_3_w2 := B2.cell (k := 3) rfl
  have lB1_w2 := B1.lt
  have lB2_w2 := B2.lt
  go_enter Tryz.func70, Tryz.ntmps70
  go_wp2_with fail
  clear hww1
  clear hww2
  clear b1_0_w1 b1_1_w1 b1_2_w1 b1_3_w1 lB1_w1
  have yw1 := Nat.le_of_eq zw1
  replace zw1 := Nat.le_of_eq zw1.symm
  have yw2 := Nat.le_of_eq zw2
  replace zw2 := Nat.le_of_eq zw2.symm
  refine (fits_t X _ (h1) (h2)).mono ?_
  intro ee w3 gg
  obtain ⟨rfl, ew3⟩ := Gv.v gg
  replace hX := hX.ext ew3
  replace B1 := B1.ext ew3
  replace B2 := B2.ext ew3
  have hEw3 := eg hEw2 ew3
  have zw3 := ew3.size
  have b2_0_w3 := B2.cell (k := 0) rfl
  have b2_1_w3 := B2.cell (k := 1) rfl
  have lB1_w3 := B1.lt
  have lB2_w3 := B2.lt
  go_wp2_with fail
  clear b2_0_w2 b2_1_w2 b2_2_w2 b2_3_w2 lB1_w2 lB2_w2
  refine (kValid X.N _ _ (hX.1) (H3.out)).mono ?_
  intro ee w4 gg
  obtain ⟨rfl, ew4⟩ := Gv.v gg
  replace hX := hX.ext ew4
  replace B1 := B1.ext ew4
  replace B2 := B2.ext ew4
  have hEw4 := eg hEw3 ew4
  have zw4 := ew4.size
  have lB1_w4 := B1.lt
  have lB2_w4 := B2.lt
  go_wp2_with fail
  clear b2_0_w3 b2_1_w3 lB1_w3 lB2_w3
  refine bodyPost_ret (v := .bool false) (by simp [results, Tryz.results70, go_sem]) rfl ?_
  exact Gv.of_v hEw4

set_option maxRecDepth 100000 in
theorem fVal4 (X : Fr) (l m : List Nat) (w : World) (hX : UF w X l m) (h1 : X.N.n ≤ 256) (h2 : X.D.n ≤ 256) (h3 : valW X.N.b l = true) (h4 : valW X.D.b m = false) :
    Calls Tryz.prog 70 #[.agg #[.bool X.N.b, .slice X.N.p X.N.n X.N.c, .bool X.D.b, .slice X.D.p X.D.n X.D.c]] w (Gv (.v (.bool false)) w) := by
  have H3 := Lib.hid h3
  clear h3
  have H4 := Lib.hid h4
  clear h4
  have hEw : Ext w w := Below.refl _ _
  obtain ⟨w1, hww1⟩ : ∃ W, w.alloc (.cells #[.bool X.N.b, .slice X.N.p X.N.n X.N.c, .bool X.D.b, .slice X.D.p X.D.n X.D.c] 40) = W := ⟨_, rfl⟩
  have ew1 : Ext w w1 := by rw [← hww1]; exact ea _ _
  have B1 : Cells w1 (w.heap.size) 40 #[.bool X.N.b, .slice X.N.p X.N.n X.N.c, .bool X.D.b, .slice X.D.p X.D.n X.D.c] := by rw [← hww1]; exact Cells.newAt _ _ (by omega)
  replace hX := hX.ext ew1
  have zw1 := alloc_lt hww1
  have hEw1 := eg hEw ew1
  have b1_0_w1 := B1.cell (k := 0) rfl
  have b1_1_w1 := B1.cell (k := 1) rfl
  have b1_2_w1 := B1.cell (k := 2) rfl
  have b1_3_w1 := B1.cell (k := 3) rfl
  have lB1_w1 := B1.lt
  obtain ⟨w2, hww2⟩ : ∃ W, w1.alloc (.cells #[.bool X.N.b, .slice X.N.p X.N.n X.N.c, .bool X.D.b, .slice X.D.p X.D.n X.D.c] 143) = W := ⟨_, rfl⟩
  have ew2 : Ext w1 w2 := by rw [← hww2]; exact ea _ _
  have B2 : Cells w2 (w.heap.size + 1) 143 #[.bool X.N.b, .slice X.N.p X.N.n X.N.c, .bool X.D.b, .slice X.D.p X.D.n X.D.c] := by rw [← hww2]; exact Cells.newAt _ _ (by omega)
  replace hX := hX.ext ew2
  replace B1 := B1.ext ew2
  have zw2 := alloc_lt hww2
  have hEw2 := eg hEw1 ew2
  have b2_0_w2 := B2.cell (k := 0) rfl
  have b2_1_w2 := B2.cell (k := 1) rfl
  have b2_2_w2 := B2.cell (k := 2) rfl
  have b2_3_w2 := B2.cell (k := 3) rfl
  have lB1_w2 := B1.lt
  have lB2_w2 := B2.lt
  go_enter Tryz.func70, Tryz.ntmps70
  go_wp2_with fail
  clear hww1
  clear hww2
  clear b1_0_w1 b1_1_w1 b1_2_w1 b1_3_w1 lB1_w1
  have yw1 := Nat.le_of_eq zw1
  replace zw1 := Nat.le_of_eq zw1.symm
  have yw2 := Nat.le_of_eq zw2
  replace zw2 := Nat.le_of_eq zw2.symm
  refine (fits_t X _ (h1) (h2)).mono ?_
  intro ee w3 gg
  obtain ⟨rfl, ew3⟩ := Gv.v gg
  replace hX := hX.ext ew3
  replace B1 := B1.ext ew3
  replace B2 := B2.ext ew3
  have hEw3 := eg hEw2 ew3
  have zw3 := ew3.size
  have b2_0_w3 := B2.cell (k := 0) rfl
  have b2_1_w3 := B2.cell (k := 1) rfl
  have lB1_w3 := B1.lt
  have lB2_w3 := B2.lt
  go_wp2_with fail
  clear b2_0_w2 b2_1_w2 b2_2_w2 b2_3_w2 lB1_w2 lB2_w2
  refine (kValid X.N _ _ (hX.1) (H3.out)).mono ?_
  intro ee w4 gg
  obtain ⟨rfl, ew4⟩ := Gv.v gg
  replace hX := hX.ext ew4
  replace B1 := B1.ext ew4
  replace B2 := B2.ext ew4
  have hEw4 := eg hEw3 ew4
  have zw4 := ew4.size
  have b2_2_w4 := B2.cell (k := 2) rfl
  have b2_3_w4 := B2.cell (k := 3) rfl
  have lB1_w4 := B1.lt
  have lB2_w4 := B2.lt
  go_wp2_with fail
  clear b2_0_w3 b2_1_w3 lB1_w3 lB2_w3
  refine (kValid X.D _ _ (hX.2) (H4.out)).mono ?_
  intro ee w5 gg
  obtain ⟨rfl, ew5⟩ := Gv.v gg
  replace hX := hX.ext ew5
  replace B1 := B1.ext ew5
  replace B2 := B2.ext ew5
  have hEw5 := eg hEw4 ew5
  have zw5 := ew5.size
  have lB1_w5 := B1.lt
  have lB2_w5 := B2.lt
  go_wp2_with fail
  clear b2_2_w4 b2_3_w4 lB1_w4 lB2_w4
  refine bodyPost_ret (v := .bool false) (by simp [results, Tryz.results70, go_sem]) rfl ?_
  exact Gv.of_v hEw5

set_option maxRecDepth 100000 in
theorem fVal5 (XNb : Bool) (XNp : Option Addr) (XNn : Nat) (XNc : Nat) (XDp : Option Addr) (XDn : Nat) (XDc : Nat) (l m : List Nat) (w : World) (hX : UF w ⟨⟨XNb, XNp, XNn, XNc⟩, ⟨true, XDp, XDn, XDc⟩⟩ l m) (h1 : XNn ≤ 256) (h2 : XDn ≤ 256) (h3 : valW XNb l = true) (h4 : valW true m = true) :
    Calls Tryz.prog 70 #[.agg #[.bool XNb, .slice XNp XNn XNc, .bool true, .slice XDp XDn XDc]] w (Gv (.v (.bool false)) w) := by
  have H3 := Lib.hid h3
  clear h3
  have H4 := Lib.hid h4
  clear h4
  have hEw : Ext w w := Below.refl _ _
  obtain ⟨w1, hww1⟩ : ∃ W, w.alloc (.cells #[.bool XNb, .slice XNp XNn XNc, .bool true, .slice XDp XDn XDc] 40) = W := ⟨_, rfl⟩
  have ew1 : Ext w w1 := by rw [← hww1]; exact ea _ _
  have B1 : Cells w1 (w.heap.size) 40 #[.bool XNb, .slice XNp XNn XNc, .bool true, .slice XDp XDn XDc] := by rw [← hww1]; exact Cells.newAt _ _ (by omega)
  replace hX := hX.ext ew1
  have zw1 := alloc_lt hww1
  have hEw1 := eg hEw ew1
  have b1_0_w1 := B1.cell (k := 0) rfl
  have b1_1_w1 := B1.cell (k := 1) rfl
  have b1_2_w1 := B1.cell (k := 2) rfl
  have b1_3_w1 := B1.cell (k := 3) rfl
  have lB1_w1 := B1.lt
  obtain ⟨w2, hww2⟩ : ∃ W, w1.alloc (.cells #[.bool XNb, .slice XNp XNn XNc, .bool true, .slice XDp XDn XDc] 143) = W := ⟨_, rfl⟩
  have ew2 : Ext w1 w2 := by rw [← hww2]; exact ea _ _
  have B2 : Cells w2 (w.heap.size + 1) 143 #[.bool XNb, .slice XNp XNn XNc, .bool true, .slice XDp XDn XDc] := by rw [← hww2]; exact Cells.newAt _ _ (by omega)
  replace hX := hX.ext ew2
  replace B1 := B1.ext ew2
  have zw2 := alloc_lt hww2
  have hEw2 := eg hEw1 ew2
  have b2_0_w2 := B2.cell (k := 0) rfl
  have b2_1_w2 := B2.cell (k := 1) rfl
  have b2_2_w2 := B2.cell (k := 2) rfl
  have b2_3_w2 := B2.cell (k := 3) rfl
  have lB1_w2 := B1.lt
  have lB2_w2 := B2.lt
  go_enter Tryz.func70, Tryz.ntmps70
  go_wp2_with fail
  clear hww1
  clear hww2
  clear b1_0_w1 b1_1_w1 b1_2_w1 b1_3_w1 lB1_w1
  have yw1 := Nat.le_of_eq zw1
  replace zw1 := Nat.le_of_eq zw1.symm
  have yw2 := Nat.le_of_eq zw2
  replace zw2 := Nat.le_of_eq zw2.symm
  refine (fits_t ⟨⟨XNb, XNp, XNn, XNc⟩, ⟨true, XDp, XDn, XDc⟩⟩ _ (h1) (h2)).mono ?_
  intro ee w3 gg
  obtain ⟨rfl, ew3⟩ := Gv.v gg
  replace hX := hX.ext ew3
  replace B1 := B1.ext ew3
  replace B2 := B2.ext ew3
  have hEw3 := eg hEw2 ew3
  have zw3 := ew3.size
  have b2_0_w3 := B2.cell (k := 0) rfl
  have b2_1_w3 := B2.cell (k := 1) rfl
  have lB1_w3 := B1.lt
  have lB2_w3 := B2.lt
  go_wp2_with fail
  clear b2_0_w2 b2_1_w2 b2_2_w2 b2_3_w2 lB1_w2 lB2_w2
  refine (kValid ⟨XNb, XNp, XNn, XNc⟩ _ _ (hX.1) (H3.out)).mono ?_
  intro ee w4 gg
  obtain ⟨rfl, ew4⟩ := Gv.v gg
  replace hX := hX.ext ew4
  replace B1 := B1.ext ew4
  replace B2 := B2.ext ew4
  have hEw4 := eg hEw3 ew4
  have zw4 := ew4.size
  have b2_2_w4 := B2.cell (k := 2) rfl
  have b2_3_w4 := B2.cell (k := 3) rfl
  have lB1_w4 := B1.lt
  have lB2_w4 := B2.lt
  go_wp2_with fail
  clear b2_0_w3 b2_1_w3 lB1_w3 lB2_w3
  refine (kValid ⟨true, XDp, XDn, XDc⟩ _ _ (hX.2) (H4.out)).mono ?_
  intro ee w5 gg
  obtain ⟨rfl, ew5⟩ := Gv.v gg
  replace hX := hX.ext ew5
  replace B1 := B1.ext ew5
  replace B2 := B2.ext ew5
  have hEw5 := eg hEw4 ew5
  have zw5 := ew5.size
  have b2_2_w5 := B2.cell (k := 2) rfl
  have lB1_w5 := B1.lt
  have lB2_w5 := B2.lt
  go_wp2_with fail
  clear b2_2_w4 b2_3_w4 lB1_w4 lB2_w4
  refine bodyPost_ret (v := .bool false) (by simp [results, Tryz.results70, go_sem]) rfl ?_
  exact Gv.of_v hEw5

set_option maxRecDepth 100000 in
theorem fVal6 (XNb : Bool) (XNp : Option Addr) (XNn : Nat) (XNc : Nat) (XDp : Option Addr) (XDn : Nat) (XDc : Nat) (l m : List Nat) (w : World) (hX : UF w ⟨⟨XNb, XNp, XNn, XNc⟩, ⟨false, XDp, XDn, XDc⟩⟩ l m) (h1 : XNn ≤ 256) (h2 : XDn ≤ 256) (h3 : valW XNb l = true) (h4 : valW false m = true) (h5 : XDn = 0) :
    Calls Tryz.prog 70 #[.agg #[.bool XNb, .slice XNp XNn XNc, .bool false, .slice XDp XDn XDc]] w (Gv (.v (.bool false)) w) := by
  have H3 := Lib.hid h3
  clear h3
  have H4 := Lib.hid h4
  clear h4
  have h5d : ((XDn : Int) == 0) = true := by simp; omega
  clear h5
  have hEw : Ext w w := Below.refl _ _
  obtain ⟨w1, hww1⟩ : ∃ W, w.alloc (.cells #[.bool XNb, .slice XNp XNn XNc, .bool false, .slice XDp XDn XDc] 40) = W := ⟨_, rfl⟩
  have ew1 : Ext w w1 := by rw [← hww1]; exact ea _ _
  have B1 : Cells w1 (w.heap.size) 40 #[.bool XNb, .slice XNp XNn XNc, .bool false, .slice XDp XDn XDc] := by rw [← hww1]; exact Cells.newAt _ _ (by omega)
  replace hX := hX.ext ew1
  have zw1 := alloc_lt hww1
  have hEw1 := eg hEw ew1
  have b1_0_w1 := B1.cell (k := 0) rfl
  have b1_1_w1 := B1.cell (k := 1) rfl
  have b1_2_w1 := B1.cell (k := 2) rfl
  have b1_3_w1 := B1.cell (k := 3) rfl
  have lB1_w1 := B1.lt
  obtain ⟨w2, hww2⟩ : ∃ W, w1.alloc (.cells #[.bool XNb, .slice XNp XNn XNc, .bool false, .slice XDp XDn XDc] 143) = W := ⟨_, rfl⟩
  have ew2 : Ext w1 w2 := by rw [← hww2]; exact ea _ _
  have B2 : Cells w2 (w.heap.size + 1) 143 #[.bool XNb, .slice XNp XNn XNc, .bool false, .slice XDp XDn XDc] := by rw [← hww2]; exact Cells.newAt _ _ (by omega)
  replace hX := hX.ext ew2
  replace B1 := B1.ext ew2
  have zw2 := alloc_lt hww2
  have hEw2 := eg hEw1 ew2
  have b2_0_w2 := B2.cell (k := 0) rfl
  have b2_1_w2 := B2.cell (k := 1) rfl
  have b2_2_w2 := B2.cell (k := 2) rfl
  have b2_3_w2 := B2.cell (k := 3) rfl
  have lB1_w2 := B1.lt
  have lB2_w2 := B2.lt
  go_enter Tryz.func70, Tryz.ntmps70
  go_wp2_with fail
  clear hww1
  clear hww2
  clear b1_0_w1 b1_1_w1 b1_2_w1 b1_3_w1 lB1_w1
  have yw1 := Nat.le_of_eq zw1
  replace zw1 := Nat.le_of_eq zw1.symm
  have yw2 := Nat.le_of_eq zw2
  replace zw2 := Nat.le_of_eq zw2.symm
  refine (fits_t ⟨⟨XNb, XNp, XNn, XNc⟩, ⟨false, XDp, XDn, XDc⟩⟩ _ (h1) (h2)).mono ?_
  intro ee w3 gg
  obtain ⟨rfl, ew3⟩ := Gv.v gg
  replace hX := hX.ext ew3
  replace B1 := B1.ext ew3
  replace B2 := B2.ext ew3
  have hEw3 := eg hEw2 ew3
  have zw3 := ew3.size
  have b2_0_w3 := B2.cell (k := 0) rfl
  have b2_1_w3 := B2.cell (k := 1) rfl
  have lB1_w3 := B1.lt
  have lB2_w3 := B2.lt
  go_wp2_with fail
  clear b2_0_w2 b2_1_w2 b2_2_w2 b2_3_w2 lB1_w2 lB2_w2
  refine (kValid ⟨XNb, XNp, XNn, XNc⟩ _ _ (hX.1) (H3.out)).mono ?_
  intro ee w4 gg
  obtain ⟨rfl, ew4⟩ := Gv.v gg
  replace hX := hX.ext ew4
  replace B1 := B1.ext ew4
  replace B2 := B2.ext ew4
  have hEw4 := eg hEw3 ew4
  have zw4 := ew4.size
  have b2_2_w4 := B2.cell (k := 2) rfl
  have b2_3_w4 := B2.cell (k := 3) rfl
  have lB1_w4 := B1.lt
  have lB2_w4 := B2.lt
  go_wp2_with fail
  clear b2_0_w3 b2_1_w3 lB1_w3 lB2_w3
  refine (kValid ⟨false, XDp, XDn, XDc⟩ _ _ (hX.2) (H4.out)).mono ?_
  intro ee w5 gg
  obtain ⟨rfl, ew5⟩ := Gv.v gg
  replace hX := hX.ext ew5
  replace B1 := B1.ext ew5
  replace B2 := B2.ext ew5
  have hEw5 := eg hEw4 ew5
  have zw5 := ew5.size
  have b2_2_w5 := B2.cell (k := 2) rfl
  have b2_3_w5 := B2.cell (k := 3) rfl
  have lB1_w5 := B1.lt
  have lB2_w5 := B2.lt
  go_wp2_with fail
  clear b2_2_w4 b2_3_w4 lB1_w4 lB2_w4
  refine bodyPost_ret (v := .bool false) (by simp [results, Tryz.results70, go_sem]) rfl ?_
  exact Gv.of_v hEw5

set_option maxRecDepth 100000 in
theorem fVal7 (XNb : Bool) (XNp : Option Addr) (XNn : Nat) (XNc : Nat) (XDp : Option Addr) (XDn : Nat) (XDc : Nat) (a : Int) (d : Int) (w : World) (hX : PR w ⟨⟨XNb, XNp, XNn, XNc⟩, ⟨false, XDp, XDn, XDc⟩⟩ a d) (h1 : XNn ≤ 256) (h2 : XDn ≤ 256) (h5 : XDn ≠ 0) :
    Calls Tryz.prog 70 #[.agg #[.bool XNb, .slice XNp XNn XNc, .bool false, .slice XDp XDn XDc]] w (Gv (.v (.bool (decide (((Int.gcd a d : Nat) : Int) = 1)))) w) := by
  have HA : Hid (siz a.natAbs = XNn) := hX.1.n.symm
  have HD : Hid (siz d.natAbs = XDn) := hX.2.n.symm
  have h5d : ((XDn : Int) == 0) = false := by simp; omega
  clear h5
  have hEw : Ext w w := Below.refl _ _
  obtain ⟨w1, hww1⟩ : ∃ W, w.alloc (.cells #[.bool XNb, .slice XNp XNn XNc, .bool false, .slice XDp XDn XDc] 40) = W := ⟨_, rfl⟩
  have ew1 : Ext w w1 := by rw [← hww1]; exact ea _ _
  have B1 : Cells w1 (w.heap.size) 40 #[.bool XNb, .slice XNp XNn XNc, .bool false, .slice XDp XDn XDc] := by rw [← hww1]; exact Cells.newAt _ _ (by omega)
  replace hX := hX.ext ew1
  have zw1 := alloc_lt hww1
  have hEw1 := eg hEw ew1
  have b1_0_w1 := B1.cell (k := 0) rfl
  have b1_1_w1 := B1.cell (k := 1) rfl
  have b1_2_w1 := B1.cell (k := 2) rfl
  have b1_3_w1 := B1.cell (k := 3) rfl
  have lB1_w1 := B1.lt
  obtain ⟨w2, hww2⟩ : ∃ W, w1.alloc (.cells #[.bool XNb, .slice XNp XNn XNc, .bool false, .slice XDp XDn XDc] 143) = W := ⟨_, rfl⟩
  have ew2 : Ext w1 w2 := by rw [← hww2]; exact ea _ _
  have B2 : Cells w2 (w.heap.size + 1) 143 #[.bool XNb, .slice XNp XNn XNc, .bool false, .slice XDp XDn XDc] := by rw [← hww2]; exact Cells.newAt _ _ (by omega)
  replace hX := hX.ext ew2
  replace B1 := B1.ext ew2
  have zw2 := alloc_lt hww2
  have hEw2 := eg hEw1 ew2
  have b2_0_w2 := B2.cell (k := 0) rfl
  have b2_1_w2 := B2.cell (k := 1) rfl
  have b2_2_w2 := B2.cell (k := 2) rfl
  have b2_3_w2 := B2.cell (k := 3) rfl
  have lB1_w2 := B1.lt
  have lB2_w2 := B2.lt
  go_enter Tryz.func70, Tryz.ntmps70
  go_wp2_with fail
  clear hww1
  clear hww2
  clear b1_0_w1 b1_1_w1 b1_2_w1 b1_3_w1 lB1_w1
  have yw1 := Nat.le_of_eq zw1
  replace zw1 := Nat.le_of_eq zw1.symm
  have yw2 := Nat.le_of_eq zw2
  replace zw2 := Nat.le_of_eq zw2.symm
  refine (fits_t ⟨⟨XNb, XNp, XNn, XNc⟩, ⟨false, XDp, XDn, XDc⟩⟩ _ (h1) (h2)).mono ?_
  intro ee w3 gg
  obtain ⟨rfl, ew3⟩ := Gv.v gg
  replace hX := hX.ext ew3
  replace B1 := B1.ext ew3
  replace B2 := B2.ext ew3
  have hEw3 := eg hEw2 ew3
  have zw3 := ew3.size
  have b2_0_w3 := B2.cell (k := 0) rfl
  have b2_1_w3 := B2.cell (k := 1) rfl
  have lB1_w3 := B1.lt
  have lB2_w3 := B2.lt
  go_wp2_with fail
  clear b2_0_w2 b2_1_w2 b2_2_w2 b2_3_w2 lB1_w2 lB2_w2
  refine (kValidW ⟨XNb, XNp, XNn, XNc⟩ _ _ (hX.1) (by have := HA.out; omega)).mono ?_
  intro ee w4 gg
  obtain ⟨rfl, ew4⟩ := Gv.v gg
  replace hX := hX.ext ew4
  replace B1 := B1.ext ew4
  replace B2 := B2.ext ew4
  have hEw4 := eg hEw3 ew4
  have zw4 := ew4.size
  have b2_2_w4 := B2.cell (k := 2) rfl
  have b2_3_w4 := B2.cell (k := 3) rfl
  have lB1_w4 := B1.lt
  have lB2_w4 := B2.lt
  go_wp2_with fail
  clear b2_0_w3 b2_1_w3 lB1_w3 lB2_w3
  refine (kValidW ⟨false, XDp, XDn, XDc⟩ _ _ (hX.2) (by have := HD.out; omega)).mono ?_
  intro ee w5 gg
  obtain ⟨rfl, ew5⟩ := Gv.v gg
  replace hX := hX.ext ew5
  replace B1 := B1.ext ew5
  replace B2 := B2.ext ew5
  have hEw5 := eg hEw4 ew5
  have zw5 := ew5.size
  have b2_2_w5 := B2.cell (k := 2) rfl
  have b2_3_w5 := B2.cell (k := 3) rfl
  have b2_0_w5 := B2.cell (k := 0) rfl
  have b2_1_w5 := B2.cell (k := 1) rfl
  have lB1_w5 := B1.lt
  have lB2_w5 := B2.lt
  go_wp2_with fail
  clear b2_2_w4 b2_3_w4 lB1_w4 lB2_w4
  refine (fcommon ⟨XNb, XNp, XNn, XNc⟩ ⟨false, XDp, XDn, XDc⟩ _ _ _ (hX.1) (hX.2) (by have := HA.out; omega) (by have := HD.out; omega)).mono ?_
  intro ee w6 gg
  obtain ⟨Z43, rfl, hZ43, oZ43, ew6⟩ := Gv.w gg
  replace hX := hX.ext ew6
  replace B1 := B1.ext ew6
  replace B2 := B2.ext ew6
  have hEw6 := eg hEw5 ew6
  have zw6 := ew6.size
  replace oZ43 := oZ43.mono hEw5.size
  have lB1_w6 := B1.lt
  have lB2_w6 := B2.lt
  go_wp2_with fail
  clear b2_2_w5 b2_3_w5 b2_0_w5 b2_1_w5 lB1_w5 lB2_w5
  refine (fisOne Z43 _ _ (hZ43)).mono ?_
  intro ee w7 gg
  obtain ⟨rfl, ew7⟩ := Gv.v gg
  replace hX := hX.ext ew7
  replace hZ43 := hZ43.ext ew7
  replace oZ43 := oZ43.ext ew7
  replace B1 := B1.ext ew7
  replace B2 := B2.ext ew7
  have hEw7 := eg hEw6 ew7
  have zw7 := ew7.size
  have lB1_w7 := B1.lt
  have lB2_w7 := B2.lt
  go_wp2_with fail
  clear lB1_w6 lB2_w6
  refine bodyPost_ret (v := .bool (decide (((Int.gcd a d : Nat) : Int) = 1))) (by simp [results, Tryz.results70, go_sem]) rfl ?_
  exact Gv.of_v hEw7

theorem fValid (X : Fr) (l m : List Nat) (w : World) (h : UF w X l m) : Calls Tryz.prog 70 #[.agg #[.bool X.N.b, .slice X.N.p X.N.n X.N.c, .bool X.D.b, .slice X.D.p X.D.n X.D.c]] w (Gv (.v (.bool (okF X.N.b l X.D.b m))) w) := by
  have u1 := h.u1
  have u2 := h.u2
  by_cases h1 : X.N.n ≤ 256
  · by_cases h2 : X.D.n ≤ 256
    · cases h3 : valW X.N.b l
      · have e : okF X.N.b l X.D.b m = false := by unfold okF; simp [h3]
        rw [e]; exact fVal3 X l m w h h1 h2 h3
      · cases h4 : valW X.D.b m
        · have e : okF X.N.b l X.D.b m = false := by unfold okF; simp [h4]
          rw [e]; exact fVal4 X l m w h h1 h2 h3 h4
        · obtain ⟨N, ⟨db, dp, dn, dc⟩⟩ := X
          cases db
          · by_cases h5 : dn = 0
            · have e : okF N.b l false m = false := by unfold okF; simp [← u2, h5]
              simp only [e]; exact fVal6 N.b N.p N.n N.c dp dn dc l m w h h1 h2 h3 h4 h5
            · have r1 := WR.of h.1 h3
              have r2 := WR.of h.2 h4
              have := fVal7 N.b N.p N.n N.c dp dn dc (sgn N.b (val l)) (sgn false (val m)) w ⟨r1, r2⟩ h1 h2 h5
              have e : okF N.b l false m = decide (((Int.gcd (sgn N.b (val l)) (sgn false (val m)) : Nat) : Int) = 1) := by
                unfold okF
                rw [h3]
                have e2 : valW false m = true := h4
                rw [e2]
                simp only [← u1, ← u2, h1, h2, h5, decide_true, Bool.true_and, Bool.not_false, ne_eq, not_false_eq_true]
                rw [Int.gcd, sgn_natAbs, sgn_natAbs]
                congr 1
                simp; omega
              simp only [e]; exact this
          · have e : okF N.b l true m = false := by unfold okF; simp
            simp only [e]; exact fVal5 N.b N.p N.n N.c dp dn dc l m w h h1 h2 h3 h4
    · have e : okF X.N.b l X.D.b m = false := by unfold okF; rw [← u2]; simp [h2]
      rw [e]; exact fVal2 X l m w h h1 h2
  · have e : okF X.N.b l X.D.b m = false := by unfold okF; rw [← u1]; simp [h1]
    rw [e]; exact fVal1 X l m w h h1
end Go.Proofs.YtndgaecfeaedeaaGreat

namespace Go.Proofs.YtndgaecfeaedeaaGreat
set_option linter.unusedSimpArgs false
set_option linter.unusedVariables false
open Go.RowKit Lex Mth
attribute [local go_sem] run_indexAt_at add_zero_map Oper.semAt_some at_zero

/-- Fraction number k of a list. -/
structure FA (w : World) (p : Option Addr) (k : Nat) (X : Fr) : Prop where
  c0 : w.cell? (at_ p (k * 4)) = some (.bool X.N.b)
  c1 : w.cell? (at_ p (k * 4 + 1)) = some (.slice X.N.p X.N.n X.N.c)
  c2 : w.cell? (at_ p (k * 4 + 2)) = some (.bool X.D.b)
  c3 : w.cell? (at_ p (k * 4 + 3)) = some (.slice X.D.p X.D.n X.D.c)
theorem cell_ext {w w' : World} (e : Ext w w') {a : Addr} {v : Value} (h : w.cell? a = some v) : w'.cell? a = some v := (e.cell (World.block_lt_of_cell? w _ h)).trans h
theorem FA.ext {w w' : World} {p : Option Addr} {k : Nat} {X : Fr} (h : FA w p k X) (e : Ext w w') : FA w' p k X := ⟨cell_ext e h.c0, cell_ext e h.c1, cell_ext e h.c2, cell_ext e h.c3⟩
theorem at_add (p : Option Addr) (k i : Nat) : (at_ p k).add i = at_ p (k + i) := by
  unfold at_ Addr.add
  by_cases h : k = 0 <;> by_cases h2 : i = 0 <;> simp [h, h2, Nat.add_assoc]
/-- A list of fractions, whatever they are. -/
structure FRow (w : World) (p : Option Addr) (n c : Nat) (X : Nat → Fr) : Prop where
  has : Has p n
  le : n ≤ c
  reach : n ≤ 70368744177664
  el : ∀ k, k < n → FA w p k (X k)
theorem FRow.ext {w w' : World} {p : Option Addr} {n c : Nat} {X : Nat → Fr} (h : FRow w p n c X) (e : Ext w w') : FRow w' p n c X := ⟨h.has, h.le, h.reach, fun k hk => (h.el k hk).ext e⟩
theorem at_mk1 (p : Option Addr) (k : Nat) : (⟨(at_ p k).block, (at_ p k).off + 1, none⟩ : Addr) = at_ p (k + 1) := by rw [← at_add]; simp [Addr.add]
theorem at_mk2 (p : Option Addr) (k : Nat) : (⟨(at_ p k).block, (at_ p k).off + 2, none⟩ : Addr) = at_ p (k + 2) := by rw [← at_add]; simp [Addr.add]
theorem at_mk3 (p : Option Addr) (k : Nat) : (⟨(at_ p k).block, (at_ p k).off + 3, none⟩ : Addr) = at_ p (k + 3) := by rw [← at_add]; simp [Addr.add]
attribute [local go_sem] at_add at_mk1 at_mk2 at_mk3

set_option maxRecDepth 100000 in
set_option maxHeartbeats 1000000 in
theorem fIndex (F : Nat) (hcf : ∀ args w, (callFunc F args).run Tryz.prog w = .ok (.enter F args) w) (p : Option Addr) (k cap : Nat) (X : Nat → Fr) (B : Nat → Bool) (w : World) (h : FRow w p k cap X)
    (hf : ∀ j, j < k → ∀ w1, Ext w w1 → Calls Tryz.prog F #[(X j).val] w1 (Gv (.v (.bool (B j))) w1)) :
    Calls Tryz.prog 77 #[.slice p k cap, .func (.func F) #[] #[]] w fun e w' =>
      ∃ r : Int, e = .returned (.int .i64 r) ∧ (0 ≤ r ↔ ∃ j, j < k ∧ B j = true) ∧ Ext w w' := by
  have hho := h.has
  have hk := h.reach
  have Hf := Lib.hid hf
  clear hf
  go_enter Tryz.func77, Tryz.ntmps77
  go_wp2_with fail
  go_loopw [8] (fun v wr => ∃ i : Nat, v = .int .i64 (i : Nat) ∧ i ≤ k ∧ Hid (∀ j, j < i → B j = false) ∧ Ext w wr) (fun v _ => (k - intOf v).toNat)
  case atStart => exact ⟨0, rfl, by omega, Lib.hid (fun j hj => absurd hj (Nat.not_lt_zero _)), Below.refl _ _⟩
  case round =>
    obtain ⟨i, rfl, hi, hall, hE⟩ := hrel
    by_cases hik : i < k
    · have hj := (h.el i hik).ext hE
      have c0 := hj.c0
      have c1 := hj.c1
      have c2 := hj.c2
      have c3 := hj.c3
      go_wp2_with fail
      refine (Hf.out i hik _ hE).mono ?_
      intro ee w' gg
      obtain ⟨rfl, hE2⟩ := Gv.v gg
      cases hv : B i
      · have Hv := Lib.hid hv
        clear hv
        go_wp2_with fail
        go_roundw
        case rel => exact ⟨i + 1, rfl, by omega, Lib.hid (fun j hj => (Nat.lt_or_eq_of_le (Nat.le_of_lt_succ hj)).elim (hall.out j) (fun e => e ▸ Hv.out)), eg hE hE2⟩
        case measure => simp [intOf]; omega
      · have Hv := Lib.hid hv
        clear hv
        go_wp2_with fail
        go_ret
        exact ⟨i, rfl, ⟨fun _ => ⟨i, hik, Hv.out⟩, fun _ => by omega⟩, eg hE hE2⟩
    · obtain rfl : i = k := by omega
      go_wp2_with fail
      go_ret
      refine ⟨-1, rfl, ⟨fun h => absurd h (by omega), fun ⟨j, hj, hv⟩ => ?_⟩, hE⟩
      rw [hall.out j hj] at hv; cases hv

theorem fContains (F : Nat) (hcf : ∀ args w, (callFunc F args).run Tryz.prog w = .ok (.enter F args) w) (p : Option Addr) (k cap : Nat) (X : Nat → Fr) (B : Nat → Bool) (w : World) (h : FRow w p k cap X)
    (hf : ∀ j, j < k → ∀ w1, Ext w w1 → Calls Tryz.prog F #[(X j).val] w1 (Gv (.v (.bool (B j))) w1)) {b : Bool} (hb : b = true ↔ ∃ j, j < k ∧ B j = true) :
    Calls Tryz.prog 36 #[.slice p k cap, .func (.func F) #[] #[]] w (Gv (.v (.bool b)) w) := by
  have Hf := Lib.hid hf
  have Hb := Lib.hid hb
  clear hf hb
  go_enter Tryz.func36, Tryz.ntmps36
  go_wp2_with fail
  refine (fIndex F hcf p k cap X B w h Hf.out).mono ?_
  rintro e w' ⟨r, rfl, hr, hE⟩
  have hd : decide (0 ≤ r) = b := by
    have e1 : (0 ≤ r) ↔ b = true := hr.trans Hb.out.symm
    cases b <;> simp only [iff_true, iff_false, Bool.false_eq_true] at e1 <;> simp [e1]
  have Hr := Lib.hid hd
  clear hr hd
  go_wp2_with fail
  go_ret
  rw [Hr.out]
  exact Gv.of_v hE
theorem cf133 : ∀ args w, (callFunc 133 args).run Tryz.prog w = .ok (.enter 133 args) w := fun args w => by simp [go_sem]
theorem fValid1 (X : Fr) (l m : List Nat) (w : World) (h : UF w X l m) {b : Bool} (hb : okF X.N.b l X.D.b m = b) : Calls Tryz.prog 133 #[.agg #[.bool X.N.b, .slice X.N.p X.N.n X.N.c, .bool X.D.b, .slice X.D.p X.D.n X.D.c]] w (Gv (.v (.bool (!b))) w) := by
  have Hb := Lib.hid hb
  clear hb
  obtain ⟨w1, hw1⟩ : ∃ W, w.alloc (.cells #[.bool X.N.b, .slice X.N.p X.N.n X.N.c, .bool X.D.b, .slice X.D.p X.D.n X.D.c] 40) = W := ⟨_, rfl⟩
  have e1 : Ext w w1 := by rw [← hw1]; exact ea _ _
  have B1 : Cells w1 w.heap.size 40 #[.bool X.N.b, .slice X.N.p X.N.n X.N.c, .bool X.D.b, .slice X.D.p X.D.n X.D.c] := by rw [← hw1]; exact Cells.newAt _ _ rfl
  have b0 := B1.cell (k := 0) rfl
  have b1 := B1.cell (k := 1) rfl
  have b2 := B1.cell (k := 2) rfl
  have b3 := B1.cell (k := 3) rfl
  go_enter Tryz.func133, Tryz.ntmps133
  go_wp2_with fail
  clear hw1
  refine (fValid X l m w1 (h.ext e1)).mono ?_
  intro ee w2 gg
  obtain ⟨rfl, e2⟩ := Gv.v gg
  rw [Hb.out]
  go_wp2_with fail
  go_ret
  exact Gv.of_v (eg e1 e2)

/-- Two fractions, beside each other, that are valid. -/
theorem fvalid2 (g : Nat) (X Y : Fr) (x y : Rat) (w : World) (hc : Cells w g 40 #[.bool X.N.b, .slice X.N.p X.N.n X.N.c, .bool X.D.b, .slice X.D.p X.D.n X.D.c, .bool Y.N.b, .slice Y.N.p Y.N.n Y.N.c, .bool Y.D.b, .slice Y.D.p Y.D.n Y.D.c]) (hX : FR w X x) (hY : FR w Y y) (bx : Sz x) (by_ : Sz y) :
    Calls Tryz.prog 74 #[.slice (some ⟨g, 0, none⟩) 2 2] w (Gv (.v (.bool true)) w) := by
  have hR : FRow w (some ⟨g, 0, none⟩) 2 2 (fun j => bif j == 0 then X else Y) := ⟨Has.some _ _, by omega, by omega, fun k hk => by
    match k, hk with
    | 0, _ => exact ⟨by rw [at_zero]; exact hc.cell rfl, by rw [at_zero]; exact hc.cell rfl, by rw [at_zero]; exact hc.cell rfl, by rw [at_zero]; exact hc.cell rfl⟩
    | 1, _ => exact ⟨by rw [at_zero]; exact hc.cell rfl, by rw [at_zero]; exact hc.cell rfl, by rw [at_zero]; exact hc.cell rfl, by rw [at_zero]; exact hc.cell rfl⟩⟩
  go_enter Tryz.func74, Tryz.ntmps74
  go_wp2_with fail
  refine (fContains _ cf133 _ 2 2 _ (fun _ => false) w hR (fun j hj w1 e1 => ?_) (b := false) (by simp)).mono ?_
  · match j, hj with
    | 0, _ => exact fValid1 X _ _ w1 ⟨(hX.ext e1).1.u16.2, (hX.ext e1).2.u16.2⟩ (okF_of hX bx)
    | 1, _ => exact fValid1 Y _ _ w1 ⟨(hY.ext e1).1.u16.2, (hY.ext e1).2.u16.2⟩ (okF_of hY by_)
  · intro ee w2 gg
    obtain ⟨rfl, e2⟩ := Gv.v gg
    go_wp2_with fail
    go_ret
    exact Gv.of_v e2
end Go.Proofs.YtndgaecfeaedeaaGreat
