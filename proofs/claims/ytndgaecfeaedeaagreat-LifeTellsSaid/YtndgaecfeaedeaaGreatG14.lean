/- Walks of package frac: Valid. Walks of package frac: lists of fractions, valid. Walks of package frac: Add, Sub, Mul, Cmp. Walks of the document's answer on fractions: Same, one. -/
import Derived.Test.YtndgaecfeaedeaaGreatG13
namespace Go.Proofs.YtndgaecfeaedeaaGreat
set_option linter.unusedSimpArgs false
set_option linter.unusedVariables false
open Go.RowKit Lex Mth
attribute [local go_sem] run_indexAt_at add_zero_map Oper.semAt_some at_zero
set_option linter.unusedSimpArgs false
set_option linter.unusedVariables false

/-- What Valid looks at. -/
def okF (n : Bool) (l : List Nat) (n' : Bool) (l' : List Nat) : Bool := decide (l.length ≤ 256) && decide (l'.length ≤ 256) && valW n l && valW n' l' && !n' && decide (l'.length ≠ 0) && decide (Nat.gcd (val l) (val l') = 1)
theorem okF_of {w : World} {X : Fr} {q : Rat} (h : FR w X q) (s : Sz q) : okF X.N.b (limbs q.num.natAbs) X.D.b (limbs q.den) = true := by
  have h1 := h.1.neg
  have h2 := h.2.neg
  have s1 : (limbs q.num.natAbs).length ≤ 256 := s.1
  have s2 : (limbs q.den).length ≤ 256 := s.2
  have d0 := q.den_nz
  have s3 : 0 < (limbs q.den).length := siz_pos d0
  have v1 : valW X.N.b (limbs q.num.natAbs) = true := by rw [h1]; exact valW_of (by have : siz q.num.natAbs ≤ 256 := s1; omega)
  have v2 : valW X.D.b (limbs q.den) = true := by
    rw [h2]
    have := valW_of (z := (q.den : Int)) (by have : siz q.den ≤ 256 := s2; rw [Int.natAbs_natCast]; omega)
    exact this
  have hd : X.D.b = false := by rw [h2]; simp
  unfold okF
  rw [v1, v2, hd]
  simp only [s1, s2, decide_true, Bool.true_and, Bool.not_false, val_limbs]
  simp only [show ¬ (limbs q.den).length = 0 by omega, ne_eq, not_false_eq_true, decide_true, Bool.true_and, decide_eq_true_eq]
  exact q.reduced
/-- A fraction that is valid. -/
theorem okF_FR {w : World} {X : Fr} {l m : List Nat} (h : UF w X l m) (ok : okF X.N.b l X.D.b m = true) : ∃ q : Rat, FR w X q ∧ Sz q ∧ X.D.b = false := by
  unfold okF at ok
  simp only [Bool.and_eq_true, decide_eq_true_eq, Bool.not_eq_true'] at ok
  obtain ⟨⟨⟨⟨⟨⟨h1, h2⟩, h3⟩, h4⟩, h5⟩, h6⟩, h7⟩ := ok
  have r1 := WR.of h.1 h3
  have r2 := WR.of h.2 h4
  rw [h5] at r2
  have hne : val m ≠ 0 := fun e => by
    have := r2.n
    rw [e] at this
    simp [sgn, siz_zero] at this
    exact h6 (by rw [h.2.len]; exact this)
  refine ⟨⟨sgn X.N.b (val l), val m, hne, by rw [sgn_natAbs]; exact h7⟩, ⟨r1, r2⟩, ⟨?_, ?_⟩, h5⟩
  · show siz (sgn X.N.b (val l)).natAbs ≤ 256
    rw [← r1.n, ← h.1.len]; exact h1
  · show siz (val m) ≤ 256
    have := r2.n
    simp only [sgn, Bool.false_eq_true, if_false, Int.natAbs_natCast] at this
    rw [← this, ← h.2.len]; exact h2
theorem UF.u1 {w : World} {X : Fr} {l m : List Nat} (h : UF w X l m) : X.N.n = l.length := h.1.len.symm
theorem UF.u2 {w : World} {X : Fr} {l m : List Nat} (h : UF w X l m) : X.D.n = m.length := h.2.len.symm

set_option maxRecDepth 100000 in
theorem fVal1 (X : Fr) (l m : List Nat) (w : World) (hX : UF w X l m) (h1 : ¬ X.N.n ≤ 256) :
    Calls Tryz.prog 70 #[.agg #[.bool X.N.b, .slice X.N.p X.N.n X.N.c, .bool X.D.b, .slice X.D.p X.D.n X.D.c]] w (Gv (.v (.bool false)) w) := by
  obtain ⟨w1, hww1, ew1, B1, zw1⟩ := alloc_at w (w.heap.size) (by omega) #[.bool X.N.b, .slice X.N.p X.N.n X.N.c, .bool X.D.b, .slice X.D.p X.D.n X.D.c] 40
  have b1_w1 := B1.c4
  obtain ⟨w2, hww2, ew2, B2, zw2⟩ := alloc_at w1 (w.heap.size + 1) (by omega) #[.bool X.N.b, .slice X.N.p X.N.n X.N.c, .bool X.D.b, .slice X.D.p X.D.n X.D.c] 143
  have b2_w2 := B2.c4
  have xw_w2 := eg ew1 ew2
  go_enter Tryz.func70, Tryz.ntmps70
  go_wp2_with fail
  clear hww1 hww2
  clear b1_w1
  replace zw1 := le2 zw1
  replace zw2 := le2 zw2
  refine (fits_n X _ (h1)).mono (Gv.onV fun w3 ew3 zw3 => ?_)
  have xw_w3 := eg xw_w2 ew3
  go_wp2_with fail
  clear b2_w2
  refine bodyPost_ret (v := .bool false) (by simp [results, Tryz.results70, go_sem]) rfl ?_
  exact Gv.of_v xw_w3

set_option maxRecDepth 100000 in
theorem fVal2 (X : Fr) (l m : List Nat) (w : World) (hX : UF w X l m) (h1 : X.N.n ≤ 256) (h2 : ¬ X.D.n ≤ 256) :
    Calls Tryz.prog 70 #[.agg #[.bool X.N.b, .slice X.N.p X.N.n X.N.c, .bool X.D.b, .slice X.D.p X.D.n X.D.c]] w (Gv (.v (.bool false)) w) := by
  obtain ⟨w1, hww1, ew1, B1, zw1⟩ := alloc_at w (w.heap.size) (by omega) #[.bool X.N.b, .slice X.N.p X.N.n X.N.c, .bool X.D.b, .slice X.D.p X.D.n X.D.c] 40
  have b1_w1 := B1.c4
  obtain ⟨w2, hww2, ew2, B2, zw2⟩ := alloc_at w1 (w.heap.size + 1) (by omega) #[.bool X.N.b, .slice X.N.p X.N.n X.N.c, .bool X.D.b, .slice X.D.p X.D.n X.D.c] 143
  have b2_w2 := B2.c4
  have xw_w2 := eg ew1 ew2
  go_enter Tryz.func70, Tryz.ntmps70
  go_wp2_with fail
  clear hww1 hww2
  clear b1_w1
  replace zw1 := le2 zw1
  replace zw2 := le2 zw2
  refine (fits_d X _ (h1) (h2)).mono (Gv.onV fun w3 ew3 zw3 => ?_)
  have xw_w3 := eg xw_w2 ew3
  go_wp2_with fail
  clear b2_w2
  refine bodyPost_ret (v := .bool false) (by simp [results, Tryz.results70, go_sem]) rfl ?_
  exact Gv.of_v xw_w3

set_option maxRecDepth 100000 in
theorem fVal3 (X : Fr) (l m : List Nat) (w : World) (hX : UF w X l m) (h1 : X.N.n ≤ 256) (h2 : X.D.n ≤ 256) (h3 : valW X.N.b l = false) :
    Calls Tryz.prog 70 #[.agg #[.bool X.N.b, .slice X.N.p X.N.n X.N.c, .bool X.D.b, .slice X.D.p X.D.n X.D.c]] w (Gv (.v (.bool false)) w) := by
  have H3 := Lib.hid h3
  clear h3
  obtain ⟨w1, hww1, ew1, B1, zw1⟩ := alloc_at w (w.heap.size) (by omega) #[.bool X.N.b, .slice X.N.p X.N.n X.N.c, .bool X.D.b, .slice X.D.p X.D.n X.D.c] 40
  have b1_w1 := B1.c4
  obtain ⟨w2, hww2, ew2, B2, zw2⟩ := alloc_at w1 (w.heap.size + 1) (by omega) #[.bool X.N.b, .slice X.N.p X.N.n X.N.c, .bool X.D.b, .slice X.D.p X.D.n X.D.c] 143
  have b2_w2 := B2.c4
  have xw_w2 := eg ew1 ew2
  go_enter Tryz.func70, Tryz.ntmps70
  go_wp2_with fail
  clear hww1 hww2
  clear b1_w1
  replace zw1 := le2 zw1
  replace zw2 := le2 zw2
  refine (fits_t X _ (h1) (h2)).mono (Gv.onV fun w3 ew3 zw3 => ?_)
  replace B2 := B2.ext ew3
  have b2_w3 := B2.c4
  have xw_w3 := eg xw_w2 ew3
  replace hX := hX.ext xw_w3
  go_wp2_with fail
  clear b2_w2
  refine (kValid X.N _ _ (hX.1) (H3.out)).mono (Gv.onV fun w4 ew4 zw4 => ?_)
  have xw_w4 := eg xw_w3 ew4
  go_wp2_with fail
  clear b2_w3
  refine bodyPost_ret (v := .bool false) (by simp [results, Tryz.results70, go_sem]) rfl ?_
  exact Gv.of_v xw_w4

set_option maxRecDepth 100000 in
theorem fVal4 (X : Fr) (l m : List Nat) (w : World) (hX : UF w X l m) (h1 : X.N.n ≤ 256) (h2 : X.D.n ≤ 256) (h3 : valW X.N.b l = true) (h4 : valW X.D.b m = false) :
    Calls Tryz.prog 70 #[.agg #[.bool X.N.b, .slice X.N.p X.N.n X.N.c, .bool X.D.b, .slice X.D.p X.D.n X.D.c]] w (Gv (.v (.bool false)) w) := by
  have H3 := Lib.hid h3
  clear h3
  have H4 := Lib.hid h4
  clear h4
  obtain ⟨w1, hww1, ew1, B1, zw1⟩ := alloc_at w (w.heap.size) (by omega) #[.bool X.N.b, .slice X.N.p X.N.n X.N.c, .bool X.D.b, .slice X.D.p X.D.n X.D.c] 40
  have b1_w1 := B1.c4
  obtain ⟨w2, hww2, ew2, B2, zw2⟩ := alloc_at w1 (w.heap.size + 1) (by omega) #[.bool X.N.b, .slice X.N.p X.N.n X.N.c, .bool X.D.b, .slice X.D.p X.D.n X.D.c] 143
  have b2_w2 := B2.c4
  have xw_w2 := eg ew1 ew2
  go_enter Tryz.func70, Tryz.ntmps70
  go_wp2_with fail
  clear hww1 hww2
  clear b1_w1
  replace zw1 := le2 zw1
  replace zw2 := le2 zw2
  refine (fits_t X _ (h1) (h2)).mono (Gv.onV fun w3 ew3 zw3 => ?_)
  replace B2 := B2.ext ew3
  have b2_w3 := B2.c4
  have xw_w3 := eg xw_w2 ew3
  replace hX := hX.ext xw_w3
  go_wp2_with fail
  clear b2_w2
  refine (kValid X.N _ _ (hX.1) (H3.out)).mono (Gv.onV fun w4 ew4 zw4 => ?_)
  replace B2 := B2.ext ew4
  have b2_w4 := B2.c4
  replace hX := hX.ext ew4
  have xw_w4 := eg xw_w3 ew4
  go_wp2_with fail
  clear b2_w3
  refine (kValid X.D _ _ (hX.2) (H4.out)).mono (Gv.onV fun w5 ew5 zw5 => ?_)
  have xw_w5 := eg xw_w4 ew5
  go_wp2_with fail
  clear b2_w4
  refine bodyPost_ret (v := .bool false) (by simp [results, Tryz.results70, go_sem]) rfl ?_
  exact Gv.of_v xw_w5

set_option maxRecDepth 100000 in
theorem fVal5 (XNb : Bool) (XNp : Option Addr) (XNn : Nat) (XNc : Nat) (XDp : Option Addr) (XDn : Nat) (XDc : Nat) (l m : List Nat) (w : World) (hX : UF w ⟨⟨XNb, XNp, XNn, XNc⟩, ⟨true, XDp, XDn, XDc⟩⟩ l m) (h1 : XNn ≤ 256) (h2 : XDn ≤ 256) (h3 : valW XNb l = true) (h4 : valW true m = true) :
    Calls Tryz.prog 70 #[.agg #[.bool XNb, .slice XNp XNn XNc, .bool true, .slice XDp XDn XDc]] w (Gv (.v (.bool false)) w) := by
  have H3 := Lib.hid h3
  clear h3
  have H4 := Lib.hid h4
  clear h4
  obtain ⟨w1, hww1, ew1, B1, zw1⟩ := alloc_at w (w.heap.size) (by omega) #[.bool XNb, .slice XNp XNn XNc, .bool true, .slice XDp XDn XDc] 40
  have b1_w1 := B1.c4
  obtain ⟨w2, hww2, ew2, B2, zw2⟩ := alloc_at w1 (w.heap.size + 1) (by omega) #[.bool XNb, .slice XNp XNn XNc, .bool true, .slice XDp XDn XDc] 143
  have b2_w2 := B2.c4
  have xw_w2 := eg ew1 ew2
  go_enter Tryz.func70, Tryz.ntmps70
  go_wp2_with fail
  clear hww1 hww2
  clear b1_w1
  replace zw1 := le2 zw1
  replace zw2 := le2 zw2
  refine (fits_t ⟨⟨XNb, XNp, XNn, XNc⟩, ⟨true, XDp, XDn, XDc⟩⟩ _ (h1) (h2)).mono (Gv.onV fun w3 ew3 zw3 => ?_)
  replace B2 := B2.ext ew3
  have b2_w3 := B2.c4
  have xw_w3 := eg xw_w2 ew3
  replace hX := hX.ext xw_w3
  go_wp2_with fail
  clear b2_w2
  refine (kValid ⟨XNb, XNp, XNn, XNc⟩ _ _ (hX.1) (H3.out)).mono (Gv.onV fun w4 ew4 zw4 => ?_)
  replace B2 := B2.ext ew4
  have b2_w4 := B2.c4
  replace hX := hX.ext ew4
  have xw_w4 := eg xw_w3 ew4
  go_wp2_with fail
  clear b2_w3
  refine (kValid ⟨true, XDp, XDn, XDc⟩ _ _ (hX.2) (H4.out)).mono (Gv.onV fun w5 ew5 zw5 => ?_)
  replace B2 := B2.ext ew5
  have b2_w5 := B2.c4
  have xw_w5 := eg xw_w4 ew5
  go_wp2_with fail
  clear b2_w4
  refine bodyPost_ret (v := .bool false) (by simp [results, Tryz.results70, go_sem]) rfl ?_
  exact Gv.of_v xw_w5

set_option maxRecDepth 100000 in
theorem fVal6 (XNb : Bool) (XNp : Option Addr) (XNn : Nat) (XNc : Nat) (XDp : Option Addr) (XDn : Nat) (XDc : Nat) (l m : List Nat) (w : World) (hX : UF w ⟨⟨XNb, XNp, XNn, XNc⟩, ⟨false, XDp, XDn, XDc⟩⟩ l m) (h1 : XNn ≤ 256) (h2 : XDn ≤ 256) (h3 : valW XNb l = true) (h4 : valW false m = true) (h5 : XDn = 0) :
    Calls Tryz.prog 70 #[.agg #[.bool XNb, .slice XNp XNn XNc, .bool false, .slice XDp XDn XDc]] w (Gv (.v (.bool false)) w) := by
  have H3 := Lib.hid h3
  clear h3
  have H4 := Lib.hid h4
  clear h4
  have h5d : ((XDn : Int) == 0) = true := by simp; omega
  clear h5
  obtain ⟨w1, hww1, ew1, B1, zw1⟩ := alloc_at w (w.heap.size) (by omega) #[.bool XNb, .slice XNp XNn XNc, .bool false, .slice XDp XDn XDc] 40
  have b1_w1 := B1.c4
  obtain ⟨w2, hww2, ew2, B2, zw2⟩ := alloc_at w1 (w.heap.size + 1) (by omega) #[.bool XNb, .slice XNp XNn XNc, .bool false, .slice XDp XDn XDc] 143
  have b2_w2 := B2.c4
  have xw_w2 := eg ew1 ew2
  go_enter Tryz.func70, Tryz.ntmps70
  go_wp2_with fail
  clear hww1 hww2
  clear b1_w1
  replace zw1 := le2 zw1
  replace zw2 := le2 zw2
  refine (fits_t ⟨⟨XNb, XNp, XNn, XNc⟩, ⟨false, XDp, XDn, XDc⟩⟩ _ (h1) (h2)).mono (Gv.onV fun w3 ew3 zw3 => ?_)
  replace B2 := B2.ext ew3
  have b2_w3 := B2.c4
  have xw_w3 := eg xw_w2 ew3
  replace hX := hX.ext xw_w3
  go_wp2_with fail
  clear b2_w2
  refine (kValid ⟨XNb, XNp, XNn, XNc⟩ _ _ (hX.1) (H3.out)).mono (Gv.onV fun w4 ew4 zw4 => ?_)
  replace B2 := B2.ext ew4
  have b2_w4 := B2.c4
  replace hX := hX.ext ew4
  have xw_w4 := eg xw_w3 ew4
  go_wp2_with fail
  clear b2_w3
  refine (kValid ⟨false, XDp, XDn, XDc⟩ _ _ (hX.2) (H4.out)).mono (Gv.onV fun w5 ew5 zw5 => ?_)
  replace B2 := B2.ext ew5
  have b2_w5 := B2.c4
  have xw_w5 := eg xw_w4 ew5
  go_wp2_with fail
  clear b2_w4
  refine bodyPost_ret (v := .bool false) (by simp [results, Tryz.results70, go_sem]) rfl ?_
  exact Gv.of_v xw_w5

set_option maxRecDepth 100000 in
theorem fVal7 (XNb : Bool) (XNp : Option Addr) (XNn : Nat) (XNc : Nat) (XDp : Option Addr) (XDn : Nat) (XDc : Nat) (a : Int) (d : Int) (w : World) (hX : PR w ⟨⟨XNb, XNp, XNn, XNc⟩, ⟨false, XDp, XDn, XDc⟩⟩ a d) (h1 : XNn ≤ 256) (h2 : XDn ≤ 256) (h5 : XDn ≠ 0) :
    Calls Tryz.prog 70 #[.agg #[.bool XNb, .slice XNp XNn XNc, .bool false, .slice XDp XDn XDc]] w (Gv (.v (.bool (decide (((Int.gcd a d : Nat) : Int) = 1)))) w) := by
  have HA : Hid (siz a.natAbs = XNn) := hX.1.n.symm
  have HD : Hid (siz d.natAbs = XDn) := hX.2.n.symm
  have h5d : ((XDn : Int) == 0) = false := by simp; omega
  clear h5
  obtain ⟨w1, hww1, ew1, B1, zw1⟩ := alloc_at w (w.heap.size) (by omega) #[.bool XNb, .slice XNp XNn XNc, .bool false, .slice XDp XDn XDc] 40
  have b1_w1 := B1.c4
  obtain ⟨w2, hww2, ew2, B2, zw2⟩ := alloc_at w1 (w.heap.size + 1) (by omega) #[.bool XNb, .slice XNp XNn XNc, .bool false, .slice XDp XDn XDc] 143
  have b2_w2 := B2.c4
  have xw_w2 := eg ew1 ew2
  go_enter Tryz.func70, Tryz.ntmps70
  go_wp2_with fail
  clear hww1 hww2
  clear b1_w1
  replace zw1 := le2 zw1
  replace zw2 := le2 zw2
  refine (fits_t ⟨⟨XNb, XNp, XNn, XNc⟩, ⟨false, XDp, XDn, XDc⟩⟩ _ (h1) (h2)).mono (Gv.onV fun w3 ew3 zw3 => ?_)
  replace B2 := B2.ext ew3
  have b2_w3 := B2.c4
  have xw_w3 := eg xw_w2 ew3
  replace hX := hX.ext xw_w3
  go_wp2_with fail
  clear b2_w2
  refine (kValidW ⟨XNb, XNp, XNn, XNc⟩ _ _ (hX.1) (by have := HA.out; omega)).mono (Gv.onV fun w4 ew4 zw4 => ?_)
  replace B2 := B2.ext ew4
  have b2_w4 := B2.c4
  replace hX := hX.ext ew4
  have xw_w4 := eg xw_w3 ew4
  go_wp2_with fail
  clear b2_w3
  refine (kValidW ⟨false, XDp, XDn, XDc⟩ _ _ (hX.2) (by have := HD.out; omega)).mono (Gv.onV fun w5 ew5 zw5 => ?_)
  replace B2 := B2.ext ew5
  have b2_w5 := B2.c4
  replace hX := hX.ext ew5
  have xw_w5 := eg xw_w4 ew5
  go_wp2_with fail
  clear b2_w4
  refine (fcommon ⟨XNb, XNp, XNn, XNc⟩ ⟨false, XDp, XDn, XDc⟩ _ _ _ (hX.1) (hX.2) (by have := HA.out; omega) (by have := HD.out; omega)).mono (Gv.onW fun Z43 w6 hZ43 ew6 zw6 => ?_)
  have xw_w6 := eg xw_w5 ew6
  go_wp2_with fail
  clear b2_w5
  refine (fisOne Z43 _ _ (hZ43)).mono (Gv.onV fun w7 ew7 zw7 => ?_)
  have xw_w7 := eg xw_w6 ew7
  go_wp2_with fail
  refine bodyPost_ret (v := .bool (decide (((Int.gcd a d : Nat) : Int) = 1))) (by simp [results, Tryz.results70, go_sem]) rfl ?_
  exact Gv.of_v xw_w7

theorem fValid (X : Fr) (l m : List Nat) (w : World) (h : UF w X l m) : Calls Tryz.prog 70 #[.agg #[.bool X.N.b, .slice X.N.p X.N.n X.N.c, .bool X.D.b, .slice X.D.p X.D.n X.D.c]] w (Gv (.v (.bool (okF X.N.b l X.D.b m))) w) := by
  have u1 := h.u1
  have u2 := h.u2
  by_cases h1 : X.N.n ≤ 256
  · by_cases h2 : X.D.n ≤ 256
    · cases h3 : valW X.N.b l
      · have e : okF X.N.b l X.D.b m = false := by unfold okF; simp [h3]
        rw [e]; exact fVal3 X l m w h h1 h2 h3
      · cases h4 : valW X.D.b m
        · have e : okF X.N.b l X.D.b m = false := by unfold okF; simp [h4]
          rw [e]; exact fVal4 X l m w h h1 h2 h3 h4
        · obtain ⟨N, ⟨db, dp, dn, dc⟩⟩ := X
          cases db
          · by_cases h5 : dn = 0
            · have e : okF N.b l false m = false := by unfold okF; simp [← u2, h5]
              simp only [e]; exact fVal6 N.b N.p N.n N.c dp dn dc l m w h h1 h2 h3 h4 h5
            · have r1 := WR.of h.1 h3
              have r2 := WR.of h.2 h4
              have := fVal7 N.b N.p N.n N.c dp dn dc (sgn N.b (val l)) (sgn false (val m)) w ⟨r1, r2⟩ h1 h2 h5
              have e : okF N.b l false m = decide (((Int.gcd (sgn N.b (val l)) (sgn false (val m)) : Nat) : Int) = 1) := by
                unfold okF
                rw [h3]
                have e2 : valW false m = true := h4
                rw [e2]
                simp only [← u1, ← u2, h1, h2, h5, decide_true, Bool.true_and, Bool.not_false, ne_eq, not_false_eq_true]
                rw [Int.gcd, sgn_natAbs, sgn_natAbs]
                congr 1
                simp; omega
              simp only [e]; exact this
          · have e : okF N.b l true m = false := by unfold okF; simp
            simp only [e]; exact fVal5 N.b N.p N.n N.c dp dn dc l m w h h1 h2 h3 h4
    · have e : okF X.N.b l X.D.b m = false := by unfold okF; rw [← u2]; simp [h2]
      rw [e]; exact fVal2 X l m w h h1 h2
  · have e : okF X.N.b l X.D.b m = false := by unfold okF; rw [← u1]; simp [h1]
    rw [e]; exact fVal1 X l m w h h1
end Go.Proofs.YtndgaecfeaedeaaGreat

namespace Go.Proofs.YtndgaecfeaedeaaGreat
set_option linter.unusedSimpArgs false
set_option linter.unusedVariables false
open Go.RowKit Lex Mth
attribute [local go_sem] run_indexAt_at add_zero_map Oper.semAt_some at_zero

/-- Fraction number k of a list. -/
structure FA (w : World) (p : Option Addr) (k : Nat) (X : Fr) : Prop where
  c0 : w.cell? (at_ p (k * 4)) = some (.bool X.N.b)
  c1 : w.cell? (at_ p (k * 4 + 1)) = some (.slice X.N.p X.N.n X.N.c)
  c2 : w.cell? (at_ p (k * 4 + 2)) = some (.bool X.D.b)
  c3 : w.cell? (at_ p (k * 4 + 3)) = some (.slice X.D.p X.D.n X.D.c)
theorem cell_ext {w w' : World} (e : Ext w w') {a : Addr} {v : Value} (h : w.cell? a = some v) : w'.cell? a = some v := (e.cell (World.block_lt_of_cell? w _ h)).trans h
theorem FA.ext {w w' : World} {p : Option Addr} {k : Nat} {X : Fr} (h : FA w p k X) (e : Ext w w') : FA w' p k X := ⟨cell_ext e h.c0, cell_ext e h.c1, cell_ext e h.c2, cell_ext e h.c3⟩
theorem at_add (p : Option Addr) (k i : Nat) : (at_ p k).add i = at_ p (k + i) := by
  unfold at_ Addr.add
  by_cases h : k = 0 <;> by_cases h2 : i = 0 <;> simp [h, h2, Nat.add_assoc]
/-- A list of fractions, whatever they are. -/
structure FRow (w : World) (p : Option Addr) (n c : Nat) (X : Nat → Fr) : Prop where
  has : Has p n
  le : n ≤ c
  reach : n ≤ 70368744177664
  el : ∀ k, k < n → FA w p k (X k)
theorem FRow.ext {w w' : World} {p : Option Addr} {n c : Nat} {X : Nat → Fr} (h : FRow w p n c X) (e : Ext w w') : FRow w' p n c X := ⟨h.has, h.le, h.reach, fun k hk => (h.el k hk).ext e⟩
theorem at_mk1 (p : Option Addr) (k : Nat) : (⟨(at_ p k).block, (at_ p k).off + 1, none⟩ : Addr) = at_ p (k + 1) := by rw [← at_add]; simp [Addr.add]
theorem at_mk2 (p : Option Addr) (k : Nat) : (⟨(at_ p k).block, (at_ p k).off + 2, none⟩ : Addr) = at_ p (k + 2) := by rw [← at_add]; simp [Addr.add]
theorem at_mk3 (p : Option Addr) (k : Nat) : (⟨(at_ p k).block, (at_ p k).off + 3, none⟩ : Addr) = at_ p (k + 3) := by rw [← at_add]; simp [Addr.add]
attribute [local go_sem] at_add at_mk1 at_mk2 at_mk3

set_option maxRecDepth 100000 in
set_option maxHeartbeats 1000000 in
theorem fIndex (F : Nat) (hcf : ∀ args w, (callFunc F args).run Tryz.prog w = .ok (.enter F args) w) (p : Option Addr) (k cap : Nat) (X : Nat → Fr) (B : Nat → Bool) (w : World) (h : FRow w p k cap X)
    (hf : ∀ j, j < k → ∀ w1, Ext w w1 → Calls Tryz.prog F #[(X j).val] w1 (Gv (.v (.bool (B j))) w1)) :
    Calls Tryz.prog 77 #[.slice p k cap, .func (.func F) #[] #[]] w fun e w' =>
      ∃ r : Int, e = .returned (.int .i64 r) ∧ (0 ≤ r ↔ ∃ j, j < k ∧ B j = true) ∧ Ext w w' := by
  have hho := h.has
  have hk := h.reach
  have Hf := Lib.hid hf
  clear hf
  go_enter Tryz.func77, Tryz.ntmps77
  go_wp2_with fail
  go_loopw [8] (fun v wr => ∃ i : Nat, v = .int .i64 (i : Nat) ∧ i ≤ k ∧ Hid (∀ j, j < i → B j = false) ∧ Ext w wr) (fun v _ => (k - intOf v).toNat)
  case atStart => exact ⟨0, rfl, by omega, Lib.hid (fun j hj => absurd hj (Nat.not_lt_zero _)), Below.refl _ _⟩
  case round =>
    obtain ⟨i, rfl, hi, hall, hE⟩ := hrel
    by_cases hik : i < k
    · have hj := (h.el i hik).ext hE
      have c0 := hj.c0
      have c1 := hj.c1
      have c2 := hj.c2
      have c3 := hj.c3
      go_wp2_with fail
      refine (Hf.out i hik _ hE).mono ?_
      intro ee w' gg
      obtain ⟨rfl, hE2⟩ := Gv.v gg
      cases hv : B i
      · have Hv := Lib.hid hv
        clear hv
        go_wp2_with fail
        go_roundw
        case rel => exact ⟨i + 1, rfl, by omega, Lib.hid (fun j hj => (Nat.lt_or_eq_of_le (Nat.le_of_lt_succ hj)).elim (hall.out j) (fun e => e ▸ Hv.out)), eg hE hE2⟩
        case measure => simp [intOf]; omega
      · have Hv := Lib.hid hv
        clear hv
        go_wp2_with fail
        go_ret
        exact ⟨i, rfl, ⟨fun _ => ⟨i, hik, Hv.out⟩, fun _ => by omega⟩, eg hE hE2⟩
    · obtain rfl : i = k := by omega
      go_wp2_with fail
      go_ret
      refine ⟨-1, rfl, ⟨fun h => absurd h (by omega), fun ⟨j, hj, hv⟩ => ?_⟩, hE⟩
      rw [hall.out j hj] at hv; cases hv

theorem fContains (F : Nat) (hcf : ∀ args w, (callFunc F args).run Tryz.prog w = .ok (.enter F args) w) (p : Option Addr) (k cap : Nat) (X : Nat → Fr) (B : Nat → Bool) (w : World) (h : FRow w p k cap X)
    (hf : ∀ j, j < k → ∀ w1, Ext w w1 → Calls Tryz.prog F #[(X j).val] w1 (Gv (.v (.bool (B j))) w1)) {b : Bool} (hb : b = true ↔ ∃ j, j < k ∧ B j = true) :
    Calls Tryz.prog 36 #[.slice p k cap, .func (.func F) #[] #[]] w (Gv (.v (.bool b)) w) := by
  have Hf := Lib.hid hf
  have Hb := Lib.hid hb
  clear hf hb
  go_enter Tryz.func36, Tryz.ntmps36
  go_wp2_with fail
  refine (fIndex F hcf p k cap X B w h Hf.out).mono ?_
  rintro e w' ⟨r, rfl, hr, hE⟩
  have hd : decide (0 ≤ r) = b := by
    have e1 : (0 ≤ r) ↔ b = true := hr.trans Hb.out.symm
    cases b <;> simp only [iff_true, iff_false, Bool.false_eq_true] at e1 <;> simp [e1]
  have Hr := Lib.hid hd
  clear hr hd
  go_wp2_with fail
  go_ret
  rw [Hr.out]
  exact Gv.of_v hE
theorem cf133 : ∀ args w, (callFunc 133 args).run Tryz.prog w = .ok (.enter 133 args) w := fun args w => by simp [go_sem]
theorem fValid1 (X : Fr) (l m : List Nat) (w : World) (h : UF w X l m) {b : Bool} (hb : okF X.N.b l X.D.b m = b) : Calls Tryz.prog 133 #[.agg #[.bool X.N.b, .slice X.N.p X.N.n X.N.c, .bool X.D.b, .slice X.D.p X.D.n X.D.c]] w (Gv (.v (.bool (!b))) w) := by
  have Hb := Lib.hid hb
  clear hb
  obtain ⟨w1, hw1⟩ : ∃ W, w.alloc (.cells #[.bool X.N.b, .slice X.N.p X.N.n X.N.c, .bool X.D.b, .slice X.D.p X.D.n X.D.c] 40) = W := ⟨_, rfl⟩
  have e1 : Ext w w1 := by rw [← hw1]; exact ea _ _
  have B1 : Cells w1 w.heap.size 40 #[.bool X.N.b, .slice X.N.p X.N.n X.N.c, .bool X.D.b, .slice X.D.p X.D.n X.D.c] := by rw [← hw1]; exact Cells.newAt _ _ rfl
  have b0 := B1.cell (k := 0) rfl
  have b1 := B1.cell (k := 1) rfl
  have b2 := B1.cell (k := 2) rfl
  have b3 := B1.cell (k := 3) rfl
  go_enter Tryz.func133, Tryz.ntmps133
  go_wp2_with fail
  clear hw1
  refine (fValid X l m w1 (h.ext e1)).mono ?_
  intro ee w2 gg
  obtain ⟨rfl, e2⟩ := Gv.v gg
  rw [Hb.out]
  go_wp2_with fail
  go_ret
  exact Gv.of_v (eg e1 e2)

/-- Two fractions, beside each other, that are valid. -/
theorem fvalid2 (g : Nat) (X Y : Fr) (x y : Rat) (w : World) (hc : Cells w g 40 #[.bool X.N.b, .slice X.N.p X.N.n X.N.c, .bool X.D.b, .slice X.D.p X.D.n X.D.c, .bool Y.N.b, .slice Y.N.p Y.N.n Y.N.c, .bool Y.D.b, .slice Y.D.p Y.D.n Y.D.c]) (hX : FR w X x) (hY : FR w Y y) (bx : Sz x) (by_ : Sz y) :
    Calls Tryz.prog 74 #[.slice (some ⟨g, 0, none⟩) 2 2] w (Gv (.v (.bool true)) w) := by
  have hR : FRow w (some ⟨g, 0, none⟩) 2 2 (fun j => bif j == 0 then X else Y) := ⟨Has.some _ _, by omega, by omega, fun k hk => by
    match k, hk with
    | 0, _ => exact ⟨by rw [at_zero]; exact hc.cell rfl, by rw [at_zero]; exact hc.cell rfl, by rw [at_zero]; exact hc.cell rfl, by rw [at_zero]; exact hc.cell rfl⟩
    | 1, _ => exact ⟨by rw [at_zero]; exact hc.cell rfl, by rw [at_zero]; exact hc.cell rfl, by rw [at_zero]; exact hc.cell rfl, by rw [at_zero]; exact hc.cell rfl⟩⟩
  go_enter Tryz.func74, Tryz.ntmps74
  go_wp2_with fail
  refine (fContains _ cf133 _ 2 2 _ (fun _ => false) w hR (fun j hj w1 e1 => ?_) (b := false) (by simp)).mono ?_
  · match j, hj with
    | 0, _ => exact fValid1 X _ _ w1 ⟨(hX.ext e1).1.u16.2, (hX.ext e1).2.u16.2⟩ (okF_of hX bx)
    | 1, _ => exact fValid1 Y _ _ w1 ⟨(hY.ext e1).1.u16.2, (hY.ext e1).2.u16.2⟩ (okF_of hY by_)
  · intro ee w2 gg
    obtain ⟨rfl, e2⟩ := Gv.v gg
    go_wp2_with fail
    go_ret
    exact Gv.of_v e2
end Go.Proofs.YtndgaecfeaedeaaGreat

namespace Go.Proofs.YtndgaecfeaedeaaGreat
set_option linter.unusedSimpArgs false
set_option linter.unusedVariables false
open Go.RowKit Lex Mth
attribute [local go_sem] run_indexAt_at add_zero_map Oper.semAt_some at_zero
set_option linter.unusedSimpArgs false
set_option linter.unusedVariables false

theorem nle {w : World} {X : Fr} {q : Rat} (h : FR w X q) (s : Sz q) : X.N.n ≤ 256 := by rw [h.1.n]; exact s.1
theorem dle {w : World} {X : Fr} {q : Rat} (h : FR w X q) (s : Sz q) : X.D.n ≤ 256 := by
  rw [h.2.n, Int.natAbs_natCast]; exact s.2
theorem sp5 {a b : Int} (ha : siz a.natAbs ≤ 256) (hb : siz b.natAbs ≤ 256) : siz a.natAbs + siz b.natAbs ≤ 1024 := by omega
theorem sp6 {a b : Int} (ha : siz a.natAbs ≤ 256) (hb : siz b.natAbs ≤ 256) : siz (a * b).natAbs ≤ 1024 := by have := siz_imul a b; omega
/-- How two fractions compare. -/
def cmpQ (x y : Rat) : Int := cmpZ (x.num * y.den) (y.num * x.den)
theorem neg_sz {q : Rat} (h : Sz q) : Sz (-q) := ⟨by show siz (-q.num).natAbs ≤ 256; rw [Int.natAbs_neg]; exact h.1, h.2⟩
theorem add_neg' (x y : Rat) : x + -y = x - y := (Rat.sub_eq_add_neg x y).symm

set_option maxRecDepth 100000 in
theorem fAdd (X : Fr) (Y : Fr) (x : Rat) (y : Rat) (w : World) (hX : FR w X x) (hY : FR w Y y) (bx : Sz x) (by_ : Sz y) (bz : Sz (x + y)) :
    Calls Tryz.prog 71 #[.agg #[.bool X.N.b, .slice X.N.p X.N.n X.N.c, .bool X.D.b, .slice X.D.p X.D.n X.D.c], .agg #[.bool Y.N.b, .slice Y.N.p Y.N.n Y.N.c, .bool Y.D.b, .slice Y.D.p Y.D.n Y.D.c]] w (Gv (.fe (x + y) 0) w) := by
  obtain ⟨w1, hww1, ew1, B1, zw1⟩ := alloc_at w (w.heap.size) (by omega) #[.bool X.N.b, .slice X.N.p X.N.n X.N.c, .bool X.D.b, .slice X.D.p X.D.n X.D.c] 40
  obtain ⟨w2, hww2, ew2, B2, zw2⟩ := alloc_at w1 (w.heap.size + 1) (by omega) #[.bool Y.N.b, .slice Y.N.p Y.N.n Y.N.c, .bool Y.D.b, .slice Y.D.p Y.D.n Y.D.c] 40
  obtain ⟨w3, hww3, ew3, B3, zw3⟩ := alloc_at w2 (w.heap.size + 1 + 1) (by omega) #[.bool false, .slice none 0 0, .bool false, .slice none 0 0] 40
  have xw1_w3 := eg ew2 ew3
  replace B1 := B1.ext xw1_w3
  have b1_w3 := B1.c4
  replace B2 := B2.ext ew3
  have b2_w3 := B2.c4
  obtain ⟨w4, hww4, ew4, B4, zw4⟩ := alloc_at w3 (w.heap.size + 1 + 1 + 1) (by omega) #[.bool X.N.b, .slice X.N.p X.N.n X.N.c, .bool X.D.b, .slice X.D.p X.D.n X.D.c, .bool Y.N.b, .slice Y.N.p Y.N.n Y.N.c, .bool Y.D.b, .slice Y.D.p Y.D.n Y.D.c] 40
  have xw_w4 := eg (eg (eg ew1 ew2) ew3) ew4
  replace hX := hX.ext xw_w4
  replace hY := hY.ext xw_w4
  go_enter Tryz.func71, Tryz.ntmps71
  go_wp2_with fail
  clear hww1 hww2 hww3 hww4
  clear b1_w3 b2_w3
  replace zw1 := le2 zw1
  replace zw2 := le2 zw2
  replace zw3 := le2 zw3
  replace zw4 := le2 zw4
  refine (fvalid2 _ X Y _ _ _ B4 hX hY bx by_).mono (Gv.onV fun w5 ew5 zw5 => ?_)
  have xw3_w5 := eg ew4 ew5
  replace B1 := B1.ext xw3_w5
  have b1_w5 := B1.c4
  replace B2 := B2.ext xw3_w5
  have b2_w5 := B2.c4
  replace hX := hX.ext ew5
  replace hY := hY.ext ew5
  have xw_w5 := eg xw_w4 ew5
  go_wp2_with fail
  refine (fplus X Y _ _ _ (hX) (hY) (bx) (by_)).mono (Gv.onFo fun Z16 w6 hZ16 oZ16 ew6 zw6 => ?_)
  have xw_w6 := eg xw_w5 ew6
  replace oZ16 := oZ16.mono xw_w5.size
  go_wp2_with fail
  clear b1_w5 b2_w5
  refine (told_t Z16 _ (nle (hZ16) bz) (dle (hZ16) bz)).mono (Gv.onV fun w7 ew7 zw7 => ?_)
  have xw3_w7 := eg (eg xw3_w5 ew6) ew7
  replace B3 := B3.ext xw3_w7
  have b3_w7 := B3.c4
  have fb3_w7 := B3.f4
  replace hZ16 := hZ16.ext ew7
  replace oZ16 := oZ16.ext ew7
  have xw_w7 := eg xw_w6 ew7
  obtain ⟨w8, hww8, kw8, Nw8, zw8⟩ := B3.put4 (.bool Z16.N.b) (.slice Z16.N.p Z16.N.n Z16.N.c) (.bool Z16.D.b) (.slice Z16.D.p Z16.D.n Z16.D.c)
  have nuw8 : NoU #[.bool false, .slice none 0 0, .bool false, .slice none 0 0] := by simp [NoU]
  replace hZ16 := FR.kb hZ16 B3 nuw8 kw8
  replace oZ16 := OF.kb oZ16 B3 (by decide) kw8
  have xw_w8 := Ext.kb xw_w7 kw8 (by omega)
  replace B3 := Nw8
  clear Nw8 kw8
  have b3_w8 := B3.c4
  go_wp2_with fail
  clear hww8
  clear b3_w7 fb3_w7
  replace zw8 := le2 zw8
  refine bodyPost_ret (v := .tuple #[.agg #[.bool Z16.N.b, .slice Z16.N.p Z16.N.n Z16.N.c, .bool Z16.D.b, .slice Z16.D.p Z16.D.n Z16.D.c], .int .i64 0]) (by simp [results, Tryz.results71, go_sem, b3_w8]) rfl ?_
  exact Gv.of_fe (X := Z16) (hZ16) (oZ16) xw_w8

set_option maxRecDepth 100000 in
theorem fMul (X : Fr) (Y : Fr) (x : Rat) (y : Rat) (w : World) (hX : FR w X x) (hY : FR w Y y) (bx : Sz x) (by_ : Sz y) (bz : Sz (x * y)) :
    Calls Tryz.prog 73 #[.agg #[.bool X.N.b, .slice X.N.p X.N.n X.N.c, .bool X.D.b, .slice X.D.p X.D.n X.D.c], .agg #[.bool Y.N.b, .slice Y.N.p Y.N.n Y.N.c, .bool Y.D.b, .slice Y.D.p Y.D.n Y.D.c]] w (Gv (.fe (x * y) 0) w) := by
  obtain ⟨w1, hww1, ew1, B1, zw1⟩ := alloc_at w (w.heap.size) (by omega) #[.bool X.N.b, .slice X.N.p X.N.n X.N.c, .bool X.D.b, .slice X.D.p X.D.n X.D.c] 40
  obtain ⟨w2, hww2, ew2, B2, zw2⟩ := alloc_at w1 (w.heap.size + 1) (by omega) #[.bool Y.N.b, .slice Y.N.p Y.N.n Y.N.c, .bool Y.D.b, .slice Y.D.p Y.D.n Y.D.c] 40
  obtain ⟨w3, hww3, ew3, B3, zw3⟩ := alloc_at w2 (w.heap.size + 1 + 1) (by omega) #[.bool false, .slice none 0 0, .bool false, .slice none 0 0] 40
  have xw1_w3 := eg ew2 ew3
  replace B1 := B1.ext xw1_w3
  have b1_w3 := B1.c4
  replace B2 := B2.ext ew3
  have b2_w3 := B2.c4
  obtain ⟨w4, hww4, ew4, B4, zw4⟩ := alloc_at w3 (w.heap.size + 1 + 1 + 1) (by omega) #[.bool X.N.b, .slice X.N.p X.N.n X.N.c, .bool X.D.b, .slice X.D.p X.D.n X.D.c, .bool Y.N.b, .slice Y.N.p Y.N.n Y.N.c, .bool Y.D.b, .slice Y.D.p Y.D.n Y.D.c] 40
  have xw_w4 := eg (eg (eg ew1 ew2) ew3) ew4
  replace hX := hX.ext xw_w4
  replace hY := hY.ext xw_w4
  go_enter Tryz.func73, Tryz.ntmps73
  go_wp2_with fail
  clear hww1 hww2 hww3 hww4
  clear b1_w3 b2_w3
  replace zw1 := le2 zw1
  replace zw2 := le2 zw2
  replace zw3 := le2 zw3
  replace zw4 := le2 zw4
  refine (fvalid2 _ X Y _ _ _ B4 hX hY bx by_).mono (Gv.onV fun w5 ew5 zw5 => ?_)
  have xw3_w5 := eg ew4 ew5
  replace B1 := B1.ext xw3_w5
  have b1_w5 := B1.c4
  replace B2 := B2.ext xw3_w5
  have b2_w5 := B2.c4
  replace hX := hX.ext ew5
  replace hY := hY.ext ew5
  have xw_w5 := eg xw_w4 ew5
  go_wp2_with fail
  refine (ftimes X Y _ _ _ (hX) (hY) (bx) (by_)).mono (Gv.onFo fun Z16 w6 hZ16 oZ16 ew6 zw6 => ?_)
  have xw_w6 := eg xw_w5 ew6
  replace oZ16 := oZ16.mono xw_w5.size
  go_wp2_with fail
  clear b1_w5 b2_w5
  refine (told_t Z16 _ (nle (hZ16) bz) (dle (hZ16) bz)).mono (Gv.onV fun w7 ew7 zw7 => ?_)
  have xw3_w7 := eg (eg xw3_w5 ew6) ew7
  replace B3 := B3.ext xw3_w7
  have b3_w7 := B3.c4
  have fb3_w7 := B3.f4
  replace hZ16 := hZ16.ext ew7
  replace oZ16 := oZ16.ext ew7
  have xw_w7 := eg xw_w6 ew7
  obtain ⟨w8, hww8, kw8, Nw8, zw8⟩ := B3.put4 (.bool Z16.N.b) (.slice Z16.N.p Z16.N.n Z16.N.c) (.bool Z16.D.b) (.slice Z16.D.p Z16.D.n Z16.D.c)
  have nuw8 : NoU #[.bool false, .slice none 0 0, .bool false, .slice none 0 0] := by simp [NoU]
  replace hZ16 := FR.kb hZ16 B3 nuw8 kw8
  replace oZ16 := OF.kb oZ16 B3 (by decide) kw8
  have xw_w8 := Ext.kb xw_w7 kw8 (by omega)
  replace B3 := Nw8
  clear Nw8 kw8
  have b3_w8 := B3.c4
  go_wp2_with fail
  clear hww8
  clear b3_w7 fb3_w7
  replace zw8 := le2 zw8
  refine bodyPost_ret (v := .tuple #[.agg #[.bool Z16.N.b, .slice Z16.N.p Z16.N.n Z16.N.c, .bool Z16.D.b, .slice Z16.D.p Z16.D.n Z16.D.c], .int .i64 0]) (by simp [results, Tryz.results73, go_sem, b3_w8]) rfl ?_
  exact Gv.of_fe (X := Z16) (hZ16) (oZ16) xw_w8

set_option maxRecDepth 100000 in
theorem fSub (X : Fr) (Y : Fr) (x : Rat) (y : Rat) (w : World) (hX : FR w X x) (hY : FR w Y y) (bx : Sz x) (by_ : Sz y) (bz : Sz (x + -y)) :
    Calls Tryz.prog 72 #[.agg #[.bool X.N.b, .slice X.N.p X.N.n X.N.c, .bool X.D.b, .slice X.D.p X.D.n X.D.c], .agg #[.bool Y.N.b, .slice Y.N.p Y.N.n Y.N.c, .bool Y.D.b, .slice Y.D.p Y.D.n Y.D.c]] w (Gv (.fe (x + -y) 0) w) := by
  obtain ⟨w1, hww1, ew1, B1, zw1⟩ := alloc_at w (w.heap.size) (by omega) #[.bool X.N.b, .slice X.N.p X.N.n X.N.c, .bool X.D.b, .slice X.D.p X.D.n X.D.c] 40
  obtain ⟨w2, hww2, ew2, B2, zw2⟩ := alloc_at w1 (w.heap.size + 1) (by omega) #[.bool Y.N.b, .slice Y.N.p Y.N.n Y.N.c, .bool Y.D.b, .slice Y.D.p Y.D.n Y.D.c] 40
  obtain ⟨w3, hww3, ew3, B3, zw3⟩ := alloc_at w2 (w.heap.size + 1 + 1) (by omega) #[.bool false, .slice none 0 0, .bool false, .slice none 0 0] 40
  have xw1_w3 := eg ew2 ew3
  replace B1 := B1.ext xw1_w3
  have b1_w3 := B1.c4
  replace B2 := B2.ext ew3
  have b2_w3 := B2.c4
  obtain ⟨w4, hww4, ew4, B4, zw4⟩ := alloc_at w3 (w.heap.size + 1 + 1 + 1) (by omega) #[.bool X.N.b, .slice X.N.p X.N.n X.N.c, .bool X.D.b, .slice X.D.p X.D.n X.D.c, .bool Y.N.b, .slice Y.N.p Y.N.n Y.N.c, .bool Y.D.b, .slice Y.D.p Y.D.n Y.D.c] 40
  have xw_w4 := eg (eg (eg ew1 ew2) ew3) ew4
  replace hX := hX.ext xw_w4
  replace hY := hY.ext xw_w4
  go_enter Tryz.func72, Tryz.ntmps72
  go_wp2_with fail
  clear hww1 hww2 hww3 hww4
  clear b1_w3 b2_w3
  replace zw1 := le2 zw1
  replace zw2 := le2 zw2
  replace zw3 := le2 zw3
  replace zw4 := le2 zw4
  refine (fvalid2 _ X Y _ _ _ B4 hX hY bx by_).mono (Gv.onV fun w5 ew5 zw5 => ?_)
  have xw3_w5 := eg ew4 ew5
  replace B1 := B1.ext xw3_w5
  have b1_w5 := B1.c4
  replace B2 := B2.ext xw3_w5
  have b2_w5 := B2.c4
  replace hY := hY.ext ew5
  replace hX := hX.ext ew5
  have xw_w5 := eg xw_w4 ew5
  go_wp2_with fail
  refine regionT 13 (fun kk => match kk with | 4 => some (.w (-(y).num)) | 9 => some (.f (x + -y)) | 10 => some (.fe0 (x + -y) 0) | _ => none) (by as_aux_lemma => kernel_rfl) (head_of (by as_aux_lemma => kernel_rfl)) ?_
  iterate 4
    refine Walk.one (x := ?_) rfl rfl (fun w1 hI hL K hK => ?_) ?_
    rotate_left
    · obtain ⟨hc, hf⟩ := bcell hI
      go_simp
      repeat (first | (go_ints; try go_simp) | (simp only [↓IntWalk.iteOmega]; try go_simp))
      exact hK
    simp only [Act.put, List.setIfInBounds_toArray, List.set_cons_zero, List.set_cons_succ]
  refine Walk.tell rfl rfl (fun w1 hI hL K hK => ?_) ?_
  · go_simp
    exact (fneg Y.N _ w1 ((hY.1).ext hI)).mono (tell hK)
  rintro _ ⟨Z16, rfl⟩
  simp only [Act.put, List.setIfInBounds_toArray, List.set_cons_zero, List.set_cons_succ]
  iterate 4
    refine Walk.one (x := ?_) rfl rfl (fun w1 hI hL K hK => ?_) ?_
    rotate_left
    · obtain ⟨hc, hf⟩ := bcell hI
      go_simp
      repeat (first | (go_ints; try go_simp) | (simp only [↓IntWalk.iteOmega]; try go_simp))
      exact hK
    simp only [Act.put, List.setIfInBounds_toArray, List.set_cons_zero, List.set_cons_succ]
  refine Walk.tell rfl rfl (fun w1 hI hL K hK => ?_) ?_
  · go_simp
    exact (fplus X ⟨Z16, Y.D⟩ _ _ w1 ((hX).ext hI) (mkFR (q := -y) ((Tl.getW (kn (i := 4) (v := .agg #[.bool Z16.b, .slice Z16.p Z16.n Z16.c]) rfl (by simp) (pred_of (by as_aux_lemma => kernel_rfl)) hL)).1) ((hY.2).ext hI)) (bx) (neg_sz by_)).mono (tell hK)
  rintro _ ⟨Z21, rfl⟩
  simp only [Act.put, List.setIfInBounds_toArray, List.set_cons_zero, List.set_cons_succ]
  refine Walk.tell0 rfl rfl rfl (fun w1 hI hL K hK => ?_) ?_
  · go_simp
    exact (told_t Z21 w1 (nle ((Tl.getF (kn (i := 9) (v := .agg #[.bool Z21.N.b, .slice Z21.N.p Z21.N.n Z21.N.c, .bool Z21.D.b, .slice Z21.D.p Z21.D.n Z21.D.c]) rfl (by simp) (pred_of (by as_aux_lemma => kernel_rfl)) hL)).1) bz) (dle ((Tl.getF (kn (i := 9) (v := .agg #[.bool Z21.N.b, .slice Z21.N.p Z21.N.n Z21.N.c, .bool Z21.D.b, .slice Z21.D.p Z21.D.n Z21.D.c]) rfl (by simp) (pred_of (by as_aux_lemma => kernel_rfl)) hL)).1) bz)).mono (tellTold hK (Tl.getF (kn (i := 9) (v := .agg #[.bool Z21.N.b, .slice Z21.N.p Z21.N.n Z21.N.c, .bool Z21.D.b, .slice Z21.D.p Z21.D.n Z21.D.c]) rfl (by simp) (pred_of (by as_aux_lemma => kernel_rfl)) hL)).1 (Tl.getF (kn (i := 9) (v := .agg #[.bool Z21.N.b, .slice Z21.N.p Z21.N.n Z21.N.c, .bool Z21.D.b, .slice Z21.D.p Z21.D.n Z21.D.c]) rfl (by simp) (pred_of (by as_aux_lemma => kernel_rfl)) hL)).2)
  rintro _ ⟨Z22, rfl⟩
  simp only [Act.put, List.setIfInBounds_toArray, List.set_cons_zero, List.set_cons_succ]
  iterate 2
    refine Walk.one (x := ?_) rfl rfl (fun w1 hI hL K hK => ?_) ?_
    rotate_left
    · obtain ⟨hc, hf⟩ := bcell hI
      go_simp
      repeat (first | (go_ints; try go_simp) | (simp only [↓IntWalk.iteOmega]; try go_simp))
      exact hK
    simp only [Act.put, List.setIfInBounds_toArray, List.set_cons_zero, List.set_cons_succ]
  refine Walk.nilF fun w6 ew6 kzL kzX => ?_
  have zw6 := ew6.size
  obtain ⟨hZ22, oZ22⟩ := Tl.getFe0 (kz (i := 10) (v := .tuple #[.agg #[.bool Z22.N.b, .slice Z22.N.p Z22.N.n Z22.N.c, .bool Z22.D.b, .slice Z22.D.p Z22.D.n Z22.D.c], .int .i64 0]) rfl (by simp) kzL)
  replace oZ22 := oZ22.mono xw_w5.size
  clear kzL kzX
  simp only [List.drop_succ_cons, List.drop_zero, List.drop_nil]
  have xw3_w6 := eg xw3_w5 ew6
  replace B3 := B3.ext xw3_w6
  have b3_w6 := B3.c4
  have fb3_w6 := B3.f4
  have xw_w6 := eg xw_w5 ew6
  obtain ⟨w7, hww7, kw7, Nw7, zw7⟩ := B3.put4 (.bool Z22.N.b) (.slice Z22.N.p Z22.N.n Z22.N.c) (.bool Z22.D.b) (.slice Z22.D.p Z22.D.n Z22.D.c)
  have nuw7 : NoU #[.bool false, .slice none 0 0, .bool false, .slice none 0 0] := by simp [NoU]
  replace hZ22 := FR.kb hZ22 B3 nuw7 kw7
  replace oZ22 := OF.kb oZ22 B3 (by decide) kw7
  have xw_w7 := Ext.kb xw_w6 kw7 (by omega)
  replace B3 := Nw7
  clear Nw7 kw7
  have b3_w7 := B3.c4
  go_wp2_with fail
  clear hww7
  clear b1_w5 b2_w5 b3_w6 fb3_w6
  replace zw7 := le2 zw7
  refine bodyPost_ret (v := .tuple #[.agg #[.bool Z22.N.b, .slice Z22.N.p Z22.N.n Z22.N.c, .bool Z22.D.b, .slice Z22.D.p Z22.D.n Z22.D.c], .int .i64 0]) (by simp [results, Tryz.results72, go_sem, b3_w7]) rfl ?_
  exact Gv.of_fe (X := Z22) (hZ22) (oZ22) xw_w7

set_option maxRecDepth 100000 in
theorem fCmp (X : Fr) (Y : Fr) (x : Rat) (y : Rat) (w : World) (hX : FR w X x) (hY : FR w Y y) (bx : Sz x) (by_ : Sz y) :
    Calls Tryz.prog 34 #[.agg #[.bool X.N.b, .slice X.N.p X.N.n X.N.c, .bool X.D.b, .slice X.D.p X.D.n X.D.c], .agg #[.bool Y.N.b, .slice Y.N.p Y.N.n Y.N.c, .bool Y.D.b, .slice Y.D.p Y.D.n Y.D.c]] w (Gv (.v (.int .i64 (cmpQ x y))) w) := by
  obtain ⟨w1, hww1, ew1, B1, zw1⟩ := alloc_at w (w.heap.size) (by omega) #[.bool X.N.b, .slice X.N.p X.N.n X.N.c, .bool X.D.b, .slice X.D.p X.D.n X.D.c] 40
  obtain ⟨w2, hww2, ew2, B2, zw2⟩ := alloc_at w1 (w.heap.size + 1) (by omega) #[.bool Y.N.b, .slice Y.N.p Y.N.n Y.N.c, .bool Y.D.b, .slice Y.D.p Y.D.n Y.D.c] 40
  replace B1 := B1.ext ew2
  have b1_w2 := B1.c4
  have b2_w2 := B2.c4
  obtain ⟨w3, hww3, ew3, B3, zw3⟩ := alloc_at w2 (w.heap.size + 1 + 1) (by omega) #[.bool X.N.b, .slice X.N.p X.N.n X.N.c, .bool X.D.b, .slice X.D.p X.D.n X.D.c, .bool Y.N.b, .slice Y.N.p Y.N.n Y.N.c, .bool Y.D.b, .slice Y.D.p Y.D.n Y.D.c] 40
  have xw_w3 := eg (eg ew1 ew2) ew3
  replace hX := hX.ext xw_w3
  replace hY := hY.ext xw_w3
  go_enter Tryz.func34, Tryz.ntmps34
  go_wp2_with fail
  clear hww1 hww2 hww3
  clear b1_w2 b2_w2
  replace zw1 := le2 zw1
  replace zw2 := le2 zw2
  replace zw3 := le2 zw3
  refine (fvalid2 _ X Y _ _ _ B3 hX hY bx by_).mono (Gv.onV fun w4 ew4 zw4 => ?_)
  have xw2_w4 := eg ew3 ew4
  replace B1 := B1.ext xw2_w4
  have b1_w4 := B1.c4
  replace B2 := B2.ext xw2_w4
  have b2_w4 := B2.c4
  replace hX := hX.ext ew4
  replace hY := hY.ext ew4
  have xw_w4 := eg xw_w3 ew4
  go_wp2_with fail
  refine regionT 11 (fun kk => match kk with | 4 => some (.w ((x).num * (((y).den : Int)))) | 9 => some (.w ((y).num * (((x).den : Int)))) | 10 => some (.v (.int .i64 (cmpZ (x.num * y.den) (y.num * x.den)))) | _ => none) (by as_aux_lemma => kernel_rfl) (head_of (by as_aux_lemma => kernel_rfl)) ?_
  iterate 4
    refine Walk.one (x := ?_) rfl rfl (fun w1 hI hL K hK => ?_) ?_
    rotate_left
    · obtain ⟨hc, hf⟩ := bcell hI
      go_simp
      repeat (first | (go_ints; try go_simp) | (simp only [↓IntWalk.iteOmega]; try go_simp))
      exact hK
    simp only [Act.put, List.setIfInBounds_toArray, List.set_cons_zero, List.set_cons_succ]
  refine Walk.tell rfl rfl (fun w1 hI hL K hK => ?_) ?_
  · go_simp
    exact (fproduct X.N Y.D _ _ w1 ((hX.1).ext hI) ((hY.2).ext hI) (sp5 bx.n by_.d)).mono (tell hK)
  rintro _ ⟨Z14, rfl⟩
  simp only [Act.put, List.setIfInBounds_toArray, List.set_cons_zero, List.set_cons_succ]
  iterate 4
    refine Walk.one (x := ?_) rfl rfl (fun w1 hI hL K hK => ?_) ?_
    rotate_left
    · obtain ⟨hc, hf⟩ := bcell hI
      go_simp
      repeat (first | (go_ints; try go_simp) | (simp only [↓IntWalk.iteOmega]; try go_simp))
      exact hK
    simp only [Act.put, List.setIfInBounds_toArray, List.set_cons_zero, List.set_cons_succ]
  refine Walk.tell rfl rfl (fun w1 hI hL K hK => ?_) ?_
  · go_simp
    exact (fproduct Y.N X.D _ _ w1 ((hY.1).ext hI) ((hX.2).ext hI) (sp5 by_.n bx.d)).mono (tell hK)
  rintro _ ⟨Z19, rfl⟩
  simp only [Act.put, List.setIfInBounds_toArray, List.set_cons_zero, List.set_cons_succ]
  refine Walk.tell rfl rfl (fun w1 hI hL K hK => ?_) ?_
  · go_simp
    exact (kCmp Z14 Z19 _ _ w1 ((Tl.getW (kn (i := 4) (v := .agg #[.bool Z14.b, .slice Z14.p Z14.n Z14.c]) rfl (by simp) (pred_of (by as_aux_lemma => kernel_rfl)) hL)).1) ((Tl.getW (kn (i := 9) (v := .agg #[.bool Z19.b, .slice Z19.p Z19.n Z19.c]) rfl (by simp) (pred_of (by as_aux_lemma => kernel_rfl)) hL)).1) (sp6 bx.n by_.d) (sp6 by_.n bx.d)).mono (tell hK)
  rintro _ rfl
  simp only [Act.put, List.setIfInBounds_toArray, List.set_cons_zero, List.set_cons_succ]
  refine Walk.nilF fun w5 ew5 kzL kzX => ?_
  have zw5 := ew5.size
  clear kzL kzX
  simp only [List.drop_succ_cons, List.drop_zero, List.drop_nil]
  have xw_w5 := eg xw_w4 ew5
  go_wp2_with fail
  clear b1_w4 b2_w4
  refine bodyPost_ret (v := .int .i64 (cmpZ (x.num * y.den) (y.num * x.den))) (by simp [results, Tryz.results34, go_sem]) rfl ?_
  exact Gv.of_v xw_w5
end Go.Proofs.YtndgaecfeaedeaaGreat

namespace Go.Proofs.YtndgaecfeaedeaaGreat
set_option linter.unusedSimpArgs false
set_option linter.unusedVariables false
open Go.RowKit Lex Mth
attribute [local go_sem] run_indexAt_at add_zero_map Oper.semAt_some at_zero
set_option linter.unusedSimpArgs false
set_option linter.unusedVariables false

theorem rFromInt (n : Int) (w : World) (h1 : -9223372036854775808 ≤ n) (h2 : n ≤ 9223372036854775807) : Calls Tryz.prog 124 #[.int .i64 n] w (Gv (.w n) w) :=
  (rFromInt_any n w h1 h2).mono fun _ _ ⟨b, p, n, c, he, h1, h2, h3⟩ => by subst he; exact Gv.of_w (X := ⟨b, p, n, c⟩) h1 h2 h3
theorem rSame1_t (X Y : Wh) (x y : Int) (w : World) (hx : WR w X x) (hy : WR w Y y) (h : x = y) : Calls Tryz.prog 87 #[X.val, Y.val] w (Gv (.v (.bool true)) w) :=
  (rSame_any _ _ _ _ _ _ _ _ _ _ w hx.u16.2 hy.u16.2).mono fun _ _ ⟨he, h3⟩ => by
    subst h he
    rw [show X.b = Y.b by rw [hx.neg, hy.neg]]
    simp
    exact Gv.of_v h3
theorem rSame1_f (X Y : Wh) (x y : Int) (w : World) (hx : WR w X x) (hy : WR w Y y) (h : x ≠ y) : Calls Tryz.prog 87 #[X.val, Y.val] w (Gv (.v (.bool false)) w) :=
  (rSame_any _ _ _ _ _ _ _ _ _ _ w hx.u16.2 hy.u16.2).mono fun _ _ ⟨he, h3⟩ => by
    subst he
    rw [hx.neg, hy.neg, natAbs_dec h]
    exact Gv.of_v h3
theorem rCommon (X Y : Wh) (l m : List Nat) (w : World) (hX : U16 w X.p X.n X.c l) (hY : U16 w Y.p Y.n Y.c m) (x y : Nat) (hl : l = limbs x) (hm : m = limbs y) (b : X.n ≤ 1048576) (b' : Y.n ≤ 1048576) :
    Calls Tryz.prog 83 #[.slice X.p X.n X.c, .slice Y.p Y.n Y.c] w (Gv (.c0 (limbs (Nat.gcd x y))) w) := by
  subst hl hm
  exact (Common_any _ _ _ _ _ _ x y w hX hY b b').mono fun _ _ ⟨p, n, c, he, h1, h3⟩ => by subst he; exact Gv.of_c0 (X := ⟨false, p, n, c⟩) h1 h3
theorem rDivided (X Y : Wh) (l m : List Nat) (w : World) (hX : U16 w X.p X.n X.c l) (hY : U16 w Y.p Y.n Y.c m) (x y : Nat) (hl : l = limbs x) (hm : m = limbs y) (h0 : y ≠ 0) (b : X.n ≤ 1048576) (b' : Y.n ≤ 1048576) :
    Calls Tryz.prog 141 #[.slice X.p X.n X.c, .slice Y.p Y.n Y.c] w fun e w' => ∃ Z R : Wh, e = .returned (.tuple #[.slice Z.p Z.n Z.c, .slice R.p R.n R.c]) ∧ UW w' Z (limbs (x / y)) ∧ UW w' R (limbs (x % y)) ∧ OW w.heap.size w' Z ∧ OW w.heap.size w' R ∧ Ext w w' := by
  subst hl hm
  exact (Divided_any _ _ _ _ _ _ x y w hX hY h0 b b').mono fun _ _ ⟨hd, h3⟩ => by
    obtain ⟨p, n, c, p', n', c', he, h1, h2, o1, o2⟩ := hd
    exact ⟨⟨false, p, n, c⟩, ⟨false, p', n', c'⟩, he, h1, h2, o1, o2, h3⟩
theorem rMake (b : Bool) (X : Wh) (w : World) (h : X.n ≤ 70368744177664) {s : Bool} (hs : (b && decide (0 < X.n)) = s) : Calls Tryz.prog 144 #[.bool b, .slice X.p X.n X.c] w (Gv (.v (.agg #[.bool s, .slice X.p X.n X.c])) w) :=
  (Make_any b X.p X.n X.c w h).mono fun _ _ ⟨he, h3⟩ => by subst he hs; exact Gv.of_v h3

set_option maxRecDepth 100000 in
theorem rSame_t (X : Fr) (Y : Fr) (a : Int) (b : Int) (c : Int) (d : Int) (w : World) (hX : PR w X a b) (hY : PR w Y c d) (h1 : a = c) (h2 : b = d) :
    Calls Tryz.prog 44 #[.agg #[.bool X.N.b, .slice X.N.p X.N.n X.N.c, .bool X.D.b, .slice X.D.p X.D.n X.D.c], .agg #[.bool Y.N.b, .slice Y.N.p Y.N.n Y.N.c, .bool Y.D.b, .slice Y.D.p Y.D.n Y.D.c]] w (Gv (.v (.bool true)) w) := by
  have H1 := Lib.hid h1
  clear h1
  have H2 := Lib.hid h2
  clear h2
  obtain ⟨w1, hww1, ew1, B1, zw1⟩ := alloc_at w (w.heap.size) (by omega) #[.bool X.N.b, .slice X.N.p X.N.n X.N.c, .bool X.D.b, .slice X.D.p X.D.n X.D.c] 40
  obtain ⟨w2, hww2, ew2, B2, zw2⟩ := alloc_at w1 (w.heap.size + 1) (by omega) #[.bool Y.N.b, .slice Y.N.p Y.N.n Y.N.c, .bool Y.D.b, .slice Y.D.p Y.D.n Y.D.c] 40
  replace B1 := B1.ext ew2
  have b1_w2 := B1.c4
  have b2_w2 := B2.c4
  have xw_w2 := eg ew1 ew2
  replace hX := hX.ext xw_w2
  replace hY := hY.ext xw_w2
  go_enter Tryz.func44, Tryz.ntmps44
  go_wp2_with fail
  clear hww1 hww2
  replace zw1 := le2 zw1
  replace zw2 := le2 zw2
  refine (rSame1_t X.N Y.N _ _ _ (hX.1) (hY.1) (H1.out)).mono (Gv.onV fun w3 ew3 zw3 => ?_)
  replace B1 := B1.ext ew3
  have b1_w3 := B1.c4
  replace B2 := B2.ext ew3
  have b2_w3 := B2.c4
  replace hX := hX.ext ew3
  replace hY := hY.ext ew3
  have xw_w3 := eg xw_w2 ew3
  go_wp2_with fail
  clear b1_w2 b2_w2
  refine (rSame1_t X.D Y.D _ _ _ (hX.2) (hY.2) (H2.out)).mono (Gv.onV fun w4 ew4 zw4 => ?_)
  have xw_w4 := eg xw_w3 ew4
  go_wp2_with fail
  clear b1_w3 b2_w3
  refine bodyPost_ret (v := .bool true) (by simp [results, Tryz.results44, go_sem]) rfl ?_
  exact Gv.of_v xw_w4

set_option maxRecDepth 100000 in
theorem rSame_n (X : Fr) (Y : Fr) (a : Int) (b : Int) (c : Int) (d : Int) (w : World) (hX : PR w X a b) (hY : PR w Y c d) (h1 : a ≠ c) :
    Calls Tryz.prog 44 #[.agg #[.bool X.N.b, .slice X.N.p X.N.n X.N.c, .bool X.D.b, .slice X.D.p X.D.n X.D.c], .agg #[.bool Y.N.b, .slice Y.N.p Y.N.n Y.N.c, .bool Y.D.b, .slice Y.D.p Y.D.n Y.D.c]] w (Gv (.v (.bool false)) w) := by
  have H1 := Lib.hid h1
  clear h1
  obtain ⟨w1, hww1, ew1, B1, zw1⟩ := alloc_at w (w.heap.size) (by omega) #[.bool X.N.b, .slice X.N.p X.N.n X.N.c, .bool X.D.b, .slice X.D.p X.D.n X.D.c] 40
  obtain ⟨w2, hww2, ew2, B2, zw2⟩ := alloc_at w1 (w.heap.size + 1) (by omega) #[.bool Y.N.b, .slice Y.N.p Y.N.n Y.N.c, .bool Y.D.b, .slice Y.D.p Y.D.n Y.D.c] 40
  replace B1 := B1.ext ew2
  have b1_w2 := B1.c4
  have b2_w2 := B2.c4
  have xw_w2 := eg ew1 ew2
  replace hX := hX.ext xw_w2
  replace hY := hY.ext xw_w2
  go_enter Tryz.func44, Tryz.ntmps44
  go_wp2_with fail
  clear hww1 hww2
  replace zw1 := le2 zw1
  replace zw2 := le2 zw2
  refine (rSame1_f X.N Y.N _ _ _ (hX.1) (hY.1) (H1.out)).mono (Gv.onV fun w3 ew3 zw3 => ?_)
  have xw_w3 := eg xw_w2 ew3
  go_wp2_with fail
  clear b1_w2 b2_w2
  refine bodyPost_ret (v := .bool false) (by simp [results, Tryz.results44, go_sem]) rfl ?_
  exact Gv.of_v xw_w3

set_option maxRecDepth 100000 in
theorem rSame_d (X : Fr) (Y : Fr) (a : Int) (b : Int) (c : Int) (d : Int) (w : World) (hX : PR w X a b) (hY : PR w Y c d) (h1 : a = c) (h2 : b ≠ d) :
    Calls Tryz.prog 44 #[.agg #[.bool X.N.b, .slice X.N.p X.N.n X.N.c, .bool X.D.b, .slice X.D.p X.D.n X.D.c], .agg #[.bool Y.N.b, .slice Y.N.p Y.N.n Y.N.c, .bool Y.D.b, .slice Y.D.p Y.D.n Y.D.c]] w (Gv (.v (.bool false)) w) := by
  have H1 := Lib.hid h1
  clear h1
  have H2 := Lib.hid h2
  clear h2
  obtain ⟨w1, hww1, ew1, B1, zw1⟩ := alloc_at w (w.heap.size) (by omega) #[.bool X.N.b, .slice X.N.p X.N.n X.N.c, .bool X.D.b, .slice X.D.p X.D.n X.D.c] 40
  obtain ⟨w2, hww2, ew2, B2, zw2⟩ := alloc_at w1 (w.heap.size + 1) (by omega) #[.bool Y.N.b, .slice Y.N.p Y.N.n Y.N.c, .bool Y.D.b, .slice Y.D.p Y.D.n Y.D.c] 40
  replace B1 := B1.ext ew2
  have b1_w2 := B1.c4
  have b2_w2 := B2.c4
  have xw_w2 := eg ew1 ew2
  replace hX := hX.ext xw_w2
  replace hY := hY.ext xw_w2
  go_enter Tryz.func44, Tryz.ntmps44
  go_wp2_with fail
  clear hww1 hww2
  replace zw1 := le2 zw1
  replace zw2 := le2 zw2
  refine (rSame1_t X.N Y.N _ _ _ (hX.1) (hY.1) (H1.out)).mono (Gv.onV fun w3 ew3 zw3 => ?_)
  replace B1 := B1.ext ew3
  have b1_w3 := B1.c4
  replace B2 := B2.ext ew3
  have b2_w3 := B2.c4
  replace hX := hX.ext ew3
  replace hY := hY.ext ew3
  have xw_w3 := eg xw_w2 ew3
  go_wp2_with fail
  clear b1_w2 b2_w2
  refine (rSame1_f X.D Y.D _ _ _ (hX.2) (hY.2) (H2.out)).mono (Gv.onV fun w4 ew4 zw4 => ?_)
  have xw_w4 := eg xw_w3 ew4
  go_wp2_with fail
  clear b1_w3 b2_w3
  refine bodyPost_ret (v := .bool false) (by simp [results, Tryz.results44, go_sem]) rfl ?_
  exact Gv.of_v xw_w4

theorem rSame (X Y : Fr) (a b c d : Int) (w : World) (hX : PR w X a b) (hY : PR w Y c d) : Calls Tryz.prog 44 #[X.val, Y.val] w (Gv (.v (.bool (decide (a = c) && decide (b = d)))) w) := by
  by_cases h1 : a = c
  · by_cases h2 : b = d
    · simpa only [h1, h2, decide_true, Bool.and_self] using rSame_t X Y a b c d w hX hY h1 h2
    · simpa only [h1, h2, decide_true, decide_false, Bool.and_false] using rSame_d X Y a b c d w hX hY h1 h2
  · simpa only [h1, decide_false, Bool.false_and] using rSame_n X Y a b c d w hX hY h1
/-- Two fractions are the same. -/
def eqQ (x y : Rat) : Bool := decide (x.num = y.num) && decide ((x.den : Int) = y.den)
theorem eqQ_iff {x y : Rat} : eqQ x y = true ↔ x = y := by
  unfold eqQ
  simp only [Bool.and_eq_true, decide_eq_true_eq]
  exact ⟨fun h => Rat.ext h.1 (by omega), fun h => by subst h; exact ⟨rfl, rfl⟩⟩
theorem rSameQ (X Y : Fr) (x y : Rat) (w : World) (hX : FR w X x) (hY : FR w Y y) : Calls Tryz.prog 44 #[X.val, Y.val] w (Gv (.v (.bool (eqQ x y))) w) := rSame X Y _ _ _ _ w hX hY
theorem fSameQ (X Y : Fr) (x y : Rat) (w : World) (hX : FR w X x) (hY : FR w Y y) : Calls Tryz.prog 39 #[X.val, Y.val] w (Gv (.v (.bool (eqQ x y))) w) := fSame X Y _ _ _ _ w hX hY

set_option maxRecDepth 100000 in
theorem rone_b (X : Wh) (w : World) (h0 : X.n ≠ 1) :
    Calls Tryz.prog 82 #[.slice X.p X.n X.c] w (Gv (.v (.bool false)) w) := by
  have h0d : ((X.n : Int) == 1) = false := by simp; omega
  clear h0
  go_enter Tryz.func82, Tryz.ntmps82
  go_wp2_with fail
  refine bodyPost_ret (v := .bool false) (by simp [results, Tryz.results82, go_sem]) rfl ?_
  exact Gv.of_v (Below.refl _ _)

set_option maxRecDepth 100000 in
theorem rone_c (X : Wh) (w : World) (x : Nat) (hX : U16 w X.p X.n X.c (limbs x)) (h0 : X.n = 1) (hd : x = 1) :
    Calls Tryz.prog 82 #[.slice X.p X.n X.c] w (Gv (.v (.bool true)) w) := by
  obtain ⟨u, hu⟩ : ∃ u, u = dig (limbs x) 0 := ⟨_, rfl⟩
  have hx0 : dig (limbs x) 0 = x := by
    have h1 : siz x = X.n := hX.len
    have h2 : x ≠ 0 := fun e => by rw [e, siz_zero] at h1; omega
    have h3 := siz_one.1 (Nat.le_of_eq (h1.trans h0))
    rw [limbs_pos h2]; simp [dig]; omega
  have hud : (((u : Nat) : Int) == 1) = true := by rw [hu, hx0]; simp; omega
  have c0 : w.cell? (at_ X.p 0) = some (.int .u16 (u : Nat)) := by rw [hu]; exact hX.cell 0 (by omega)
  have hh := hX.has
  have h0d : ((X.n : Int) == 1) = true := by simp; omega
  have h0p : 0 < X.n := by omega
  clear hu hx0 hd h0 hX
  go_enter Tryz.func82, Tryz.ntmps82
  go_wp2_with fail
  refine bodyPost_ret (v := .bool true) (by simp [results, Tryz.results82, go_sem]) rfl ?_
  exact Gv.of_v (Below.refl _ _)

set_option maxRecDepth 100000 in
theorem rone_d (X : Wh) (w : World) (x : Nat) (hX : U16 w X.p X.n X.c (limbs x)) (h0 : X.n = 1) (hd : x ≠ 1) :
    Calls Tryz.prog 82 #[.slice X.p X.n X.c] w (Gv (.v (.bool false)) w) := by
  obtain ⟨u, hu⟩ : ∃ u, u = dig (limbs x) 0 := ⟨_, rfl⟩
  have hx0 : dig (limbs x) 0 = x := by
    have h1 : siz x = X.n := hX.len
    have h2 : x ≠ 0 := fun e => by rw [e, siz_zero] at h1; omega
    have h3 := siz_one.1 (Nat.le_of_eq (h1.trans h0))
    rw [limbs_pos h2]; simp [dig]; omega
  have hud : (((u : Nat) : Int) == 1) = false := by rw [hu, hx0]; simp; omega
  have c0 : w.cell? (at_ X.p 0) = some (.int .u16 (u : Nat)) := by rw [hu]; exact hX.cell 0 (by omega)
  have hh := hX.has
  have h0d : ((X.n : Int) == 1) = true := by simp; omega
  have h0p : 0 < X.n := by omega
  clear hu hx0 hd h0 hX
  go_enter Tryz.func82, Tryz.ntmps82
  go_wp2_with fail
  refine bodyPost_ret (v := .bool false) (by simp [results, Tryz.results82, go_sem]) rfl ?_
  exact Gv.of_v (Below.refl _ _)

theorem rone (X : Wh) (x : Nat) (w : World) (hX : U16 w X.p X.n X.c (limbs x)) {b : Bool} (hb : decide (x = 1) = b) : Calls Tryz.prog 82 #[.slice X.p X.n X.c] w (Gv (.v (.bool b)) w) := by
  subst hb
  by_cases h0 : X.n = 1
  · by_cases hd : x = 1
    · simpa only [hd, decide_true] using rone_c X w x hX h0 hd
    · simpa only [hd, decide_false] using rone_d X w x hX h0 hd
  · have hd : x ≠ 1 := fun e => h0 (by have := hX.len; rw [← this, e]; simp [limbs])
    simpa only [hd, decide_false] using rone_b X w h0
end Go.Proofs.YtndgaecfeaedeaaGreat
