/- Walks of the document's answer on fractions: comparing, valid ones. Walks of the document's answer on fractions: sums, products, comparing. Tables of rates: what memory holds, and what makes them valid. No condition: laws on the model's worlds. -/
import Derived.Test.YtndgaecfeaedeaaGreatG11
import Derived.Test.YtndgaecfeaedeaaGreatG15
set_option linter.unusedSimpArgs false
set_option linter.unusedVariables false
namespace Go.Proofs.YtndgaecfeaedeaaGreat
open Go.RowKit Lex Mth
attribute [local go_sem] run_indexAt_at add_zero_map Oper.semAt_some at_zero

theorem cmpZ_lt {a b : Int} (h : a < b) : cmpZ a b = -1 := by unfold cmpZ; rw [if_pos h]
theorem cmpZ_gt {a b : Int} (h : b < a) : cmpZ a b = 1 := by unfold cmpZ; rw [if_neg (by omega), if_pos h]
theorem cmpZ_eq {a b : Int} (h : a = b) : cmpZ a b = 0 := by unfold cmpZ; rw [if_neg (by omega), if_neg (by omega)]
theorem WR.pos_n {w : World} {X : Wh} {z : Int} (h : WR w X z) (hz : z ≠ 0) : 0 < X.n := by rw [h.n]; exact siz_pos (by omega)
theorem WR.zero_n {w : World} {X : Wh} {z : Int} (h : WR w X z) (hz : z = 0) : X.n = 0 := by rw [h.n, hz]; exact siz_zero

set_option maxRecDepth 100000 in
theorem rOrder (X : Wh) (Y : Wh) (x : Int) (y : Int) (w : World) (hX : WR w X x) (hY : WR w Y y) (b : siz x.natAbs ≤ 2048) (b' : siz y.natAbs ≤ 2048) :
    Calls Tryz.prog 84 #[.agg #[.bool X.b, .slice X.p X.n X.c], .agg #[.bool Y.b, .slice Y.p Y.n Y.c]] w (Gv (.v (.int .i64 (cmpZ x y))) w) := by
 obtain ⟨w1, hww1, ew1, B1, zw1⟩ := alloc_at w (w.heap.size) (by omega) #[.bool X.b, .slice X.p X.n X.c] 38
 obtain ⟨w2, hww2, ew2, B2, zw2⟩ := alloc_at w1 (w.heap.size + 1) (by omega) #[.bool Y.b, .slice Y.p Y.n Y.c] 38
 replace B1 := B1.ext ew2
 have b1_w2 := B1.c2
 have b2_w2 := B2.c2
 have xw_w2 := eg ew1 ew2
 replace hY := hY.ext xw_w2
 replace hX := hX.ext xw_w2
 go_enter Tryz.func84, Tryz.ntmps84
 go_wp2_with fail
 clear hww1 hww2
 replace zw1 := le2 zw1
 replace zw2 := le2 zw2
 refine regionT 5 (fun kk => match kk with | 2 => some (.w0 (-(y))) | 3 => some (.w0 ((x) + (-(y)))) | 4 => some (.box 38 #[.bool false, .slice none 0 0]) | _ => none) (by as_aux_lemma => kernel_rfl) (head_of (by as_aux_lemma => kernel_rfl)) ?_
 iterate 2
  refine Walk.one (x := ?_) rfl rfl (fun w1 hI hL K hK => ?_) ?_
  rotate_left
  ·obtain ⟨hc, hf⟩ := bcell hI
   go_simp
   repeat (first | (go_ints; try go_simp) | (simp only [↓IntWalk.iteOmega]; try go_simp))
   exact hK
  simp only [Pq1]
 refine Walk.tell rfl rfl (fun w1 hI hL K hK => ?_) ?_
 ·go_simp
  exact (rNeg Y _ w1 ((hY).ext hI)).mono (tell hK)
 rintro _ ⟨Z8, rfl⟩
 simp only [Pq1]
 refine Walk.tell rfl rfl (fun w1 hI hL K hK => ?_) ?_
 ·go_simp
  exact (rSum X Z8 _ _ w1 ((hX).ext hI) ((Tl.getW0 (kn (i := 2) (v := .agg #[.bool Z8.b, .slice Z8.p Z8.n Z8.c]) rfl (by simp) (pred_of (by as_aux_lemma => kernel_rfl)) hL))) (Nat.le_trans b (by decide)) ((by rw [Int.natAbs_neg]; exact Nat.le_trans b' (by decide)))).mono (tell hK)
 rintro _ ⟨Z9, rfl⟩
 simp only [Pq1]
 refine Walk.tell rfl rfl (fun w1 hI hL K hK => ?_) ?_
 ·go_simp
  exact tellB hK
 rintro _ ⟨g5, rfl⟩
 simp only [Pq1]
 refine Walk.nilF fun w3 ew3 kzL kzX => ?_
 have zw3 := ew3.size
 have hZ9 := Tl.getW0 (kz (i := 3) (v := .agg #[.bool Z9.b, .slice Z9.p Z9.n Z9.c]) rfl (by simp) kzL)
 obtain ⟨B3, yB3⟩ := Tl.getB (kz (i := 4) (v := .pointer (some ⟨g5, 0, none⟩)) rfl (by simp) kzL)
 have lB3 := B3.lt
 clear kzL kzX
 simp only [List.drop_succ_cons, List.drop_zero, List.drop_nil]
 have b3_w3 := B3.c2
 have fb3_w3 := B3.f2
 have xw_w3 := eg xw_w2 ew3
 obtain ⟨w4, hww4, kw4, Nw4, zw4⟩ := B3.put2 (.bool Z9.b) (.slice Z9.p Z9.n Z9.c)
 have nuw4 : NoU #[.bool false, .slice none 0 0] := by simp [NoU]
 replace hZ9 := WR.kb hZ9 B3 nuw4 kw4
 have xw_w4 := Ext.kb xw_w3 kw4 (by omega)
 replace B3 := Nw4
 clear Nw4 kw4
 rcases (by omega : x < y ∨ x = y ∨ y < x) with hl | hl | hl
 ·skip
  have b3_w4 := B3.c2
  have hb : Z9.b = true := by rw [(hZ9).neg]; simp; omega
  rw [hb] at hww4
  have Hl := Lib.hid hl
  clear hl
  go_wp2_with fail
  clear hww4
  clear b1_w2 b2_w2 b3_w3 fb3_w3
  replace zw4 := le2 zw4
  refine bodyPost_ret (v := .int .i64 (-1)) (by simp [results, Tryz.results84, go_sem]) rfl ?_
  rw [show (-1 : Int) = cmpZ x y from (cmpZ_lt Hl.out).symm]
  exact Gv.of_v xw_w4
 ·skip
  have b3_w4 := B3.c2
  have hb : Z9.b = false := by rw [(hZ9).neg]; simp; omega
  rw [hb] at hww4
  have h0 : Z9.n ≤ 0 := Nat.le_of_eq ((hZ9).zero_n (by omega))
  have Hl := Lib.hid hl
  clear hl
  go_wp2_with fail
  clear hww4
  clear b1_w2 b2_w2 b3_w3 fb3_w3
  replace zw4 := le2 zw4
  refine bodyPost_ret (v := .int .i64 0) (by simp [results, Tryz.results84, go_sem]) rfl ?_
  rw [show (0 : Int) = cmpZ x y from (cmpZ_eq Hl.out).symm]
  exact Gv.of_v xw_w4
 ·skip
  have b3_w4 := B3.c2
  have hb : Z9.b = false := by rw [(hZ9).neg]; simp; omega
  rw [hb] at hww4
  have h0 : 0 < Z9.n := (hZ9).pos_n (by omega)
  have Hl := Lib.hid hl
  clear hl
  go_wp2_with fail
  clear hww4
  clear b1_w2 b2_w2 b3_w3 fb3_w3
  replace zw4 := le2 zw4
  refine bodyPost_ret (v := .int .i64 1) (by simp [results, Tryz.results84, go_sem]) rfl ?_
  rw [show (1 : Int) = cmpZ x y from (cmpZ_gt Hl.out).symm]
  exact Gv.of_v xw_w4

theorem valW_nil {b : Bool} {l : List Nat} (h : l.length = 0) : valW b l = !b := by unfold valW; simp [h]
theorem valW_long {b : Bool} {l : List Nat} (h : 1024 < l.length) : valW b l = false := by unfold valW; simp; omega
theorem valW_last {b : Bool} {l : List Nat} {m : Nat} (h : l.length = m + 1) (h2 : m + 1 ≤ 1024) : valW b l = (((dig l m : Nat) : Int) != 0) := by
 unfold valW dig
 rw [h]
 simp only [h2, Nat.add_sub_cancel]
 by_cases h0 : l.getD m 0 = 0
 ·rw [h0]; simp
 ·have : ((l.getD m 0 : Nat) : Int) ≠ 0 := by omega
  have e1 : (l.getD m 0 != 0) = true := bne_iff_ne.2 h0
  have e2 : (((l.getD m 0 : Nat) : Int) != 0) = true := bne_iff_ne.2 this
  rw [e1, e2]; simp

set_option maxRecDepth 100000 in
theorem rVal_a (X : Wh) (l : List Nat) (w : World) (hX : UW w X l) (h0 : X.n = 0) :
    Calls Tryz.prog 80 #[.agg #[.bool X.b, .slice X.p X.n X.c]] w (Gv (.v (.bool (valW X.b l))) w) := by
 rw [valW_nil (hX.len.trans h0)]
 have h0d : ((X.n : Int) == 0) = true := by simp; omega
 clear h0
 obtain ⟨w1, hww1, ew1, B1, zw1⟩ := alloc_at w (w.heap.size) (by omega) #[.bool X.b, .slice X.p X.n X.c] 38
 have b1_w1 := B1.c2
 go_enter Tryz.func80, Tryz.ntmps80
 go_wp2_with fail
 clear hww1
 replace zw1 := le2 zw1
 refine bodyPost_ret (v := .bool (!X.b)) (by simp [results, Tryz.results80, go_sem]) rfl ?_
 exact Gv.of_v ew1

set_option maxRecDepth 100000 in
theorem rVal_b (X : Wh) (l : List Nat) (w : World) (hX : UW w X l) (h0 : 1024 < X.n) :
    Calls Tryz.prog 80 #[.agg #[.bool X.b, .slice X.p X.n X.c]] w (Gv (.v (.bool (valW X.b l))) w) := by
 rw [valW_long (Nat.lt_of_lt_of_eq h0 hX.len.symm)]
 have h0d : ((X.n : Int) == 0) = false := by simp; omega
 have h1d : decide ((X.n : Int) ≤ 1024) = false := by simp; omega
 obtain ⟨w1, hww1, ew1, B1, zw1⟩ := alloc_at w (w.heap.size) (by omega) #[.bool X.b, .slice X.p X.n X.c] 38
 have b1_w1 := B1.c2
 go_enter Tryz.func80, Tryz.ntmps80
 go_wp2_with fail
 clear hww1
 replace zw1 := le2 zw1
 refine bodyPost_ret (v := .bool false) (by simp [results, Tryz.results80, go_sem]) rfl ?_
 exact Gv.of_v ew1

set_option maxRecDepth 100000 in
theorem rVal_c (m : Nat) (Xb : Bool) (Xp : Option Addr) (Xc : Nat) (l : List Nat) (w : World) (hX : UW w ⟨Xb, Xp, (m + 1), Xc⟩ l) (h0 : m + 1 ≤ 1024) :
    Calls Tryz.prog 80 #[.agg #[.bool Xb, .slice Xp (m + 1) Xc]] w (Gv (.v (.bool (valW Xb l))) w) := by
 rw [valW_last hX.len h0]
 obtain ⟨u, hu⟩ : ∃ u, u = dig l m := ⟨_, rfl⟩
 rw [← hu]
 have h0d : (((m + 1 : Nat) : Int) == 0) = false := by simp; omega
 have h1d : decide (((m + 1 : Nat) : Int) ≤ 1024) = true := by simp; omega
 have hh : Has Xp (m + 1) := hX.has
 have Hu := Lib.hid hu
 clear hu
 obtain ⟨w1, hww1, ew1, B1, zw1⟩ := alloc_at w (w.heap.size) (by omega) #[.bool Xb, .slice Xp (m + 1) Xc] 38
 have b1_w1 := B1.c2
 replace hX := hX.ext ew1
 have c0 := (hX).cell m (Nat.lt_succ_self m)
 rw [← Hu.out] at c0
 go_enter Tryz.func80, Tryz.ntmps80
 go_wp2_with fail
 clear hww1
 replace zw1 := le2 zw1
 refine bodyPost_ret (v := .bool ((u : Int) != 0)) (by simp [results, Tryz.results80, go_sem]) rfl ?_
 exact Gv.of_v ew1

theorem rValid1 (X : Wh) (l : List Nat) (w : World) (hX : UW w X l) {b : Bool} (hb : valW X.b l = b) : Calls Tryz.prog 80 #[.agg #[.bool X.b, .slice X.p X.n X.c]] w (Gv (.v (.bool b)) w) := by
 subst hb
 obtain ⟨xb, xp, xn, xc⟩ := X
 match xn, hX with
 | 0, hX => exact rVal_a ⟨xb, xp, 0, xc⟩ l w hX rfl
 | m + 1, hX =>
  by_cases h : m + 1 ≤ 1024
  ·exact rVal_c m xb xp xc l w hX h
  ·exact rVal_b ⟨xb, xp, m + 1, xc⟩ l w hX (by show 1024 < m + 1; omega)

set_option maxRecDepth 100000 in
theorem rFits_ (X : Fr) (w : World) :
    Calls Tryz.prog 81 #[.agg #[.bool X.N.b, .slice X.N.p X.N.n X.N.c, .bool X.D.b, .slice X.D.p X.D.n X.D.c]] w (Gv (.v (.bool (decide (X.N.n ≤ 256) && decide (X.D.n ≤ 256)))) w) := by
 obtain ⟨w1, hww1, ew1, B1, zw1⟩ := alloc_at w (w.heap.size) (by omega) #[.bool X.N.b, .slice X.N.p X.N.n X.N.c, .bool X.D.b, .slice X.D.p X.D.n X.D.c] 40
 go_enter Tryz.func81, Tryz.ntmps81
 rcases (by omega : (X.N.n ≤ 256 ∧ X.D.n ≤ 256) ∨ ¬ X.N.n ≤ 256 ∨ (X.N.n ≤ 256 ∧ ¬ X.D.n ≤ 256)) with ⟨h1, h2⟩ | h1 | ⟨h1, h2⟩
 ·skip
  have b1_w1 := B1.c4
  rw [show (decide (X.N.n ≤ 256) && decide (X.D.n ≤ 256)) = true by simp [h1, h2]]
  have dN : decide ((X.N.n : Int) ≤ 256) = true := by simp; omega
  have dD : decide ((X.D.n : Int) ≤ 256) = true := by simp; omega
  go_wp2_with fail
  clear hww1
  replace zw1 := le2 zw1
  refine bodyPost_ret (v := .bool true) (by simp [results, Tryz.results81, go_sem]) rfl ?_
  exact Gv.of_v ew1
 ·skip
  have b1_w1 := B1.c4
  rw [show (decide (X.N.n ≤ 256) && decide (X.D.n ≤ 256)) = false by simp [h1]]
  have dN : decide ((X.N.n : Int) ≤ 256) = false := by simp; omega
  go_wp2_with fail
  clear hww1
  replace zw1 := le2 zw1
  refine bodyPost_ret (v := .bool false) (by simp [results, Tryz.results81, go_sem]) rfl ?_
  exact Gv.of_v ew1
 ·skip
  have b1_w1 := B1.c4
  rw [show (decide (X.N.n ≤ 256) && decide (X.D.n ≤ 256)) = false by simp [h2]]
  have dN : decide ((X.N.n : Int) ≤ 256) = true := by simp; omega
  have dD : decide ((X.D.n : Int) ≤ 256) = false := by simp; omega
  go_wp2_with fail
  clear hww1
  replace zw1 := le2 zw1
  refine bodyPost_ret (v := .bool false) (by simp [results, Tryz.results81, go_sem]) rfl ?_
  exact Gv.of_v ew1

theorem rFits (X : Fr) (w : World) {b : Bool} (hb : (decide (X.N.n ≤ 256) && decide (X.D.n ≤ 256)) = b) : Calls Tryz.prog 81 #[.agg #[.bool X.N.b, .slice X.N.p X.N.n X.N.c, .bool X.D.b, .slice X.D.p X.D.n X.D.c]] w (Gv (.v (.bool b)) w) := hb ▸ rFits_ X w

set_option maxRecDepth 100000 in
theorem rVala_t (XNb : Bool) (XNp : Option Addr) (XNn : Nat) (XNc : Nat) (XDp : Option Addr) (XDn : Nat) (XDc : Nat) (l m : List Nat) (w : World) (hX : UF w ⟨⟨XNb, XNp, XNn, XNc⟩, ⟨true, XDp, XDn, XDc⟩⟩ l m) (h1 : valW XNb l = false) :
    Calls Tryz.prog 41 #[.agg #[.bool XNb, .slice XNp XNn XNc, .bool true, .slice XDp XDn XDc]] w (Gv (.v (.bool false)) w) := by
 have H1 := Lib.hid h1
 clear h1
 obtain ⟨w1, hww1, ew1, B1, zw1⟩ := alloc_at w (w.heap.size) (by omega) #[.bool XNb, .slice XNp XNn XNc, .bool true, .slice XDp XDn XDc] 40
 have b1_w1 := B1.c4
 replace hX := hX.ext ew1
 go_enter Tryz.func41, Tryz.ntmps41
 go_wp2_with fail
 clear hww1
 replace zw1 := le2 zw1
 refine (rValid1 ⟨XNb, XNp, XNn, XNc⟩ _ _ (hX.1) (H1.out)).mono (Gv.onV fun w2 ew2 zw2 => ?_)
 have xw_w2 := eg ew1 ew2
 go_wp2_with fail
 clear b1_w1
 refine bodyPost_ret (v := .bool false) (by simp [results, Tryz.results41, go_sem]) rfl ?_
 exact Gv.of_v xw_w2

set_option maxRecDepth 100000 in
theorem rValb_t (XNb : Bool) (XNp : Option Addr) (XNn : Nat) (XNc : Nat) (XDp : Option Addr) (XDn : Nat) (XDc : Nat) (l m : List Nat) (w : World) (hX : UF w ⟨⟨XNb, XNp, XNn, XNc⟩, ⟨true, XDp, XDn, XDc⟩⟩ l m) (h1 : valW XNb l = true) (h2 : valW true m = false) :
    Calls Tryz.prog 41 #[.agg #[.bool XNb, .slice XNp XNn XNc, .bool true, .slice XDp XDn XDc]] w (Gv (.v (.bool false)) w) := by
 have H1 := Lib.hid h1
 clear h1
 have H2 := Lib.hid h2
 clear h2
 obtain ⟨w1, hww1, ew1, B1, zw1⟩ := alloc_at w (w.heap.size) (by omega) #[.bool XNb, .slice XNp XNn XNc, .bool true, .slice XDp XDn XDc] 40
 have b1_w1 := B1.c4
 replace hX := hX.ext ew1
 go_enter Tryz.func41, Tryz.ntmps41
 go_wp2_with fail
 clear hww1
 replace zw1 := le2 zw1
 refine (rValid1 ⟨XNb, XNp, XNn, XNc⟩ _ _ (hX.1) (H1.out)).mono (Gv.onV fun w2 ew2 zw2 => ?_)
 replace B1 := B1.ext ew2
 have b1_w2 := B1.c4
 replace hX := hX.ext ew2
 have xw_w2 := eg ew1 ew2
 go_wp2_with fail
 clear b1_w1
 refine (rValid1 ⟨true, XDp, XDn, XDc⟩ _ _ (hX.2) (H2.out)).mono (Gv.onV fun w3 ew3 zw3 => ?_)
 have xw_w3 := eg xw_w2 ew3
 go_wp2_with fail
 clear b1_w2
 refine bodyPost_ret (v := .bool false) (by simp [results, Tryz.results41, go_sem]) rfl ?_
 exact Gv.of_v xw_w3

set_option maxRecDepth 100000 in
theorem rValc_t (XNb : Bool) (XNp : Option Addr) (XNn : Nat) (XNc : Nat) (XDp : Option Addr) (XDn : Nat) (XDc : Nat) (l m : List Nat) (w : World) (hX : UF w ⟨⟨XNb, XNp, XNn, XNc⟩, ⟨true, XDp, XDn, XDc⟩⟩ l m) (h1 : valW XNb l = true) (h2 : valW true m = true) (h3 : (decide (XNn ≤ 256) && decide (XDn ≤ 256)) = false) :
    Calls Tryz.prog 41 #[.agg #[.bool XNb, .slice XNp XNn XNc, .bool true, .slice XDp XDn XDc]] w (Gv (.v (.bool false)) w) := by
 have H1 := Lib.hid h1
 clear h1
 have H2 := Lib.hid h2
 clear h2
 have H3 := Lib.hid h3
 clear h3
 obtain ⟨w1, hww1, ew1, B1, zw1⟩ := alloc_at w (w.heap.size) (by omega) #[.bool XNb, .slice XNp XNn XNc, .bool true, .slice XDp XDn XDc] 40
 have b1_w1 := B1.c4
 replace hX := hX.ext ew1
 go_enter Tryz.func41, Tryz.ntmps41
 go_wp2_with fail
 clear hww1
 replace zw1 := le2 zw1
 refine (rValid1 ⟨XNb, XNp, XNn, XNc⟩ _ _ (hX.1) (H1.out)).mono (Gv.onV fun w2 ew2 zw2 => ?_)
 replace B1 := B1.ext ew2
 have b1_w2 := B1.c4
 replace hX := hX.ext ew2
 have xw_w2 := eg ew1 ew2
 go_wp2_with fail
 clear b1_w1
 refine (rValid1 ⟨true, XDp, XDn, XDc⟩ _ _ (hX.2) (H2.out)).mono (Gv.onV fun w3 ew3 zw3 => ?_)
 replace B1 := B1.ext ew3
 have b1_w3 := B1.c4
 have xw_w3 := eg xw_w2 ew3
 go_wp2_with fail
 clear b1_w2
 refine (rFits ⟨⟨XNb, XNp, XNn, XNc⟩, ⟨true, XDp, XDn, XDc⟩⟩ _ (H3.out)).mono (Gv.onV fun w4 ew4 zw4 => ?_)
 have xw_w4 := eg xw_w3 ew4
 go_wp2_with fail
 clear b1_w3
 refine bodyPost_ret (v := .bool false) (by simp [results, Tryz.results41, go_sem]) rfl ?_
 exact Gv.of_v xw_w4

set_option maxRecDepth 100000 in
theorem rVald_t (XNb : Bool) (XNp : Option Addr) (XNn : Nat) (XNc : Nat) (XDp : Option Addr) (XDn : Nat) (XDc : Nat) (l m : List Nat) (w : World) (hX : UF w ⟨⟨XNb, XNp, XNn, XNc⟩, ⟨true, XDp, XDn, XDc⟩⟩ l m) (h1 : valW XNb l = true) (h2 : valW true m = true) (h3 : (decide (XNn ≤ 256) && decide (XDn ≤ 256)) = true) :
    Calls Tryz.prog 41 #[.agg #[.bool XNb, .slice XNp XNn XNc, .bool true, .slice XDp XDn XDc]] w (Gv (.v (.bool false)) w) := by
 have H1 := Lib.hid h1
 clear h1
 have H2 := Lib.hid h2
 clear h2
 have H3 := Lib.hid h3
 clear h3
 obtain ⟨w1, hww1, ew1, B1, zw1⟩ := alloc_at w (w.heap.size) (by omega) #[.bool XNb, .slice XNp XNn XNc, .bool true, .slice XDp XDn XDc] 40
 have b1_w1 := B1.c4
 replace hX := hX.ext ew1
 go_enter Tryz.func41, Tryz.ntmps41
 go_wp2_with fail
 clear hww1
 replace zw1 := le2 zw1
 refine (rValid1 ⟨XNb, XNp, XNn, XNc⟩ _ _ (hX.1) (H1.out)).mono (Gv.onV fun w2 ew2 zw2 => ?_)
 replace B1 := B1.ext ew2
 have b1_w2 := B1.c4
 replace hX := hX.ext ew2
 have xw_w2 := eg ew1 ew2
 go_wp2_with fail
 clear b1_w1
 refine (rValid1 ⟨true, XDp, XDn, XDc⟩ _ _ (hX.2) (H2.out)).mono (Gv.onV fun w3 ew3 zw3 => ?_)
 replace B1 := B1.ext ew3
 have b1_w3 := B1.c4
 have xw_w3 := eg xw_w2 ew3
 go_wp2_with fail
 clear b1_w2
 refine (rFits ⟨⟨XNb, XNp, XNn, XNc⟩, ⟨true, XDp, XDn, XDc⟩⟩ _ (H3.out)).mono (Gv.onV fun w4 ew4 zw4 => ?_)
 replace B1 := B1.ext ew4
 have b1_w4 := B1.c4
 have xw_w4 := eg xw_w3 ew4
 go_wp2_with fail
 clear b1_w3
 refine bodyPost_ret (v := .bool false) (by simp [results, Tryz.results41, go_sem]) rfl ?_
 exact Gv.of_v xw_w4

set_option maxRecDepth 100000 in
theorem rVala_f (XNb : Bool) (XNp : Option Addr) (XNn : Nat) (XNc : Nat) (XDp : Option Addr) (XDn : Nat) (XDc : Nat) (l m : List Nat) (w : World) (hX : UF w ⟨⟨XNb, XNp, XNn, XNc⟩, ⟨false, XDp, XDn, XDc⟩⟩ l m) (h1 : valW XNb l = false) :
    Calls Tryz.prog 41 #[.agg #[.bool XNb, .slice XNp XNn XNc, .bool false, .slice XDp XDn XDc]] w (Gv (.v (.bool false)) w) := by
 have H1 := Lib.hid h1
 clear h1
 obtain ⟨w1, hww1, ew1, B1, zw1⟩ := alloc_at w (w.heap.size) (by omega) #[.bool XNb, .slice XNp XNn XNc, .bool false, .slice XDp XDn XDc] 40
 have b1_w1 := B1.c4
 replace hX := hX.ext ew1
 go_enter Tryz.func41, Tryz.ntmps41
 go_wp2_with fail
 clear hww1
 replace zw1 := le2 zw1
 refine (rValid1 ⟨XNb, XNp, XNn, XNc⟩ _ _ (hX.1) (H1.out)).mono (Gv.onV fun w2 ew2 zw2 => ?_)
 have xw_w2 := eg ew1 ew2
 go_wp2_with fail
 clear b1_w1
 refine bodyPost_ret (v := .bool false) (by simp [results, Tryz.results41, go_sem]) rfl ?_
 exact Gv.of_v xw_w2

set_option maxRecDepth 100000 in
theorem rValb_f (XNb : Bool) (XNp : Option Addr) (XNn : Nat) (XNc : Nat) (XDp : Option Addr) (XDn : Nat) (XDc : Nat) (l m : List Nat) (w : World) (hX : UF w ⟨⟨XNb, XNp, XNn, XNc⟩, ⟨false, XDp, XDn, XDc⟩⟩ l m) (h1 : valW XNb l = true) (h2 : valW false m = false) :
    Calls Tryz.prog 41 #[.agg #[.bool XNb, .slice XNp XNn XNc, .bool false, .slice XDp XDn XDc]] w (Gv (.v (.bool false)) w) := by
 have H1 := Lib.hid h1
 clear h1
 have H2 := Lib.hid h2
 clear h2
 obtain ⟨w1, hww1, ew1, B1, zw1⟩ := alloc_at w (w.heap.size) (by omega) #[.bool XNb, .slice XNp XNn XNc, .bool false, .slice XDp XDn XDc] 40
 have b1_w1 := B1.c4
 replace hX := hX.ext ew1
 go_enter Tryz.func41, Tryz.ntmps41
 go_wp2_with fail
 clear hww1
 replace zw1 := le2 zw1
 refine (rValid1 ⟨XNb, XNp, XNn, XNc⟩ _ _ (hX.1) (H1.out)).mono (Gv.onV fun w2 ew2 zw2 => ?_)
 replace B1 := B1.ext ew2
 have b1_w2 := B1.c4
 replace hX := hX.ext ew2
 have xw_w2 := eg ew1 ew2
 go_wp2_with fail
 clear b1_w1
 refine (rValid1 ⟨false, XDp, XDn, XDc⟩ _ _ (hX.2) (H2.out)).mono (Gv.onV fun w3 ew3 zw3 => ?_)
 have xw_w3 := eg xw_w2 ew3
 go_wp2_with fail
 clear b1_w2
 refine bodyPost_ret (v := .bool false) (by simp [results, Tryz.results41, go_sem]) rfl ?_
 exact Gv.of_v xw_w3

set_option maxRecDepth 100000 in
theorem rValc_f (XNb : Bool) (XNp : Option Addr) (XNn : Nat) (XNc : Nat) (XDp : Option Addr) (XDn : Nat) (XDc : Nat) (l m : List Nat) (w : World) (hX : UF w ⟨⟨XNb, XNp, XNn, XNc⟩, ⟨false, XDp, XDn, XDc⟩⟩ l m) (h1 : valW XNb l = true) (h2 : valW false m = true) (h3 : (decide (XNn ≤ 256) && decide (XDn ≤ 256)) = false) :
    Calls Tryz.prog 41 #[.agg #[.bool XNb, .slice XNp XNn XNc, .bool false, .slice XDp XDn XDc]] w (Gv (.v (.bool false)) w) := by
 have H1 := Lib.hid h1
 clear h1
 have H2 := Lib.hid h2
 clear h2
 have H3 := Lib.hid h3
 clear h3
 obtain ⟨w1, hww1, ew1, B1, zw1⟩ := alloc_at w (w.heap.size) (by omega) #[.bool XNb, .slice XNp XNn XNc, .bool false, .slice XDp XDn XDc] 40
 have b1_w1 := B1.c4
 replace hX := hX.ext ew1
 go_enter Tryz.func41, Tryz.ntmps41
 go_wp2_with fail
 clear hww1
 replace zw1 := le2 zw1
 refine (rValid1 ⟨XNb, XNp, XNn, XNc⟩ _ _ (hX.1) (H1.out)).mono (Gv.onV fun w2 ew2 zw2 => ?_)
 replace B1 := B1.ext ew2
 have b1_w2 := B1.c4
 replace hX := hX.ext ew2
 have xw_w2 := eg ew1 ew2
 go_wp2_with fail
 clear b1_w1
 refine (rValid1 ⟨false, XDp, XDn, XDc⟩ _ _ (hX.2) (H2.out)).mono (Gv.onV fun w3 ew3 zw3 => ?_)
 replace B1 := B1.ext ew3
 have b1_w3 := B1.c4
 have xw_w3 := eg xw_w2 ew3
 go_wp2_with fail
 clear b1_w2
 refine (rFits ⟨⟨XNb, XNp, XNn, XNc⟩, ⟨false, XDp, XDn, XDc⟩⟩ _ (H3.out)).mono (Gv.onV fun w4 ew4 zw4 => ?_)
 have xw_w4 := eg xw_w3 ew4
 go_wp2_with fail
 clear b1_w3
 refine bodyPost_ret (v := .bool false) (by simp [results, Tryz.results41, go_sem]) rfl ?_
 exact Gv.of_v xw_w4

set_option maxRecDepth 100000 in
theorem rVale_f (XNb : Bool) (XNp : Option Addr) (XNn : Nat) (XNc : Nat) (XDp : Option Addr) (XDn : Nat) (XDc : Nat) (l m : List Nat) (w : World) (hX : UF w ⟨⟨XNb, XNp, XNn, XNc⟩, ⟨false, XDp, XDn, XDc⟩⟩ l m) (h1 : valW XNb l = true) (h2 : valW false m = true) (h3 : (decide (XNn ≤ 256) && decide (XDn ≤ 256)) = true) (h5 : XDn = 0) :
    Calls Tryz.prog 41 #[.agg #[.bool XNb, .slice XNp XNn XNc, .bool false, .slice XDp XDn XDc]] w (Gv (.v (.bool false)) w) := by
 have H1 := Lib.hid h1
 clear h1
 have H2 := Lib.hid h2
 clear h2
 have H3 := Lib.hid h3
 clear h3
 have h5d : ((XDn : Int) == 0) = true := by simp; omega
 clear h5
 obtain ⟨w1, hww1, ew1, B1, zw1⟩ := alloc_at w (w.heap.size) (by omega) #[.bool XNb, .slice XNp XNn XNc, .bool false, .slice XDp XDn XDc] 40
 have b1_w1 := B1.c4
 replace hX := hX.ext ew1
 go_enter Tryz.func41, Tryz.ntmps41
 go_wp2_with fail
 clear hww1
 replace zw1 := le2 zw1
 refine (rValid1 ⟨XNb, XNp, XNn, XNc⟩ _ _ (hX.1) (H1.out)).mono (Gv.onV fun w2 ew2 zw2 => ?_)
 replace B1 := B1.ext ew2
 have b1_w2 := B1.c4
 replace hX := hX.ext ew2
 have xw_w2 := eg ew1 ew2
 go_wp2_with fail
 clear b1_w1
 refine (rValid1 ⟨false, XDp, XDn, XDc⟩ _ _ (hX.2) (H2.out)).mono (Gv.onV fun w3 ew3 zw3 => ?_)
 replace B1 := B1.ext ew3
 have b1_w3 := B1.c4
 have xw_w3 := eg xw_w2 ew3
 go_wp2_with fail
 clear b1_w2
 refine (rFits ⟨⟨XNb, XNp, XNn, XNc⟩, ⟨false, XDp, XDn, XDc⟩⟩ _ (H3.out)).mono (Gv.onV fun w4 ew4 zw4 => ?_)
 replace B1 := B1.ext ew4
 have b1_w4 := B1.c4
 have xw_w4 := eg xw_w3 ew4
 go_wp2_with fail
 clear b1_w3
 refine bodyPost_ret (v := .bool false) (by simp [results, Tryz.results41, go_sem]) rfl ?_
 exact Gv.of_v xw_w4

set_option maxRecDepth 100000 in
theorem rVal7 (XNb : Bool) (XNp : Option Addr) (XNn : Nat) (XNc : Nat) (XDp : Option Addr) (XDn : Nat) (XDc : Nat) (a : Int) (d : Int) (w : World) (hX : PR w ⟨⟨XNb, XNp, XNn, XNc⟩, ⟨false, XDp, XDn, XDc⟩⟩ a d) (h1 : valW XNb (limbs a.natAbs) = true) (h2 : valW false (limbs d.natAbs) = true) (h3 : (decide (XNn ≤ 256) && decide (XDn ≤ 256)) = true) (h5 : XDn ≠ 0) :
    Calls Tryz.prog 41 #[.agg #[.bool XNb, .slice XNp XNn XNc, .bool false, .slice XDp XDn XDc]] w (Gv (.v (.bool (decide (Nat.gcd a.natAbs d.natAbs = 1)))) w) := by
 have h4 : XNn ≤ 256 ∧ XDn ≤ 256 := by simpa using h3
 have H4 := Lib.hid h4
 clear h4
 have H1 := Lib.hid h1
 clear h1
 have H2 := Lib.hid h2
 clear h2
 have H3 := Lib.hid h3
 clear h3
 have h5d : ((XDn : Int) == 0) = false := by simp; omega
 clear h5
 obtain ⟨w1, hww1, ew1, B1, zw1⟩ := alloc_at w (w.heap.size) (by omega) #[.bool XNb, .slice XNp XNn XNc, .bool false, .slice XDp XDn XDc] 40
 have b1_w1 := B1.c4
 replace hX := hX.ext ew1
 go_enter Tryz.func41, Tryz.ntmps41
 go_wp2_with fail
 clear hww1
 replace zw1 := le2 zw1
 refine (rValid1 ⟨XNb, XNp, XNn, XNc⟩ _ _ (hX).1.u16.2 H1.out).mono (Gv.onV fun w2 ew2 zw2 => ?_)
 replace B1 := B1.ext ew2
 have b1_w2 := B1.c4
 replace hX := hX.ext ew2
 have xw_w2 := eg ew1 ew2
 go_wp2_with fail
 clear b1_w1
 refine (rValid1 ⟨false, XDp, XDn, XDc⟩ _ _ (hX).2.u16.2 H2.out).mono (Gv.onV fun w3 ew3 zw3 => ?_)
 replace B1 := B1.ext ew3
 have b1_w3 := B1.c4
 have xw_w3 := eg xw_w2 ew3
 go_wp2_with fail
 clear b1_w2
 refine (rFits ⟨⟨XNb, XNp, XNn, XNc⟩, ⟨false, XDp, XDn, XDc⟩⟩ _ (H3.out)).mono (Gv.onV fun w4 ew4 zw4 => ?_)
 replace B1 := B1.ext ew4
 have b1_w4 := B1.c4
 have xw2_w4 := eg ew3 ew4
 replace hX := hX.ext xw2_w4
 have xw_w4 := eg xw_w3 ew4
 go_wp2_with fail
 clear b1_w3
 refine (rCommon ⟨XNb, XNp, XNn, XNc⟩ ⟨false, XDp, XDn, XDc⟩ _ _ _ (hX).1.u16.2 (hX).2.u16.2 a.natAbs d.natAbs rfl rfl (Nat.le_trans H4.out.1 (by decide)) (Nat.le_trans H4.out.2 (by decide))).mono (Gv.onC0 fun Z36 w5 hZ36 ew5 zw5 => ?_)
 have xw_w5 := eg xw_w4 ew5
 go_wp2_with fail
 clear b1_w4
 refine (rone (b := decide (Nat.gcd a.natAbs d.natAbs = 1)) Z36 _ _ (hZ36) (rfl)).mono (Gv.onV fun w6 ew6 zw6 => ?_)
 have xw_w6 := eg xw_w5 ew6
 go_wp2_with fail
 refine bodyPost_ret (v := .bool (decide (Nat.gcd a.natAbs d.natAbs = 1))) (by simp [results, Tryz.results41, go_sem]) rfl ?_
 exact Gv.of_v xw_w6

theorem rValid02 (X : Fr) (l m : List Nat) (w : World) (h : UF w X l m) : Calls Tryz.prog 41 #[.agg #[.bool X.N.b, .slice X.N.p X.N.n X.N.c, .bool X.D.b, .slice X.D.p X.D.n X.D.c]] w (Gv (.v (.bool (okF X.N.b l X.D.b m))) w) := by
 have u1 := h.u1
 have u2 := h.u2
 obtain ⟨⟨nb, np, nn, nc⟩, ⟨db, dp, dn, dc⟩⟩ := X
 cases h1 : valW nb l
 ·have e : okF nb l db m = false := by unfold okF; simp [h1]
  simp only [e]
  cases db
  ·exact rVala_f nb np nn nc dp dn dc l m w h h1
  ·exact rVala_t nb np nn nc dp dn dc l m w h h1
 ·cases h2 : valW db m
  ·have e : okF nb l db m = false := by unfold okF; simp [h2]
   simp only [e]
   cases db
   ·exact rValb_f nb np nn nc dp dn dc l m w h h1 h2
   ·exact rValb_t nb np nn nc dp dn dc l m w h h1 h2
  ·cases h3 : (decide (nn ≤ 256) && decide (dn ≤ 256))
   ·have e : okF nb l db m = false := by
     unfold okF
     have : (decide (l.length ≤ 256) && decide (m.length ≤ 256)) = false := by rw [← u1, ← u2]; exact h3
     rw [this]; simp
    simp only [e]
    cases db
    ·exact rValc_f nb np nn nc dp dn dc l m w h h1 h2 h3
    ·exact rValc_t nb np nn nc dp dn dc l m w h h1 h2 h3
   ·cases db
    ·by_cases h5 : dn = 0
     ·have e : okF nb l false m = false := by unfold okF; simp [← u2, h5]
      simp only [e]; exact rVale_f nb np nn nc dp dn dc l m w h h1 h2 h3 h5
     ·have r1 := WR.of h.1 h1
      have r2 := WR.of h.2 h2
      have l1 : limbs (sgn nb (val l)).natAbs = l := by
       have a := r1.u16.2
       have c := h.1
       refine ext_getD (by rw [show (limbs (sgn nb (val l)).natAbs).length = nn from a.len, show l.length = nn from c.len]) fun k hk => ?_
       have hk' : k < nn := by rw [show (limbs (sgn nb (val l)).natAbs).length = nn from a.len] at hk; exact hk
       have c1 := a.cell k hk'
       rw [show w.cell? (at_ np k) = _ from c.cell k hk'] at c1
       simp only [Option.some.injEq, Value.int.injEq, true_and] at c1
       unfold dig at c1; omega
      have l2 : limbs (sgn false (val m)).natAbs = m := by
       have a := r2.u16.2
       have c := h.2
       refine ext_getD (by rw [show (limbs (sgn false (val m)).natAbs).length = dn from a.len, show m.length = dn from c.len]) fun k hk => ?_
       have hk' : k < dn := by rw [show (limbs (sgn false (val m)).natAbs).length = dn from a.len] at hk; exact hk
       have c1 := a.cell k hk'
       rw [show w.cell? (at_ dp k) = _ from c.cell k hk'] at c1
       simp only [Option.some.injEq, Value.int.injEq, true_and] at c1
       unfold dig at c1; omega
      have := rVal7 nb np nn nc dp dn dc (sgn nb (val l)) (sgn false (val m)) w ⟨r1, r2⟩ (by rw [l1]; exact h1) (by rw [l2]; exact h2) h3 h5
      have e : okF nb l false m = decide (Nat.gcd (sgn nb (val l)).natAbs (sgn false (val m)).natAbs = 1) := by
       unfold okF
       have e3 : (decide (l.length ≤ 256) && decide (m.length ≤ 256)) = true := by rw [← u1, ← u2]; exact h3
       rw [e3, h1, h2, ← u2, sgn_natAbs, sgn_natAbs]
       simp [h5]
      simp only [e]; exact this
    ·have e : okF nb l true m = false := by unfold okF; simp
     simp only [e]
     exact rVald_t nb np nn nc dp dn dc l m w h h1 h2 h3
theorem rValid02_b (X : Fr) (l m : List Nat) (w : World) (h : UF w X l m) {b : Bool} (hb : okF X.N.b l X.D.b m = b) : Calls Tryz.prog 41 #[.agg #[.bool X.N.b, .slice X.N.p X.N.n X.N.c, .bool X.D.b, .slice X.D.p X.D.n X.D.c]] w (Gv (.v (.bool b)) w) := hb ▸ rValid02 X l m w h
end Go.Proofs.YtndgaecfeaedeaaGreat
namespace Go.Proofs.YtndgaecfeaedeaaGreat
open Go.RowKit Lex Mth
attribute [local go_sem] run_indexAt_at add_zero_map Oper.semAt_some at_zero

theorem sp7 {a b : Int} (ha : siz a.natAbs ≤ 256) (hb : siz b.natAbs ≤ 256) : siz (a * b).natAbs ≤ 512 := by have := siz_imul a b; omega
theorem up9 {n : Nat} (h : n ≤ 256) : n ≤ 4096 := by omega
theorem up5 {n : Nat} (h : n ≤ 512) : n ≤ 4096 := by omega
theorem up1 {n : Nat} (h : n ≤ 512) : n ≤ 1024 := by omega
theorem up2 {n : Nat} (h : n ≤ 512) : n ≤ 2048 := by omega
theorem sp8 {a b : Int} (ha : siz a.natAbs ≤ 512) (hb : siz b.natAbs ≤ 512) : siz (a + b).natAbs ≤ 1024 := by have := siz_iadd a b; omega
theorem mul_ne {a b : Rat} : ((a.den : Int) * (b.den : Int)) ≠ 0 := Int.mul_ne_zero (den_ne a) (den_ne b)
theorem divInt_add' (x y : Rat) : Rat.divInt (x.num * y.den + y.num * x.den) (x.den * y.den) = x + y := by
 rw [← Rat.divInt_add_divInt _ _ (den_ne x) (den_ne y), Rat.num_divInt_den, Rat.num_divInt_den]
theorem divInt_mul' (x y : Rat) : Rat.divInt (x.num * y.num) (x.den * y.den) = x * y := by
 rw [← Rat.divInt_mul_divInt, Rat.num_divInt_den, Rat.num_divInt_den]

set_option maxRecDepth 100000 in
theorem rFromIntQ (n : Int) (w : World) (h1 : -9223372036854775808 ≤ n) (h2 : n ≤ 9223372036854775807) :
    Calls Tryz.prog 86 #[.int .i64 n] w (Gv (.f (n : Rat)) w) := by
 obtain ⟨w1, hww1, ew1, B1, zw1⟩ := alloc_at w (w.heap.size) (by omega) #[.bool false, .slice none 0 0, .bool false, .slice none 0 0] 40
 go_enter Tryz.func86, Tryz.ntmps86
 go_wp2_with fail
 clear hww1
 replace zw1 := le2 zw1
 refine (rFromInt (n) _ (h1) (h2)).mono (Gv.onWo fun Z4 w2 hZ4 oZ4 ew2 zw2 => ?_)
 have xw_w2 := eg ew1 ew2
 replace oZ4 := oZ4.mono ew1.size
 go_wp2_with fail
 refine (rFromInt (1) _ (by decide) (by decide)).mono (Gv.onWo fun Z5 w3 hZ5 oZ5 ew3 zw3 => ?_)
 have aZ4_Z5 : Apt Z4 Z5 := Apt.seq oZ4 oZ5
 have xw1_w3 := eg ew2 ew3
 replace B1 := B1.ext xw1_w3
 have b1_w3 := B1.c4
 have fb1_w3 := B1.f4
 replace hZ4 := hZ4.ext ew3
 replace oZ4 := oZ4.ext ew3
 have xw_w3 := eg xw_w2 ew3
 replace oZ5 := oZ5.mono xw_w2.size
 obtain ⟨w4, hww4, kw4, Nw4, zw4⟩ := B1.put4 (.bool Z4.b) (.slice Z4.p Z4.n Z4.c) (.bool Z5.b) (.slice Z5.p Z5.n Z5.c)
 have nuw4 : NoU #[.bool false, .slice none 0 0, .bool false, .slice none 0 0] := by simp [NoU]
 replace hZ4 := WR.kb hZ4 B1 nuw4 kw4
 replace oZ4 := OW.kb oZ4 B1 (by decide) kw4
 replace hZ5 := WR.kb hZ5 B1 nuw4 kw4
 replace oZ5 := OW.kb oZ5 B1 (by decide) kw4
 have xw_w4 := Ext.kb xw_w3 kw4 (by omega)
 replace B1 := Nw4
 clear Nw4 kw4
 have b1_w4 := B1.c4
 go_wp2_with fail
 clear hww4
 clear b1_w3 fb1_w3
 replace zw4 := le2 zw4
 refine bodyPost_ret (v := .agg #[.bool Z4.b, .slice Z4.p Z4.n Z4.c, .bool Z5.b, .slice Z5.p Z5.n Z5.c]) (by simp [results, Tryz.results86, go_sem, b1_w4]) rfl ?_
 exact Gv.of_f (X := ⟨Z4, Z5⟩) (mkFR (WR.cast hZ4 (by simp)) (WR.cast hZ5 (by simp))) (mkOF oZ4 oZ5 aZ4_Z5) xw_w4

theorem rFromIntQ_1 (w : World) : Calls Tryz.prog 86 #[.int .i64 1] w (Gv (.f 1) w) := by simpa using rFromIntQ 1 w (by decide) (by decide)
theorem rFromIntQ_0 (w : World) : Calls Tryz.prog 86 #[.int .i64 0] w (Gv (.f 0) w) := by simpa using rFromIntQ 0 w (by decide) (by decide)

set_option maxRecDepth 100000 in
theorem rZero_ (X : Fr) (x : Rat) (w : World) (hX : FR w X x) :
    Calls Tryz.prog 90 #[.agg #[.bool X.N.b, .slice X.N.p X.N.n X.N.c, .bool X.D.b, .slice X.D.p X.D.n X.D.c]] w (Gv (.v (.bool (decide (x = 0)))) w) := by
 obtain ⟨w1, hww1, ew1, B1, zw1⟩ := alloc_at w (w.heap.size) (by omega) #[.bool X.N.b, .slice X.N.p X.N.n X.N.c, .bool X.D.b, .slice X.D.p X.D.n X.D.c] 40
 go_enter Tryz.func90, Tryz.ntmps90
 cases hz : decide (x = 0)
 ·skip
  replace hX := hX.ext ew1
  have b1_w1 := B1.c4
  have hn : x.num ≠ 0 := fun e => of_decide_eq_false hz (Rat.num_eq_zero.1 e)
  have h0 : ((X.N.n : Int) == 0) = false := by have := (hX).1.pos_n hn; simp; omega
  clear hn
  go_wp2_with fail
  clear hww1
  replace zw1 := le2 zw1
  refine bodyPost_ret (v := .bool false) (by simp [results, Tryz.results90, go_sem]) rfl ?_
  exact Gv.of_v ew1
 ·skip
  replace hX := hX.ext ew1
  have b1_w1 := B1.c4
  have hn : x.num = 0 := by rw [of_decide_eq_true hz]; rfl
  have h0 : ((X.N.n : Int) == 0) = true := by have := (hX).1.zero_n hn; simp; omega
  clear hn
  go_wp2_with fail
  clear hww1
  replace zw1 := le2 zw1
  refine bodyPost_ret (v := .bool true) (by simp [results, Tryz.results90, go_sem]) rfl ?_
  exact Gv.of_v ew1

theorem rZero (X : Fr) (x : Rat) (w : World) (hX : FR w X x) {b : Bool} (hb : decide (x = 0) = b) : Calls Tryz.prog 90 #[.agg #[.bool X.N.b, .slice X.N.p X.N.n X.N.c, .bool X.D.b, .slice X.D.p X.D.n X.D.c]] w (Gv (.v (.bool b)) w) := hb ▸ rZero_ X x w hX

set_option maxRecDepth 100000 in
theorem rPlus (X : Fr) (Y : Fr) (x : Rat) (y : Rat) (w : World) (hX : FR w X x) (hY : FR w Y y) (bx : Sz x) (by_ : Sz y) :
    Calls Tryz.prog 92 #[.agg #[.bool X.N.b, .slice X.N.p X.N.n X.N.c, .bool X.D.b, .slice X.D.p X.D.n X.D.c], .agg #[.bool Y.N.b, .slice Y.N.p Y.N.n Y.N.c, .bool Y.D.b, .slice Y.D.p Y.D.n Y.D.c]] w (Gv (.f0 (x + y)) w) := by
 obtain ⟨w1, hww1, ew1, B1, zw1⟩ := alloc_at w (w.heap.size) (by omega) #[.bool X.N.b, .slice X.N.p X.N.n X.N.c, .bool X.D.b, .slice X.D.p X.D.n X.D.c] 40
 obtain ⟨w2, hww2, ew2, B2, zw2⟩ := alloc_at w1 (w.heap.size + 1) (by omega) #[.bool Y.N.b, .slice Y.N.p Y.N.n Y.N.c, .bool Y.D.b, .slice Y.D.p Y.D.n Y.D.c] 40
 obtain ⟨w3, hww3, ew3, B3, zw3⟩ := alloc_at w2 (w.heap.size + 1 + 1) (by omega) #[.bool false, .slice none 0 0, .bool false, .slice none 0 0] 40
 have xw1_w3 := eg ew2 ew3
 replace B1 := B1.ext xw1_w3
 have b1_w3 := B1.c4
 replace B2 := B2.ext ew3
 have b2_w3 := B2.c4
 have xw_w3 := eg (eg ew1 ew2) ew3
 replace hX := hX.ext xw_w3
 replace hY := hY.ext xw_w3
 go_enter Tryz.func92, Tryz.ntmps92
 go_wp2_with fail
 clear hww1 hww2 hww3
 replace zw1 := le2 zw1
 replace zw2 := le2 zw2
 replace zw3 := le2 zw3
 refine regionT 12 (fun kk => match kk with | 4 => some (.w0 (((x).num) * ((((y).den : Int))))) | 9 => some (.w0 (((y).num) * ((((x).den : Int))))) | 10 => some (.w0 (((((x).num) * ((((y).den : Int))))) + ((((y).num) * ((((x).den : Int))))))) | 11 => some (.box 38 #[.bool false, .slice none 0 0]) | _ => none) (by as_aux_lemma => kernel_rfl) (head_of (by as_aux_lemma => kernel_rfl)) ?_
 iterate 4
  refine Walk.one (x := ?_) rfl rfl (fun w1 hI hL K hK => ?_) ?_
  rotate_left
  ·obtain ⟨hc, hf⟩ := bcell hI
   go_simp
   repeat (first | (go_ints; try go_simp) | (simp only [↓IntWalk.iteOmega]; try go_simp))
   exact hK
  simp only [Pq1]
 refine Walk.tell rfl rfl (fun w1 hI hL K hK => ?_) ?_
 ·go_simp
  exact (rProduct X.N Y.D _ _ w1 ((hX.1).ext hI) ((hY.2).ext hI) (up9 bx.n) (up9 by_.d)).mono (tell hK)
 rintro _ ⟨Z10, rfl⟩
 simp only [Pq1]
 iterate 4
  refine Walk.one (x := ?_) rfl rfl (fun w1 hI hL K hK => ?_) ?_
  rotate_left
  ·obtain ⟨hc, hf⟩ := bcell hI
   go_simp
   repeat (first | (go_ints; try go_simp) | (simp only [↓IntWalk.iteOmega]; try go_simp))
   exact hK
  simp only [Pq1]
 refine Walk.tell rfl rfl (fun w1 hI hL K hK => ?_) ?_
 ·go_simp
  exact (rProduct Y.N X.D _ _ w1 ((hY.1).ext hI) ((hX.2).ext hI) (up9 by_.n) (up9 bx.d)).mono (tell hK)
 rintro _ ⟨Z15, rfl⟩
 simp only [Pq1]
 refine Walk.tell rfl rfl (fun w1 hI hL K hK => ?_) ?_
 ·go_simp
  exact (rSum Z10 Z15 _ _ w1 ((Tl.getW0 (kn (i := 4) (v := .agg #[.bool Z10.b, .slice Z10.p Z10.n Z10.c]) rfl (by simp) (pred_of (by as_aux_lemma => kernel_rfl)) hL))) ((Tl.getW0 (kn (i := 9) (v := .agg #[.bool Z15.b, .slice Z15.p Z15.n Z15.c]) rfl (by simp) (pred_of (by as_aux_lemma => kernel_rfl)) hL))) (up5 (sp7 bx.n by_.d)) (up5 (sp7 by_.n bx.d))).mono (tell hK)
 rintro _ ⟨Z16, rfl⟩
 simp only [Pq1]
 refine Walk.tell rfl rfl (fun w1 hI hL K hK => ?_) ?_
 ·go_simp
  exact tellB hK
 rintro _ ⟨g5, rfl⟩
 simp only [Pq1]
 refine Walk.nilF fun w4 ew4 kzL kzX => ?_
 have zw4 := ew4.size
 have hZ16 := Tl.getW0 (kz (i := 10) (v := .agg #[.bool Z16.b, .slice Z16.p Z16.n Z16.c]) rfl (by simp) kzL)
 obtain ⟨B4, yB4⟩ := Tl.getB (kz (i := 11) (v := .pointer (some ⟨g5, 0, none⟩)) rfl (by simp) kzL)
 have lB4 := B4.lt
 clear kzL kzX
 simp only [List.drop_succ_cons, List.drop_zero, List.drop_nil]
 have b4_w4 := B4.c2
 have fb4_w4 := B4.f2
 replace hX := hX.ext ew4
 replace hY := hY.ext ew4
 replace B1 := B1.ext ew4
 replace B2 := B2.ext ew4
 replace B3 := B3.ext ew4
 have xw_w4 := eg xw_w3 ew4
 obtain ⟨w5, hww5, kw5, Nw5, zw5⟩ := B4.put2 (.bool Z16.b) (.slice Z16.p Z16.n Z16.c)
 have nuw5 : NoU #[.bool false, .slice none 0 0] := by simp [NoU]
 replace hX := FR.kb hX B4 nuw5 kw5
 replace hY := FR.kb hY B4 nuw5 kw5
 replace B1 := B1.kb kw5 (by omega)
 replace B2 := B2.kb kw5 (by omega)
 replace B3 := B3.kb kw5 (by omega)
 replace hZ16 := WR.kb hZ16 B4 nuw5 kw5
 have xw_w5 := Ext.kb xw_w4 kw5 (by omega)
 replace B4 := Nw5
 clear Nw5 kw5
 have b4_w5 := B4.c2
 have b1_w5 := B1.c4
 have b2_w5 := B2.c4
 go_wp2_with fail
 clear hww5
 clear b1_w3 b2_w3 b4_w4 fb4_w4
 replace zw5 := le2 zw5
 refine regionT 7 (fun kk => match kk with | 5 => some (.w0 (((((x).den : Int))) * ((((y).den : Int))))) | 6 => some (.f0 (Rat.divInt ((((((x).num) * ((((y).den : Int))))) + ((((y).num) * ((((x).den : Int))))))) ((((((x).den : Int))) * ((((y).den : Int))))))) | _ => none) (by as_aux_lemma => kernel_rfl) (head_of (by as_aux_lemma => kernel_rfl)) ?_
 iterate 5
  refine Walk.one (x := ?_) rfl rfl (fun w1 hI hL K hK => ?_) ?_
  rotate_left
  ·obtain ⟨hc, hf⟩ := bcell hI
   go_simp
   repeat (first | (go_ints; try go_simp) | (simp only [↓IntWalk.iteOmega]; try go_simp))
   exact hK
  simp only [Pq1]
 refine Walk.tell rfl rfl (fun w1 hI hL K hK => ?_) ?_
 ·go_simp
  exact (rProduct X.D Y.D _ _ w1 ((hX.2).ext hI) ((hY.2).ext hI) (up9 bx.d) (up9 by_.d)).mono (tell hK)
 rintro _ ⟨Z22, rfl⟩
 simp only [Pq1]
 refine Walk.tell rfl rfl (fun w1 hI hL K hK => ?_) ?_
 ·go_simp
  exact (rLowest Z16 Z22 _ _ w1 ((hZ16).ext hI) ((Tl.getW0 (kn (i := 5) (v := .agg #[.bool Z22.b, .slice Z22.p Z22.n Z22.c]) rfl (by simp) (pred_of (by as_aux_lemma => kernel_rfl)) hL))) (mul_ne) (sp8 (sp7 bx.n by_.d) (sp7 by_.n bx.d)) (up1 (sp7 bx.d by_.d))).mono (tell hK)
 rintro _ ⟨Z23, rfl⟩
 simp only [Pq1]
 refine Walk.nilF fun w6 ew6 kzL kzX => ?_
 have zw6 := ew6.size
 have hZ23 := Tl.getF0 (kz (i := 6) (v := .agg #[.bool Z23.N.b, .slice Z23.N.p Z23.N.n Z23.N.c, .bool Z23.D.b, .slice Z23.D.p Z23.D.n Z23.D.c]) rfl (by simp) kzL)
 clear kzL kzX
 simp only [List.drop_succ_cons, List.drop_zero, List.drop_nil]
 replace B3 := B3.ext ew6
 have b3_w6 := B3.c4
 have fb3_w6 := B3.f4
 have xw_w6 := eg xw_w5 ew6
 obtain ⟨w7, hww7, kw7, Nw7, zw7⟩ := B3.put4 (.bool Z23.N.b) (.slice Z23.N.p Z23.N.n Z23.N.c) (.bool Z23.D.b) (.slice Z23.D.p Z23.D.n Z23.D.c)
 have nuw7 : NoU #[.bool false, .slice none 0 0, .bool false, .slice none 0 0] := by simp [NoU]
 replace hZ23 := FR.kb hZ23 B3 nuw7 kw7
 have xw_w7 := Ext.kb xw_w6 kw7 (by omega)
 replace B3 := Nw7
 clear Nw7 kw7
 have b3_w7 := B3.c4
 go_wp2_with fail
 clear hww7
 clear b4_w5 b1_w5 b2_w5 b3_w6 fb3_w6
 replace zw7 := le2 zw7
 refine bodyPost_ret (v := .agg #[.bool Z23.N.b, .slice Z23.N.p Z23.N.n Z23.N.c, .bool Z23.D.b, .slice Z23.D.p Z23.D.n Z23.D.c]) (by simp [results, Tryz.results92, go_sem, b3_w7]) rfl ?_
 exact Gv.of_f0 (X := Z23) (FR.cast hZ23 (divInt_add' x y)) xw_w7

set_option maxRecDepth 100000 in
theorem rMinus (X : Fr) (Y : Fr) (x : Rat) (y : Rat) (w : World) (hX : FR w X x) (hY : FR w Y y) (bx : Sz x) (by_ : Sz y) :
    Calls Tryz.prog 94 #[.agg #[.bool X.N.b, .slice X.N.p X.N.n X.N.c, .bool X.D.b, .slice X.D.p X.D.n X.D.c], .agg #[.bool Y.N.b, .slice Y.N.p Y.N.n Y.N.c, .bool Y.D.b, .slice Y.D.p Y.D.n Y.D.c]] w (Gv (.f0 (x - y)) w) := by
 obtain ⟨w1, hww1, ew1, B1, zw1⟩ := alloc_at w (w.heap.size) (by omega) #[.bool X.N.b, .slice X.N.p X.N.n X.N.c, .bool X.D.b, .slice X.D.p X.D.n X.D.c] 40
 obtain ⟨w2, hww2, ew2, B2, zw2⟩ := alloc_at w1 (w.heap.size + 1) (by omega) #[.bool Y.N.b, .slice Y.N.p Y.N.n Y.N.c, .bool Y.D.b, .slice Y.D.p Y.D.n Y.D.c] 40
 obtain ⟨w3, hww3, ew3, B3, zw3⟩ := alloc_at w2 (w.heap.size + 1 + 1) (by omega) #[.bool false, .slice none 0 0, .bool false, .slice none 0 0] 40
 have xw1_w3 := eg ew2 ew3
 replace B1 := B1.ext xw1_w3
 have b1_w3 := B1.c4
 replace B2 := B2.ext ew3
 have b2_w3 := B2.c4
 have xw_w3 := eg (eg ew1 ew2) ew3
 replace hY := hY.ext xw_w3
 replace hX := hX.ext xw_w3
 go_enter Tryz.func94, Tryz.ntmps94
 go_wp2_with fail
 clear hww1 hww2 hww3
 replace zw1 := le2 zw1
 replace zw2 := le2 zw2
 replace zw3 := le2 zw3
 refine regionT 8 (fun kk => match kk with | 3 => some (.w0 (-((y).num))) | 7 => some (.f0 (x + -y)) | _ => none) (by as_aux_lemma => kernel_rfl) (head_of (by as_aux_lemma => kernel_rfl)) ?_
 iterate 3
  refine Walk.one (x := ?_) rfl rfl (fun w1 hI hL K hK => ?_) ?_
  rotate_left
  ·obtain ⟨hc, hf⟩ := bcell hI
   go_simp
   repeat (first | (go_ints; try go_simp) | (simp only [↓IntWalk.iteOmega]; try go_simp))
   exact hK
  simp only [Pq1]
 refine Walk.tell rfl rfl (fun w1 hI hL K hK => ?_) ?_
 ·go_simp
  exact (rNeg Y.N _ w1 ((hY.1).ext hI)).mono (tell hK)
 rintro _ ⟨Z8, rfl⟩
 simp only [Pq1]
 iterate 3
  refine Walk.one (x := ?_) rfl rfl (fun w1 hI hL K hK => ?_) ?_
  rotate_left
  ·obtain ⟨hc, hf⟩ := bcell hI
   go_simp
   repeat (first | (go_ints; try go_simp) | (simp only [↓IntWalk.iteOmega]; try go_simp))
   exact hK
  simp only [Pq1]
 refine Walk.tell rfl rfl (fun w1 hI hL K hK => ?_) ?_
 ·go_simp
  exact (rPlus X ⟨Z8, Y.D⟩ _ _ w1 ((hX).ext hI) (mkFR (q := -y) ((Tl.getW0 (kn (i := 3) (v := .agg #[.bool Z8.b, .slice Z8.p Z8.n Z8.c]) rfl (by simp) (pred_of (by as_aux_lemma => kernel_rfl)) hL))) ((hY.2).ext hI)) (bx) (neg_sz by_)).mono (tell hK)
 rintro _ ⟨Z12, rfl⟩
 simp only [Pq1]
 refine Walk.nilF fun w4 ew4 kzL kzX => ?_
 have zw4 := ew4.size
 have hZ12 := Tl.getF0 (kz (i := 7) (v := .agg #[.bool Z12.N.b, .slice Z12.N.p Z12.N.n Z12.N.c, .bool Z12.D.b, .slice Z12.D.p Z12.D.n Z12.D.c]) rfl (by simp) kzL)
 clear kzL kzX
 simp only [List.drop_succ_cons, List.drop_zero, List.drop_nil]
 replace B3 := B3.ext ew4
 have b3_w4 := B3.c4
 have fb3_w4 := B3.f4
 have xw_w4 := eg xw_w3 ew4
 obtain ⟨w5, hww5, kw5, Nw5, zw5⟩ := B3.put4 (.bool Z12.N.b) (.slice Z12.N.p Z12.N.n Z12.N.c) (.bool Z12.D.b) (.slice Z12.D.p Z12.D.n Z12.D.c)
 have nuw5 : NoU #[.bool false, .slice none 0 0, .bool false, .slice none 0 0] := by simp [NoU]
 replace hZ12 := FR.kb hZ12 B3 nuw5 kw5
 have xw_w5 := Ext.kb xw_w4 kw5 (by omega)
 replace B3 := Nw5
 clear Nw5 kw5
 have b3_w5 := B3.c4
 go_wp2_with fail
 clear hww5
 clear b1_w3 b2_w3 b3_w4 fb3_w4
 replace zw5 := le2 zw5
 refine bodyPost_ret (v := .agg #[.bool Z12.N.b, .slice Z12.N.p Z12.N.n Z12.N.c, .bool Z12.D.b, .slice Z12.D.p Z12.D.n Z12.D.c]) (by simp [results, Tryz.results94, go_sem, b3_w5]) rfl ?_
 exact Gv.of_f0 (X := Z12) (FR.cast hZ12 (add_neg' x y)) xw_w5

set_option maxRecDepth 100000 in
theorem rTimesQ (X : Fr) (Y : Fr) (x : Rat) (y : Rat) (w : World) (hX : FR w X x) (hY : FR w Y y) (bx : Sz x) (by_ : Sz y) :
    Calls Tryz.prog 91 #[.agg #[.bool X.N.b, .slice X.N.p X.N.n X.N.c, .bool X.D.b, .slice X.D.p X.D.n X.D.c], .agg #[.bool Y.N.b, .slice Y.N.p Y.N.n Y.N.c, .bool Y.D.b, .slice Y.D.p Y.D.n Y.D.c]] w (Gv (.f0 (x * y)) w) := by
 obtain ⟨w1, hww1, ew1, B1, zw1⟩ := alloc_at w (w.heap.size) (by omega) #[.bool X.N.b, .slice X.N.p X.N.n X.N.c, .bool X.D.b, .slice X.D.p X.D.n X.D.c] 40
 obtain ⟨w2, hww2, ew2, B2, zw2⟩ := alloc_at w1 (w.heap.size + 1) (by omega) #[.bool Y.N.b, .slice Y.N.p Y.N.n Y.N.c, .bool Y.D.b, .slice Y.D.p Y.D.n Y.D.c] 40
 obtain ⟨w3, hww3, ew3, B3, zw3⟩ := alloc_at w2 (w.heap.size + 1 + 1) (by omega) #[.bool false, .slice none 0 0, .bool false, .slice none 0 0] 40
 have xw1_w3 := eg ew2 ew3
 replace B1 := B1.ext xw1_w3
 have b1_w3 := B1.c4
 replace B2 := B2.ext ew3
 have b2_w3 := B2.c4
 have xw_w3 := eg (eg ew1 ew2) ew3
 replace hX := hX.ext xw_w3
 replace hY := hY.ext xw_w3
 go_enter Tryz.func91, Tryz.ntmps91
 go_wp2_with fail
 clear hww1 hww2 hww3
 replace zw1 := le2 zw1
 replace zw2 := le2 zw2
 replace zw3 := le2 zw3
 refine regionT 11 (fun kk => match kk with | 4 => some (.w0 (((x).num) * ((y).num))) | 9 => some (.w0 (((((x).den : Int))) * ((((y).den : Int))))) | 10 => some (.f0 (Rat.divInt ((((x).num) * ((y).num))) ((((((x).den : Int))) * ((((y).den : Int))))))) | _ => none) (by as_aux_lemma => kernel_rfl) (head_of (by as_aux_lemma => kernel_rfl)) ?_
 iterate 4
  refine Walk.one (x := ?_) rfl rfl (fun w1 hI hL K hK => ?_) ?_
  rotate_left
  ·obtain ⟨hc, hf⟩ := bcell hI
   go_simp
   repeat (first | (go_ints; try go_simp) | (simp only [↓IntWalk.iteOmega]; try go_simp))
   exact hK
  simp only [Pq1]
 refine Walk.tell rfl rfl (fun w1 hI hL K hK => ?_) ?_
 ·go_simp
  exact (rProduct X.N Y.N _ _ w1 ((hX.1).ext hI) ((hY.1).ext hI) (up9 bx.n) (up9 by_.n)).mono (tell hK)
 rintro _ ⟨Z9, rfl⟩
 simp only [Pq1]
 iterate 4
  refine Walk.one (x := ?_) rfl rfl (fun w1 hI hL K hK => ?_) ?_
  rotate_left
  ·obtain ⟨hc, hf⟩ := bcell hI
   go_simp
   repeat (first | (go_ints; try go_simp) | (simp only [↓IntWalk.iteOmega]; try go_simp))
   exact hK
  simp only [Pq1]
 refine Walk.tell rfl rfl (fun w1 hI hL K hK => ?_) ?_
 ·go_simp
  exact (rProduct X.D Y.D _ _ w1 ((hX.2).ext hI) ((hY.2).ext hI) (up9 bx.d) (up9 by_.d)).mono (tell hK)
 rintro _ ⟨Z14, rfl⟩
 simp only [Pq1]
 refine Walk.tell rfl rfl (fun w1 hI hL K hK => ?_) ?_
 ·go_simp
  exact (rLowest Z9 Z14 _ _ w1 ((Tl.getW0 (kn (i := 4) (v := .agg #[.bool Z9.b, .slice Z9.p Z9.n Z9.c]) rfl (by simp) (pred_of (by as_aux_lemma => kernel_rfl)) hL))) ((Tl.getW0 (kn (i := 9) (v := .agg #[.bool Z14.b, .slice Z14.p Z14.n Z14.c]) rfl (by simp) (pred_of (by as_aux_lemma => kernel_rfl)) hL))) (mul_ne) (up1 (sp7 bx.n by_.n)) (up1 (sp7 bx.d by_.d))).mono (tell hK)
 rintro _ ⟨Z15, rfl⟩
 simp only [Pq1]
 refine Walk.nilF fun w4 ew4 kzL kzX => ?_
 have zw4 := ew4.size
 have hZ15 := Tl.getF0 (kz (i := 10) (v := .agg #[.bool Z15.N.b, .slice Z15.N.p Z15.N.n Z15.N.c, .bool Z15.D.b, .slice Z15.D.p Z15.D.n Z15.D.c]) rfl (by simp) kzL)
 clear kzL kzX
 simp only [List.drop_succ_cons, List.drop_zero, List.drop_nil]
 replace B3 := B3.ext ew4
 have b3_w4 := B3.c4
 have fb3_w4 := B3.f4
 have xw_w4 := eg xw_w3 ew4
 obtain ⟨w5, hww5, kw5, Nw5, zw5⟩ := B3.put4 (.bool Z15.N.b) (.slice Z15.N.p Z15.N.n Z15.N.c) (.bool Z15.D.b) (.slice Z15.D.p Z15.D.n Z15.D.c)
 have nuw5 : NoU #[.bool false, .slice none 0 0, .bool false, .slice none 0 0] := by simp [NoU]
 replace hZ15 := FR.kb hZ15 B3 nuw5 kw5
 have xw_w5 := Ext.kb xw_w4 kw5 (by omega)
 replace B3 := Nw5
 clear Nw5 kw5
 have b3_w5 := B3.c4
 go_wp2_with fail
 clear hww5
 clear b1_w3 b2_w3 b3_w4 fb3_w4
 replace zw5 := le2 zw5
 refine bodyPost_ret (v := .agg #[.bool Z15.N.b, .slice Z15.N.p Z15.N.n Z15.N.c, .bool Z15.D.b, .slice Z15.D.p Z15.D.n Z15.D.c]) (by simp [results, Tryz.results91, go_sem, b3_w5]) rfl ?_
 exact Gv.of_f0 (X := Z15) (FR.cast hZ15 (divInt_mul' x y)) xw_w5

set_option maxRecDepth 100000 in
theorem rOrderQ (X : Fr) (Y : Fr) (x : Rat) (y : Rat) (w : World) (hX : FR w X x) (hY : FR w Y y) (bx : Sz x) (by_ : Sz y) :
    Calls Tryz.prog 42 #[.agg #[.bool X.N.b, .slice X.N.p X.N.n X.N.c, .bool X.D.b, .slice X.D.p X.D.n X.D.c], .agg #[.bool Y.N.b, .slice Y.N.p Y.N.n Y.N.c, .bool Y.D.b, .slice Y.D.p Y.D.n Y.D.c]] w (Gv (.v (.int .i64 (cmpQ x y))) w) := by
 obtain ⟨w1, hww1, ew1, B1, zw1⟩ := alloc_at w (w.heap.size) (by omega) #[.bool X.N.b, .slice X.N.p X.N.n X.N.c, .bool X.D.b, .slice X.D.p X.D.n X.D.c] 40
 obtain ⟨w2, hww2, ew2, B2, zw2⟩ := alloc_at w1 (w.heap.size + 1) (by omega) #[.bool Y.N.b, .slice Y.N.p Y.N.n Y.N.c, .bool Y.D.b, .slice Y.D.p Y.D.n Y.D.c] 40
 replace B1 := B1.ext ew2
 have b1_w2 := B1.c4
 have b2_w2 := B2.c4
 have xw_w2 := eg ew1 ew2
 replace hX := hX.ext xw_w2
 replace hY := hY.ext xw_w2
 go_enter Tryz.func42, Tryz.ntmps42
 go_wp2_with fail
 clear hww1 hww2
 replace zw1 := le2 zw1
 replace zw2 := le2 zw2
 refine regionT 11 (fun kk => match kk with | 4 => some (.w0 (((x).num) * ((((y).den : Int))))) | 9 => some (.w0 (((y).num) * ((((x).den : Int))))) | 10 => some (.v (.int .i64 (cmpQ x y))) | _ => none) (by as_aux_lemma => kernel_rfl) (head_of (by as_aux_lemma => kernel_rfl)) ?_
 iterate 4
  refine Walk.one (x := ?_) rfl rfl (fun w1 hI hL K hK => ?_) ?_
  rotate_left
  ·obtain ⟨hc, hf⟩ := bcell hI
   go_simp
   repeat (first | (go_ints; try go_simp) | (simp only [↓IntWalk.iteOmega]; try go_simp))
   exact hK
  simp only [Pq1]
 refine Walk.tell rfl rfl (fun w1 hI hL K hK => ?_) ?_
 ·go_simp
  exact (rProduct X.N Y.D _ _ w1 ((hX.1).ext hI) ((hY.2).ext hI) (up9 bx.n) (up9 by_.d)).mono (tell hK)
 rintro _ ⟨Z9, rfl⟩
 simp only [Pq1]
 iterate 4
  refine Walk.one (x := ?_) rfl rfl (fun w1 hI hL K hK => ?_) ?_
  rotate_left
  ·obtain ⟨hc, hf⟩ := bcell hI
   go_simp
   repeat (first | (go_ints; try go_simp) | (simp only [↓IntWalk.iteOmega]; try go_simp))
   exact hK
  simp only [Pq1]
 refine Walk.tell rfl rfl (fun w1 hI hL K hK => ?_) ?_
 ·go_simp
  exact (rProduct Y.N X.D _ _ w1 ((hY.1).ext hI) ((hX.2).ext hI) (up9 by_.n) (up9 bx.d)).mono (tell hK)
 rintro _ ⟨Z14, rfl⟩
 simp only [Pq1]
 refine Walk.tell rfl rfl (fun w1 hI hL K hK => ?_) ?_
 ·go_simp
  exact (rOrder Z9 Z14 _ _ w1 ((Tl.getW0 (kn (i := 4) (v := .agg #[.bool Z9.b, .slice Z9.p Z9.n Z9.c]) rfl (by simp) (pred_of (by as_aux_lemma => kernel_rfl)) hL))) ((Tl.getW0 (kn (i := 9) (v := .agg #[.bool Z14.b, .slice Z14.p Z14.n Z14.c]) rfl (by simp) (pred_of (by as_aux_lemma => kernel_rfl)) hL))) (up2 (sp7 bx.n by_.d)) (up2 (sp7 by_.n bx.d))).mono (tell hK)
 rintro _ rfl
 simp only [Pq1]
 refine Walk.nilF fun w3 ew3 kzL kzX => ?_
 have zw3 := ew3.size
 clear kzL kzX
 simp only [List.drop_succ_cons, List.drop_zero, List.drop_nil]
 have xw_w3 := eg xw_w2 ew3
 go_wp2_with fail
 clear b1_w2 b2_w2
 refine bodyPost_ret (v := .int .i64 (cmpQ x y)) (by simp [results, Tryz.results42, go_sem]) rfl ?_
 exact Gv.of_v xw_w3
end Go.Proofs.YtndgaecfeaedeaaGreat
namespace Go.Proofs.YtndgaecfeaedeaaGreat
open Go.RowKit Lex Mth

/-- A table as memory holds it: whatever it is. -/
structure Tb where
 first : Int
 sel : Int
 P : Option Addr
 N : Nat
 C : Nat
 rp : Nat → Option Addr
 rn : Nat → Nat
 rc : Nat → Nat
 el : Nat → Nat → Fr
 ln : Nat → Nat → List Nat
 ld : Nat → Nat → List Nat
abbrev Tb.val (T : Tb) : Value := .agg #[.int .i64 T.first, .int .i64 T.sel, .slice T.P T.N T.C]
structure TW (w : World) (T : Tb) : Prop where
 f1 : -9223372036854775808 ≤ T.first
 f2 : T.first ≤ 9223372036854775807
 s1 : -9223372036854775808 ≤ T.sel
 s2 : T.sel ≤ 9223372036854775807
 has : Has T.P T.N
 le : T.N ≤ T.C
 reach : T.N ≤ 70368744177664
 sl : ∀ k, k < T.N → w.cell? (at_ T.P k) = some (.slice (T.rp k) (T.rn k) (T.rc k))
 row : ∀ k, k < T.N → FRow w (T.rp k) (T.rn k) (T.rc k) (T.el k)
 raw : ∀ k, k < T.N → ∀ j, j < T.rn k → UF w (T.el k j) (T.ln k j) (T.ld k j)
theorem TW.ext {w w' : World} {T : Tb} (h : TW w T) (e : Ext w w') : TW w' T :=
 ⟨h.f1, h.f2, h.s1, h.s2, h.has, h.le, h.reach, fun k hk => cell_ext e (h.sl k hk), fun k hk => (h.row k hk).ext e, fun k hk j hj => (h.raw k hk j hj).ext e⟩

/-- What Valid looks at. -/
def rowOk (T : Tb) (k : Nat) : Prop := (T.rn k : Int) = T.sel + 1 ∧ ∀ j, j < T.rn k → okR (T.el k j).N.b (T.ln k j) (T.el k j).D.b (T.ld k j) = true
def boundsOk (T : Tb) : Prop := 0 ≤ T.first ∧ T.first ≤ 150 ∧ 0 ≤ T.sel ∧ T.sel ≤ 5 ∧ 1 ≤ T.N ∧ T.N ≤ 111
/-- The rates of a table whose rows are valid. -/
structure TQ (w : World) (T : Tb) (R : Nat → Nat → Rat) : Prop where
 tw : TW w T
 b : boundsOk T
 rn : ∀ k, k < T.N → (T.rn k : Int) = T.sel + 1
 q : ∀ k, k < T.N → ∀ j, j < T.rn k → FR w (T.el k j) (R k j)
 sz : ∀ k, k < T.N → ∀ j, j < T.rn k → Sz (R k j) ∧ (R k j).den < 65536 ∧ 0 ≤ R k j ∧ R k j ≤ 1
theorem TQ.ext {w w' : World} {T : Tb} {R : Nat → Nat → Rat} (h : TQ w T R) (e : Ext w w') : TQ w' T R := ⟨h.tw.ext e, h.b, h.rn, fun k hk j hj => (h.q k hk j hj).ext e, h.sz⟩

theorem uf_lists {w : World} {X : Fr} {l m : List Nat} {q : Rat} (h : UF w X l m) (hq : FR w X q) : l = limbs q.num.natAbs ∧ m = limbs q.den := by
 constructor
 ·have u := hq.1.u16.2
  have v := h.1
  have l1 : l.length = X.N.n := v.len
  have l2 : (limbs q.num.natAbs).length = X.N.n := u.len
  refine ext_getD (by rw [l1, l2]) fun k hk => ?_
  have c1 := v.cell k (by omega)
  have c2 := u.cell k (by omega)
  rw [c1] at c2
  simp only [Option.some.injEq, Value.int.injEq, true_and] at c2
  have c3 : dig l k = dig (limbs q.num.natAbs) k := by omega
  exact c3
 ·have u := hq.2.u16.2
  have v := h.2
  have l1 : m.length = X.D.n := v.len
  have l2 : (limbs ((q.den : Nat) : Int).natAbs).length = X.D.n := u.len
  refine ext_getD (by rw [l1]; exact l2.symm) fun k hk => ?_
  have c1 := v.cell k (by omega)
  have c2 := u.cell k (by omega)
  rw [c1] at c2
  simp only [Option.some.injEq, Value.int.injEq, true_and] at c2
  have c3 : dig m k = dig (limbs ((q.den : Nat) : Int).natAbs) k := by omega
  exact c3
theorem eq_one_iff {w : World} {X : Fr} {l m : List Nat} {q : Rat} (h : UF w X l m) (hq : FR w X q) (h0 : 0 ≤ q) : eqQ q 1 = true ↔ val l = val m := by
 obtain ⟨rfl, rfl⟩ := uf_lists h hq
 rw [eqQ_iff, val_limbs, val_limbs]
 have hn := Rat.num_nonneg.2 h0
 constructor
 ·intro e; subst e; rfl
 ·intro e
  have hr := q.reduced
  rw [e] at hr
  have h1 : q.den = 1 := by
   have : Nat.gcd q.den q.den = 1 := hr
   rwa [Nat.gcd_self] at this
  exact Rat.ext (by show q.num = 1; omega) h1
theorem okR_q {w : World} {X : Fr} {l m : List Nat} (h : UF w X l m) (ok : okR X.N.b l X.D.b m = true) : ∃ q : Rat, FR w X q ∧ Sz q ∧ q.den < 65536 ∧ 0 ≤ q ∧ q ≤ 1 := by
 unfold okR at ok
 simp only [Bool.and_eq_true, decide_eq_true_eq, Bool.not_eq_true'] at ok
 obtain ⟨⟨⟨⟨h1, h2⟩, h3⟩, h4⟩, h5⟩ := ok
 obtain ⟨q, hq, hs, _⟩ := okF_FR h h4
 have hc := cmp_one h hq h3
 rw [decide_eq_decide] at hc
 have hle := hc.2 h5
 unfold cmpQ at hle
 rw [cmpZ_le] at hle
 have e1 := WR.neg hq.1
 rw [h3] at e1
 have p1 : ¬ q.num < 0 := of_decide_eq_false e1.symm
 refine ⟨q, hq, hs, ?_, ?_, ?_⟩
 ·have := hq.2.n
  rw [Int.natAbs_natCast] at this
  have h6 : siz q.den ≤ 1 := by rw [← this, h.u2]; exact h2
  exact siz_one.1 h6
 ·exact Rat.num_nonneg.1 (by omega)
 ·rw [Rat.le_iff]; exact hle
theorem TQ.of {w : World} {T : Tb} (h : TW w T) (b : boundsOk T) (r : ∀ k, k < T.N → rowOk T k) : ∃ R, TQ w T R := by
 have hq : ∀ k j, ∃ q : Rat, k < T.N → j < T.rn k → FR w (T.el k j) q ∧ Sz q ∧ q.den < 65536 ∧ 0 ≤ q ∧ q ≤ 1 := fun k j => by
  by_cases hk : k < T.N
  ·by_cases hj : j < T.rn k
   ·obtain ⟨q, hq⟩ := okR_q (h.raw k hk j hj) ((r k hk).2 j hj)
    exact ⟨q, fun _ _ => hq⟩
   ·exact ⟨0, fun _ h => absurd h hj⟩
  ·exact ⟨0, fun h => absurd h hk⟩
 refine ⟨fun k j => Classical.choose (hq k j), h, b, fun k hk => (r k hk).1, fun k hk j hj => (Classical.choose_spec (hq k j) hk hj).1, fun k hk j hj => (Classical.choose_spec (hq k j) hk hj).2⟩
/-- Valid. -/
def OkT (T : Tb) : Prop := boundsOk T ∧ (∀ k, k < T.N → rowOk T k) ∧ val (T.ln (T.N - 1) T.sel.toNat) = val (T.ld (T.N - 1) T.sel.toNat)
noncomputable def okT (T : Tb) : Bool := @decide (OkT T) (Classical.propDecidable _)
theorem okT_iff {T : Tb} : okT T = true ↔ OkT T := by unfold okT; exact @decide_eq_true_iff (OkT T) (Classical.propDecidable _)
end Go.Proofs.YtndgaecfeaedeaaGreat
