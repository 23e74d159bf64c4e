/- Walks of package frac: the negative, one, the same, whole numbers as fractions. Walks of package frac: Valid. Walks of package frac: lists of fractions, valid. Walks of the kit's copies: lists of fractions. -/
import Derived.Test.YtndgaecfeaedeaaGreatG11
import Derived.Test.YtndgaecfeaedeaaGreatG12
set_option linter.unusedSimpArgs false
set_option linter.unusedVariables false
namespace Go.Proofs.YtndgaecfeaedeaaGreat
open Go.RowKit Lex Mth
attribute [local go_sem] run_indexAt_at add_zero_map Oper.semAt_some at_zero

theorem kSame_t (X Y : Wh) (x y : Int) (w : World) (hx : WR w X x) (hy : WR w Y y) (h : x = y) : Calls Tryz.prog 78 #[X.val, Y.val] w (Gv (.v (.bool true)) w) :=
 (Same_any _ _ _ _ _ _ _ _ _ _ w hx.u16.2 hy.u16.2).mono fun _ _ ⟨he, h3⟩ => by
  subst h he
  rw [show X.b = Y.b by rw [hx.neg, hy.neg]]
  simp
  exact Gv.of_v h3
theorem natAbs_dec {x y : Int} (h : x ≠ y) : ((decide (x < 0) == decide (y < 0)) && decide (limbs x.natAbs = limbs y.natAbs)) = false := by
 rw [Bool.eq_false_iff]
 intro e
 simp only [Bool.and_eq_true, beq_iff_eq, decide_eq_true_eq, decide_eq_decide] at e
 have := limbs_inj e.2
 omega
theorem kSame_f (X Y : Wh) (x y : Int) (w : World) (hx : WR w X x) (hy : WR w Y y) (h : x ≠ y) : Calls Tryz.prog 78 #[X.val, Y.val] w (Gv (.v (.bool false)) w) :=
 (Same_any _ _ _ _ _ _ _ _ _ _ w hx.u16.2 hy.u16.2).mono fun _ _ ⟨he, h3⟩ => by
  subst he
  rw [hx.neg, hy.neg, natAbs_dec h]
  exact Gv.of_v h3
theorem kFromInt (n : Int) (w : World) (h1 : -9223372036854775808 ≤ n) (h2 : n ≤ 9223372036854775807) : Calls Tryz.prog 79 #[.int .i64 n] w (Gv (.w n) w) :=
 (FromInt_any n w h1 h2).mono fun _ _ ⟨b, p, n, c, he, h1, h2, h3⟩ => by subst he; exact Gv.of_w (X := ⟨b, p, n, c⟩) h1 h2 h3
theorem kValid (X : Wh) (l : List Nat) (w : World) (h : UW w X l) {b : Bool} (hv : valW X.b l = b) : Calls Tryz.prog 126 #[X.val] w (Gv (.v (.bool b)) w) :=
 (Valid_any _ _ _ _ l w h).mono fun _ _ ⟨he, h3⟩ => by subst he hv; exact Gv.of_v h3
theorem kValidW (X : Wh) (x : Int) (w : World) (h : WR w X x) (b : siz x.natAbs ≤ 1024) : Calls Tryz.prog 126 #[X.val] w (Gv (.v (.bool true)) w) :=
 kValid X _ w h.u16.2 (by rw [h.neg]; exact valW_of b)
theorem kCmp (X Y : Wh) (x y : Int) (w : World) (hx : WR w X x) (hy : WR w Y y) (b : siz x.natAbs ≤ 1024) (b' : siz y.natAbs ≤ 1024) :
    Calls Tryz.prog 75 #[X.val, Y.val] w (Gv (.v (.int .i64 (cmpZ x y))) w) :=
 (Cmp_any _ _ _ _ _ _ _ _ x y w hx hy b b').mono fun _ _ ⟨he, h3⟩ => by subst he; exact Gv.of_v h3
theorem WR.of {w : World} {X : Wh} {l : List Nat} (h : UW w X l) (hv : valW X.b l = true) : WR w X (sgn X.b (val l)) := by
 unfold valW at hv
 simp only [Bool.and_eq_true, Bool.or_eq_true, decide_eq_true_eq, bne_iff_ne, ne_eq, Bool.not_eq_true'] at hv
 have hl : limbs (val l) = l := limbs_val h.lim (fun hne => by
  rcases hv.2 with h' | h'
  ·exact absurd (List.eq_nil_of_length_eq_zero h'.1) hne
  ·exact h'.2)
 refine WR.mk ?_ (by rw [sgn_natAbs, hl]; exact h)
 rw [sgn_neg]
 have : siz (val l) = l.length := by unfold siz; rw [hl]
 rw [this]
 rcases hv.2 with h' | h'
 ·rw [h'.2]; rfl
 ·simp [h'.1]
theorem neg_R {w : World} {X : Wh} {x : Int} {s : Bool} (h : U16 w X.p X.n X.c (limbs x.natAbs)) (hs : s = decide (-x < 0)) : WR w ⟨s, X.p, X.n, X.c⟩ (-x) := WR.mk hs (by rw [Int.natAbs_neg]; exact h)

set_option maxRecDepth 100000 in
theorem fneg_a (X : Wh) (x : Int) (w : World) (hX : WR w X x) (hb : X.b = true) :
    Calls Tryz.prog 131 #[.agg #[.bool true, .slice X.p X.n X.c]] w (Gv (.w (-x)) w) := by
 have HX : Hid (x < 0) := by have := hX.neg; rw [hb] at this; show x < 0; exact of_decide_eq_true this.symm
 clear hb
 obtain ⟨w1, hww1, ew1, B1, zw1⟩ := alloc_at w (w.heap.size) (by omega) #[.bool true, .slice X.p X.n X.c] 38
 obtain ⟨w2, hww2, ew2, B2, zw2⟩ := alloc_at w1 (w.heap.size + 1) (by omega) #[.bool false, .slice none 0 0] 38
 replace B1 := B1.ext ew2
 have b1_w2 := B1.c2
 have xw_w2 := eg ew1 ew2
 replace hX := hX.ext xw_w2
 go_enter Tryz.func131, Tryz.ntmps131
 go_wp2_with fail
 clear hww1 hww2
 replace zw1 := le2 zw1
 replace zw2 := le2 zw2
 refine regionT 13 (fun kk => match kk with | 11 => some (.c (limbs (x).natAbs)) | _ => none) (by as_aux_lemma => kernel_rfl) (head_of (by as_aux_lemma => kernel_rfl)) ?_
 iterate 4
  refine Walk.one (x := ?_) rfl rfl (fun w1 hI hL K hK => ?_) ?_
  rotate_left
  ·obtain ⟨hc, hf⟩ := bcell hI
   go_simp
   repeat (first | (go_ints; try go_simp) | (simp only [↓IntWalk.iteOmega]; try go_simp))
   exact hK
  simp only [Pq1]
 refine Walk.skip rfl (by as_aux_lemma => kernel_rfl) ?_
 simp only [Pq1]
 refine Walk.skip rfl (by as_aux_lemma => kernel_rfl) ?_
 simp only [Pq1]
 refine Walk.skip rfl (by as_aux_lemma => kernel_rfl) ?_
 simp only [Pq1]
 refine Walk.skip rfl (by as_aux_lemma => kernel_rfl) ?_
 simp only [Pq1]
 iterate 3
  refine Walk.one (x := ?_) rfl rfl (fun w1 hI hL K hK => ?_) ?_
  rotate_left
  ·obtain ⟨hc, hf⟩ := bcell hI
   go_simp
   repeat (first | (go_ints; try go_simp) | (simp only [↓IntWalk.iteOmega]; try go_simp))
   exact hK
  simp only [Pq1]
 refine Walk.tell rfl rfl (fun w1 hI hL K hK => ?_) ?_
 ·go_simp
  exact (kClone X _ w1 (((hX).ext hI).u16.2)).mono (tell hK)
 rintro _ ⟨Z14, rfl⟩
 simp only [Pq1]
 refine Walk.one (x := ?_) rfl rfl (fun w1 hI hL K hK => ?_) ?_
 rotate_left
 ·obtain ⟨hc, hf⟩ := bcell hI
  go_simp
  repeat (first | (go_ints; try go_simp) | (simp only [↓IntWalk.iteOmega]; try go_simp))
  exact hK
 simp only [Pq1]
 refine Walk.nilF fun w3 ew3 kzL kzX => ?_
 have zw3 := ew3.size
 obtain ⟨hZ14, oZ14⟩ := Tl.getC (kz (i := 11) (v := .slice Z14.p Z14.n Z14.c) rfl (by simp) kzL)
 replace oZ14 := oZ14.mono xw_w2.size
 clear kzL kzX
 simp only [List.drop_succ_cons, List.drop_zero, List.drop_nil]
 replace B2 := B2.ext ew3
 have b2_w3 := B2.c2
 have fb2_w3 := B2.f2
 have xw_w3 := eg xw_w2 ew3
 obtain ⟨w4, hww4, kw4, Nw4, zw4⟩ := B2.put2 (.bool false) (.slice Z14.p Z14.n Z14.c)
 have nuw4 : NoU #[.bool false, .slice none 0 0] := by simp [NoU]
 replace hZ14 := UW.kb hZ14 B2 nuw4 kw4
 replace oZ14 := OW.kb oZ14 B2 (by decide) kw4
 have xw_w4 := Ext.kb xw_w3 kw4 (by omega)
 replace B2 := Nw4
 clear Nw4 kw4
 have b2_w4 := B2.c2
 go_wp2_with fail
 clear hww4
 clear b1_w2 b2_w3 fb2_w3
 replace zw4 := le2 zw4
 refine bodyPost_ret (v := .agg #[.bool false, .slice Z14.p Z14.n Z14.c]) (by simp [results, Tryz.results131, go_sem, b2_w4]) rfl ?_
 exact Gv.of_w (X := ⟨false, Z14.p, Z14.n, Z14.c⟩) (neg_R hZ14 (by have := HX.out; simp; omega)) oZ14 xw_w4

set_option maxRecDepth 100000 in
theorem fneg_b (X : Wh) (x : Int) (w : World) (hX : WR w X x) (hb : X.b = false) (h0 : X.n = 0) :
    Calls Tryz.prog 131 #[.agg #[.bool false, .slice X.p X.n X.c]] w (Gv (.w (-x)) w) := by
 have HX : Hid (x = 0) := by have := hX.n; rw [h0] at this; have := siz_eq_zero.1 this.symm; show x = 0; omega
 have h0d : decide (0 < (X.n : Int)) = false := by simp; omega
 have h0e : decide (0 < X.n) = false := by simp; omega
 clear hb h0
 obtain ⟨w1, hww1, ew1, B1, zw1⟩ := alloc_at w (w.heap.size) (by omega) #[.bool false, .slice X.p X.n X.c] 38
 obtain ⟨w2, hww2, ew2, B2, zw2⟩ := alloc_at w1 (w.heap.size + 1) (by omega) #[.bool false, .slice none 0 0] 38
 replace B1 := B1.ext ew2
 have b1_w2 := B1.c2
 have xw_w2 := eg ew1 ew2
 replace hX := hX.ext xw_w2
 go_enter Tryz.func131, Tryz.ntmps131
 go_wp2_with fail
 clear hww1 hww2
 replace zw1 := le2 zw1
 replace zw2 := le2 zw2
 refine regionT 13 (fun kk => match kk with | 11 => some (.c (limbs (x).natAbs)) | _ => none) (by as_aux_lemma => kernel_rfl) (head_of (by as_aux_lemma => kernel_rfl)) ?_
 iterate 4
  refine Walk.one (x := ?_) rfl rfl (fun w1 hI hL K hK => ?_) ?_
  rotate_left
  ·obtain ⟨hc, hf⟩ := bcell hI
   go_simp
   repeat (first | (go_ints; try go_simp) | (simp only [↓IntWalk.iteOmega]; try go_simp))
   exact hK
  simp only [Pq1]
 refine Walk.oneG (x := ?_) rfl (by as_aux_lemma => kernel_rfl) (fun w1 hI hL K hK => ?_) ?_
 rotate_left
 ·obtain ⟨hc, hf⟩ := bcell hI
  go_simp
  repeat (first | (go_ints; try go_simp) | (simp only [↓IntWalk.iteOmega]; try go_simp))
  exact hK
 simp only [Pq1]
 refine Walk.oneG (x := ?_) rfl (by as_aux_lemma => kernel_rfl) (fun w1 hI hL K hK => ?_) ?_
 rotate_left
 ·obtain ⟨hc, hf⟩ := bcell hI
  go_simp
  repeat (first | (go_ints; try go_simp) | (simp only [↓IntWalk.iteOmega]; try go_simp))
  exact hK
 simp only [Pq1]
 refine Walk.oneG (x := ?_) rfl (by as_aux_lemma => kernel_rfl) (fun w1 hI hL K hK => ?_) ?_
 rotate_left
 ·obtain ⟨hc, hf⟩ := bcell hI
  go_simp
  repeat (first | (go_ints; try go_simp) | (simp only [↓IntWalk.iteOmega]; try go_simp))
  exact hK
 simp only [Pq1]
 refine Walk.oneG (x := ?_) rfl (by as_aux_lemma => kernel_rfl) (fun w1 hI hL K hK => ?_) ?_
 rotate_left
 ·obtain ⟨hc, hf⟩ := bcell hI
  go_simp
  repeat (first | (go_ints; try go_simp) | (simp only [↓IntWalk.iteOmega]; try go_simp))
  exact hK
 simp only [Pq1]
 iterate 3
  refine Walk.one (x := ?_) rfl rfl (fun w1 hI hL K hK => ?_) ?_
  rotate_left
  ·obtain ⟨hc, hf⟩ := bcell hI
   go_simp
   repeat (first | (go_ints; try go_simp) | (simp only [↓IntWalk.iteOmega]; try go_simp))
   exact hK
  simp only [Pq1]
 refine Walk.tell rfl rfl (fun w1 hI hL K hK => ?_) ?_
 ·go_simp
  exact (kClone X _ w1 (((hX).ext hI).u16.2)).mono (tell hK)
 rintro _ ⟨Z14, rfl⟩
 simp only [Pq1]
 refine Walk.one (x := ?_) rfl rfl (fun w1 hI hL K hK => ?_) ?_
 rotate_left
 ·obtain ⟨hc, hf⟩ := bcell hI
  go_simp
  repeat (first | (go_ints; try go_simp) | (simp only [↓IntWalk.iteOmega]; try go_simp))
  exact hK
 simp only [Pq1]
 refine Walk.nilF fun w3 ew3 kzL kzX => ?_
 have zw3 := ew3.size
 obtain ⟨hZ14, oZ14⟩ := Tl.getC (kz (i := 11) (v := .slice Z14.p Z14.n Z14.c) rfl (by simp) kzL)
 replace oZ14 := oZ14.mono xw_w2.size
 clear kzL kzX
 simp only [List.drop_succ_cons, List.drop_zero, List.drop_nil]
 replace B2 := B2.ext ew3
 have b2_w3 := B2.c2
 have fb2_w3 := B2.f2
 have xw_w3 := eg xw_w2 ew3
 obtain ⟨w4, hww4, kw4, Nw4, zw4⟩ := B2.put2 (.bool false) (.slice Z14.p Z14.n Z14.c)
 have nuw4 : NoU #[.bool false, .slice none 0 0] := by simp [NoU]
 replace hZ14 := UW.kb hZ14 B2 nuw4 kw4
 replace oZ14 := OW.kb oZ14 B2 (by decide) kw4
 have xw_w4 := Ext.kb xw_w3 kw4 (by omega)
 replace B2 := Nw4
 clear Nw4 kw4
 have b2_w4 := B2.c2
 go_wp2_with fail
 clear hww4
 clear b1_w2 b2_w3 fb2_w3
 replace zw4 := le2 zw4
 refine bodyPost_ret (v := .agg #[.bool false, .slice Z14.p Z14.n Z14.c]) (by simp [results, Tryz.results131, go_sem, b2_w4]) rfl ?_
 exact Gv.of_w (X := ⟨false, Z14.p, Z14.n, Z14.c⟩) (neg_R hZ14 (by have := HX.out; simp; omega)) oZ14 xw_w4

set_option maxRecDepth 100000 in
theorem fneg_c (X : Wh) (x : Int) (w : World) (hX : WR w X x) (hb : X.b = false) (h0 : 0 < X.n) :
    Calls Tryz.prog 131 #[.agg #[.bool false, .slice X.p X.n X.c]] w (Gv (.w (-x)) w) := by
 have HX : Hid (0 < x) := by
  have h1 := hX.neg
  rw [hb] at h1
  have h2 : x ≠ 0 := fun e => by subst e; have := hX.n; simp [siz_zero] at this; omega
  have h3 : ¬ x < 0 := of_decide_eq_false h1.symm
  show 0 < x; omega
 have h0d : decide (0 < (X.n : Int)) = true := by simp; omega
 have h0e : decide (0 < X.n) = true := by simp; omega
 clear hb h0
 obtain ⟨w1, hww1, ew1, B1, zw1⟩ := alloc_at w (w.heap.size) (by omega) #[.bool false, .slice X.p X.n X.c] 38
 obtain ⟨w2, hww2, ew2, B2, zw2⟩ := alloc_at w1 (w.heap.size + 1) (by omega) #[.bool false, .slice none 0 0] 38
 replace B1 := B1.ext ew2
 have b1_w2 := B1.c2
 have xw_w2 := eg ew1 ew2
 replace hX := hX.ext xw_w2
 go_enter Tryz.func131, Tryz.ntmps131
 go_wp2_with fail
 clear hww1 hww2
 replace zw1 := le2 zw1
 replace zw2 := le2 zw2
 refine regionT 13 (fun kk => match kk with | 11 => some (.c (limbs (x).natAbs)) | _ => none) (by as_aux_lemma => kernel_rfl) (head_of (by as_aux_lemma => kernel_rfl)) ?_
 iterate 4
  refine Walk.one (x := ?_) rfl rfl (fun w1 hI hL K hK => ?_) ?_
  rotate_left
  ·obtain ⟨hc, hf⟩ := bcell hI
   go_simp
   repeat (first | (go_ints; try go_simp) | (simp only [↓IntWalk.iteOmega]; try go_simp))
   exact hK
  simp only [Pq1]
 refine Walk.oneG (x := ?_) rfl (by as_aux_lemma => kernel_rfl) (fun w1 hI hL K hK => ?_) ?_
 rotate_left
 ·obtain ⟨hc, hf⟩ := bcell hI
  go_simp
  repeat (first | (go_ints; try go_simp) | (simp only [↓IntWalk.iteOmega]; try go_simp))
  exact hK
 simp only [Pq1]
 refine Walk.oneG (x := ?_) rfl (by as_aux_lemma => kernel_rfl) (fun w1 hI hL K hK => ?_) ?_
 rotate_left
 ·obtain ⟨hc, hf⟩ := bcell hI
  go_simp
  repeat (first | (go_ints; try go_simp) | (simp only [↓IntWalk.iteOmega]; try go_simp))
  exact hK
 simp only [Pq1]
 refine Walk.oneG (x := ?_) rfl (by as_aux_lemma => kernel_rfl) (fun w1 hI hL K hK => ?_) ?_
 rotate_left
 ·obtain ⟨hc, hf⟩ := bcell hI
  go_simp
  repeat (first | (go_ints; try go_simp) | (simp only [↓IntWalk.iteOmega]; try go_simp))
  exact hK
 simp only [Pq1]
 refine Walk.oneG (x := ?_) rfl (by as_aux_lemma => kernel_rfl) (fun w1 hI hL K hK => ?_) ?_
 rotate_left
 ·obtain ⟨hc, hf⟩ := bcell hI
  go_simp
  repeat (first | (go_ints; try go_simp) | (simp only [↓IntWalk.iteOmega]; try go_simp))
  exact hK
 simp only [Pq1]
 iterate 3
  refine Walk.one (x := ?_) rfl rfl (fun w1 hI hL K hK => ?_) ?_
  rotate_left
  ·obtain ⟨hc, hf⟩ := bcell hI
   go_simp
   repeat (first | (go_ints; try go_simp) | (simp only [↓IntWalk.iteOmega]; try go_simp))
   exact hK
  simp only [Pq1]
 refine Walk.tell rfl rfl (fun w1 hI hL K hK => ?_) ?_
 ·go_simp
  exact (kClone X _ w1 (((hX).ext hI).u16.2)).mono (tell hK)
 rintro _ ⟨Z14, rfl⟩
 simp only [Pq1]
 refine Walk.one (x := ?_) rfl rfl (fun w1 hI hL K hK => ?_) ?_
 rotate_left
 ·obtain ⟨hc, hf⟩ := bcell hI
  go_simp
  repeat (first | (go_ints; try go_simp) | (simp only [↓IntWalk.iteOmega]; try go_simp))
  exact hK
 simp only [Pq1]
 refine Walk.nilF fun w3 ew3 kzL kzX => ?_
 have zw3 := ew3.size
 obtain ⟨hZ14, oZ14⟩ := Tl.getC (kz (i := 11) (v := .slice Z14.p Z14.n Z14.c) rfl (by simp) kzL)
 replace oZ14 := oZ14.mono xw_w2.size
 clear kzL kzX
 simp only [List.drop_succ_cons, List.drop_zero, List.drop_nil]
 replace B2 := B2.ext ew3
 have b2_w3 := B2.c2
 have fb2_w3 := B2.f2
 have xw_w3 := eg xw_w2 ew3
 obtain ⟨w4, hww4, kw4, Nw4, zw4⟩ := B2.put2 (.bool true) (.slice Z14.p Z14.n Z14.c)
 have nuw4 : NoU #[.bool false, .slice none 0 0] := by simp [NoU]
 replace hZ14 := UW.kb hZ14 B2 nuw4 kw4
 replace oZ14 := OW.kb oZ14 B2 (by decide) kw4
 have xw_w4 := Ext.kb xw_w3 kw4 (by omega)
 replace B2 := Nw4
 clear Nw4 kw4
 have b2_w4 := B2.c2
 go_wp2_with fail
 clear hww4
 clear b1_w2 b2_w3 fb2_w3
 replace zw4 := le2 zw4
 refine bodyPost_ret (v := .agg #[.bool true, .slice Z14.p Z14.n Z14.c]) (by simp [results, Tryz.results131, go_sem, b2_w4]) rfl ?_
 exact Gv.of_w (X := ⟨true, Z14.p, Z14.n, Z14.c⟩) (neg_R hZ14 (by have := HX.out; simp; omega)) oZ14 xw_w4

theorem fneg (X : Wh) (x : Int) (w : World) (hX : WR w X x) : Calls Tryz.prog 131 #[.agg #[.bool X.b, .slice X.p X.n X.c]] w (Gv (.w (-x)) w) := by
 cases hb : X.b
 ·rcases Nat.eq_zero_or_pos X.n with h0 | h0
  ·have := fneg_b X x w hX hb h0; exact this
  ·have := fneg_c X x w hX hb h0; exact this
 ·have := fneg_a X x w hX hb; exact this

set_option maxRecDepth 100000 in
theorem fone_a (X : Wh) (x : Int) (w : World) (hX : WR w X x) (hb : X.b = true) :
    Calls Tryz.prog 127 #[.agg #[.bool true, .slice X.p X.n X.c]] w (Gv (.v (.bool false)) w) := by
 clear hb
 obtain ⟨w1, hww1, ew1, B1, zw1⟩ := alloc_at w (w.heap.size) (by omega) #[.bool true, .slice X.p X.n X.c] 38
 have b1_w1 := B1.c2
 go_enter Tryz.func127, Tryz.ntmps127
 go_wp2_with fail
 clear hww1
 replace zw1 := le2 zw1
 refine bodyPost_ret (v := .bool false) (by simp [results, Tryz.results127, go_sem]) rfl ?_
 exact Gv.of_v ew1

set_option maxRecDepth 100000 in
theorem fone_b (X : Wh) (x : Int) (w : World) (hX : WR w X x) (hb : X.b = false) (h0 : X.n ≠ 1) :
    Calls Tryz.prog 127 #[.agg #[.bool false, .slice X.p X.n X.c]] w (Gv (.v (.bool false)) w) := by
 have h0d : ((X.n : Int) == 1) = false := by simp; omega
 clear hb h0
 obtain ⟨w1, hww1, ew1, B1, zw1⟩ := alloc_at w (w.heap.size) (by omega) #[.bool false, .slice X.p X.n X.c] 38
 have b1_w1 := B1.c2
 go_enter Tryz.func127, Tryz.ntmps127
 go_wp2_with fail
 clear hww1
 replace zw1 := le2 zw1
 refine bodyPost_ret (v := .bool false) (by simp [results, Tryz.results127, go_sem]) rfl ?_
 exact Gv.of_v ew1

set_option maxRecDepth 100000 in
theorem fone_c (X : Wh) (x : Int) (w : World) (hX : WR w X x) (hb : X.b = false) (h0 : X.n = 1) (hd : x = 1) :
    Calls Tryz.prog 127 #[.agg #[.bool false, .slice X.p X.n X.c]] w (Gv (.v (.bool true)) w) := by
 obtain ⟨u, hu⟩ : ∃ u, u = dig (limbs x.natAbs) 0 := ⟨_, rfl⟩
 have hx0 : dig (limbs x.natAbs) 0 = x.natAbs := by
  have h1 := hX.n
  have h2 : x.natAbs ≠ 0 := fun e => by rw [e, siz_zero] at h1; omega
  have h3 := siz_one.1 (Nat.le_of_eq (h1.symm.trans h0))
  rw [limbs_pos h2]; simp [dig]; omega
 have hpos : ¬ x < 0 := by have := hX.neg; rw [hb] at this; exact of_decide_eq_false this.symm
 have hud : (((u : Nat) : Int) == 1) = true := by rw [hu, hx0]; simp; omega
 have hcell : ∀ w1 : World, Ext w w1 → w1.cell? (at_ X.p 0) = some (.int .u16 (u : Nat)) := fun w1 e => by rw [hu]; exact (hX.ext e).u16.2.cell 0 (by omega)
 have hh := hX.u16.2.has
 have h0d : ((X.n : Int) == 1) = true := by simp; omega
 have h0p : 0 < X.n := by omega
 have Hc := Lib.hid hcell
 clear hcell hu hx0 hpos hd h0 hb
 obtain ⟨w1, hww1, ew1, B1, zw1⟩ := alloc_at w (w.heap.size) (by omega) #[.bool false, .slice X.p X.n X.c] 38
 have b1_w1 := B1.c2
 have c0 := Hc.out _ ew1
 go_enter Tryz.func127, Tryz.ntmps127
 go_wp2_with fail
 clear hww1
 replace zw1 := le2 zw1
 refine bodyPost_ret (v := .bool true) (by simp [results, Tryz.results127, go_sem]) rfl ?_
 exact Gv.of_v ew1

set_option maxRecDepth 100000 in
theorem fone_d (X : Wh) (x : Int) (w : World) (hX : WR w X x) (hb : X.b = false) (h0 : X.n = 1) (hd : x ≠ 1) :
    Calls Tryz.prog 127 #[.agg #[.bool false, .slice X.p X.n X.c]] w (Gv (.v (.bool false)) w) := by
 obtain ⟨u, hu⟩ : ∃ u, u = dig (limbs x.natAbs) 0 := ⟨_, rfl⟩
 have hx0 : dig (limbs x.natAbs) 0 = x.natAbs := by
  have h1 := hX.n
  have h2 : x.natAbs ≠ 0 := fun e => by rw [e, siz_zero] at h1; omega
  have h3 := siz_one.1 (Nat.le_of_eq (h1.symm.trans h0))
  rw [limbs_pos h2]; simp [dig]; omega
 have hpos : ¬ x < 0 := by have := hX.neg; rw [hb] at this; exact of_decide_eq_false this.symm
 have hud : (((u : Nat) : Int) == 1) = false := by rw [hu, hx0]; simp; omega
 have hcell : ∀ w1 : World, Ext w w1 → w1.cell? (at_ X.p 0) = some (.int .u16 (u : Nat)) := fun w1 e => by rw [hu]; exact (hX.ext e).u16.2.cell 0 (by omega)
 have hh := hX.u16.2.has
 have h0d : ((X.n : Int) == 1) = true := by simp; omega
 have h0p : 0 < X.n := by omega
 have Hc := Lib.hid hcell
 clear hcell hu hx0 hpos hd h0 hb
 obtain ⟨w1, hww1, ew1, B1, zw1⟩ := alloc_at w (w.heap.size) (by omega) #[.bool false, .slice X.p X.n X.c] 38
 have b1_w1 := B1.c2
 have c0 := Hc.out _ ew1
 go_enter Tryz.func127, Tryz.ntmps127
 go_wp2_with fail
 clear hww1
 replace zw1 := le2 zw1
 refine bodyPost_ret (v := .bool false) (by simp [results, Tryz.results127, go_sem]) rfl ?_
 exact Gv.of_v ew1

theorem fisOne (X : Wh) (x : Int) (w : World) (hX : WR w X x) : Calls Tryz.prog 127 #[.agg #[.bool X.b, .slice X.p X.n X.c]] w (Gv (.v (.bool (decide (x = 1)))) w) := by
 cases hb : X.b
 ·by_cases h0 : X.n = 1
  ·by_cases hd : x = 1
   ·have := fone_c X x w hX hb h0 hd; simpa only [hd, decide_true] using this
   ·have := fone_d X x w hX hb h0 hd; simpa only [hd, decide_false] using this
  ·have hd : x ≠ 1 := fun e => h0 (by rw [hX.n, e]; simp [siz, limbs])
   have := fone_b X x w hX hb h0; simpa only [hd, decide_false] using this
 ·have hd : x ≠ 1 := fun e => by have := hX.neg; rw [hb, e] at this; simp at this
  have := fone_a X x w hX hb; simpa only [hd, decide_false] using this

set_option maxRecDepth 100000 in
theorem fSame_t (X : Fr) (Y : Fr) (a : Int) (b : Int) (c : Int) (d : Int) (w : World) (hX : PR w X a b) (hY : PR w Y c d) (h1 : a = c) (h2 : b = d) :
    Calls Tryz.prog 39 #[.agg #[.bool X.N.b, .slice X.N.p X.N.n X.N.c, .bool X.D.b, .slice X.D.p X.D.n X.D.c], .agg #[.bool Y.N.b, .slice Y.N.p Y.N.n Y.N.c, .bool Y.D.b, .slice Y.D.p Y.D.n Y.D.c]] w (Gv (.v (.bool true)) w) := by
 have H1 := Lib.hid h1
 have H2 := Lib.hid h2
 clear h1 h2
 obtain ⟨w1, hww1, ew1, B1, zw1⟩ := alloc_at w (w.heap.size) (by omega) #[.bool X.N.b, .slice X.N.p X.N.n X.N.c, .bool X.D.b, .slice X.D.p X.D.n X.D.c] 40
 obtain ⟨w2, hww2, ew2, B2, zw2⟩ := alloc_at w1 (w.heap.size + 1) (by omega) #[.bool Y.N.b, .slice Y.N.p Y.N.n Y.N.c, .bool Y.D.b, .slice Y.D.p Y.D.n Y.D.c] 40
 replace B1 := B1.ext ew2
 have b1_w2 := B1.c4
 have b2_w2 := B2.c4
 have xw_w2 := eg ew1 ew2
 replace hX := hX.ext xw_w2
 replace hY := hY.ext xw_w2
 go_enter Tryz.func39, Tryz.ntmps39
 go_wp2_with fail
 clear hww1 hww2
 replace zw1 := le2 zw1
 replace zw2 := le2 zw2
 refine (kSame_t X.N Y.N _ _ _ (hX.1) (hY.1) (H1.out)).mono (Gv.onV fun w3 ew3 zw3 => ?_)
 replace B1 := B1.ext ew3
 have b1_w3 := B1.c4
 replace B2 := B2.ext ew3
 have b2_w3 := B2.c4
 replace hX := hX.ext ew3
 replace hY := hY.ext ew3
 have xw_w3 := eg xw_w2 ew3
 go_wp2_with fail
 clear b1_w2 b2_w2
 refine (kSame_t X.D Y.D _ _ _ (hX.2) (hY.2) (H2.out)).mono (Gv.onV fun w4 ew4 zw4 => ?_)
 have xw_w4 := eg xw_w3 ew4
 go_wp2_with fail
 clear b1_w3 b2_w3
 refine bodyPost_ret (v := .bool true) (by simp [results, Tryz.results39, go_sem]) rfl ?_
 exact Gv.of_v xw_w4

set_option maxRecDepth 100000 in
theorem fSame_n (X : Fr) (Y : Fr) (a : Int) (b : Int) (c : Int) (d : Int) (w : World) (hX : PR w X a b) (hY : PR w Y c d) (h1 : a ≠ c) :
    Calls Tryz.prog 39 #[.agg #[.bool X.N.b, .slice X.N.p X.N.n X.N.c, .bool X.D.b, .slice X.D.p X.D.n X.D.c], .agg #[.bool Y.N.b, .slice Y.N.p Y.N.n Y.N.c, .bool Y.D.b, .slice Y.D.p Y.D.n Y.D.c]] w (Gv (.v (.bool false)) w) := by
 have H1 := Lib.hid h1
 clear h1
 obtain ⟨w1, hww1, ew1, B1, zw1⟩ := alloc_at w (w.heap.size) (by omega) #[.bool X.N.b, .slice X.N.p X.N.n X.N.c, .bool X.D.b, .slice X.D.p X.D.n X.D.c] 40
 obtain ⟨w2, hww2, ew2, B2, zw2⟩ := alloc_at w1 (w.heap.size + 1) (by omega) #[.bool Y.N.b, .slice Y.N.p Y.N.n Y.N.c, .bool Y.D.b, .slice Y.D.p Y.D.n Y.D.c] 40
 replace B1 := B1.ext ew2
 have b1_w2 := B1.c4
 have b2_w2 := B2.c4
 have xw_w2 := eg ew1 ew2
 replace hX := hX.ext xw_w2
 replace hY := hY.ext xw_w2
 go_enter Tryz.func39, Tryz.ntmps39
 go_wp2_with fail
 clear hww1 hww2
 replace zw1 := le2 zw1
 replace zw2 := le2 zw2
 refine (kSame_f X.N Y.N _ _ _ (hX.1) (hY.1) (H1.out)).mono (Gv.onV fun w3 ew3 zw3 => ?_)
 have xw_w3 := eg xw_w2 ew3
 go_wp2_with fail
 clear b1_w2 b2_w2
 refine bodyPost_ret (v := .bool false) (by simp [results, Tryz.results39, go_sem]) rfl ?_
 exact Gv.of_v xw_w3

set_option maxRecDepth 100000 in
theorem fSame_d (X : Fr) (Y : Fr) (a : Int) (b : Int) (c : Int) (d : Int) (w : World) (hX : PR w X a b) (hY : PR w Y c d) (h1 : a = c) (h2 : b ≠ d) :
    Calls Tryz.prog 39 #[.agg #[.bool X.N.b, .slice X.N.p X.N.n X.N.c, .bool X.D.b, .slice X.D.p X.D.n X.D.c], .agg #[.bool Y.N.b, .slice Y.N.p Y.N.n Y.N.c, .bool Y.D.b, .slice Y.D.p Y.D.n Y.D.c]] w (Gv (.v (.bool false)) w) := by
 have H1 := Lib.hid h1
 have H2 := Lib.hid h2
 clear h1 h2
 obtain ⟨w1, hww1, ew1, B1, zw1⟩ := alloc_at w (w.heap.size) (by omega) #[.bool X.N.b, .slice X.N.p X.N.n X.N.c, .bool X.D.b, .slice X.D.p X.D.n X.D.c] 40
 obtain ⟨w2, hww2, ew2, B2, zw2⟩ := alloc_at w1 (w.heap.size + 1) (by omega) #[.bool Y.N.b, .slice Y.N.p Y.N.n Y.N.c, .bool Y.D.b, .slice Y.D.p Y.D.n Y.D.c] 40
 replace B1 := B1.ext ew2
 have b1_w2 := B1.c4
 have b2_w2 := B2.c4
 have xw_w2 := eg ew1 ew2
 replace hX := hX.ext xw_w2
 replace hY := hY.ext xw_w2
 go_enter Tryz.func39, Tryz.ntmps39
 go_wp2_with fail
 clear hww1 hww2
 replace zw1 := le2 zw1
 replace zw2 := le2 zw2
 refine (kSame_t X.N Y.N _ _ _ (hX.1) (hY.1) (H1.out)).mono (Gv.onV fun w3 ew3 zw3 => ?_)
 replace B1 := B1.ext ew3
 have b1_w3 := B1.c4
 replace B2 := B2.ext ew3
 have b2_w3 := B2.c4
 replace hX := hX.ext ew3
 replace hY := hY.ext ew3
 have xw_w3 := eg xw_w2 ew3
 go_wp2_with fail
 clear b1_w2 b2_w2
 refine (kSame_f X.D Y.D _ _ _ (hX.2) (hY.2) (H2.out)).mono (Gv.onV fun w4 ew4 zw4 => ?_)
 have xw_w4 := eg xw_w3 ew4
 go_wp2_with fail
 clear b1_w3 b2_w3
 refine bodyPost_ret (v := .bool false) (by simp [results, Tryz.results39, go_sem]) rfl ?_
 exact Gv.of_v xw_w4

theorem fSame (X Y : Fr) (a b c d : Int) (w : World) (hX : PR w X a b) (hY : PR w Y c d) : Calls Tryz.prog 39 #[X.val, Y.val] w (Gv (.v (.bool (decide (a = c) && decide (b = d)))) w) := by
 by_cases h1 : a = c
 ·by_cases h2 : b = d
  ·simpa only [h1, h2, decide_true, Bool.and_self] using fSame_t X Y a b c d w hX hY h1 h2
  ·simpa only [h1, h2, decide_true, decide_false, Bool.and_false] using fSame_d X Y a b c d w hX hY h1 h2
 ·simpa only [h1, decide_false, Bool.false_and] using fSame_n X Y a b c d w hX hY h1

set_option maxRecDepth 100000 in
theorem fFromInt (n : Int) (w : World) (h1 : -9223372036854775808 ≤ n) (h2 : n ≤ 9223372036854775807) :
    Calls Tryz.prog 40 #[.int .i64 n] w (Gv (.f (n : Rat)) w) := by
 obtain ⟨w1, hww1, ew1, B1, zw1⟩ := alloc_at w (w.heap.size) (by omega) #[.bool false, .slice none 0 0, .bool false, .slice none 0 0] 40
 go_enter Tryz.func40, Tryz.ntmps40
 go_wp2_with fail
 clear hww1
 replace zw1 := le2 zw1
 refine (kFromInt (n) _ (h1) (h2)).mono (Gv.onWo fun Z4 w2 hZ4 oZ4 ew2 zw2 => ?_)
 have xw_w2 := eg ew1 ew2
 replace oZ4 := oZ4.mono ew1.size
 go_wp2_with fail
 refine (kFromInt (1) _ (by decide) (by decide)).mono (Gv.onWo fun Z5 w3 hZ5 oZ5 ew3 zw3 => ?_)
 have aZ4_Z5 : Apt Z4 Z5 := Apt.seq oZ4 oZ5
 have xw1_w3 := eg ew2 ew3
 replace B1 := B1.ext xw1_w3
 have b1_w3 := B1.c4
 have fb1_w3 := B1.f4
 replace hZ4 := hZ4.ext ew3
 replace oZ4 := oZ4.ext ew3
 have xw_w3 := eg xw_w2 ew3
 replace oZ5 := oZ5.mono xw_w2.size
 obtain ⟨w4, hww4, kw4, Nw4, zw4⟩ := B1.put4 (.bool Z4.b) (.slice Z4.p Z4.n Z4.c) (.bool Z5.b) (.slice Z5.p Z5.n Z5.c)
 have nuw4 : NoU #[.bool false, .slice none 0 0, .bool false, .slice none 0 0] := by simp [NoU]
 replace hZ4 := WR.kb hZ4 B1 nuw4 kw4
 replace oZ4 := OW.kb oZ4 B1 (by decide) kw4
 replace hZ5 := WR.kb hZ5 B1 nuw4 kw4
 replace oZ5 := OW.kb oZ5 B1 (by decide) kw4
 have xw_w4 := Ext.kb xw_w3 kw4 (by omega)
 replace B1 := Nw4
 clear Nw4 kw4
 have b1_w4 := B1.c4
 go_wp2_with fail
 clear hww4
 clear b1_w3 fb1_w3
 replace zw4 := le2 zw4
 refine bodyPost_ret (v := .agg #[.bool Z4.b, .slice Z4.p Z4.n Z4.c, .bool Z5.b, .slice Z5.p Z5.n Z5.c]) (by simp [results, Tryz.results40, go_sem, b1_w4]) rfl ?_
 exact Gv.of_f (X := ⟨Z4, Z5⟩) (mkFR (WR.cast hZ4 (by simp)) (WR.cast hZ5 (by simp))) (mkOF oZ4 oZ5 aZ4_Z5) xw_w4
end Go.Proofs.YtndgaecfeaedeaaGreat
namespace Go.Proofs.YtndgaecfeaedeaaGreat
open Go.RowKit Lex Mth
attribute [local go_sem] run_indexAt_at add_zero_map Oper.semAt_some at_zero

/-- What Valid looks at. -/
def okF (n : Bool) (l : List Nat) (n' : Bool) (l' : List Nat) : Bool := decide (l.length ≤ 256) && decide (l'.length ≤ 256) && valW n l && valW n' l' && !n' && decide (l'.length ≠ 0) && decide (Nat.gcd (val l) (val l') = 1)
theorem okF_of {w : World} {X : Fr} {q : Rat} (h : FR w X q) (s : Sz q) : okF X.N.b (limbs q.num.natAbs) X.D.b (limbs q.den) = true := by
 have h1 := h.1.neg
 have h2 := h.2.neg
 have s1 : (limbs q.num.natAbs).length ≤ 256 := s.1
 have s2 : (limbs q.den).length ≤ 256 := s.2
 have d0 := q.den_nz
 have s3 : 0 < (limbs q.den).length := siz_pos d0
 have v1 : valW X.N.b (limbs q.num.natAbs) = true := by rw [h1]; exact valW_of (by have : siz q.num.natAbs ≤ 256 := s1; omega)
 have v2 : valW X.D.b (limbs q.den) = true := by
  rw [h2]
  have := valW_of (z := (q.den : Int)) (by have : siz q.den ≤ 256 := s2; rw [Int.natAbs_natCast]; omega)
  exact this
 have hd : X.D.b = false := by rw [h2]; simp
 unfold okF
 rw [v1, v2, hd]
 simp only [s1, s2, decide_true, Bool.true_and, Bool.not_false, val_limbs]
 simp only [show ¬ (limbs q.den).length = 0 by omega, ne_eq, not_false_eq_true, decide_true, Bool.true_and, decide_eq_true_eq]
 exact q.reduced
/-- A fraction that is valid. -/
theorem okF_FR {w : World} {X : Fr} {l m : List Nat} (h : UF w X l m) (ok : okF X.N.b l X.D.b m = true) : ∃ q : Rat, FR w X q ∧ Sz q ∧ X.D.b = false := by
 unfold okF at ok
 simp only [Bool.and_eq_true, decide_eq_true_eq, Bool.not_eq_true'] at ok
 obtain ⟨⟨⟨⟨⟨⟨h1, h2⟩, h3⟩, h4⟩, h5⟩, h6⟩, h7⟩ := ok
 have r1 := WR.of h.1 h3
 have r2 := WR.of h.2 h4
 rw [h5] at r2
 have hne : val m ≠ 0 := fun e => by
  have := r2.n
  rw [e] at this
  simp [sgn, siz_zero] at this
  exact h6 (by rw [h.2.len]; exact this)
 refine ⟨⟨sgn X.N.b (val l), val m, hne, by rw [sgn_natAbs]; exact h7⟩, ⟨r1, r2⟩, ⟨?_, ?_⟩, h5⟩
 ·show siz (sgn X.N.b (val l)).natAbs ≤ 256
  rw [← r1.n, ← h.1.len]; exact h1
 ·show siz (val m) ≤ 256
  have := r2.n
  simp only [sgn, Bool.false_eq_true, if_false, Int.natAbs_natCast] at this
  rw [← this, ← h.2.len]; exact h2
theorem UF.u1 {w : World} {X : Fr} {l m : List Nat} (h : UF w X l m) : X.N.n = l.length := h.1.len.symm
theorem UF.u2 {w : World} {X : Fr} {l m : List Nat} (h : UF w X l m) : X.D.n = m.length := h.2.len.symm

set_option maxRecDepth 100000 in
theorem fVal1 (X : Fr) (l m : List Nat) (w : World) (hX : UF w X l m) (h1 : ¬ X.N.n ≤ 256) :
    Calls Tryz.prog 70 #[.agg #[.bool X.N.b, .slice X.N.p X.N.n X.N.c, .bool X.D.b, .slice X.D.p X.D.n X.D.c]] w (Gv (.v (.bool false)) w) := by
 obtain ⟨w1, hww1, ew1, B1, zw1⟩ := alloc_at w (w.heap.size) (by omega) #[.bool X.N.b, .slice X.N.p X.N.n X.N.c, .bool X.D.b, .slice X.D.p X.D.n X.D.c] 40
 have b1_w1 := B1.c4
 obtain ⟨w2, hww2, ew2, B2, zw2⟩ := alloc_at w1 (w.heap.size + 1) (by omega) #[.bool X.N.b, .slice X.N.p X.N.n X.N.c, .bool X.D.b, .slice X.D.p X.D.n X.D.c] 143
 have b2_w2 := B2.c4
 have xw_w2 := eg ew1 ew2
 go_enter Tryz.func70, Tryz.ntmps70
 go_wp2_with fail
 clear hww1 hww2
 clear b1_w1
 replace zw1 := le2 zw1
 replace zw2 := le2 zw2
 refine (fits_n X _ (h1)).mono (Gv.onV fun w3 ew3 zw3 => ?_)
 have xw_w3 := eg xw_w2 ew3
 go_wp2_with fail
 clear b2_w2
 refine bodyPost_ret (v := .bool false) (by simp [results, Tryz.results70, go_sem]) rfl ?_
 exact Gv.of_v xw_w3

set_option maxRecDepth 100000 in
theorem fVal2 (X : Fr) (l m : List Nat) (w : World) (hX : UF w X l m) (h1 : X.N.n ≤ 256) (h2 : ¬ X.D.n ≤ 256) :
    Calls Tryz.prog 70 #[.agg #[.bool X.N.b, .slice X.N.p X.N.n X.N.c, .bool X.D.b, .slice X.D.p X.D.n X.D.c]] w (Gv (.v (.bool false)) w) := by
 obtain ⟨w1, hww1, ew1, B1, zw1⟩ := alloc_at w (w.heap.size) (by omega) #[.bool X.N.b, .slice X.N.p X.N.n X.N.c, .bool X.D.b, .slice X.D.p X.D.n X.D.c] 40
 have b1_w1 := B1.c4
 obtain ⟨w2, hww2, ew2, B2, zw2⟩ := alloc_at w1 (w.heap.size + 1) (by omega) #[.bool X.N.b, .slice X.N.p X.N.n X.N.c, .bool X.D.b, .slice X.D.p X.D.n X.D.c] 143
 have b2_w2 := B2.c4
 have xw_w2 := eg ew1 ew2
 go_enter Tryz.func70, Tryz.ntmps70
 go_wp2_with fail
 clear hww1 hww2
 clear b1_w1
 replace zw1 := le2 zw1
 replace zw2 := le2 zw2
 refine (fits_d X _ (h1) (h2)).mono (Gv.onV fun w3 ew3 zw3 => ?_)
 have xw_w3 := eg xw_w2 ew3
 go_wp2_with fail
 clear b2_w2
 refine bodyPost_ret (v := .bool false) (by simp [results, Tryz.results70, go_sem]) rfl ?_
 exact Gv.of_v xw_w3

set_option maxRecDepth 100000 in
theorem fVal3 (X : Fr) (l m : List Nat) (w : World) (hX : UF w X l m) (h1 : X.N.n ≤ 256) (h2 : X.D.n ≤ 256) (h3 : valW X.N.b l = false) :
    Calls Tryz.prog 70 #[.agg #[.bool X.N.b, .slice X.N.p X.N.n X.N.c, .bool X.D.b, .slice X.D.p X.D.n X.D.c]] w (Gv (.v (.bool false)) w) := by
 have H3 := Lib.hid h3
 clear h3
 obtain ⟨w1, hww1, ew1, B1, zw1⟩ := alloc_at w (w.heap.size) (by omega) #[.bool X.N.b, .slice X.N.p X.N.n X.N.c, .bool X.D.b, .slice X.D.p X.D.n X.D.c] 40
 have b1_w1 := B1.c4
 obtain ⟨w2, hww2, ew2, B2, zw2⟩ := alloc_at w1 (w.heap.size + 1) (by omega) #[.bool X.N.b, .slice X.N.p X.N.n X.N.c, .bool X.D.b, .slice X.D.p X.D.n X.D.c] 143
 have b2_w2 := B2.c4
 have xw_w2 := eg ew1 ew2
 go_enter Tryz.func70, Tryz.ntmps70
 go_wp2_with fail
 clear hww1 hww2
 clear b1_w1
 replace zw1 := le2 zw1
 replace zw2 := le2 zw2
 refine (fits_t X _ (h1) (h2)).mono (Gv.onV fun w3 ew3 zw3 => ?_)
 replace B2 := B2.ext ew3
 have b2_w3 := B2.c4
 have xw_w3 := eg xw_w2 ew3
 replace hX := hX.ext xw_w3
 go_wp2_with fail
 clear b2_w2
 refine (kValid X.N _ _ (hX.1) (H3.out)).mono (Gv.onV fun w4 ew4 zw4 => ?_)
 have xw_w4 := eg xw_w3 ew4
 go_wp2_with fail
 clear b2_w3
 refine bodyPost_ret (v := .bool false) (by simp [results, Tryz.results70, go_sem]) rfl ?_
 exact Gv.of_v xw_w4

set_option maxRecDepth 100000 in
theorem fVal4 (X : Fr) (l m : List Nat) (w : World) (hX : UF w X l m) (h1 : X.N.n ≤ 256) (h2 : X.D.n ≤ 256) (h3 : valW X.N.b l = true) (h4 : valW X.D.b m = false) :
    Calls Tryz.prog 70 #[.agg #[.bool X.N.b, .slice X.N.p X.N.n X.N.c, .bool X.D.b, .slice X.D.p X.D.n X.D.c]] w (Gv (.v (.bool false)) w) := by
 have H3 := Lib.hid h3
 clear h3
 have H4 := Lib.hid h4
 clear h4
 obtain ⟨w1, hww1, ew1, B1, zw1⟩ := alloc_at w (w.heap.size) (by omega) #[.bool X.N.b, .slice X.N.p X.N.n X.N.c, .bool X.D.b, .slice X.D.p X.D.n X.D.c] 40
 have b1_w1 := B1.c4
 obtain ⟨w2, hww2, ew2, B2, zw2⟩ := alloc_at w1 (w.heap.size + 1) (by omega) #[.bool X.N.b, .slice X.N.p X.N.n X.N.c, .bool X.D.b, .slice X.D.p X.D.n X.D.c] 143
 have b2_w2 := B2.c4
 have xw_w2 := eg ew1 ew2
 go_enter Tryz.func70, Tryz.ntmps70
 go_wp2_with fail
 clear hww1 hww2
 clear b1_w1
 replace zw1 := le2 zw1
 replace zw2 := le2 zw2
 refine (fits_t X _ (h1) (h2)).mono (Gv.onV fun w3 ew3 zw3 => ?_)
 replace B2 := B2.ext ew3
 have b2_w3 := B2.c4
 have xw_w3 := eg xw_w2 ew3
 replace hX := hX.ext xw_w3
 go_wp2_with fail
 clear b2_w2
 refine (kValid X.N _ _ (hX.1) (H3.out)).mono (Gv.onV fun w4 ew4 zw4 => ?_)
 replace B2 := B2.ext ew4
 have b2_w4 := B2.c4
 replace hX := hX.ext ew4
 have xw_w4 := eg xw_w3 ew4
 go_wp2_with fail
 clear b2_w3
 refine (kValid X.D _ _ (hX.2) (H4.out)).mono (Gv.onV fun w5 ew5 zw5 => ?_)
 have xw_w5 := eg xw_w4 ew5
 go_wp2_with fail
 clear b2_w4
 refine bodyPost_ret (v := .bool false) (by simp [results, Tryz.results70, go_sem]) rfl ?_
 exact Gv.of_v xw_w5

set_option maxRecDepth 100000 in
theorem fVal5 (XNb : Bool) (XNp : Option Addr) (XNn : Nat) (XNc : Nat) (XDp : Option Addr) (XDn : Nat) (XDc : Nat) (l m : List Nat) (w : World) (hX : UF w ⟨⟨XNb, XNp, XNn, XNc⟩, ⟨true, XDp, XDn, XDc⟩⟩ l m) (h1 : XNn ≤ 256) (h2 : XDn ≤ 256) (h3 : valW XNb l = true) (h4 : valW true m = true) :
    Calls Tryz.prog 70 #[.agg #[.bool XNb, .slice XNp XNn XNc, .bool true, .slice XDp XDn XDc]] w (Gv (.v (.bool false)) w) := by
 have H3 := Lib.hid h3
 clear h3
 have H4 := Lib.hid h4
 clear h4
 obtain ⟨w1, hww1, ew1, B1, zw1⟩ := alloc_at w (w.heap.size) (by omega) #[.bool XNb, .slice XNp XNn XNc, .bool true, .slice XDp XDn XDc] 40
 have b1_w1 := B1.c4
 obtain ⟨w2, hww2, ew2, B2, zw2⟩ := alloc_at w1 (w.heap.size + 1) (by omega) #[.bool XNb, .slice XNp XNn XNc, .bool true, .slice XDp XDn XDc] 143
 have b2_w2 := B2.c4
 have xw_w2 := eg ew1 ew2
 go_enter Tryz.func70, Tryz.ntmps70
 go_wp2_with fail
 clear hww1 hww2
 clear b1_w1
 replace zw1 := le2 zw1
 replace zw2 := le2 zw2
 refine (fits_t ⟨⟨XNb, XNp, XNn, XNc⟩, ⟨true, XDp, XDn, XDc⟩⟩ _ (h1) (h2)).mono (Gv.onV fun w3 ew3 zw3 => ?_)
 replace B2 := B2.ext ew3
 have b2_w3 := B2.c4
 have xw_w3 := eg xw_w2 ew3
 replace hX := hX.ext xw_w3
 go_wp2_with fail
 clear b2_w2
 refine (kValid ⟨XNb, XNp, XNn, XNc⟩ _ _ (hX.1) (H3.out)).mono (Gv.onV fun w4 ew4 zw4 => ?_)
 replace B2 := B2.ext ew4
 have b2_w4 := B2.c4
 replace hX := hX.ext ew4
 have xw_w4 := eg xw_w3 ew4
 go_wp2_with fail
 clear b2_w3
 refine (kValid ⟨true, XDp, XDn, XDc⟩ _ _ (hX.2) (H4.out)).mono (Gv.onV fun w5 ew5 zw5 => ?_)
 replace B2 := B2.ext ew5
 have b2_w5 := B2.c4
 have xw_w5 := eg xw_w4 ew5
 go_wp2_with fail
 clear b2_w4
 refine bodyPost_ret (v := .bool false) (by simp [results, Tryz.results70, go_sem]) rfl ?_
 exact Gv.of_v xw_w5

set_option maxRecDepth 100000 in
theorem fVal6 (XNb : Bool) (XNp : Option Addr) (XNn : Nat) (XNc : Nat) (XDp : Option Addr) (XDn : Nat) (XDc : Nat) (l m : List Nat) (w : World) (hX : UF w ⟨⟨XNb, XNp, XNn, XNc⟩, ⟨false, XDp, XDn, XDc⟩⟩ l m) (h1 : XNn ≤ 256) (h2 : XDn ≤ 256) (h3 : valW XNb l = true) (h4 : valW false m = true) (h5 : XDn = 0) :
    Calls Tryz.prog 70 #[.agg #[.bool XNb, .slice XNp XNn XNc, .bool false, .slice XDp XDn XDc]] w (Gv (.v (.bool false)) w) := by
 have H3 := Lib.hid h3
 clear h3
 have H4 := Lib.hid h4
 clear h4
 have h5d : ((XDn : Int) == 0) = true := by simp; omega
 clear h5
 obtain ⟨w1, hww1, ew1, B1, zw1⟩ := alloc_at w (w.heap.size) (by omega) #[.bool XNb, .slice XNp XNn XNc, .bool false, .slice XDp XDn XDc] 40
 have b1_w1 := B1.c4
 obtain ⟨w2, hww2, ew2, B2, zw2⟩ := alloc_at w1 (w.heap.size + 1) (by omega) #[.bool XNb, .slice XNp XNn XNc, .bool false, .slice XDp XDn XDc] 143
 have b2_w2 := B2.c4
 have xw_w2 := eg ew1 ew2
 go_enter Tryz.func70, Tryz.ntmps70
 go_wp2_with fail
 clear hww1 hww2
 clear b1_w1
 replace zw1 := le2 zw1
 replace zw2 := le2 zw2
 refine (fits_t ⟨⟨XNb, XNp, XNn, XNc⟩, ⟨false, XDp, XDn, XDc⟩⟩ _ (h1) (h2)).mono (Gv.onV fun w3 ew3 zw3 => ?_)
 replace B2 := B2.ext ew3
 have b2_w3 := B2.c4
 have xw_w3 := eg xw_w2 ew3
 replace hX := hX.ext xw_w3
 go_wp2_with fail
 clear b2_w2
 refine (kValid ⟨XNb, XNp, XNn, XNc⟩ _ _ (hX.1) (H3.out)).mono (Gv.onV fun w4 ew4 zw4 => ?_)
 replace B2 := B2.ext ew4
 have b2_w4 := B2.c4
 replace hX := hX.ext ew4
 have xw_w4 := eg xw_w3 ew4
 go_wp2_with fail
 clear b2_w3
 refine (kValid ⟨false, XDp, XDn, XDc⟩ _ _ (hX.2) (H4.out)).mono (Gv.onV fun w5 ew5 zw5 => ?_)
 replace B2 := B2.ext ew5
 have b2_w5 := B2.c4
 have xw_w5 := eg xw_w4 ew5
 go_wp2_with fail
 clear b2_w4
 refine bodyPost_ret (v := .bool false) (by simp [results, Tryz.results70, go_sem]) rfl ?_
 exact Gv.of_v xw_w5

set_option maxRecDepth 100000 in
theorem fVal7 (XNb : Bool) (XNp : Option Addr) (XNn : Nat) (XNc : Nat) (XDp : Option Addr) (XDn : Nat) (XDc : Nat) (a : Int) (d : Int) (w : World) (hX : PR w ⟨⟨XNb, XNp, XNn, XNc⟩, ⟨false, XDp, XDn, XDc⟩⟩ a d) (h1 : XNn ≤ 256) (h2 : XDn ≤ 256) (h5 : XDn ≠ 0) :
    Calls Tryz.prog 70 #[.agg #[.bool XNb, .slice XNp XNn XNc, .bool false, .slice XDp XDn XDc]] w (Gv (.v (.bool (decide (((Int.gcd a d : Nat) : Int) = 1)))) w) := by
 have HA : Hid (siz a.natAbs = XNn) := hX.1.n.symm
 have HD : Hid (siz d.natAbs = XDn) := hX.2.n.symm
 have h5d : ((XDn : Int) == 0) = false := by simp; omega
 clear h5
 obtain ⟨w1, hww1, ew1, B1, zw1⟩ := alloc_at w (w.heap.size) (by omega) #[.bool XNb, .slice XNp XNn XNc, .bool false, .slice XDp XDn XDc] 40
 have b1_w1 := B1.c4
 obtain ⟨w2, hww2, ew2, B2, zw2⟩ := alloc_at w1 (w.heap.size + 1) (by omega) #[.bool XNb, .slice XNp XNn XNc, .bool false, .slice XDp XDn XDc] 143
 have b2_w2 := B2.c4
 have xw_w2 := eg ew1 ew2
 go_enter Tryz.func70, Tryz.ntmps70
 go_wp2_with fail
 clear hww1 hww2
 clear b1_w1
 replace zw1 := le2 zw1
 replace zw2 := le2 zw2
 refine (fits_t ⟨⟨XNb, XNp, XNn, XNc⟩, ⟨false, XDp, XDn, XDc⟩⟩ _ (h1) (h2)).mono (Gv.onV fun w3 ew3 zw3 => ?_)
 replace B2 := B2.ext ew3
 have b2_w3 := B2.c4
 have xw_w3 := eg xw_w2 ew3
 replace hX := hX.ext xw_w3
 go_wp2_with fail
 clear b2_w2
 refine (kValidW ⟨XNb, XNp, XNn, XNc⟩ _ _ (hX.1) (by have := HA.out; omega)).mono (Gv.onV fun w4 ew4 zw4 => ?_)
 replace B2 := B2.ext ew4
 have b2_w4 := B2.c4
 replace hX := hX.ext ew4
 have xw_w4 := eg xw_w3 ew4
 go_wp2_with fail
 clear b2_w3
 refine (kValidW ⟨false, XDp, XDn, XDc⟩ _ _ (hX.2) (by have := HD.out; omega)).mono (Gv.onV fun w5 ew5 zw5 => ?_)
 replace B2 := B2.ext ew5
 have b2_w5 := B2.c4
 replace hX := hX.ext ew5
 have xw_w5 := eg xw_w4 ew5
 go_wp2_with fail
 clear b2_w4
 refine (fcommon ⟨XNb, XNp, XNn, XNc⟩ ⟨false, XDp, XDn, XDc⟩ _ _ _ (hX.1) (hX.2) (by have := HA.out; omega) (by have := HD.out; omega)).mono (Gv.onW fun Z43 w6 hZ43 ew6 zw6 => ?_)
 have xw_w6 := eg xw_w5 ew6
 go_wp2_with fail
 clear b2_w5
 refine (fisOne Z43 _ _ (hZ43)).mono (Gv.onV fun w7 ew7 zw7 => ?_)
 have xw_w7 := eg xw_w6 ew7
 go_wp2_with fail
 refine bodyPost_ret (v := .bool (decide (((Int.gcd a d : Nat) : Int) = 1))) (by simp [results, Tryz.results70, go_sem]) rfl ?_
 exact Gv.of_v xw_w7

theorem fValid (X : Fr) (l m : List Nat) (w : World) (h : UF w X l m) : Calls Tryz.prog 70 #[.agg #[.bool X.N.b, .slice X.N.p X.N.n X.N.c, .bool X.D.b, .slice X.D.p X.D.n X.D.c]] w (Gv (.v (.bool (okF X.N.b l X.D.b m))) w) := by
 have u1 := h.u1
 have u2 := h.u2
 by_cases h1 : X.N.n ≤ 256
 ·by_cases h2 : X.D.n ≤ 256
  ·cases h3 : valW X.N.b l
   ·have e : okF X.N.b l X.D.b m = false := by unfold okF; simp [h3]
    rw [e]; exact fVal3 X l m w h h1 h2 h3
   ·cases h4 : valW X.D.b m
    ·have e : okF X.N.b l X.D.b m = false := by unfold okF; simp [h4]
     rw [e]; exact fVal4 X l m w h h1 h2 h3 h4
    ·obtain ⟨N, ⟨db, dp, dn, dc⟩⟩ := X
     cases db
     ·by_cases h5 : dn = 0
      ·have e : okF N.b l false m = false := by unfold okF; simp [← u2, h5]
       simp only [e]; exact fVal6 N.b N.p N.n N.c dp dn dc l m w h h1 h2 h3 h4 h5
      ·have r1 := WR.of h.1 h3
       have r2 := WR.of h.2 h4
       have := fVal7 N.b N.p N.n N.c dp dn dc (sgn N.b (val l)) (sgn false (val m)) w ⟨r1, r2⟩ h1 h2 h5
       have e : okF N.b l false m = decide (((Int.gcd (sgn N.b (val l)) (sgn false (val m)) : Nat) : Int) = 1) := by
        unfold okF
        rw [h3]
        have e2 : valW false m = true := h4
        rw [e2]
        simp only [← u1, ← u2, h1, h2, h5, decide_true, Bool.true_and, Bool.not_false, ne_eq, not_false_eq_true]
        rw [Int.gcd, sgn_natAbs, sgn_natAbs]
        congr 1
        simp; omega
       simp only [e]; exact this
     ·have e : okF N.b l true m = false := by unfold okF; simp
      simp only [e]; exact fVal5 N.b N.p N.n N.c dp dn dc l m w h h1 h2 h3 h4
  ·have e : okF X.N.b l X.D.b m = false := by unfold okF; rw [← u2]; simp [h2]
   rw [e]; exact fVal2 X l m w h h1 h2
 ·have e : okF X.N.b l X.D.b m = false := by unfold okF; rw [← u1]; simp [h1]
  rw [e]; exact fVal1 X l m w h h1
end Go.Proofs.YtndgaecfeaedeaaGreat
namespace Go.Proofs.YtndgaecfeaedeaaGreat
open Go.RowKit Lex Mth
attribute [local go_sem] run_indexAt_at add_zero_map Oper.semAt_some at_zero

/-- Fraction number k of a list. -/
structure FA (w : World) (p : Option Addr) (k : Nat) (X : Fr) : Prop where
 c0 : w.cell? (at_ p (k * 4)) = some (.bool X.N.b)
 c1 : w.cell? (at_ p (k * 4 + 1)) = some (.slice X.N.p X.N.n X.N.c)
 c2 : w.cell? (at_ p (k * 4 + 2)) = some (.bool X.D.b)
 c3 : w.cell? (at_ p (k * 4 + 3)) = some (.slice X.D.p X.D.n X.D.c)
theorem cell_ext {w w' : World} (e : Ext w w') {a : Addr} {v : Value} (h : w.cell? a = some v) : w'.cell? a = some v := (e.cell (World.block_lt_of_cell? w _ h)).trans h
theorem FA.ext {w w' : World} {p : Option Addr} {k : Nat} {X : Fr} (h : FA w p k X) (e : Ext w w') : FA w' p k X := ⟨cell_ext e h.c0, cell_ext e h.c1, cell_ext e h.c2, cell_ext e h.c3⟩
theorem at_add (p : Option Addr) (k i : Nat) : (at_ p k).add i = at_ p (k + i) := by
 unfold at_ Addr.add
 by_cases h : k = 0 <;> by_cases h2 : i = 0 <;> simp [h, h2, Nat.add_assoc]
/-- A list of fractions, whatever they are. -/
structure FRow (w : World) (p : Option Addr) (n c : Nat) (X : Nat → Fr) : Prop where
 has : Has p n
 le : n ≤ c
 reach : n ≤ 70368744177664
 el : ∀ k, k < n → FA w p k (X k)
theorem FRow.ext {w w' : World} {p : Option Addr} {n c : Nat} {X : Nat → Fr} (h : FRow w p n c X) (e : Ext w w') : FRow w' p n c X := ⟨h.has, h.le, h.reach, fun k hk => (h.el k hk).ext e⟩
theorem at_mk1 (p : Option Addr) (k : Nat) : (⟨(at_ p k).block, (at_ p k).off + 1, none⟩ : Addr) = at_ p (k + 1) := by rw [← at_add]; simp [Addr.add]
theorem at_mk2 (p : Option Addr) (k : Nat) : (⟨(at_ p k).block, (at_ p k).off + 2, none⟩ : Addr) = at_ p (k + 2) := by rw [← at_add]; simp [Addr.add]
theorem at_mk3 (p : Option Addr) (k : Nat) : (⟨(at_ p k).block, (at_ p k).off + 3, none⟩ : Addr) = at_ p (k + 3) := by rw [← at_add]; simp [Addr.add]
attribute [local go_sem] at_add at_mk1 at_mk2 at_mk3

set_option maxRecDepth 100000 in
set_option maxHeartbeats 1000000 in
theorem fIndex (F : Nat) (hcf : ∀ args w, (callFunc F args).run Tryz.prog w = .ok (.enter F args) w) (p : Option Addr) (k cap : Nat) (X : Nat → Fr) (B : Nat → Bool) (w : World) (h : FRow w p k cap X)
    (hf : ∀ j, j < k → ∀ w1, Ext w w1 → Calls Tryz.prog F #[(X j).val] w1 (Gv (.v (.bool (B j))) w1)) :
    Calls Tryz.prog 77 #[.slice p k cap, .func (.func F) #[] #[]] w fun e w' =>
     ∃ r : Int, e = .returned (.int .i64 r) ∧ (0 ≤ r ↔ ∃ j, j < k ∧ B j = true) ∧ Ext w w' := by
 have hho := h.has
 have hk := h.reach
 have Hf := Lib.hid hf
 clear hf
 go_enter Tryz.func77, Tryz.ntmps77
 go_wp2_with fail
 go_loopw [8] (fun v wr => ∃ i : Nat, v = .int .i64 (i : Nat) ∧ i ≤ k ∧ Hid (∀ j, j < i → B j = false) ∧ Ext w wr) (fun v _ => (k - intOf v).toNat)
 case atStart => exact ⟨0, rfl, by omega, Lib.hid (fun j hj => absurd hj (Nat.not_lt_zero _)), Below.refl _ _⟩
 case round =>
  obtain ⟨i, rfl, hi, hall, hE⟩ := hrel
  by_cases hik : i < k
  ·have hj := (h.el i hik).ext hE
   have c0 := hj.c0
   have c1 := hj.c1
   have c2 := hj.c2
   have c3 := hj.c3
   go_wp2_with fail
   refine (Hf.out i hik _ hE).mono ?_
   intro ee w' gg
   obtain ⟨rfl, hE2⟩ := Gv.v gg
   cases hv : B i
   ·have Hv := Lib.hid hv
    clear hv
    go_wp2_with fail
    go_roundw
    case rel => exact ⟨i + 1, rfl, by omega, Lib.hid (fun j hj => (Nat.lt_or_eq_of_le (Nat.le_of_lt_succ hj)).elim (hall.out j) (fun e => e ▸ Hv.out)), eg hE hE2⟩
    case measure => simp [intOf]; omega
   ·have Hv := Lib.hid hv
    clear hv
    go_wp2_with fail
    go_ret
    exact ⟨i, rfl, ⟨fun _ => ⟨i, hik, Hv.out⟩, fun _ => by omega⟩, eg hE hE2⟩
  ·obtain rfl : i = k := by omega
   go_wp2_with fail
   go_ret
   refine ⟨-1, rfl, ⟨fun h => absurd h (by omega), fun ⟨j, hj, hv⟩ => ?_⟩, hE⟩
   rw [hall.out j hj] at hv; cases hv

theorem fContains (F : Nat) (hcf : ∀ args w, (callFunc F args).run Tryz.prog w = .ok (.enter F args) w) (p : Option Addr) (k cap : Nat) (X : Nat → Fr) (B : Nat → Bool) (w : World) (h : FRow w p k cap X)
    (hf : ∀ j, j < k → ∀ w1, Ext w w1 → Calls Tryz.prog F #[(X j).val] w1 (Gv (.v (.bool (B j))) w1)) {b : Bool} (hb : b = true ↔ ∃ j, j < k ∧ B j = true) :
    Calls Tryz.prog 36 #[.slice p k cap, .func (.func F) #[] #[]] w (Gv (.v (.bool b)) w) := by
 have Hf := Lib.hid hf
 have Hb := Lib.hid hb
 clear hf hb
 go_enter Tryz.func36, Tryz.ntmps36
 go_wp2_with fail
 refine (fIndex F hcf p k cap X B w h Hf.out).mono ?_
 rintro e w' ⟨r, rfl, hr, hE⟩
 have hd : decide (0 ≤ r) = b := by
  have e1 : (0 ≤ r) ↔ b = true := hr.trans Hb.out.symm
  cases b <;> simp only [iff_true, iff_false, Bool.false_eq_true] at e1 <;> simp [e1]
 have Hr := Lib.hid hd
 clear hr hd
 go_wp2_with fail
 go_ret
 rw [Hr.out]
 exact Gv.of_v hE
theorem cf133 : ∀ args w, (callFunc 133 args).run Tryz.prog w = .ok (.enter 133 args) w := fun args w => by simp [go_sem]
theorem fValid1 (X : Fr) (l m : List Nat) (w : World) (h : UF w X l m) {b : Bool} (hb : okF X.N.b l X.D.b m = b) : Calls Tryz.prog 133 #[.agg #[.bool X.N.b, .slice X.N.p X.N.n X.N.c, .bool X.D.b, .slice X.D.p X.D.n X.D.c]] w (Gv (.v (.bool (!b))) w) := by
 have Hb := Lib.hid hb
 clear hb
 obtain ⟨w1, hw1⟩ : ∃ W, w.alloc (.cells #[.bool X.N.b, .slice X.N.p X.N.n X.N.c, .bool X.D.b, .slice X.D.p X.D.n X.D.c] 40) = W := ⟨_, rfl⟩
 have e1 : Ext w w1 := by rw [← hw1]; exact ea _ _
 have B1 : Cells w1 w.heap.size 40 #[.bool X.N.b, .slice X.N.p X.N.n X.N.c, .bool X.D.b, .slice X.D.p X.D.n X.D.c] := by rw [← hw1]; exact Cells.newAt _ _ rfl
 have b0 := B1.cell (k := 0) rfl
 have b1 := B1.cell (k := 1) rfl
 have b2 := B1.cell (k := 2) rfl
 have b3 := B1.cell (k := 3) rfl
 go_enter Tryz.func133, Tryz.ntmps133
 go_wp2_with fail
 clear hw1
 refine (fValid X l m w1 (h.ext e1)).mono ?_
 intro ee w2 gg
 obtain ⟨rfl, e2⟩ := Gv.v gg
 rw [Hb.out]
 go_wp2_with fail
 go_ret
 exact Gv.of_v (eg e1 e2)

/-- Two fractions, beside each other, that are valid. -/
theorem fvalid2 (g : Nat) (X Y : Fr) (x y : Rat) (w : World) (hc : Cells w g 40 #[.bool X.N.b, .slice X.N.p X.N.n X.N.c, .bool X.D.b, .slice X.D.p X.D.n X.D.c, .bool Y.N.b, .slice Y.N.p Y.N.n Y.N.c, .bool Y.D.b, .slice Y.D.p Y.D.n Y.D.c]) (hX : FR w X x) (hY : FR w Y y) (bx : Sz x) (by_ : Sz y) :
    Calls Tryz.prog 74 #[.slice (some ⟨g, 0, none⟩) 2 2] w (Gv (.v (.bool true)) w) := by
 have hR : FRow w (some ⟨g, 0, none⟩) 2 2 (fun j => bif j == 0 then X else Y) := ⟨Has.some _ _, by omega, by omega, fun k hk => by
  match k, hk with
  | 0, _ => exact ⟨by rw [at_zero]; exact hc.cell rfl, by rw [at_zero]; exact hc.cell rfl, by rw [at_zero]; exact hc.cell rfl, by rw [at_zero]; exact hc.cell rfl⟩
  | 1, _ => exact ⟨by rw [at_zero]; exact hc.cell rfl, by rw [at_zero]; exact hc.cell rfl, by rw [at_zero]; exact hc.cell rfl, by rw [at_zero]; exact hc.cell rfl⟩⟩
 go_enter Tryz.func74, Tryz.ntmps74
 go_wp2_with fail
 refine (fContains _ cf133 _ 2 2 _ (fun _ => false) w hR (fun j hj w1 e1 => ?_) (b := false) (by simp)).mono ?_
 ·match j, hj with
  | 0, _ => exact fValid1 X _ _ w1 ⟨(hX.ext e1).1.u16.2, (hX.ext e1).2.u16.2⟩ (okF_of hX bx)
  | 1, _ => exact fValid1 Y _ _ w1 ⟨(hY.ext e1).1.u16.2, (hY.ext e1).2.u16.2⟩ (okF_of hY by_)
 ·intro ee w2 gg
  obtain ⟨rfl, e2⟩ := Gv.v gg
  go_wp2_with fail
  go_ret
  exact Gv.of_v e2
end Go.Proofs.YtndgaecfeaedeaaGreat
namespace Go.Proofs.YtndgaecfeaedeaaGreat
open Go.RowKit Lex Mth
attribute [local go_sem] run_indexAt_at add_zero_map Oper.semAt_some at_zero at_add at_mk1 at_mk2 at_mk3

theorem Tryz.infoFr : (Tryz.prog.info? 40).map (fun i => (i.zero, i.size, i.bytes)) = some (some (.agg #[.bool false, .slice none 0 0, .bool false, .slice none 0 0]), 4, 64) := by kernel_rfl
/-- The cells of a fraction, of a list of fractions. -/
def frV (X : Fr) : List Value := [.bool X.N.b, .slice X.N.p X.N.n X.N.c, .bool X.D.b, .slice X.D.p X.D.n X.D.c]
def frC (fs : List Fr) : List Value := fs.flatMap frV
theorem frC_append (fs gs : List Fr) : frC (fs ++ gs) = frC fs ++ frC gs := by unfold frC; rw [List.flatMap_append]
theorem frC_one (X : Fr) : frC [X] = frV X := by simp [frC]
theorem frC_get : ∀ (fs : List Fr) (j : Nat) (X : Fr), fs[j]? = some X → ∀ i, i < 4 → (frC fs)[j * 4 + i]? = (frV X)[i]?
 | [], j, X, h, _, _ => by simp at h
 | Y :: fs, 0, X, h, i, hi => by
  obtain rfl : Y = X := by simpa using h
  unfold frC
  rw [List.flatMap_cons, List.getElem?_append_left (by simp [frV]; omega)]
  simp
 | Y :: fs, j + 1, X, h, i, hi => by
  have := frC_get fs j X (by simpa using h) i hi
  unfold frC at this ⊢
  rw [List.flatMap_cons, List.getElem?_append_right (by simp [frV]; omega)]
  rw [← this]
  congr 1
  simp [frV]; omega

/-- A block's memory grows where something else lies than limbs. -/
theorem UW.grown {B : Nat} {w w' : World} {X : Wh} {l : List Nat} {row : Option Nat} (h : UW w X l) (o : OW B w X) (hg : w.grownBy w' row) (ht : ∀ k, row = some k → ∃ cur t, w.heap[k]? = some (.cells cur t (0, 0)) ∧ t ≠ 153) : UW w' X l ∧ OW B w' X := by
 obtain ⟨s, p, n, c⟩ := X
 rcases o with o | ⟨g, cur, h1, h2, h3, h4⟩
 ·simp only at o
  subst o
  have hn : n = 0 := by have h' : n ≤ 0 := U16.le h; omega
  subst hn
  exact ⟨⟨U16.len h, Nat.le_refl _, Nat.zero_le _, U16.has h, U16.lim h, fun j hj => absurd hj (Nat.not_lt_zero _)⟩, .inl rfl⟩
 ·simp only at h1
  subst h1
  have hl : g < w.heap.size := (Array.getElem?_eq_some_iff.1 h3).1
  have hne : some g ≠ row := fun e => by
   obtain ⟨cur', t, k1, k2⟩ := ht g e.symm
   rw [h3] at k1
   simp only [Option.some.injEq, Obj.cells.injEq] at k1
   exact k2 k1.2.1.symm
  have hb := hg.block g hl hne
  refine ⟨⟨U16.len h, U16.le h, U16.reach h, U16.has h, U16.lim h, fun j hj => ?_⟩, .inr ⟨g, cur, rfl, h2, hb.trans h3, h4⟩⟩
  have hc := U16.cell h j hj
  rw [at_zero] at hc ⊢
  exact hg.cell hc hne
theorem UF.grown {B : Nat} {w w' : World} {X : Fr} {l m : List Nat} {row : Option Nat} (h : UF w X l m) (o : OF B w X) (hg : w.grownBy w' row) (ht : ∀ k, row = some k → ∃ cur t, w.heap[k]? = some (.cells cur t (0, 0)) ∧ t ≠ 153) : UF w' X l m ∧ OF B w' X := by
 obtain ⟨a1, a2⟩ := UW.grown h.1 o.1 hg ht
 obtain ⟨b1, b2⟩ := UW.grown h.2 o.2.1 hg ht
 exact ⟨⟨a1, b1⟩, ⟨a2, b2, o.2.2⟩⟩
theorem ownsRow_type {w : World} {base : Nat} {e : TypeId} {size : Nat} {v : Value} {n : Nat} {xs : List Value} (h : w.ownsRow base e size v n xs) (he : e ≠ 153) : ∀ k, v.ownBlock = some k → ∃ cur t, w.heap[k]? = some (.cells cur t (0, 0)) ∧ t ≠ 153 := fun k hk => by
 rcases h.2 with ⟨h1, _⟩ | ⟨g, cap, cur, h1, _, h3, _⟩
 ·subst h1; cases hk
 ·subst h1
  obtain rfl : g = k := by simpa [Value.ownBlock] using hk
  exact ⟨cur, e, h3, he⟩

/-- Fractions that are copies of others, in memory of their own. -/
def CpF (B : Nat) (w : World) (X : Nat → Fr) (ln ld : Nat → List Nat) (fs : List Fr) : Prop := ∀ j Y, fs[j]? = some Y → UF w Y (ln j) (ld j) ∧ Y.N.b = (X j).N.b ∧ Y.D.b = (X j).D.b ∧ OF B w Y
theorem CpF.ext {B : Nat} {w w' : World} {X : Nat → Fr} {ln ld : Nat → List Nat} {fs : List Fr} (h : CpF B w X ln ld fs) (e : Ext w w') : CpF B w' X ln ld fs := fun j Y hj => by
 obtain ⟨h1, h2, h3, h4⟩ := h j Y hj
 exact ⟨h1.ext e, h2, h3, h4.ext e⟩
theorem CpF.grown {B : Nat} {w w' : World} {X : Nat → Fr} {ln ld : Nat → List Nat} {fs : List Fr} {row : Option Nat} (h : CpF B w X ln ld fs) (hg : w.grownBy w' row) (ht : ∀ k, row = some k → ∃ cur t, w.heap[k]? = some (.cells cur t (0, 0)) ∧ t ≠ 153) : CpF B w' X ln ld fs := fun j Y hj => by
 obtain ⟨h1, h2, h3, h4⟩ := h j Y hj
 obtain ⟨k1, k2⟩ := UF.grown h1 h4 hg ht
 exact ⟨k1, h2, h3, k2⟩
theorem CpF.snoc {B : Nat} {w : World} {X : Nat → Fr} {ln ld : Nat → List Nat} {fs : List Fr} {Z : Fr} {k : Nat} (h : CpF B w X ln ld fs) (hk : fs.length = k) (h1 : UF w Z (ln k) (ld k)) (h2 : Z.N.b = (X k).N.b) (h3 : Z.D.b = (X k).D.b) (h4 : OF B w Z) : CpF B w X ln ld (fs ++ [Z]) := fun j Y hj => by
 subst hk
 rcases Nat.lt_trichotomy j fs.length with hl | hl | hl
 ·rw [List.getElem?_append_left hl] at hj; exact h j Y hj
 ·subst hl
  simp at hj
  subst hj
  exact ⟨h1, h2, h3, h4⟩
 ·rw [List.getElem?_eq_none (by simp; omega)] at hj; cases hj
theorem ownsRow_slice {w : World} {base : Nat} {e : TypeId} {size : Nat} {v : Value} {n : Nat} {xs : List Value} (h : w.ownsRow base e size v n xs) : ∃ p c, v = .slice p n c := by
 rcases h.2 with ⟨h1, h2⟩ | ⟨g, cap, cur, h1, _⟩
 ·subst h1 h2; exact ⟨none, 0, rfl⟩
 ·exact ⟨_, cap, h1⟩
/-- The cells of a new block, one by one. -/
theorem news_new {w : World} {cs : List Value} {t : TypeId} {n : Nat} (hn : n = w.heap.size) : ∀ j u, cs[j]? = some u → (w.alloc (.cells cs.toArray t)).cell? ((⟨n, 0, none⟩ : Addr).add j) = some u := fun j u hj => by
 subst hn
 have hl : j < cs.length := (List.getElem?_eq_some_iff.1 hj).1
 have := (Cells.newAt (A := w) t cs.toArray rfl).cell (k := j) (v := u) (by simpa using hj)
 rw [show ((⟨w.heap.size, 0, none⟩ : Addr).add j) = ⟨w.heap.size, j, none⟩ by unfold Addr.add; by_cases h : j = 0 <;> simp [h]]
 exact this

set_option maxRecDepth 100000 in
set_option maxHeartbeats 1000000 in
theorem cCopyFracs (p : Option Addr) (n c : Nat) (X : Nat → Fr) (ln ld : Nat → List Nat) (w : World) (hn : n ≤ 1000) (h : FRow w p n c X) (hr : ∀ j, j < n → UF w (X j) (ln j) (ld j)) :
    Calls Tryz.prog 55 #[.slice p n c] w fun e w' => ∃ p' c' fs, e = .returned (.slice p' n c') ∧ fs.length = n ∧ CpF w.heap.size w' X ln ld fs ∧ w'.ownsRow w.heap.size 40 4 (.slice p' n c') n (frC fs) ∧ Ext w w' := by
 have hhp := h.has
 obtain ⟨i0, hi, hz0, hz1, hz2⟩ := info_parts Tryz.infoFr
 have H := Lib.hid hr
 clear hr
 go_enter Tryz.func55, Tryz.ntmps55
 go_wp2_with fail
 go_loopw [4, 3] (fun v4 v3 wr => ∃ (k : Nat) (fs : List Fr), v4 = .int .i64 (k : Nat) ∧ k ≤ n ∧ fs.length = k ∧ Ext w wr ∧ CpF w.heap.size wr X ln ld fs ∧ wr.ownsRow w.heap.size 40 4 v3 k (frC fs)) (fun v4 _ _ => (n - intOf v4).toNat)
 case atStart => exact ⟨0, [], rfl, by omega, rfl, Below.refl _ _, fun j Y hj => by simp at hj, World.ownsRow_nil _ _ _ _⟩
 case round =>
  obtain ⟨k, fs, rfl, hk, hlen, hE, hC, hO⟩ := hrel
  have hs0 := hE.size
  by_cases hkn : k < n
  ·have hel := (h.el k hkn).ext hE
   have y0 := hel.c0
   have y1 := hel.c1
   have y2 := hel.c2
   have y3 := hel.c3
   have Hlen := Lib.hid hlen
   clear hlen
   go_wp2_with fail
   refine (cCopyFrac (X k) (ln k) (ld k) wr ((H.out k hkn).ext hE)).mono ?_
   rintro _ w2 ⟨Z, rfl, s1, s2, uZ, oZ, e2⟩
   clear y0 y1 y2 y3
   have z2 := e2.size
   have S1 := Lib.hid s1
   have S2 := Lib.hid s2
   clear s1 s2
   obtain ⟨w3, hw3, e3, B3, z3⟩ := alloc_at w2 w2.heap.size rfl #[.bool Z.N.b, .slice Z.N.p Z.N.n Z.N.c, .bool Z.D.b, .slice Z.D.p Z.D.n Z.D.c] 40
   have b3 := B3.c4
   have hO3 := (ownsRow_ext (ownsRow_ext hO e2) e3).alloc (.cells (frV Z).toArray 40)
   go_wp2_with (at_builtin; refine wpList_append_own _ rfl (.tmp 17) (.tmp 19) 47 rfl w.heap.size 40 i0 (.agg #[.bool false, .slice none 0 0, .bool false, .slice none 0 0]) 4 64 Tryz.underlying47 hi hz0 hz1 hz2 rfl (by omega) _ k (frC fs) rfl hO3 ⟨w2.heap.size + 1, 0, none⟩ 1 1 (frV Z) rfl rfl (news_new (by omega)) ?c2 (by unfold maxLen; omega) (by omega) (by simp; omega) ?_)
   case c2 => intro u hu; simp [frV] at hu; rcases hu with rfl | rfl | rfl | rfl <;> rfl
   intro v' w' hown hgrow hnil
   have hE3 : Ext w w3 := eg (eg hE e2) e3
   have e4 : Ext w3 (w3.alloc (.cells (frV Z).toArray 40)) := ea _ _
   have hE4 := eg hE3 e4
   have hC4 := ((((hC.ext e2).ext e3).ext e4).snoc Hlen.out ((uZ.ext e3).ext e4) S1.out S2.out (((oZ.mono hs0).ext e3).ext e4)).grown hgrow (ownsRow_type hO3 (by decide))
   have hE5 : Ext w w' := ((Keeps.of_ext (M := fun b => w.heap.size ≤ b) hE4).grown hgrow (fun b hb => (hO3.lt b hb).1)).ext fun b hb => hb
   have hown2 : w'.ownsRow w.heap.size 40 4 v' (k + 1) (frC (fs ++ [Z])) := by rw [frC_append, frC_one]; exact hown
   clear hnil hgrow hown
   go_wp2_with fail
   go_roundw
   case rel => exact ⟨k + 1, fs ++ [Z], rfl, by omega, by simp [Hlen.out], hE5, hC4, hown2⟩
   case measure => simp [intOf] <;> omega
  ·obtain rfl : k = n := by omega
   go_wp2_with fail
   go_ret
   obtain ⟨p', c', rfl⟩ := ownsRow_slice hO
   exact ⟨p', c', fs, rfl, hlen, hC, hO, hE⟩
end Go.Proofs.YtndgaecfeaedeaaGreat
