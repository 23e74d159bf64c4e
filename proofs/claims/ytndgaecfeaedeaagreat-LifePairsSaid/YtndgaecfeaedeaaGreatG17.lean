/- Walks of the document's answer on fractions: Lowest, Quick. -/
import Derived.Test.YtndgaecfeaedeaaGreatG16
namespace Go.Proofs.YtndgaecfeaedeaaGreat
set_option linter.unusedSimpArgs false
set_option linter.unusedVariables false
open Go.RowKit Lex Mth
attribute [local go_sem] run_indexAt_at add_zero_map Oper.semAt_some at_zero

theorem low_facts (x y : Int) (hy : y ≠ 0) : (Rat.divInt x y).num.natAbs = x.natAbs / Nat.gcd x.natAbs y.natAbs ∧ (Rat.divInt x y).den = y.natAbs / Nat.gcd x.natAbs y.natAbs ∧ ((decide (x < 0) != decide (y < 0)) && decide (x ≠ 0)) = decide ((Rat.divInt x y).num < 0) := by
  have hg : Int.gcd y x = Nat.gcd x.natAbs y.natAbs := Nat.gcd_comm _ _
  have hgd : Nat.gcd x.natAbs y.natAbs ∣ x.natAbs := Nat.gcd_dvd_left _ _
  have hg0 : 0 < Nat.gcd x.natAbs y.natAbs := Nat.gcd_pos_of_pos_right _ (by omega)
  rw [Rat.num_divInt, Rat.den_divInt, if_neg hy, hg]
  generalize hG : Nat.gcd x.natAbs y.natAbs = g at *
  obtain ⟨k, hk⟩ := hgd
  have hx : x = (g : Int) * (sgn (decide (x < 0)) k) := by
    unfold sgn
    have : (x.natAbs : Int) = (g : Int) * k := by rw [hk]; simp
    by_cases h : x < 0
    · simp only [h, decide_true, if_true, Int.mul_neg]; omega
    · simp only [h, decide_false, Bool.false_eq_true, if_false]; omega
  have hq : y.sign * x / (g : Int) = y.sign * sgn (decide (x < 0)) k := by
    conv => lhs; rw [hx]
    rw [Int.mul_left_comm, Int.mul_ediv_cancel_left _ (by omega)]
  have hs : y.sign = 1 ∧ 0 < y ∨ y.sign = -1 ∧ y < 0 := by
    rcases (by omega : 0 < y ∨ y < 0) with h | h
    · exact .inl ⟨Int.sign_eq_one_of_pos h, h⟩
    · exact .inr ⟨Int.sign_eq_neg_one_of_neg h, h⟩
  have hk0 : x ≠ 0 ↔ k ≠ 0 := by
    constructor
    · intro h e; subst e; simp at hk; omega
    · intro h e; subst e
      have : g * k = 0 := by simpa using hk.symm
      rcases Nat.mul_eq_zero.1 this with h' | h' <;> omega
  refine ⟨?_, rfl, ?_⟩
  · rw [hq, Int.natAbs_mul, sgn_natAbs, hk, Nat.mul_div_cancel_left _ hg0]
    rcases hs with h | h <;> rw [h.1] <;> simp
  · rw [hq]
    by_cases h0 : x = 0
    · have : k = 0 := by
        apply Decidable.byContradiction; intro hne; exact (hk0.2 hne) h0
      subst this
      simp [h0, sgn]
    · have hkp : 0 < k := by have := hk0.1 h0; omega
      simp only [h0, ne_eq, not_false_eq_true, decide_true, Bool.and_true]
      rcases hs with ⟨e, hp⟩ | ⟨e, hp⟩
      · have hyd : decide (y < 0) = false := by simp; omega
        rw [e, hyd, Int.one_mul, Bool.bne_false]
        cases hd : decide (x < 0)
        · simp [sgn]
        · simp [sgn]; omega
      · have hyd : decide (y < 0) = true := by simp; omega
        rw [e, hyd]
        cases hd : decide (x < 0)
        · simp [sgn]; omega
        · simp [sgn]
theorem low_R {w : World} {X Y : Wh} {x y : Int} (hy : y ≠ 0) (u : U16 w X.p X.n X.c (limbs (x.natAbs / Nat.gcd x.natAbs y.natAbs))) (v : U16 w Y.p Y.n Y.c (limbs (y.natAbs / Nat.gcd x.natAbs y.natAbs))) :
    FR w ⟨⟨decide ((Rat.divInt x y).num < 0), X.p, X.n, X.c⟩, ⟨false, Y.p, Y.n, Y.c⟩⟩ (Rat.divInt x y) := by
  obtain ⟨h1, h2, h3⟩ := low_facts x y hy
  refine ⟨WR.mk rfl (by rw [h1]; exact u), WR.mk (by simp) ?_⟩
  rw [Int.natAbs_natCast, h2]; exact v
theorem low_sign {w w' : World} {X Y Z : Wh} {x y : Int} (hy : y ≠ 0) (hx : WR w X x) (hy' : WR w Y y) (u : U16 w' Z.p Z.n Z.c (limbs (x.natAbs / Nat.gcd x.natAbs y.natAbs))) : ((X.b != Y.b) && decide (0 < Z.n)) = decide ((Rat.divInt x y).num < 0) := by
  obtain ⟨h1, h2, h3⟩ := low_facts x y hy
  rw [hx.neg, hy'.neg, ← h3]
  have hn : Z.n = siz (x.natAbs / Nat.gcd x.natAbs y.natAbs) := u.len.symm
  have : decide (0 < Z.n) = decide (x ≠ 0) := by
    rw [hn, ← h1]
    have hz : x = 0 ↔ (Rat.divInt x y).num.natAbs = 0 := by
      rw [h1]
      have hg0 : 0 < Nat.gcd x.natAbs y.natAbs := Nat.gcd_pos_of_pos_right _ (by omega)
      constructor
      · intro e; subst e; simp
      · intro e
        rcases Nat.div_eq_zero_iff.1 e with h | h
        · omega
        · have := Nat.gcd_dvd_left x.natAbs y.natAbs
          apply Decidable.byContradiction
          intro hx0
          have := Nat.le_of_dvd (by omega) this
          omega
    rw [decide_eq_decide]
    constructor
    · intro h e; rw [hz.1 e, siz_zero] at h; omega
    · intro h; exact siz_pos fun e => h (hz.2 e)
  rw [this]
theorem gcd_ne (x y : Int) (hy : y ≠ 0) : Nat.gcd x.natAbs y.natAbs ≠ 0 := by
  have := Nat.gcd_pos_of_pos_right x.natAbs (show 0 < y.natAbs by omega)
  omega
theorem gcd_n {w : World} {X : Wh} {x y : Int} (hy : y ≠ 0) (u : U16 w X.p X.n X.c (limbs (Nat.gcd x.natAbs y.natAbs))) (b : siz y.natAbs ≤ 1024) : X.n ≤ 1048576 := by
  have h1 : siz (Nat.gcd x.natAbs y.natAbs) = X.n := u.len
  have h2 := siz_mono (Nat.le_of_dvd (show 0 < y.natAbs by omega) (Nat.gcd_dvd_right x.natAbs y.natAbs))
  omega
theorem WR.n20 {w : World} {X : Wh} {x : Int} (h : WR w X x) (b : siz x.natAbs ≤ 1024) : X.n ≤ 1048576 := by rw [h.n]; omega
theorem div_one_limbs {w : World} {X : Wh} {x y : Int} (h1 : Nat.gcd x.natAbs y.natAbs = 1) (h : WR w X x) : U16 w X.p X.n X.c (limbs (x.natAbs / Nat.gcd x.natAbs y.natAbs)) := by rw [h1, Nat.div_one]; exact h.u16.2
theorem div_one_limbs' {w : World} {X : Wh} {x y : Int} (h1 : Nat.gcd x.natAbs y.natAbs = 1) (h : WR w X y) : U16 w X.p X.n X.c (limbs (y.natAbs / Nat.gcd x.natAbs y.natAbs)) := by rw [h1, Nat.div_one]; exact h.u16.2

theorem siz64 {x : Int} (h1 : -9223372036854775808 ≤ x) (h2 : x ≤ 9223372036854775807) : siz x.natAbs ≤ 1024 := by
  have : siz x.natAbs ≤ 4 := siz_le.2 (by have : x.natAbs ≤ 9223372036854775808 := by omega
                                          omega)
  omega

set_option maxRecDepth 100000 in
theorem rLow1 (X : Wh) (Y : Wh) (x : Int) (y : Int) (w : World) (hX : WR w X x) (hY : WR w Y y) (hy0 : y ≠ 0) (b : siz x.natAbs ≤ 1024) (b' : siz y.natAbs ≤ 1024) (h1 : Nat.gcd x.natAbs y.natAbs = 1) :
    Calls Tryz.prog 123 #[.agg #[.bool X.b, .slice X.p X.n X.c], .agg #[.bool Y.b, .slice Y.p Y.n Y.c]] w (Gv (.f0 (Rat.divInt x y)) w) := by
  have H1 := Lib.hid h1
  clear h1
  have Hy := Lib.hid hy0
  clear hy0
  have hEw : Ext w w := Below.refl _ _
  obtain ⟨w1, hww1⟩ : ∃ W, w.alloc (.cells #[.bool X.b, .slice X.p X.n X.c] 38) = W := ⟨_, rfl⟩
  have ew1 : Ext w w1 := by rw [← hww1]; exact ea _ _
  have B1 : Cells w1 (w.heap.size) 38 #[.bool X.b, .slice X.p X.n X.c] := by rw [← hww1]; exact Cells.newAt _ _ (by omega)
  replace hX := hX.ext ew1
  replace hY := hY.ext ew1
  have zw1 := alloc_lt hww1
  have hEw1 := eg hEw ew1
  have lB1_w1 := B1.lt
  obtain ⟨w2, hww2⟩ : ∃ W, w1.alloc (.cells #[.bool Y.b, .slice Y.p Y.n Y.c] 38) = W := ⟨_, rfl⟩
  have ew2 : Ext w1 w2 := by rw [← hww2]; exact ea _ _
  have B2 : Cells w2 (w.heap.size + 1) 38 #[.bool Y.b, .slice Y.p Y.n Y.c] := by rw [← hww2]; exact Cells.newAt _ _ (by omega)
  replace hX := hX.ext ew2
  replace hY := hY.ext ew2
  replace B1 := B1.ext ew2
  have zw2 := alloc_lt hww2
  have hEw2 := eg hEw1 ew2
  have lB1_w2 := B1.lt
  have lB2_w2 := B2.lt
  obtain ⟨w3, hww3⟩ : ∃ W, w2.alloc (.cells #[.bool false, .slice none 0 0, .bool false, .slice none 0 0] 40) = W := ⟨_, rfl⟩
  have ew3 : Ext w2 w3 := by rw [← hww3]; exact ea _ _
  have B3 : Cells w3 (w.heap.size + 1 + 1) 40 #[.bool false, .slice none 0 0, .bool false, .slice none 0 0] := by rw [← hww3]; exact Cells.newAt _ _ (by omega)
  replace hX := hX.ext ew3
  replace hY := hY.ext ew3
  replace B1 := B1.ext ew3
  replace B2 := B2.ext ew3
  have zw3 := alloc_lt hww3
  have hEw3 := eg hEw2 ew3
  have b1_1_w3 := B1.cell (k := 1) rfl
  have b2_1_w3 := B2.cell (k := 1) rfl
  have lB1_w3 := B1.lt
  have lB2_w3 := B2.lt
  have lB3_w3 := B3.lt
  go_enter Tryz.func123, Tryz.ntmps123
  go_wp2_with fail
  clear hww1
  clear hww2
  clear hww3
  clear lB1_w1 lB1_w2 lB2_w2
  have yw1 := Nat.le_of_eq zw1
  replace zw1 := Nat.le_of_eq zw1.symm
  have yw2 := Nat.le_of_eq zw2
  replace zw2 := Nat.le_of_eq zw2.symm
  have yw3 := Nat.le_of_eq zw3
  replace zw3 := Nat.le_of_eq zw3.symm
  refine (rCommon X Y _ _ _ ((hX).u16.2) ((hY).u16.2) (x.natAbs) (y.natAbs) (rfl) (rfl) (WR.n20 (hX) b) (WR.n20 (hY) b')).mono ?_
  intro ee w4 gg
  obtain ⟨Z14, rfl, hZ14, ew4⟩ := Gv.c0 gg
  replace hX := hX.ext ew4
  replace hY := hY.ext ew4
  replace B1 := B1.ext ew4
  replace B2 := B2.ext ew4
  replace B3 := B3.ext ew4
  have hEw4 := eg hEw3 ew4
  have zw4 := ew4.size
  have lB1_w4 := B1.lt
  have lB2_w4 := B2.lt
  have lB3_w4 := B3.lt
  go_wp2_with fail
  clear b1_1_w3 b2_1_w3 lB1_w3 lB2_w3 lB3_w3
  refine (rone (b := true) Z14 _ _ (hZ14) (by simp [H1.out])).mono ?_
  intro ee w5 gg
  obtain ⟨rfl, ew5⟩ := Gv.v gg
  replace hX := hX.ext ew5
  replace hY := hY.ext ew5
  replace hZ14 := hZ14.ext ew5
  replace B1 := B1.ext ew5
  replace B2 := B2.ext ew5
  replace B3 := B3.ext ew5
  have hEw5 := eg hEw4 ew5
  have zw5 := ew5.size
  have b1_0_w5 := B1.cell (k := 0) rfl
  have b2_0_w5 := B2.cell (k := 0) rfl
  have b1_1_w5 := B1.cell (k := 1) rfl
  have b2_1_w5 := B2.cell (k := 1) rfl
  have lB1_w5 := B1.lt
  have lB2_w5 := B2.lt
  have lB3_w5 := B3.lt
  go_wp2_with fail
  clear lB1_w4 lB2_w4 lB3_w4
  refine regionT 12 (fun k => match k with | 7 => some (.v (.agg #[.bool (decide ((Rat.divInt x y).num < 0)), .slice X.p X.n X.c])) | 10 => some (.v (.agg #[.bool false, .slice Y.p Y.n Y.c])) | _ => none) (by kernel_rfl) (by kernel_rfl) ?_
  iterate 7
    refine Walk.one (x := ?_) rfl rfl (fun w1 hI hL K hK => ?_) ?_
    rotate_left
    · obtain ⟨hc, hf⟩ := bcell hI
      go_simp
      repeat (first | (go_ints; try go_simp) | (simp only [↓IntWalk.iteOmega]; try go_simp))
      exact hK
    simp only [Act.put, List.setIfInBounds_toArray, List.set_cons_zero, List.set_cons_succ]
  refine Walk.tell rfl rfl (fun w1 hI hL K hK => ?_) ?_
  · go_simp
    exact (rMake (s := decide ((Rat.divInt x y).num < 0)) ((X.b != Y.b)) X w1 (((hX).ext hI).u16.2.reach) (low_sign Hy.out ((hX).ext hI) ((hY).ext hI) (div_one_limbs H1.out ((hX).ext hI)))).mono (tell hK)
  rintro _ rfl
  simp only [Act.put, List.setIfInBounds_toArray, List.set_cons_zero, List.set_cons_succ]
  iterate 2
    refine Walk.one (x := ?_) rfl rfl (fun w1 hI hL K hK => ?_) ?_
    rotate_left
    · obtain ⟨hc, hf⟩ := bcell hI
      go_simp
      repeat (first | (go_ints; try go_simp) | (simp only [↓IntWalk.iteOmega]; try go_simp))
      exact hK
    simp only [Act.put, List.setIfInBounds_toArray, List.set_cons_zero, List.set_cons_succ]
  refine Walk.tell rfl rfl (fun w1 hI hL K hK => ?_) ?_
  · go_simp
    exact (rMake (s := false) (false) Y w1 (((hY).ext hI).u16.2.reach) (by simp)).mono (tell hK)
  rintro _ rfl
  simp only [Act.put, List.setIfInBounds_toArray, List.set_cons_zero, List.set_cons_succ]
  refine Walk.one (x := ?_) rfl rfl (fun w1 hI hL K hK => ?_) ?_
  rotate_left
  · obtain ⟨hc, hf⟩ := bcell hI
    go_simp
    repeat (first | (go_ints; try go_simp) | (simp only [↓IntWalk.iteOmega]; try go_simp))
    exact hK
  simp only [Act.put, List.setIfInBounds_toArray, List.set_cons_zero, List.set_cons_succ]
  refine Walk.nilF fun w6 ew6 kzL kzX => ?_
  replace hX := hX.ext ew6
  replace hY := hY.ext ew6
  replace hZ14 := hZ14.ext ew6
  replace B1 := B1.ext ew6
  replace B2 := B2.ext ew6
  replace B3 := B3.ext ew6
  have hEw6 := eg hEw5 ew6
  have zw6 := ew6.size
  clear kzL kzX
  have b3_0_w6 := B3.cell (k := 0) rfl
  have fb3_0_w6 := B3.frozen 0
  have b3_1_w6 := B3.cell (k := 1) rfl
  have fb3_1_w6 := B3.frozen 1
  have b3_2_w6 := B3.cell (k := 2) rfl
  have fb3_2_w6 := B3.frozen 2
  have b3_3_w6 := B3.cell (k := 3) rfl
  have fb3_3_w6 := B3.frozen 3
  have lB1_w6 := B1.lt
  have lB2_w6 := B2.lt
  have lB3_w6 := B3.lt
  simp only [List.drop_succ_cons, List.drop_zero, List.drop_nil]
  obtain ⟨w7, hww7⟩ : ∃ W, ((((w6).setCell ⟨w.heap.size + 1 + 1, 0, none⟩ (.bool (decide ((Rat.divInt x y).num < 0)))).setCell ⟨w.heap.size + 1 + 1, 1, none⟩ (.slice X.p X.n X.c)).setCell ⟨w.heap.size + 1 + 1, 2, none⟩ (.bool false)).setCell ⟨w.heap.size + 1 + 1, 3, none⟩ (.slice Y.p Y.n Y.c) = W := ⟨_, rfl⟩
  have nuw7 : NoU #[.bool false, .slice none 0 0, .bool false, .slice none 0 0] := by simp [NoU]
  replace hX := WR.sets hX B3 nuw7 0 [.bool (decide ((Rat.divInt x y).num < 0)), .slice X.p X.n X.c, .bool false, .slice Y.p Y.n Y.c]
  replace hY := WR.sets hY B3 nuw7 0 [.bool (decide ((Rat.divInt x y).num < 0)), .slice X.p X.n X.c, .bool false, .slice Y.p Y.n Y.c]
  replace hZ14 := UW.sets hZ14 B3 nuw7 0 [.bool (decide ((Rat.divInt x y).num < 0)), .slice X.p X.n X.c, .bool false, .slice Y.p Y.n Y.c]
  have hEw7 := Ext.sets hEw6 (b := w.heap.size + 1 + 1) (by omega) 0 [.bool (decide ((Rat.divInt x y).num < 0)), .slice X.p X.n X.c, .bool false, .slice Y.p Y.n Y.c]
  replace B1 := Cells.off B1 (b' := w.heap.size + 1 + 1) (by omega) 0 [.bool (decide ((Rat.divInt x y).num < 0)), .slice X.p X.n X.c, .bool false, .slice Y.p Y.n Y.c]
  replace B2 := Cells.off B2 (b' := w.heap.size + 1 + 1) (by omega) 0 [.bool (decide ((Rat.divInt x y).num < 0)), .slice X.p X.n X.c, .bool false, .slice Y.p Y.n Y.c]
  replace B3 : Cells (sets w6 (w.heap.size + 1 + 1) 0 [.bool (decide ((Rat.divInt x y).num < 0)), .slice X.p X.n X.c, .bool false, .slice Y.p Y.n Y.c]) (w.heap.size + 1 + 1) 40 #[.bool (decide ((Rat.divInt x y).num < 0)), .slice X.p X.n X.c, .bool false, .slice Y.p Y.n Y.c] := Cells.sets [.bool (decide ((Rat.divInt x y).num < 0)), .slice X.p X.n X.c, .bool false, .slice Y.p Y.n Y.c] B3 0
  have zw7 := size_sets (w.heap.size + 1 + 1) [.bool (decide ((Rat.divInt x y).num < 0)), .slice X.p X.n X.c, .bool false, .slice Y.p Y.n Y.c] w6 0
  replace hww7 : sets w6 (w.heap.size + 1 + 1) 0 [.bool (decide ((Rat.divInt x y).num < 0)), .slice X.p X.n X.c, .bool false, .slice Y.p Y.n Y.c] = w7 := hww7
  rw [hww7] at hX hY hZ14 B1 B2 B3 hEw7 zw7
  replace hww7 : ((((w6).setCell ⟨w.heap.size + 1 + 1, 0, none⟩ (.bool (decide ((Rat.divInt x y).num < 0)))).setCell ⟨w.heap.size + 1 + 1, 1, none⟩ (.slice X.p X.n X.c)).setCell ⟨w.heap.size + 1 + 1, 2, none⟩ (.bool false)).setCell ⟨w.heap.size + 1 + 1, 3, none⟩ (.slice Y.p Y.n Y.c) = w7 := hww7
  have b3_0_w7 := B3.cell (k := 0) rfl
  have b3_1_w7 := B3.cell (k := 1) rfl
  have b3_2_w7 := B3.cell (k := 2) rfl
  have b3_3_w7 := B3.cell (k := 3) rfl
  have lB1_w7 := B1.lt
  have lB2_w7 := B2.lt
  have lB3_w7 := B3.lt
  go_wp2_with fail
  clear hww7
  clear b1_0_w5 b2_0_w5 b1_1_w5 b2_1_w5 b3_0_w6 fb3_0_w6 b3_1_w6 fb3_1_w6 b3_2_w6 fb3_2_w6 b3_3_w6 fb3_3_w6 lB1_w5 lB2_w5 lB3_w5 lB1_w6 lB2_w6 lB3_w6
  have yw7 := Nat.le_of_eq zw7
  replace zw7 := Nat.le_of_eq zw7.symm
  refine bodyPost_ret (v := .agg #[.bool (decide ((Rat.divInt x y).num < 0)), .slice X.p X.n X.c, .bool false, .slice Y.p Y.n Y.c]) (by simp [results, Tryz.results123, go_sem, b3_0_w7, b3_1_w7, b3_2_w7, b3_3_w7]) rfl ?_
  exact Gv.of_f0 (X := ⟨⟨decide ((Rat.divInt x y).num < 0), X.p, X.n, X.c⟩, ⟨false, Y.p, Y.n, Y.c⟩⟩) (low_R Hy.out (div_one_limbs H1.out hX) (div_one_limbs' H1.out hY)) hEw7

set_option maxRecDepth 100000 in
theorem rLow2 (X : Wh) (Y : Wh) (x : Int) (y : Int) (w : World) (hX : WR w X x) (hY : WR w Y y) (hy0 : y ≠ 0) (b : siz x.natAbs ≤ 1024) (b' : siz y.natAbs ≤ 1024) (h1 : Nat.gcd x.natAbs y.natAbs ≠ 1) :
    Calls Tryz.prog 123 #[.agg #[.bool X.b, .slice X.p X.n X.c], .agg #[.bool Y.b, .slice Y.p Y.n Y.c]] w (Gv (.f0 (Rat.divInt x y)) w) := by
  have H1 := Lib.hid h1
  clear h1
  have Hy := Lib.hid hy0
  clear hy0
  have hEw : Ext w w := Below.refl _ _
  obtain ⟨w1, hww1⟩ : ∃ W, w.alloc (.cells #[.bool X.b, .slice X.p X.n X.c] 38) = W := ⟨_, rfl⟩
  have ew1 : Ext w w1 := by rw [← hww1]; exact ea _ _
  have B1 : Cells w1 (w.heap.size) 38 #[.bool X.b, .slice X.p X.n X.c] := by rw [← hww1]; exact Cells.newAt _ _ (by omega)
  replace hX := hX.ext ew1
  replace hY := hY.ext ew1
  have zw1 := alloc_lt hww1
  have hEw1 := eg hEw ew1
  have lB1_w1 := B1.lt
  obtain ⟨w2, hww2⟩ : ∃ W, w1.alloc (.cells #[.bool Y.b, .slice Y.p Y.n Y.c] 38) = W := ⟨_, rfl⟩
  have ew2 : Ext w1 w2 := by rw [← hww2]; exact ea _ _
  have B2 : Cells w2 (w.heap.size + 1) 38 #[.bool Y.b, .slice Y.p Y.n Y.c] := by rw [← hww2]; exact Cells.newAt _ _ (by omega)
  replace hX := hX.ext ew2
  replace hY := hY.ext ew2
  replace B1 := B1.ext ew2
  have zw2 := alloc_lt hww2
  have hEw2 := eg hEw1 ew2
  have lB1_w2 := B1.lt
  have lB2_w2 := B2.lt
  obtain ⟨w3, hww3⟩ : ∃ W, w2.alloc (.cells #[.bool false, .slice none 0 0, .bool false, .slice none 0 0] 40) = W := ⟨_, rfl⟩
  have ew3 : Ext w2 w3 := by rw [← hww3]; exact ea _ _
  have B3 : Cells w3 (w.heap.size + 1 + 1) 40 #[.bool false, .slice none 0 0, .bool false, .slice none 0 0] := by rw [← hww3]; exact Cells.newAt _ _ (by omega)
  replace hX := hX.ext ew3
  replace hY := hY.ext ew3
  replace B1 := B1.ext ew3
  replace B2 := B2.ext ew3
  have zw3 := alloc_lt hww3
  have hEw3 := eg hEw2 ew3
  have b1_1_w3 := B1.cell (k := 1) rfl
  have b2_1_w3 := B2.cell (k := 1) rfl
  have lB1_w3 := B1.lt
  have lB2_w3 := B2.lt
  have lB3_w3 := B3.lt
  go_enter Tryz.func123, Tryz.ntmps123
  go_wp2_with fail
  clear hww1
  clear hww2
  clear hww3
  clear lB1_w1 lB1_w2 lB2_w2
  have yw1 := Nat.le_of_eq zw1
  replace zw1 := Nat.le_of_eq zw1.symm
  have yw2 := Nat.le_of_eq zw2
  replace zw2 := Nat.le_of_eq zw2.symm
  have yw3 := Nat.le_of_eq zw3
  replace zw3 := Nat.le_of_eq zw3.symm
  refine (rCommon X Y _ _ _ ((hX).u16.2) ((hY).u16.2) (x.natAbs) (y.natAbs) (rfl) (rfl) (WR.n20 (hX) b) (WR.n20 (hY) b')).mono ?_
  intro ee w4 gg
  obtain ⟨Z14, rfl, hZ14, ew4⟩ := Gv.c0 gg
  replace hX := hX.ext ew4
  replace hY := hY.ext ew4
  replace B1 := B1.ext ew4
  replace B2 := B2.ext ew4
  replace B3 := B3.ext ew4
  have hEw4 := eg hEw3 ew4
  have zw4 := ew4.size
  have lB1_w4 := B1.lt
  have lB2_w4 := B2.lt
  have lB3_w4 := B3.lt
  go_wp2_with fail
  clear b1_1_w3 b2_1_w3 lB1_w3 lB2_w3 lB3_w3
  refine (rone (b := false) Z14 _ _ (hZ14) (by simp [H1.out])).mono ?_
  intro ee w5 gg
  obtain ⟨rfl, ew5⟩ := Gv.v gg
  replace hX := hX.ext ew5
  replace hY := hY.ext ew5
  replace hZ14 := hZ14.ext ew5
  replace B1 := B1.ext ew5
  replace B2 := B2.ext ew5
  replace B3 := B3.ext ew5
  have hEw5 := eg hEw4 ew5
  have zw5 := ew5.size
  have b1_1_w5 := B1.cell (k := 1) rfl
  have lB1_w5 := B1.lt
  have lB2_w5 := B2.lt
  have lB3_w5 := B3.lt
  go_wp2_with fail
  clear lB1_w4 lB2_w4 lB3_w4
  refine (rDivided X Z14 _ _ _ ((hX).u16.2) (hZ14) (x.natAbs) (Nat.gcd x.natAbs y.natAbs) (rfl) (rfl) (gcd_ne _ _ Hy.out) (WR.n20 (hX) b) (gcd_n Hy.out (hZ14) b')).mono ?_
  intro ee w6 gg
  obtain ⟨Z33, Z33r, rfl, hZ33, hZ33r, oZ33, oZ33r, ew6⟩ := gg
  replace hX := hX.ext ew6
  replace hY := hY.ext ew6
  replace hZ14 := hZ14.ext ew6
  replace B1 := B1.ext ew6
  replace B2 := B2.ext ew6
  replace B3 := B3.ext ew6
  have hEw6 := eg hEw5 ew6
  have zw6 := ew6.size
  replace oZ33 := oZ33.mono hEw5.size
  replace oZ33r := oZ33r.mono hEw5.size
  have b2_1_w6 := B2.cell (k := 1) rfl
  have lB1_w6 := B1.lt
  have lB2_w6 := B2.lt
  have lB3_w6 := B3.lt
  go_wp2_with fail
  clear b1_1_w5 lB1_w5 lB2_w5 lB3_w5
  refine (rDivided Y Z14 _ _ _ ((hY).u16.2) (hZ14) (y.natAbs) (Nat.gcd x.natAbs y.natAbs) (rfl) (rfl) (gcd_ne _ _ Hy.out) (WR.n20 (hY) b') (gcd_n Hy.out (hZ14) b')).mono ?_
  intro ee w7 gg
  obtain ⟨Z40, Z40r, rfl, hZ40, hZ40r, oZ40, oZ40r, ew7⟩ := gg
  replace hX := hX.ext ew7
  replace hY := hY.ext ew7
  replace hZ14 := hZ14.ext ew7
  replace hZ33 := hZ33.ext ew7
  replace hZ33r := hZ33r.ext ew7
  replace oZ33 := oZ33.ext ew7
  replace oZ33r := oZ33r.ext ew7
  replace B1 := B1.ext ew7
  replace B2 := B2.ext ew7
  replace B3 := B3.ext ew7
  have hEw7 := eg hEw6 ew7
  have zw7 := ew7.size
  replace oZ40 := oZ40.mono hEw6.size
  replace oZ40r := oZ40r.mono hEw6.size
  have b1_0_w7 := B1.cell (k := 0) rfl
  have b2_0_w7 := B2.cell (k := 0) rfl
  have lB1_w7 := B1.lt
  have lB2_w7 := B2.lt
  have lB3_w7 := B3.lt
  go_wp2_with fail
  clear b2_1_w6 lB1_w6 lB2_w6 lB3_w6
  refine (rMake (s := decide ((Rat.divInt x y).num < 0)) ((X.b != Y.b)) Z33 _ (U16.reach (hZ33)) (low_sign Hy.out (hX) (hY) (hZ33))).mono ?_
  intro ee w8 gg
  obtain ⟨rfl, ew8⟩ := Gv.v gg
  replace hX := hX.ext ew8
  replace hY := hY.ext ew8
  replace hZ14 := hZ14.ext ew8
  replace hZ33 := hZ33.ext ew8
  replace hZ33r := hZ33r.ext ew8
  replace hZ40 := hZ40.ext ew8
  replace hZ40r := hZ40r.ext ew8
  replace oZ33 := oZ33.ext ew8
  replace oZ33r := oZ33r.ext ew8
  replace oZ40 := oZ40.ext ew8
  replace oZ40r := oZ40r.ext ew8
  replace B1 := B1.ext ew8
  replace B2 := B2.ext ew8
  replace B3 := B3.ext ew8
  have hEw8 := eg hEw7 ew8
  have zw8 := ew8.size
  have lB1_w8 := B1.lt
  have lB2_w8 := B2.lt
  have lB3_w8 := B3.lt
  go_wp2_with fail
  clear b1_0_w7 b2_0_w7 lB1_w7 lB2_w7 lB3_w7
  refine (rMake (s := false) (false) Z40 _ (U16.reach (hZ40)) (by simp)).mono ?_
  intro ee w9 gg
  obtain ⟨rfl, ew9⟩ := Gv.v gg
  replace hX := hX.ext ew9
  replace hY := hY.ext ew9
  replace hZ14 := hZ14.ext ew9
  replace hZ33 := hZ33.ext ew9
  replace hZ33r := hZ33r.ext ew9
  replace hZ40 := hZ40.ext ew9
  replace hZ40r := hZ40r.ext ew9
  replace oZ33 := oZ33.ext ew9
  replace oZ33r := oZ33r.ext ew9
  replace oZ40 := oZ40.ext ew9
  replace oZ40r := oZ40r.ext ew9
  replace B1 := B1.ext ew9
  replace B2 := B2.ext ew9
  replace B3 := B3.ext ew9
  have hEw9 := eg hEw8 ew9
  have zw9 := ew9.size
  have b3_0_w9 := B3.cell (k := 0) rfl
  have fb3_0_w9 := B3.frozen 0
  have b3_1_w9 := B3.cell (k := 1) rfl
  have fb3_1_w9 := B3.frozen 1
  have b3_2_w9 := B3.cell (k := 2) rfl
  have fb3_2_w9 := B3.frozen 2
  have b3_3_w9 := B3.cell (k := 3) rfl
  have fb3_3_w9 := B3.frozen 3
  have lB1_w9 := B1.lt
  have lB2_w9 := B2.lt
  have lB3_w9 := B3.lt
  obtain ⟨w10, hww10⟩ : ∃ W, ((((w9).setCell ⟨w.heap.size + 1 + 1, 0, none⟩ (.bool (decide ((Rat.divInt x y).num < 0)))).setCell ⟨w.heap.size + 1 + 1, 1, none⟩ (.slice Z33.p Z33.n Z33.c)).setCell ⟨w.heap.size + 1 + 1, 2, none⟩ (.bool false)).setCell ⟨w.heap.size + 1 + 1, 3, none⟩ (.slice Z40.p Z40.n Z40.c) = W := ⟨_, rfl⟩
  have nuw10 : NoU #[.bool false, .slice none 0 0, .bool false, .slice none 0 0] := by simp [NoU]
  replace hX := WR.sets hX B3 nuw10 0 [.bool (decide ((Rat.divInt x y).num < 0)), .slice Z33.p Z33.n Z33.c, .bool false, .slice Z40.p Z40.n Z40.c]
  replace hY := WR.sets hY B3 nuw10 0 [.bool (decide ((Rat.divInt x y).num < 0)), .slice Z33.p Z33.n Z33.c, .bool false, .slice Z40.p Z40.n Z40.c]
  replace hZ14 := UW.sets hZ14 B3 nuw10 0 [.bool (decide ((Rat.divInt x y).num < 0)), .slice Z33.p Z33.n Z33.c, .bool false, .slice Z40.p Z40.n Z40.c]
  replace hZ33 := UW.sets hZ33 B3 nuw10 0 [.bool (decide ((Rat.divInt x y).num < 0)), .slice Z33.p Z33.n Z33.c, .bool false, .slice Z40.p Z40.n Z40.c]
  replace hZ33r := UW.sets hZ33r B3 nuw10 0 [.bool (decide ((Rat.divInt x y).num < 0)), .slice Z33.p Z33.n Z33.c, .bool false, .slice Z40.p Z40.n Z40.c]
  replace hZ40 := UW.sets hZ40 B3 nuw10 0 [.bool (decide ((Rat.divInt x y).num < 0)), .slice Z33.p Z33.n Z33.c, .bool false, .slice Z40.p Z40.n Z40.c]
  replace hZ40r := UW.sets hZ40r B3 nuw10 0 [.bool (decide ((Rat.divInt x y).num < 0)), .slice Z33.p Z33.n Z33.c, .bool false, .slice Z40.p Z40.n Z40.c]
  replace oZ33 := OW.sets oZ33 B3 (by decide) 0 [.bool (decide ((Rat.divInt x y).num < 0)), .slice Z33.p Z33.n Z33.c, .bool false, .slice Z40.p Z40.n Z40.c]
  replace oZ33r := OW.sets oZ33r B3 (by decide) 0 [.bool (decide ((Rat.divInt x y).num < 0)), .slice Z33.p Z33.n Z33.c, .bool false, .slice Z40.p Z40.n Z40.c]
  replace oZ40 := OW.sets oZ40 B3 (by decide) 0 [.bool (decide ((Rat.divInt x y).num < 0)), .slice Z33.p Z33.n Z33.c, .bool false, .slice Z40.p Z40.n Z40.c]
  replace oZ40r := OW.sets oZ40r B3 (by decide) 0 [.bool (decide ((Rat.divInt x y).num < 0)), .slice Z33.p Z33.n Z33.c, .bool false, .slice Z40.p Z40.n Z40.c]
  have hEw10 := Ext.sets hEw9 (b := w.heap.size + 1 + 1) (by omega) 0 [.bool (decide ((Rat.divInt x y).num < 0)), .slice Z33.p Z33.n Z33.c, .bool false, .slice Z40.p Z40.n Z40.c]
  replace B1 := Cells.off B1 (b' := w.heap.size + 1 + 1) (by omega) 0 [.bool (decide ((Rat.divInt x y).num < 0)), .slice Z33.p Z33.n Z33.c, .bool false, .slice Z40.p Z40.n Z40.c]
  replace B2 := Cells.off B2 (b' := w.heap.size + 1 + 1) (by omega) 0 [.bool (decide ((Rat.divInt x y).num < 0)), .slice Z33.p Z33.n Z33.c, .bool false, .slice Z40.p Z40.n Z40.c]
  replace B3 : Cells (sets w9 (w.heap.size + 1 + 1) 0 [.bool (decide ((Rat.divInt x y).num < 0)), .slice Z33.p Z33.n Z33.c, .bool false, .slice Z40.p Z40.n Z40.c]) (w.heap.size + 1 + 1) 40 #[.bool (decide ((Rat.divInt x y).num < 0)), .slice Z33.p Z33.n Z33.c, .bool false, .slice Z40.p Z40.n Z40.c] := Cells.sets [.bool (decide ((Rat.divInt x y).num < 0)), .slice Z33.p Z33.n Z33.c, .bool false, .slice Z40.p Z40.n Z40.c] B3 0
  have zw10 := size_sets (w.heap.size + 1 + 1) [.bool (decide ((Rat.divInt x y).num < 0)), .slice Z33.p Z33.n Z33.c, .bool false, .slice Z40.p Z40.n Z40.c] w9 0
  replace hww10 : sets w9 (w.heap.size + 1 + 1) 0 [.bool (decide ((Rat.divInt x y).num < 0)), .slice Z33.p Z33.n Z33.c, .bool false, .slice Z40.p Z40.n Z40.c] = w10 := hww10
  rw [hww10] at hX hY hZ14 hZ33 hZ33r hZ40 hZ40r oZ33 oZ33r oZ40 oZ40r B1 B2 B3 hEw10 zw10
  replace hww10 : ((((w9).setCell ⟨w.heap.size + 1 + 1, 0, none⟩ (.bool (decide ((Rat.divInt x y).num < 0)))).setCell ⟨w.heap.size + 1 + 1, 1, none⟩ (.slice Z33.p Z33.n Z33.c)).setCell ⟨w.heap.size + 1 + 1, 2, none⟩ (.bool false)).setCell ⟨w.heap.size + 1 + 1, 3, none⟩ (.slice Z40.p Z40.n Z40.c) = w10 := hww10
  have b3_0_w10 := B3.cell (k := 0) rfl
  have b3_1_w10 := B3.cell (k := 1) rfl
  have b3_2_w10 := B3.cell (k := 2) rfl
  have b3_3_w10 := B3.cell (k := 3) rfl
  have lB1_w10 := B1.lt
  have lB2_w10 := B2.lt
  have lB3_w10 := B3.lt
  go_wp2_with fail
  clear hww10
  clear b3_0_w9 fb3_0_w9 b3_1_w9 fb3_1_w9 b3_2_w9 fb3_2_w9 b3_3_w9 fb3_3_w9 lB1_w8 lB2_w8 lB3_w8 lB1_w9 lB2_w9 lB3_w9
  have yw10 := Nat.le_of_eq zw10
  replace zw10 := Nat.le_of_eq zw10.symm
  refine bodyPost_ret (v := .agg #[.bool (decide ((Rat.divInt x y).num < 0)), .slice Z33.p Z33.n Z33.c, .bool false, .slice Z40.p Z40.n Z40.c]) (by simp [results, Tryz.results123, go_sem, b3_0_w10, b3_1_w10, b3_2_w10, b3_3_w10]) rfl ?_
  exact Gv.of_f0 (X := ⟨⟨decide ((Rat.divInt x y).num < 0), Z33.p, Z33.n, Z33.c⟩, ⟨false, Z40.p, Z40.n, Z40.c⟩⟩) (low_R Hy.out hZ33 hZ40) hEw10

theorem rLowest (X Y : Wh) (x y : Int) (w : World) (hX : WR w X x) (hY : WR w Y y) (hy0 : y ≠ 0) (b : siz x.natAbs ≤ 1024) (b' : siz y.natAbs ≤ 1024) : Calls Tryz.prog 123 #[.agg #[.bool X.b, .slice X.p X.n X.c], .agg #[.bool Y.b, .slice Y.p Y.n Y.c]] w (Gv (.f0 (Rat.divInt x y)) w) := by
  by_cases h1 : Nat.gcd x.natAbs y.natAbs = 1
  · exact rLow1 X Y x y w hX hY hy0 b b' h1
  · exact rLow2 X Y x y w hX hY hy0 b b' h1

set_option maxRecDepth 100000 in
theorem rQuick (x : Int) (y : Int) (w : World) (hy0 : y ≠ 0) (bx : -9223372036854775808 ≤ x ∧ x ≤ 9223372036854775807) (by_ : -9223372036854775808 ≤ y ∧ y ≤ 9223372036854775807) :
    Calls Tryz.prog 68 #[.int .i64 x, .int .i64 y] w (Gv (.f0 (Rat.divInt x y)) w) := by
  have Hy := Lib.hid hy0
  clear hy0
  have hEw : Ext w w := Below.refl _ _
  obtain ⟨w1, hww1⟩ : ∃ W, w.alloc (.cells #[.bool false, .slice none 0 0, .bool false, .slice none 0 0] 40) = W := ⟨_, rfl⟩
  have ew1 : Ext w w1 := by rw [← hww1]; exact ea _ _
  have B1 : Cells w1 (w.heap.size) 40 #[.bool false, .slice none 0 0, .bool false, .slice none 0 0] := by rw [← hww1]; exact Cells.newAt _ _ (by omega)
  have zw1 := alloc_lt hww1
  have hEw1 := eg hEw ew1
  have lB1_w1 := B1.lt
  go_enter Tryz.func68, Tryz.ntmps68
  go_wp2_with fail
  clear hww1
  have yw1 := Nat.le_of_eq zw1
  replace zw1 := Nat.le_of_eq zw1.symm
  refine (rFromInt (x) _ (bx.1) (bx.2)).mono ?_
  intro ee w2 gg
  obtain ⟨Z6, rfl, hZ6, oZ6, ew2⟩ := Gv.w gg
  replace B1 := B1.ext ew2
  have hEw2 := eg hEw1 ew2
  have zw2 := ew2.size
  replace oZ6 := oZ6.mono hEw1.size
  have lB1_w2 := B1.lt
  go_wp2_with fail
  clear lB1_w1
  refine (rFromInt (y) _ (by_.1) (by_.2)).mono ?_
  intro ee w3 gg
  obtain ⟨Z8, rfl, hZ8, oZ8, ew3⟩ := Gv.w gg
  have aZ6_Z8 : Apt Z6 Z8 := Apt.seq oZ6 oZ8
  replace hZ6 := hZ6.ext ew3
  replace oZ6 := oZ6.ext ew3
  replace B1 := B1.ext ew3
  have hEw3 := eg hEw2 ew3
  have zw3 := ew3.size
  replace oZ8 := oZ8.mono hEw2.size
  have lB1_w3 := B1.lt
  go_wp2_with fail
  clear lB1_w2
  refine (rLowest Z6 Z8 _ _ _ (hZ6) (hZ8) (Hy.out) (siz64 bx.1 bx.2) (siz64 by_.1 by_.2)).mono ?_
  intro ee w4 gg
  obtain ⟨Z9, rfl, hZ9, ew4⟩ := Gv.f0 gg
  replace hZ6 := hZ6.ext ew4
  replace hZ8 := hZ8.ext ew4
  replace oZ6 := oZ6.ext ew4
  replace oZ8 := oZ8.ext ew4
  replace B1 := B1.ext ew4
  have hEw4 := eg hEw3 ew4
  have zw4 := ew4.size
  have b1_0_w4 := B1.cell (k := 0) rfl
  have fb1_0_w4 := B1.frozen 0
  have b1_1_w4 := B1.cell (k := 1) rfl
  have fb1_1_w4 := B1.frozen 1
  have b1_2_w4 := B1.cell (k := 2) rfl
  have fb1_2_w4 := B1.frozen 2
  have b1_3_w4 := B1.cell (k := 3) rfl
  have fb1_3_w4 := B1.frozen 3
  have lB1_w4 := B1.lt
  obtain ⟨w5, hww5⟩ : ∃ W, ((((w4).setCell ⟨w.heap.size, 0, none⟩ (.bool Z9.N.b)).setCell ⟨w.heap.size, 1, none⟩ (.slice Z9.N.p Z9.N.n Z9.N.c)).setCell ⟨w.heap.size, 2, none⟩ (.bool Z9.D.b)).setCell ⟨w.heap.size, 3, none⟩ (.slice Z9.D.p Z9.D.n Z9.D.c) = W := ⟨_, rfl⟩
  have nuw5 : NoU #[.bool false, .slice none 0 0, .bool false, .slice none 0 0] := by simp [NoU]
  replace hZ6 := WR.sets hZ6 B1 nuw5 0 [.bool Z9.N.b, .slice Z9.N.p Z9.N.n Z9.N.c, .bool Z9.D.b, .slice Z9.D.p Z9.D.n Z9.D.c]
  replace hZ8 := WR.sets hZ8 B1 nuw5 0 [.bool Z9.N.b, .slice Z9.N.p Z9.N.n Z9.N.c, .bool Z9.D.b, .slice Z9.D.p Z9.D.n Z9.D.c]
  replace hZ9 := FR.sets hZ9 B1 nuw5 0 [.bool Z9.N.b, .slice Z9.N.p Z9.N.n Z9.N.c, .bool Z9.D.b, .slice Z9.D.p Z9.D.n Z9.D.c]
  replace oZ6 := OW.sets oZ6 B1 (by decide) 0 [.bool Z9.N.b, .slice Z9.N.p Z9.N.n Z9.N.c, .bool Z9.D.b, .slice Z9.D.p Z9.D.n Z9.D.c]
  replace oZ8 := OW.sets oZ8 B1 (by decide) 0 [.bool Z9.N.b, .slice Z9.N.p Z9.N.n Z9.N.c, .bool Z9.D.b, .slice Z9.D.p Z9.D.n Z9.D.c]
  have hEw5 := Ext.sets hEw4 (b := w.heap.size) (by omega) 0 [.bool Z9.N.b, .slice Z9.N.p Z9.N.n Z9.N.c, .bool Z9.D.b, .slice Z9.D.p Z9.D.n Z9.D.c]
  replace B1 : Cells (sets w4 (w.heap.size) 0 [.bool Z9.N.b, .slice Z9.N.p Z9.N.n Z9.N.c, .bool Z9.D.b, .slice Z9.D.p Z9.D.n Z9.D.c]) (w.heap.size) 40 #[.bool Z9.N.b, .slice Z9.N.p Z9.N.n Z9.N.c, .bool Z9.D.b, .slice Z9.D.p Z9.D.n Z9.D.c] := Cells.sets [.bool Z9.N.b, .slice Z9.N.p Z9.N.n Z9.N.c, .bool Z9.D.b, .slice Z9.D.p Z9.D.n Z9.D.c] B1 0
  have zw5 := size_sets (w.heap.size) [.bool Z9.N.b, .slice Z9.N.p Z9.N.n Z9.N.c, .bool Z9.D.b, .slice Z9.D.p Z9.D.n Z9.D.c] w4 0
  replace hww5 : sets w4 (w.heap.size) 0 [.bool Z9.N.b, .slice Z9.N.p Z9.N.n Z9.N.c, .bool Z9.D.b, .slice Z9.D.p Z9.D.n Z9.D.c] = w5 := hww5
  rw [hww5] at hZ6 hZ8 hZ9 oZ6 oZ8 B1 hEw5 zw5
  replace hww5 : ((((w4).setCell ⟨w.heap.size, 0, none⟩ (.bool Z9.N.b)).setCell ⟨w.heap.size, 1, none⟩ (.slice Z9.N.p Z9.N.n Z9.N.c)).setCell ⟨w.heap.size, 2, none⟩ (.bool Z9.D.b)).setCell ⟨w.heap.size, 3, none⟩ (.slice Z9.D.p Z9.D.n Z9.D.c) = w5 := hww5
  have b1_0_w5 := B1.cell (k := 0) rfl
  have b1_1_w5 := B1.cell (k := 1) rfl
  have b1_2_w5 := B1.cell (k := 2) rfl
  have b1_3_w5 := B1.cell (k := 3) rfl
  have lB1_w5 := B1.lt
  go_wp2_with fail
  clear hww5
  clear b1_0_w4 fb1_0_w4 b1_1_w4 fb1_1_w4 b1_2_w4 fb1_2_w4 b1_3_w4 fb1_3_w4 lB1_w3 lB1_w4
  have yw5 := Nat.le_of_eq zw5
  replace zw5 := Nat.le_of_eq zw5.symm
  refine bodyPost_ret (v := .agg #[.bool Z9.N.b, .slice Z9.N.p Z9.N.n Z9.N.c, .bool Z9.D.b, .slice Z9.D.p Z9.D.n Z9.D.c]) (by simp [results, Tryz.results68, go_sem, b1_0_w5, b1_1_w5, b1_2_w5, b1_3_w5]) rfl ?_
  exact Gv.of_f0 (X := Z9) (hZ9) hEw5
end Go.Proofs.YtndgaecfeaedeaaGreat
