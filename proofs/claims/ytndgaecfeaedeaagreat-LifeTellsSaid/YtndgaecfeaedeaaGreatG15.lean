/- Walks of the document's answer on fractions: Lowest, Quick. -/
import Derived.Test.YtndgaecfeaedeaaGreatG14
namespace Go.Proofs.YtndgaecfeaedeaaGreat
set_option linter.unusedSimpArgs false
set_option linter.unusedVariables false
open Go.RowKit Lex Mth
attribute [local go_sem] run_indexAt_at add_zero_map Oper.semAt_some at_zero
set_option linter.unusedSimpArgs false
set_option linter.unusedVariables false

theorem low_facts (x y : Int) (hy : y ≠ 0) : (Rat.divInt x y).num.natAbs = x.natAbs / Nat.gcd x.natAbs y.natAbs ∧ (Rat.divInt x y).den = y.natAbs / Nat.gcd x.natAbs y.natAbs ∧ ((decide (x < 0) != decide (y < 0)) && decide (x ≠ 0)) = decide ((Rat.divInt x y).num < 0) := by
  have hg : Int.gcd y x = Nat.gcd x.natAbs y.natAbs := Nat.gcd_comm _ _
  have hgd : Nat.gcd x.natAbs y.natAbs ∣ x.natAbs := Nat.gcd_dvd_left _ _
  have hg0 : 0 < Nat.gcd x.natAbs y.natAbs := Nat.gcd_pos_of_pos_right _ (by omega)
  rw [Rat.num_divInt, Rat.den_divInt, if_neg hy, hg]
  generalize hG : Nat.gcd x.natAbs y.natAbs = g at *
  obtain ⟨k, hk⟩ := hgd
  have hx : x = (g : Int) * (sgn (decide (x < 0)) k) := by
    unfold sgn
    have : (x.natAbs : Int) = (g : Int) * k := by rw [hk]; simp
    by_cases h : x < 0
    · simp only [h, decide_true, if_true, Int.mul_neg]; omega
    · simp only [h, decide_false, Bool.false_eq_true, if_false]; omega
  have hq : y.sign * x / (g : Int) = y.sign * sgn (decide (x < 0)) k := by
    conv => lhs; rw [hx]
    rw [Int.mul_left_comm, Int.mul_ediv_cancel_left _ (by omega)]
  have hs : y.sign = 1 ∧ 0 < y ∨ y.sign = -1 ∧ y < 0 := by
    rcases (by omega : 0 < y ∨ y < 0) with h | h
    · exact .inl ⟨Int.sign_eq_one_of_pos h, h⟩
    · exact .inr ⟨Int.sign_eq_neg_one_of_neg h, h⟩
  have hk0 : x ≠ 0 ↔ k ≠ 0 := by
    constructor
    · intro h e; subst e; simp at hk; omega
    · intro h e; subst e
      have : g * k = 0 := by simpa using hk.symm
      rcases Nat.mul_eq_zero.1 this with h' | h' <;> omega
  refine ⟨?_, rfl, ?_⟩
  · rw [hq, Int.natAbs_mul, sgn_natAbs, hk, Nat.mul_div_cancel_left _ hg0]
    rcases hs with h | h <;> rw [h.1] <;> simp
  · rw [hq]
    by_cases h0 : x = 0
    · have : k = 0 := by
        apply Decidable.byContradiction; intro hne; exact (hk0.2 hne) h0
      subst this
      simp [h0, sgn]
    · have hkp : 0 < k := by have := hk0.1 h0; omega
      simp only [h0, ne_eq, not_false_eq_true, decide_true, Bool.and_true]
      rcases hs with ⟨e, hp⟩ | ⟨e, hp⟩
      · have hyd : decide (y < 0) = false := by simp; omega
        rw [e, hyd, Int.one_mul, Bool.bne_false]
        cases hd : decide (x < 0)
        · simp [sgn]
        · simp [sgn]; omega
      · have hyd : decide (y < 0) = true := by simp; omega
        rw [e, hyd]
        cases hd : decide (x < 0)
        · simp [sgn]; omega
        · simp [sgn]
theorem low_R {w : World} {X Y : Wh} {x y : Int} (hy : y ≠ 0) (u : U16 w X.p X.n X.c (limbs (x.natAbs / Nat.gcd x.natAbs y.natAbs))) (v : U16 w Y.p Y.n Y.c (limbs (y.natAbs / Nat.gcd x.natAbs y.natAbs))) :
    FR w ⟨⟨decide ((Rat.divInt x y).num < 0), X.p, X.n, X.c⟩, ⟨false, Y.p, Y.n, Y.c⟩⟩ (Rat.divInt x y) := by
  obtain ⟨h1, h2, h3⟩ := low_facts x y hy
  refine ⟨WR.mk rfl (by rw [h1]; exact u), WR.mk (by simp) ?_⟩
  rw [Int.natAbs_natCast, h2]; exact v
theorem low_sign {w w' : World} {X Y Z : Wh} {x y : Int} (hy : y ≠ 0) (hx : WR w X x) (hy' : WR w Y y) (u : U16 w' Z.p Z.n Z.c (limbs (x.natAbs / Nat.gcd x.natAbs y.natAbs))) : ((X.b != Y.b) && decide (0 < Z.n)) = decide ((Rat.divInt x y).num < 0) := by
  obtain ⟨h1, h2, h3⟩ := low_facts x y hy
  rw [hx.neg, hy'.neg, ← h3]
  have hn : Z.n = siz (x.natAbs / Nat.gcd x.natAbs y.natAbs) := u.len.symm
  have : decide (0 < Z.n) = decide (x ≠ 0) := by
    rw [hn, ← h1]
    have hz : x = 0 ↔ (Rat.divInt x y).num.natAbs = 0 := by
      rw [h1]
      have hg0 : 0 < Nat.gcd x.natAbs y.natAbs := Nat.gcd_pos_of_pos_right _ (by omega)
      constructor
      · intro e; subst e; simp
      · intro e
        rcases Nat.div_eq_zero_iff.1 e with h | h
        · omega
        · have := Nat.gcd_dvd_left x.natAbs y.natAbs
          apply Decidable.byContradiction
          intro hx0
          have := Nat.le_of_dvd (by omega) this
          omega
    rw [decide_eq_decide]
    constructor
    · intro h e; rw [hz.1 e, siz_zero] at h; omega
    · intro h; exact siz_pos fun e => h (hz.2 e)
  rw [this]
theorem gcd_ne (x y : Int) (hy : y ≠ 0) : Nat.gcd x.natAbs y.natAbs ≠ 0 := by
  have := Nat.gcd_pos_of_pos_right x.natAbs (show 0 < y.natAbs by omega)
  omega
theorem gcd_n {w : World} {X : Wh} {x y : Int} (hy : y ≠ 0) (u : U16 w X.p X.n X.c (limbs (Nat.gcd x.natAbs y.natAbs))) (b : siz y.natAbs ≤ 1024) : X.n ≤ 1048576 := by
  have h1 : siz (Nat.gcd x.natAbs y.natAbs) = X.n := u.len
  have h2 := siz_mono (Nat.le_of_dvd (show 0 < y.natAbs by omega) (Nat.gcd_dvd_right x.natAbs y.natAbs))
  omega
theorem WR.n20 {w : World} {X : Wh} {x : Int} (h : WR w X x) (b : siz x.natAbs ≤ 1024) : X.n ≤ 1048576 := by rw [h.n]; omega
theorem div_one_limbs {w : World} {X : Wh} {x y : Int} (h1 : Nat.gcd x.natAbs y.natAbs = 1) (h : WR w X x) : U16 w X.p X.n X.c (limbs (x.natAbs / Nat.gcd x.natAbs y.natAbs)) := by rw [h1, Nat.div_one]; exact h.u16.2
theorem div_one_limbs' {w : World} {X : Wh} {x y : Int} (h1 : Nat.gcd x.natAbs y.natAbs = 1) (h : WR w X y) : U16 w X.p X.n X.c (limbs (y.natAbs / Nat.gcd x.natAbs y.natAbs)) := by rw [h1, Nat.div_one]; exact h.u16.2

theorem siz64 {x : Int} (h1 : -9223372036854775808 ≤ x) (h2 : x ≤ 9223372036854775807) : siz x.natAbs ≤ 1024 := by
  have : siz x.natAbs ≤ 4 := siz_le.2 (by have : x.natAbs ≤ 9223372036854775808 := by omega
                                          omega)
  omega

set_option maxRecDepth 100000 in
theorem rLow1 (X : Wh) (Y : Wh) (x : Int) (y : Int) (w : World) (hX : WR w X x) (hY : WR w Y y) (hy0 : y ≠ 0) (b : siz x.natAbs ≤ 1024) (b' : siz y.natAbs ≤ 1024) (h1 : Nat.gcd x.natAbs y.natAbs = 1) :
    Calls Tryz.prog 123 #[.agg #[.bool X.b, .slice X.p X.n X.c], .agg #[.bool Y.b, .slice Y.p Y.n Y.c]] w (Gv (.f0 (Rat.divInt x y)) w) := by
  have H1 := Lib.hid h1
  clear h1
  have Hy := Lib.hid hy0
  clear hy0
  obtain ⟨w1, hww1, ew1, B1, zw1⟩ := alloc_at w (w.heap.size) (by omega) #[.bool X.b, .slice X.p X.n X.c] 38
  obtain ⟨w2, hww2, ew2, B2, zw2⟩ := alloc_at w1 (w.heap.size + 1) (by omega) #[.bool Y.b, .slice Y.p Y.n Y.c] 38
  obtain ⟨w3, hww3, ew3, B3, zw3⟩ := alloc_at w2 (w.heap.size + 1 + 1) (by omega) #[.bool false, .slice none 0 0, .bool false, .slice none 0 0] 40
  have xw1_w3 := eg ew2 ew3
  replace B1 := B1.ext xw1_w3
  have b1_w3 := B1.c2
  replace B2 := B2.ext ew3
  have b2_w3 := B2.c2
  have xw_w3 := eg (eg ew1 ew2) ew3
  replace hX := hX.ext xw_w3
  replace hY := hY.ext xw_w3
  go_enter Tryz.func123, Tryz.ntmps123
  go_wp2_with fail
  clear hww1 hww2 hww3
  replace zw1 := le2 zw1
  replace zw2 := le2 zw2
  replace zw3 := le2 zw3
  refine (rCommon X Y _ _ _ ((hX).u16.2) ((hY).u16.2) (x.natAbs) (y.natAbs) (rfl) (rfl) (WR.n20 (hX) b) (WR.n20 (hY) b')).mono (Gv.onC0 fun Z14 w4 hZ14 ew4 zw4 => ?_)
  have xw_w4 := eg xw_w3 ew4
  go_wp2_with fail
  clear b1_w3 b2_w3
  refine (rone (b := true) Z14 _ _ (hZ14) (by simp [H1.out])).mono (Gv.onV fun w5 ew5 zw5 => ?_)
  have xw3_w5 := eg ew4 ew5
  replace B1 := B1.ext xw3_w5
  have b1_w5 := B1.c2
  replace B2 := B2.ext xw3_w5
  have b2_w5 := B2.c2
  replace hX := hX.ext xw3_w5
  replace hY := hY.ext xw3_w5
  have xw_w5 := eg xw_w4 ew5
  go_wp2_with fail
  refine regionT 12 (fun kk => match kk with | 7 => some (.v (.agg #[.bool (decide ((Rat.divInt x y).num < 0)), .slice X.p X.n X.c])) | 10 => some (.v (.agg #[.bool false, .slice Y.p Y.n Y.c])) | _ => none) (by as_aux_lemma => kernel_rfl) (head_of (by as_aux_lemma => kernel_rfl)) ?_
  iterate 7
    refine Walk.one (x := ?_) rfl rfl (fun w1 hI hL K hK => ?_) ?_
    rotate_left
    · obtain ⟨hc, hf⟩ := bcell hI
      go_simp
      repeat (first | (go_ints; try go_simp) | (simp only [↓IntWalk.iteOmega]; try go_simp))
      exact hK
    simp only [Act.put, List.setIfInBounds_toArray, List.set_cons_zero, List.set_cons_succ]
  refine Walk.tell rfl rfl (fun w1 hI hL K hK => ?_) ?_
  · go_simp
    exact (rMake (s := decide ((Rat.divInt x y).num < 0)) ((X.b != Y.b)) X w1 (((hX).ext hI).u16.2.reach) (low_sign Hy.out ((hX).ext hI) ((hY).ext hI) (div_one_limbs H1.out ((hX).ext hI)))).mono (tell hK)
  rintro _ rfl
  simp only [Act.put, List.setIfInBounds_toArray, List.set_cons_zero, List.set_cons_succ]
  iterate 2
    refine Walk.one (x := ?_) rfl rfl (fun w1 hI hL K hK => ?_) ?_
    rotate_left
    · obtain ⟨hc, hf⟩ := bcell hI
      go_simp
      repeat (first | (go_ints; try go_simp) | (simp only [↓IntWalk.iteOmega]; try go_simp))
      exact hK
    simp only [Act.put, List.setIfInBounds_toArray, List.set_cons_zero, List.set_cons_succ]
  refine Walk.tell rfl rfl (fun w1 hI hL K hK => ?_) ?_
  · go_simp
    exact (rMake (s := false) (false) Y w1 (((hY).ext hI).u16.2.reach) (by simp)).mono (tell hK)
  rintro _ rfl
  simp only [Act.put, List.setIfInBounds_toArray, List.set_cons_zero, List.set_cons_succ]
  refine Walk.one (x := ?_) rfl rfl (fun w1 hI hL K hK => ?_) ?_
  rotate_left
  · obtain ⟨hc, hf⟩ := bcell hI
    go_simp
    repeat (first | (go_ints; try go_simp) | (simp only [↓IntWalk.iteOmega]; try go_simp))
    exact hK
  simp only [Act.put, List.setIfInBounds_toArray, List.set_cons_zero, List.set_cons_succ]
  refine Walk.nilF fun w6 ew6 kzL kzX => ?_
  have zw6 := ew6.size
  clear kzL kzX
  simp only [List.drop_succ_cons, List.drop_zero, List.drop_nil]
  have xw3_w6 := eg xw3_w5 ew6
  replace B3 := B3.ext xw3_w6
  have b3_w6 := B3.c4
  have fb3_w6 := B3.f4
  replace hX := hX.ext ew6
  replace hY := hY.ext ew6
  have xw_w6 := eg xw_w5 ew6
  obtain ⟨w7, hww7, kw7, Nw7, zw7⟩ := B3.put4 (.bool (decide ((Rat.divInt x y).num < 0))) (.slice X.p X.n X.c) (.bool false) (.slice Y.p Y.n Y.c)
  have nuw7 : NoU #[.bool false, .slice none 0 0, .bool false, .slice none 0 0] := by simp [NoU]
  replace hX := WR.kb hX B3 nuw7 kw7
  replace hY := WR.kb hY B3 nuw7 kw7
  have xw_w7 := Ext.kb xw_w6 kw7 (by omega)
  replace B3 := Nw7
  clear Nw7 kw7
  have b3_w7 := B3.c4
  go_wp2_with fail
  clear hww7
  clear b1_w5 b2_w5 b3_w6 fb3_w6
  replace zw7 := le2 zw7
  refine bodyPost_ret (v := .agg #[.bool (decide ((Rat.divInt x y).num < 0)), .slice X.p X.n X.c, .bool false, .slice Y.p Y.n Y.c]) (by simp [results, Tryz.results123, go_sem, b3_w7]) rfl ?_
  exact Gv.of_f0 (X := ⟨⟨decide ((Rat.divInt x y).num < 0), X.p, X.n, X.c⟩, ⟨false, Y.p, Y.n, Y.c⟩⟩) (low_R Hy.out (div_one_limbs H1.out hX) (div_one_limbs' H1.out hY)) xw_w7

set_option maxRecDepth 100000 in
theorem rLow2 (X : Wh) (Y : Wh) (x : Int) (y : Int) (w : World) (hX : WR w X x) (hY : WR w Y y) (hy0 : y ≠ 0) (b : siz x.natAbs ≤ 1024) (b' : siz y.natAbs ≤ 1024) (h1 : Nat.gcd x.natAbs y.natAbs ≠ 1) :
    Calls Tryz.prog 123 #[.agg #[.bool X.b, .slice X.p X.n X.c], .agg #[.bool Y.b, .slice Y.p Y.n Y.c]] w (Gv (.f0 (Rat.divInt x y)) w) := by
  have H1 := Lib.hid h1
  clear h1
  have Hy := Lib.hid hy0
  clear hy0
  obtain ⟨w1, hww1, ew1, B1, zw1⟩ := alloc_at w (w.heap.size) (by omega) #[.bool X.b, .slice X.p X.n X.c] 38
  obtain ⟨w2, hww2, ew2, B2, zw2⟩ := alloc_at w1 (w.heap.size + 1) (by omega) #[.bool Y.b, .slice Y.p Y.n Y.c] 38
  obtain ⟨w3, hww3, ew3, B3, zw3⟩ := alloc_at w2 (w.heap.size + 1 + 1) (by omega) #[.bool false, .slice none 0 0, .bool false, .slice none 0 0] 40
  have xw1_w3 := eg ew2 ew3
  replace B1 := B1.ext xw1_w3
  have b1_w3 := B1.c2
  replace B2 := B2.ext ew3
  have b2_w3 := B2.c2
  have xw_w3 := eg (eg ew1 ew2) ew3
  replace hX := hX.ext xw_w3
  replace hY := hY.ext xw_w3
  go_enter Tryz.func123, Tryz.ntmps123
  go_wp2_with fail
  clear hww1 hww2 hww3
  replace zw1 := le2 zw1
  replace zw2 := le2 zw2
  replace zw3 := le2 zw3
  refine (rCommon X Y _ _ _ ((hX).u16.2) ((hY).u16.2) (x.natAbs) (y.natAbs) (rfl) (rfl) (WR.n20 (hX) b) (WR.n20 (hY) b')).mono (Gv.onC0 fun Z14 w4 hZ14 ew4 zw4 => ?_)
  have xw_w4 := eg xw_w3 ew4
  go_wp2_with fail
  clear b1_w3 b2_w3
  refine (rone (b := false) Z14 _ _ (hZ14) (by simp [H1.out])).mono (Gv.onV fun w5 ew5 zw5 => ?_)
  have xw3_w5 := eg ew4 ew5
  replace B1 := B1.ext xw3_w5
  have b1_w5 := B1.c2
  replace hX := hX.ext xw3_w5
  replace hZ14 := hZ14.ext ew5
  have xw_w5 := eg xw_w4 ew5
  go_wp2_with fail
  refine (rDivided X Z14 _ _ _ ((hX).u16.2) (hZ14) (x.natAbs) (Nat.gcd x.natAbs y.natAbs) (rfl) (rfl) (gcd_ne _ _ Hy.out) (WR.n20 (hX) b) (gcd_n Hy.out (hZ14) b')).mono ?_
  intro ee w6 gg
  obtain ⟨Z33, Z33r, rfl, hZ33, -, -, -, ew6⟩ := gg
  have zw6 := ew6.size
  have xw3_w6 := eg xw3_w5 ew6
  replace B2 := B2.ext xw3_w6
  have b2_w6 := B2.c2
  replace hY := hY.ext xw3_w6
  replace hZ14 := hZ14.ext ew6
  have xw_w6 := eg xw_w5 ew6
  go_wp2_with fail
  clear b1_w5
  refine (rDivided Y Z14 _ _ _ ((hY).u16.2) (hZ14) (y.natAbs) (Nat.gcd x.natAbs y.natAbs) (rfl) (rfl) (gcd_ne _ _ Hy.out) (WR.n20 (hY) b') (gcd_n Hy.out (hZ14) b')).mono ?_
  intro ee w7 gg
  obtain ⟨Z40, Z40r, rfl, hZ40, -, -, -, ew7⟩ := gg
  have zw7 := ew7.size
  have xw5_w7 := eg ew6 ew7
  replace B1 := B1.ext xw5_w7
  have b1_w7 := B1.c2
  replace B2 := B2.ext ew7
  have b2_w7 := B2.c2
  replace hZ33 := hZ33.ext ew7
  replace hX := hX.ext xw5_w7
  replace hY := hY.ext ew7
  have xw_w7 := eg xw_w6 ew7
  go_wp2_with fail
  clear b2_w6
  refine (rMake (s := decide ((Rat.divInt x y).num < 0)) ((X.b != Y.b)) Z33 _ (U16.reach (hZ33)) (low_sign Hy.out (hX) (hY) (hZ33))).mono (Gv.onV fun w8 ew8 zw8 => ?_)
  replace hZ40 := hZ40.ext ew8
  have xw_w8 := eg xw_w7 ew8
  go_wp2_with fail
  clear b1_w7 b2_w7
  refine (rMake (s := false) (false) Z40 _ (U16.reach (hZ40)) (by simp)).mono (Gv.onV fun w9 ew9 zw9 => ?_)
  have xw3_w9 := eg (eg (eg xw3_w6 ew7) ew8) ew9
  replace B3 := B3.ext xw3_w9
  have b3_w9 := B3.c4
  have fb3_w9 := B3.f4
  have xw7_w9 := eg ew8 ew9
  replace hZ33 := hZ33.ext xw7_w9
  replace hZ40 := hZ40.ext ew9
  have xw_w9 := eg xw_w8 ew9
  obtain ⟨w10, hww10, kw10, Nw10, zw10⟩ := B3.put4 (.bool (decide ((Rat.divInt x y).num < 0))) (.slice Z33.p Z33.n Z33.c) (.bool false) (.slice Z40.p Z40.n Z40.c)
  have nuw10 : NoU #[.bool false, .slice none 0 0, .bool false, .slice none 0 0] := by simp [NoU]
  replace hZ33 := UW.kb hZ33 B3 nuw10 kw10
  replace hZ40 := UW.kb hZ40 B3 nuw10 kw10
  have xw_w10 := Ext.kb xw_w9 kw10 (by omega)
  replace B3 := Nw10
  clear Nw10 kw10
  have b3_w10 := B3.c4
  go_wp2_with fail
  clear hww10
  clear b3_w9 fb3_w9
  replace zw10 := le2 zw10
  refine bodyPost_ret (v := .agg #[.bool (decide ((Rat.divInt x y).num < 0)), .slice Z33.p Z33.n Z33.c, .bool false, .slice Z40.p Z40.n Z40.c]) (by simp [results, Tryz.results123, go_sem, b3_w10]) rfl ?_
  exact Gv.of_f0 (X := ⟨⟨decide ((Rat.divInt x y).num < 0), Z33.p, Z33.n, Z33.c⟩, ⟨false, Z40.p, Z40.n, Z40.c⟩⟩) (low_R Hy.out hZ33 hZ40) xw_w10

theorem rLowest (X Y : Wh) (x y : Int) (w : World) (hX : WR w X x) (hY : WR w Y y) (hy0 : y ≠ 0) (b : siz x.natAbs ≤ 1024) (b' : siz y.natAbs ≤ 1024) : Calls Tryz.prog 123 #[.agg #[.bool X.b, .slice X.p X.n X.c], .agg #[.bool Y.b, .slice Y.p Y.n Y.c]] w (Gv (.f0 (Rat.divInt x y)) w) := by
  by_cases h1 : Nat.gcd x.natAbs y.natAbs = 1
  · exact rLow1 X Y x y w hX hY hy0 b b' h1
  · exact rLow2 X Y x y w hX hY hy0 b b' h1

set_option maxRecDepth 100000 in
theorem rQuick (x : Int) (y : Int) (w : World) (hy0 : y ≠ 0) (bx : -9223372036854775808 ≤ x ∧ x ≤ 9223372036854775807) (by_ : -9223372036854775808 ≤ y ∧ y ≤ 9223372036854775807) :
    Calls Tryz.prog 68 #[.int .i64 x, .int .i64 y] w (Gv (.f0 (Rat.divInt x y)) w) := by
  have Hy := Lib.hid hy0
  clear hy0
  obtain ⟨w1, hww1, ew1, B1, zw1⟩ := alloc_at w (w.heap.size) (by omega) #[.bool false, .slice none 0 0, .bool false, .slice none 0 0] 40
  go_enter Tryz.func68, Tryz.ntmps68
  go_wp2_with fail
  clear hww1
  replace zw1 := le2 zw1
  refine (rFromInt (x) _ (bx.1) (bx.2)).mono (Gv.onW fun Z6 w2 hZ6 ew2 zw2 => ?_)
  have xw_w2 := eg ew1 ew2
  go_wp2_with fail
  refine (rFromInt (y) _ (by_.1) (by_.2)).mono (Gv.onW fun Z8 w3 hZ8 ew3 zw3 => ?_)
  replace hZ6 := hZ6.ext ew3
  have xw_w3 := eg xw_w2 ew3
  go_wp2_with fail
  refine (rLowest Z6 Z8 _ _ _ (hZ6) (hZ8) (Hy.out) (siz64 bx.1 bx.2) (siz64 by_.1 by_.2)).mono (Gv.onF0 fun Z9 w4 hZ9 ew4 zw4 => ?_)
  have xw1_w4 := eg (eg ew2 ew3) ew4
  replace B1 := B1.ext xw1_w4
  have b1_w4 := B1.c4
  have fb1_w4 := B1.f4
  have xw_w4 := eg xw_w3 ew4
  obtain ⟨w5, hww5, kw5, Nw5, zw5⟩ := B1.put4 (.bool Z9.N.b) (.slice Z9.N.p Z9.N.n Z9.N.c) (.bool Z9.D.b) (.slice Z9.D.p Z9.D.n Z9.D.c)
  have nuw5 : NoU #[.bool false, .slice none 0 0, .bool false, .slice none 0 0] := by simp [NoU]
  replace hZ9 := FR.kb hZ9 B1 nuw5 kw5
  have xw_w5 := Ext.kb xw_w4 kw5 (by omega)
  replace B1 := Nw5
  clear Nw5 kw5
  have b1_w5 := B1.c4
  go_wp2_with fail
  clear hww5
  clear b1_w4 fb1_w4
  replace zw5 := le2 zw5
  refine bodyPost_ret (v := .agg #[.bool Z9.N.b, .slice Z9.N.p Z9.N.n Z9.N.c, .bool Z9.D.b, .slice Z9.D.p Z9.D.n Z9.D.c]) (by simp [results, Tryz.results68, go_sem, b1_w5]) rfl ?_
  exact Gv.of_f0 (X := Z9) (hZ9) xw_w5
end Go.Proofs.YtndgaecfeaedeaaGreat
