/- Walks of the law on lives: the table of the examples. Walks of the law on lives: Large, usable. -/
import Derived.Test.YtndgaecfeaedeaaGreatG24
namespace Go.Proofs.YtndgaecfeaedeaaGreat
set_option linter.unusedSimpArgs false
set_option linter.unusedVariables false
open Go.RowKit Lex Mth
attribute [local go_sem] run_indexAt_at add_zero_map Oper.semAt_some at_zero at_add at_mk1 at_mk2 at_mk3

theorem okR_of {w : World} {X : Fr} {q : Rat} (h : FR w X q) (s : Sz q) (hd : q.den < 65536) (h0 : 0 ≤ q) (h1 : q ≤ 1) : okR X.N.b (limbs q.num.natAbs) X.D.b (limbs q.den) = true := by
  have hn := Rat.num_nonneg.2 h0
  rw [Rat.le_iff] at h1
  have e1 : (1 : Rat).num = 1 := rfl
  have e2 : (1 : Rat).den = 1 := rfl
  rw [e1, e2] at h1
  have hb : X.N.b = false := by rw [h.1.neg]; simp; omega
  have s1 : (limbs q.num.natAbs).length ≤ 1 := siz_one.2 (by omega)
  have s2 : (limbs q.den).length ≤ 1 := siz_one.2 hd
  unfold okR
  rw [okF_of h s, hb, val_limbs, val_limbs]
  simp only [s1, s2, decide_true, Bool.not_false, Bool.true_and, decide_eq_true_eq]
  omega
/-- The table of the examples. -/
structure Sml (T : Tb) (R : Nat → Nat → Rat) : Prop where
  first : T.first = 60
  sel : T.sel = 1
  N : T.N = 3
  ok : okT T = true
  r00 : R 0 0 = 1 / 10
  r01 : R 0 1 = 1 / 5
  r10 : R 1 0 = 1 / 8
  r11 : R 1 1 = 1 / 2
  r20 : R 2 0 = 1 / 4
  r21 : R 2 1 = 1
def smlR (k j : Nat) : Rat := match k, j with
  | 0, 0 => Rat.divInt 1 10
  | 0, _ => Rat.divInt 1 5
  | 1, 0 => Rat.divInt 1 8
  | 1, _ => Rat.divInt 1 2
  | _, 0 => Rat.divInt 1 4
  | _, _ => Rat.divInt 1 1
theorem smlR_ok (k j : Nat) : Sz (smlR k j) ∧ (smlR k j).den < 65536 ∧ 0 ≤ smlR k j ∧ smlR k j ≤ 1 := by
  have h : ∀ q : Rat, q.num = 1 → q.den < 65536 → Sz q ∧ q.den < 65536 ∧ 0 ≤ q ∧ q ≤ 1 := fun q h1 h2 => by
    have h3 : siz q.den ≤ 1 := siz_one.2 h2
    have h4 : siz q.num.natAbs ≤ 1 := siz_one.2 (by rw [h1]; decide)
    have := q.den_nz
    refine ⟨⟨by omega, by omega⟩, h2, Rat.num_nonneg.1 (by omega), ?_⟩
    rw [Rat.le_iff, h1]
    have e1 : (1 : Rat).num = 1 := rfl
    have e2 : (1 : Rat).den = 1 := rfl
    rw [e1, e2]; omega
  unfold smlR
  split <;> exact h _ (by decide) (by decide)
def smlT (Z1 Z2 Z4 Z5 Z7 Z8 : Fr) (a b c P : Option Addr) : Tb where
  first := 60
  sel := 1
  P := P
  N := 3
  C := 3
  rp k := match k with | 0 => a | 1 => b | _ => c
  rn _ := 2
  rc _ := 2
  el k j := match k, j with | 0, 0 => Z1 | 0, _ => Z2 | 1, 0 => Z4 | 1, _ => Z5 | _, 0 => Z7 | _, _ => Z8
  ln k j := limbs (smlR k j).num.natAbs
  ld k j := limbs (smlR k j).den
theorem sml_of {w : World} {Z1 Z2 Z4 Z5 Z7 Z8 : Fr} {a b c g : Nat} (h1 : FR w Z1 (Rat.divInt 1 10)) (h2 : FR w Z2 (Rat.divInt 1 5)) (h4 : FR w Z4 (Rat.divInt 1 8)) (h5 : FR w Z5 (Rat.divInt 1 2)) (h7 : FR w Z7 (Rat.divInt 1 4)) (h8 : FR w Z8 (Rat.divInt 1 1))
    (ca : Cells w a 40 #[.bool Z1.N.b, .slice Z1.N.p Z1.N.n Z1.N.c, .bool Z1.D.b, .slice Z1.D.p Z1.D.n Z1.D.c, .bool Z2.N.b, .slice Z2.N.p Z2.N.n Z2.N.c, .bool Z2.D.b, .slice Z2.D.p Z2.D.n Z2.D.c])
    (cb : Cells w b 40 #[.bool Z4.N.b, .slice Z4.N.p Z4.N.n Z4.N.c, .bool Z4.D.b, .slice Z4.D.p Z4.D.n Z4.D.c, .bool Z5.N.b, .slice Z5.N.p Z5.N.n Z5.N.c, .bool Z5.D.b, .slice Z5.D.p Z5.D.n Z5.D.c])
    (cc : Cells w c 40 #[.bool Z7.N.b, .slice Z7.N.p Z7.N.n Z7.N.c, .bool Z7.D.b, .slice Z7.D.p Z7.D.n Z7.D.c, .bool Z8.N.b, .slice Z8.N.p Z8.N.n Z8.N.c, .bool Z8.D.b, .slice Z8.D.p Z8.D.n Z8.D.c])
    (cg : Cells w g 47 #[.slice (some ⟨a, 0, none⟩) 2 2, .slice (some ⟨b, 0, none⟩) 2 2, .slice (some ⟨c, 0, none⟩) 2 2]) :
    ∃ T R, T.val = .agg #[.int .i64 60, .int .i64 1, .slice (some ⟨g, 0, none⟩) 3 3] ∧ TQ w T R ∧ Sml T R := by
  have hq : ∀ k, k < 3 → ∀ j, j < 2 → FR w ((smlT Z1 Z2 Z4 Z5 Z7 Z8 (some ⟨a, 0, none⟩) (some ⟨b, 0, none⟩) (some ⟨c, 0, none⟩) (some ⟨g, 0, none⟩)).el k j) (smlR k j) := fun k hk j hj => by
    match k, hk, j, hj with
    | 0, _, 0, _ => exact h1
    | 0, _, 1, _ => exact h2
    | 1, _, 0, _ => exact h4
    | 1, _, 1, _ => exact h5
    | 2, _, 0, _ => exact h7
    | 2, _, 1, _ => exact h8
  have tw : TW w (smlT Z1 Z2 Z4 Z5 Z7 Z8 (some ⟨a, 0, none⟩) (some ⟨b, 0, none⟩) (some ⟨c, 0, none⟩) (some ⟨g, 0, none⟩)) := by
    refine ⟨by simp [smlT], by simp [smlT], by simp [smlT], by simp [smlT], Has.some _ _, Nat.le_refl _, by simp [smlT], fun k hk => ?_, fun k hk => ?_, fun k hk j hj => ?_⟩
    · match k, hk with
      | 0, _ => rw [show (smlT Z1 Z2 Z4 Z5 Z7 Z8 (some ⟨a, 0, none⟩) (some ⟨b, 0, none⟩) (some ⟨c, 0, none⟩) (some ⟨g, 0, none⟩)).P = some ⟨g, 0, none⟩ from rfl, at_zero]; exact cg.cell rfl
      | 1, _ => rw [show (smlT Z1 Z2 Z4 Z5 Z7 Z8 (some ⟨a, 0, none⟩) (some ⟨b, 0, none⟩) (some ⟨c, 0, none⟩) (some ⟨g, 0, none⟩)).P = some ⟨g, 0, none⟩ from rfl, at_zero]; exact cg.cell rfl
      | 2, _ => rw [show (smlT Z1 Z2 Z4 Z5 Z7 Z8 (some ⟨a, 0, none⟩) (some ⟨b, 0, none⟩) (some ⟨c, 0, none⟩) (some ⟨g, 0, none⟩)).P = some ⟨g, 0, none⟩ from rfl, at_zero]; exact cg.cell rfl
    · have fr : ∀ (x : Nat) (U V : Fr) (E : Nat → Fr), Cells w x 40 #[.bool U.N.b, .slice U.N.p U.N.n U.N.c, .bool U.D.b, .slice U.D.p U.D.n U.D.c, .bool V.N.b, .slice V.N.p V.N.n V.N.c, .bool V.D.b, .slice V.D.p V.D.n V.D.c] → E 0 = U → E 1 = V → FRow w (some ⟨x, 0, none⟩) 2 2 E := fun x U V E hc e0 e1 =>
        ⟨Has.some _ _, Nat.le_refl _, by decide, fun j hj => by
          match j, hj with
          | 0, _ => rw [e0]; exact ⟨by rw [at_zero]; exact hc.cell rfl, by rw [at_zero]; exact hc.cell rfl, by rw [at_zero]; exact hc.cell rfl, by rw [at_zero]; exact hc.cell rfl⟩
          | 1, _ => rw [e1]; exact ⟨by rw [at_zero]; exact hc.cell rfl, by rw [at_zero]; exact hc.cell rfl, by rw [at_zero]; exact hc.cell rfl, by rw [at_zero]; exact hc.cell rfl⟩⟩
      match k, hk with
      | 0, _ => exact fr _ _ _ _ ca rfl rfl
      | 1, _ => exact fr _ _ _ _ cb rfl rfl
      | 2, _ => exact fr _ _ _ _ cc rfl rfl
    · have h := hq k hk j hj
      exact ⟨h.1.u16.2, h.2.u16.2⟩
  have tq : TQ w (smlT Z1 Z2 Z4 Z5 Z7 Z8 (some ⟨a, 0, none⟩) (some ⟨b, 0, none⟩) (some ⟨c, 0, none⟩) (some ⟨g, 0, none⟩)) smlR :=
    ⟨tw, by unfold boundsOk; simp [smlT], fun _ _ => rfl, hq, fun k _ j _ => smlR_ok k j⟩
  refine ⟨_, smlR, rfl, tq, rfl, rfl, rfl, okT_iff.2 ⟨tq.b, fun k hk => ⟨rfl, fun j hj => ?_⟩, by show val (limbs (smlR 2 1).num.natAbs) = val (limbs (smlR 2 1).den); rw [val_limbs, val_limbs]; decide +kernel⟩, by decide +kernel, by decide +kernel, by decide +kernel, by decide +kernel, by decide +kernel, by decide +kernel⟩
  have h := hq k hk j hj
  have o := smlR_ok k j
  exact okR_of h o.1 o.2.1 o.2.2.1 o.2.2.2

set_option maxRecDepth 100000 in
theorem nsmall  (w : World)  :
    Calls Tryz.prog 25 #[] w (fun en w' => ∃ (T : Tb) (R : Nat → Nat → Rat), en = .returned T.val ∧ TQ w' T R ∧ Sml T R ∧ Ext w w') := by
  have hEw : Ext w w := Below.refl _ _
  obtain ⟨w1, hww1⟩ : ∃ W, w.alloc (.cells #[.int .i64 0, .int .i64 0, .slice none 0 0] 24) = W := ⟨_, rfl⟩
  have ew1 : Ext w w1 := by rw [← hww1]; exact ea _ _
  have B1 : Cells w1 (w.heap.size) 24 #[.int .i64 0, .int .i64 0, .slice none 0 0] := by rw [← hww1]; exact Cells.newAt _ _ (by omega)
  have zw1 := alloc_lt hww1
  have hEw1 := eg hEw ew1
  have lB1_w1 := B1.lt
  go_enter Tryz.func25, Tryz.ntmps25
  go_wp2_with fail
  clear hww1
  have yw1 := Nat.le_of_eq zw1
  replace zw1 := Nat.le_of_eq zw1.symm
  refine (nquick (1) (10) _ (by decide) (by decide) (by decide)).mono ?_
  intro ee w2 gg
  obtain ⟨Z1, rfl, hZ1, ew2⟩ := Gv.f0 gg
  replace B1 := B1.ext ew2
  have hEw2 := eg hEw1 ew2
  have zw2 := ew2.size
  have lB1_w2 := B1.lt
  go_wp2_with fail
  clear lB1_w1
  refine (nquick (1) (5) _ (by decide) (by decide) (by decide)).mono ?_
  intro ee w3 gg
  obtain ⟨Z2, rfl, hZ2, ew3⟩ := Gv.f0 gg
  replace hZ1 := hZ1.ext ew3
  replace B1 := B1.ext ew3
  have hEw3 := eg hEw2 ew3
  have zw3 := ew3.size
  have lB1_w3 := B1.lt
  obtain ⟨w4, hww4⟩ : ∃ W, w3.alloc (.cells #[.bool Z1.N.b, .slice Z1.N.p Z1.N.n Z1.N.c, .bool Z1.D.b, .slice Z1.D.p Z1.D.n Z1.D.c, .bool Z2.N.b, .slice Z2.N.p Z2.N.n Z2.N.c, .bool Z2.D.b, .slice Z2.D.p Z2.D.n Z2.D.c] 40) = W := ⟨_, rfl⟩
  have ew4 : Ext w3 w4 := by rw [← hww4]; exact ea _ _
  have B2 : Cells w4 (w3.heap.size) 40 #[.bool Z1.N.b, .slice Z1.N.p Z1.N.n Z1.N.c, .bool Z1.D.b, .slice Z1.D.p Z1.D.n Z1.D.c, .bool Z2.N.b, .slice Z2.N.p Z2.N.n Z2.N.c, .bool Z2.D.b, .slice Z2.D.p Z2.D.n Z2.D.c] := by rw [← hww4]; exact Cells.newAt _ _ (by omega)
  replace hZ1 := hZ1.ext ew4
  replace hZ2 := hZ2.ext ew4
  replace B1 := B1.ext ew4
  have zw4 := alloc_lt hww4
  have hEw4 := eg hEw3 ew4
  have lB1_w4 := B1.lt
  have lB2_w4 := B2.lt
  go_wp2_with fail
  clear hww4
  clear lB1_w2 lB1_w3
  have yw4 := Nat.le_of_eq zw4
  replace zw4 := Nat.le_of_eq zw4.symm
  refine (nquick (1) (8) _ (by decide) (by decide) (by decide)).mono ?_
  intro ee w5 gg
  obtain ⟨Z4, rfl, hZ4, ew5⟩ := Gv.f0 gg
  replace hZ1 := hZ1.ext ew5
  replace hZ2 := hZ2.ext ew5
  replace B1 := B1.ext ew5
  replace B2 := B2.ext ew5
  have hEw5 := eg hEw4 ew5
  have zw5 := ew5.size
  have lB1_w5 := B1.lt
  have lB2_w5 := B2.lt
  go_wp2_with fail
  clear lB1_w4 lB2_w4
  refine (nquick (1) (2) _ (by decide) (by decide) (by decide)).mono ?_
  intro ee w6 gg
  obtain ⟨Z5, rfl, hZ5, ew6⟩ := Gv.f0 gg
  replace hZ1 := hZ1.ext ew6
  replace hZ2 := hZ2.ext ew6
  replace hZ4 := hZ4.ext ew6
  replace B1 := B1.ext ew6
  replace B2 := B2.ext ew6
  have hEw6 := eg hEw5 ew6
  have zw6 := ew6.size
  have lB1_w6 := B1.lt
  have lB2_w6 := B2.lt
  obtain ⟨w7, hww7⟩ : ∃ W, w6.alloc (.cells #[.bool Z4.N.b, .slice Z4.N.p Z4.N.n Z4.N.c, .bool Z4.D.b, .slice Z4.D.p Z4.D.n Z4.D.c, .bool Z5.N.b, .slice Z5.N.p Z5.N.n Z5.N.c, .bool Z5.D.b, .slice Z5.D.p Z5.D.n Z5.D.c] 40) = W := ⟨_, rfl⟩
  have ew7 : Ext w6 w7 := by rw [← hww7]; exact ea _ _
  have B3 : Cells w7 (w6.heap.size) 40 #[.bool Z4.N.b, .slice Z4.N.p Z4.N.n Z4.N.c, .bool Z4.D.b, .slice Z4.D.p Z4.D.n Z4.D.c, .bool Z5.N.b, .slice Z5.N.p Z5.N.n Z5.N.c, .bool Z5.D.b, .slice Z5.D.p Z5.D.n Z5.D.c] := by rw [← hww7]; exact Cells.newAt _ _ (by omega)
  replace hZ1 := hZ1.ext ew7
  replace hZ2 := hZ2.ext ew7
  replace hZ4 := hZ4.ext ew7
  replace hZ5 := hZ5.ext ew7
  replace B1 := B1.ext ew7
  replace B2 := B2.ext ew7
  have zw7 := alloc_lt hww7
  have hEw7 := eg hEw6 ew7
  have lB1_w7 := B1.lt
  have lB2_w7 := B2.lt
  have lB3_w7 := B3.lt
  go_wp2_with fail
  clear hww7
  clear lB1_w5 lB2_w5 lB1_w6 lB2_w6
  have yw7 := Nat.le_of_eq zw7
  replace zw7 := Nat.le_of_eq zw7.symm
  refine (nquick (1) (4) _ (by decide) (by decide) (by decide)).mono ?_
  intro ee w8 gg
  obtain ⟨Z7, rfl, hZ7, ew8⟩ := Gv.f0 gg
  replace hZ1 := hZ1.ext ew8
  replace hZ2 := hZ2.ext ew8
  replace hZ4 := hZ4.ext ew8
  replace hZ5 := hZ5.ext ew8
  replace B1 := B1.ext ew8
  replace B2 := B2.ext ew8
  replace B3 := B3.ext ew8
  have hEw8 := eg hEw7 ew8
  have zw8 := ew8.size
  have lB1_w8 := B1.lt
  have lB2_w8 := B2.lt
  have lB3_w8 := B3.lt
  go_wp2_with fail
  clear lB1_w7 lB2_w7 lB3_w7
  refine (nquick (1) (1) _ (by decide) (by decide) (by decide)).mono ?_
  intro ee w9 gg
  obtain ⟨Z8, rfl, hZ8, ew9⟩ := Gv.f0 gg
  replace hZ1 := hZ1.ext ew9
  replace hZ2 := hZ2.ext ew9
  replace hZ4 := hZ4.ext ew9
  replace hZ5 := hZ5.ext ew9
  replace hZ7 := hZ7.ext ew9
  replace B1 := B1.ext ew9
  replace B2 := B2.ext ew9
  replace B3 := B3.ext ew9
  have hEw9 := eg hEw8 ew9
  have zw9 := ew9.size
  have lB1_w9 := B1.lt
  have lB2_w9 := B2.lt
  have lB3_w9 := B3.lt
  obtain ⟨w10, hww10⟩ : ∃ W, w9.alloc (.cells #[.bool Z7.N.b, .slice Z7.N.p Z7.N.n Z7.N.c, .bool Z7.D.b, .slice Z7.D.p Z7.D.n Z7.D.c, .bool Z8.N.b, .slice Z8.N.p Z8.N.n Z8.N.c, .bool Z8.D.b, .slice Z8.D.p Z8.D.n Z8.D.c] 40) = W := ⟨_, rfl⟩
  have ew10 : Ext w9 w10 := by rw [← hww10]; exact ea _ _
  have B4 : Cells w10 (w9.heap.size) 40 #[.bool Z7.N.b, .slice Z7.N.p Z7.N.n Z7.N.c, .bool Z7.D.b, .slice Z7.D.p Z7.D.n Z7.D.c, .bool Z8.N.b, .slice Z8.N.p Z8.N.n Z8.N.c, .bool Z8.D.b, .slice Z8.D.p Z8.D.n Z8.D.c] := by rw [← hww10]; exact Cells.newAt _ _ (by omega)
  replace hZ1 := hZ1.ext ew10
  replace hZ2 := hZ2.ext ew10
  replace hZ4 := hZ4.ext ew10
  replace hZ5 := hZ5.ext ew10
  replace hZ7 := hZ7.ext ew10
  replace hZ8 := hZ8.ext ew10
  replace B1 := B1.ext ew10
  replace B2 := B2.ext ew10
  replace B3 := B3.ext ew10
  have zw10 := alloc_lt hww10
  have hEw10 := eg hEw9 ew10
  have lB1_w10 := B1.lt
  have lB2_w10 := B2.lt
  have lB3_w10 := B3.lt
  have lB4_w10 := B4.lt
  obtain ⟨w11, hww11⟩ : ∃ W, w10.alloc (.cells #[.slice (some ⟨w3.heap.size, 0, none⟩) 2 2, .slice (some ⟨w6.heap.size, 0, none⟩) 2 2, .slice (some ⟨w9.heap.size, 0, none⟩) 2 2] 47) = W := ⟨_, rfl⟩
  have ew11 : Ext w10 w11 := by rw [← hww11]; exact ea _ _
  have B5 : Cells w11 (w9.heap.size + 1) 47 #[.slice (some ⟨w3.heap.size, 0, none⟩) 2 2, .slice (some ⟨w6.heap.size, 0, none⟩) 2 2, .slice (some ⟨w9.heap.size, 0, none⟩) 2 2] := by rw [← hww11]; exact Cells.newAt _ _ (by omega)
  replace hZ1 := hZ1.ext ew11
  replace hZ2 := hZ2.ext ew11
  replace hZ4 := hZ4.ext ew11
  replace hZ5 := hZ5.ext ew11
  replace hZ7 := hZ7.ext ew11
  replace hZ8 := hZ8.ext ew11
  replace B1 := B1.ext ew11
  replace B2 := B2.ext ew11
  replace B3 := B3.ext ew11
  replace B4 := B4.ext ew11
  have zw11 := alloc_lt hww11
  have hEw11 := eg hEw10 ew11
  have b1_0_w11 := B1.cell (k := 0) rfl
  have fb1_0_w11 := B1.frozen 0
  have b1_1_w11 := B1.cell (k := 1) rfl
  have fb1_1_w11 := B1.frozen 1
  have b1_2_w11 := B1.cell (k := 2) rfl
  have fb1_2_w11 := B1.frozen 2
  have lB1_w11 := B1.lt
  have lB2_w11 := B2.lt
  have lB3_w11 := B3.lt
  have lB4_w11 := B4.lt
  have lB5_w11 := B5.lt
  obtain ⟨w12, hww12⟩ : ∃ W, (((w11).setCell ⟨w.heap.size, 0, none⟩ (.int .i64 60)).setCell ⟨w.heap.size, 1, none⟩ (.int .i64 1)).setCell ⟨w.heap.size, 2, none⟩ (.slice (some ⟨w9.heap.size + 1, 0, none⟩) 3 3) = W := ⟨_, rfl⟩
  have nuw12 : NoU #[.int .i64 0, .int .i64 0, .slice none 0 0] := by simp [NoU]
  replace hZ1 := FR.sets hZ1 B1 nuw12 0 [.int .i64 60, .int .i64 1, .slice (some ⟨w9.heap.size + 1, 0, none⟩) 3 3]
  replace hZ2 := FR.sets hZ2 B1 nuw12 0 [.int .i64 60, .int .i64 1, .slice (some ⟨w9.heap.size + 1, 0, none⟩) 3 3]
  replace hZ4 := FR.sets hZ4 B1 nuw12 0 [.int .i64 60, .int .i64 1, .slice (some ⟨w9.heap.size + 1, 0, none⟩) 3 3]
  replace hZ5 := FR.sets hZ5 B1 nuw12 0 [.int .i64 60, .int .i64 1, .slice (some ⟨w9.heap.size + 1, 0, none⟩) 3 3]
  replace hZ7 := FR.sets hZ7 B1 nuw12 0 [.int .i64 60, .int .i64 1, .slice (some ⟨w9.heap.size + 1, 0, none⟩) 3 3]
  replace hZ8 := FR.sets hZ8 B1 nuw12 0 [.int .i64 60, .int .i64 1, .slice (some ⟨w9.heap.size + 1, 0, none⟩) 3 3]
  have hEw12 := Ext.sets hEw11 (b := w.heap.size) (by omega) 0 [.int .i64 60, .int .i64 1, .slice (some ⟨w9.heap.size + 1, 0, none⟩) 3 3]
  replace B2 := Cells.off B2 (b' := w.heap.size) (by omega) 0 [.int .i64 60, .int .i64 1, .slice (some ⟨w9.heap.size + 1, 0, none⟩) 3 3]
  replace B3 := Cells.off B3 (b' := w.heap.size) (by omega) 0 [.int .i64 60, .int .i64 1, .slice (some ⟨w9.heap.size + 1, 0, none⟩) 3 3]
  replace B4 := Cells.off B4 (b' := w.heap.size) (by omega) 0 [.int .i64 60, .int .i64 1, .slice (some ⟨w9.heap.size + 1, 0, none⟩) 3 3]
  replace B5 := Cells.off B5 (b' := w.heap.size) (by omega) 0 [.int .i64 60, .int .i64 1, .slice (some ⟨w9.heap.size + 1, 0, none⟩) 3 3]
  replace B1 : Cells (sets w11 (w.heap.size) 0 [.int .i64 60, .int .i64 1, .slice (some ⟨w9.heap.size + 1, 0, none⟩) 3 3]) (w.heap.size) 24 #[.int .i64 60, .int .i64 1, .slice (some ⟨w9.heap.size + 1, 0, none⟩) 3 3] := Cells.sets [.int .i64 60, .int .i64 1, .slice (some ⟨w9.heap.size + 1, 0, none⟩) 3 3] B1 0
  have zw12 := size_sets (w.heap.size) [.int .i64 60, .int .i64 1, .slice (some ⟨w9.heap.size + 1, 0, none⟩) 3 3] w11 0
  replace hww12 : sets w11 (w.heap.size) 0 [.int .i64 60, .int .i64 1, .slice (some ⟨w9.heap.size + 1, 0, none⟩) 3 3] = w12 := hww12
  rw [hww12] at hZ1 hZ2 hZ4 hZ5 hZ7 hZ8 B1 B2 B3 B4 B5 hEw12 zw12
  replace hww12 : (((w11).setCell ⟨w.heap.size, 0, none⟩ (.int .i64 60)).setCell ⟨w.heap.size, 1, none⟩ (.int .i64 1)).setCell ⟨w.heap.size, 2, none⟩ (.slice (some ⟨w9.heap.size + 1, 0, none⟩) 3 3) = w12 := hww12
  have b1_0_w12 := B1.cell (k := 0) rfl
  have b1_1_w12 := B1.cell (k := 1) rfl
  have b1_2_w12 := B1.cell (k := 2) rfl
  have lB1_w12 := B1.lt
  have lB2_w12 := B2.lt
  have lB3_w12 := B3.lt
  have lB4_w12 := B4.lt
  have lB5_w12 := B5.lt
  go_wp2_with fail
  clear hww10
  clear hww11
  clear hww12
  clear b1_0_w11 fb1_0_w11 b1_1_w11 fb1_1_w11 b1_2_w11 fb1_2_w11 lB1_w8 lB2_w8 lB3_w8 lB1_w9 lB2_w9 lB3_w9 lB1_w10 lB2_w10 lB3_w10 lB4_w10 lB1_w11 lB2_w11 lB3_w11 lB4_w11 lB5_w11
  have yw10 := Nat.le_of_eq zw10
  replace zw10 := Nat.le_of_eq zw10.symm
  have yw11 := Nat.le_of_eq zw11
  replace zw11 := Nat.le_of_eq zw11.symm
  have yw12 := Nat.le_of_eq zw12
  replace zw12 := Nat.le_of_eq zw12.symm
  refine bodyPost_ret (v := .agg #[.int .i64 60, .int .i64 1, .slice (some ⟨w9.heap.size + 1, 0, none⟩) 3 3]) (by simp [results, Tryz.results25, go_sem, b1_0_w12, b1_1_w12, b1_2_w12]) rfl ?_
  obtain ⟨T, R, hv, tq, sm⟩ := sml_of hZ1 hZ2 hZ4 hZ5 hZ7 hZ8 B2 B3 B4 B5
  exact ⟨T, R, by rw [hv], tq, sm, hEw12⟩
end Go.Proofs.YtndgaecfeaedeaaGreat

namespace Go.Proofs.YtndgaecfeaedeaaGreat
set_option linter.unusedSimpArgs false
set_option linter.unusedVariables false
open Go.RowKit Lex Mth
attribute [local go_sem] run_indexAt_at add_zero_map Oper.semAt_some at_zero at_add at_mk1 at_mk2 at_mk3

/-- What Large looks at. -/
def LargeT (T : Tb) (rows width limbs : Nat) : Prop := rows < T.N ∨ ∃ k, k < T.N ∧ ∃ j, j < T.rn k ∧ (width ≤ j ∨ limbs < (T.el k j).N.n ∨ limbs < (T.el k j).D.n)
noncomputable def largeT (T : Tb) (rows width limbs : Nat) : Bool := @decide (LargeT T rows width limbs) (Classical.propDecidable _)
theorem largeT_iff {T : Tb} {r wd l : Nat} : largeT T r wd l = true ↔ LargeT T r wd l := by unfold largeT; exact @decide_eq_true_iff _ (Classical.propDecidable _)
theorem largeT_f {T : Tb} {r wd l : Nat} (h : ¬ LargeT T r wd l) : largeT T r wd l = false := by rw [Bool.eq_false_iff]; exact fun e => h (largeT_iff.1 e)

set_option maxRecDepth 100000 in
set_option maxHeartbeats 2000000 in
theorem nLarge (T : Tb) (rows width limbs : Nat) (w : World) (h : TW w T) (hr : rows ≤ 1000) (hw : width ≤ 1000) (hl : limbs ≤ 1000) :
    Calls Tryz.prog 8 #[.agg #[.int .i64 T.first, .int .i64 T.sel, .slice T.P T.N T.C], .int .i64 (rows : Nat), .int .i64 (width : Nat), .int .i64 (limbs : Nat)] w (Gv (.v (.bool (largeT T rows width limbs))) w) := by
  have hN := h.reach
  have hhp := h.has
  obtain ⟨w1, hw1⟩ : ∃ W, w.alloc (.cells #[.int .i64 T.first, .int .i64 T.sel, .slice T.P T.N T.C] 24) = W := ⟨_, rfl⟩
  have e1 : Ext w w1 := by rw [← hw1]; exact ea _ _
  have B1 : Cells w1 w.heap.size 24 #[.int .i64 T.first, .int .i64 T.sel, .slice T.P T.N T.C] := by rw [← hw1]; exact Cells.newAt _ _ rfl
  have c2 := B1.cell (k := 2) rfl
  by_cases hrows : rows < T.N
  · have ht : largeT T rows width limbs = true := largeT_iff.2 (.inl hrows)
    have Ht := Lib.hid ht
    clear ht
    go_enter Tryz.func8, Tryz.ntmps8
    go_wp2_with fail
    go_ret
    rw [Ht.out]
    exact Gv.of_v e1
  · go_enter Tryz.func8, Tryz.ntmps8
    go_wp2_with fail
    clear hw1
    go_loopw [9] (fun v wr => ∃ i : Nat, v = .int .i64 (i : Nat) ∧ i ≤ T.N ∧ wr = w1 ∧ Hid (∀ k, k < i → ∀ j, j < T.rn k → ¬ (width ≤ j ∨ limbs < (T.el k j).N.n ∨ limbs < (T.el k j).D.n))) (fun v _ => (T.N - intOf v).toNat)
    case atStart => exact ⟨0, rfl, by omega, rfl, Lib.hid (fun j hj => absurd hj (Nat.not_lt_zero _))⟩
    case round =>
      obtain ⟨i, rfl, hi, rfl, hall⟩ := hrel
      by_cases hiN : i < T.N
      · have hs := cell_ext e1 (h.sl i hiN)
        have hrow := (h.row i hiN).ext e1
        have hrr := hrow.reach
        have hrh := hrow.has
        go_wp2_with fail
        go_loopw [10] (fun v wr' => ∃ j : Nat, v = .int .i64 (j : Nat) ∧ j ≤ T.rn i ∧ wr' = wr ∧ Hid (∀ j', j' < j → ¬ (width ≤ j' ∨ limbs < (T.el i j').N.n ∨ limbs < (T.el i j').D.n))) (fun v _ => (T.rn i - intOf v).toNat)
        case atStart => exact ⟨0, rfl, by omega, rfl, Lib.hid (fun j hj => absurd hj (Nat.not_lt_zero _))⟩
        case round =>
          obtain ⟨j, rfl, hj, rfl, hin⟩ := hrel
          by_cases hjn : j < T.rn i
          · have hel := hrow.el j hjn
            have hraw := (h.raw i hiN j hjn)
            have x1 := hel.c1
            have x3 := hel.c3
            have x3' : wr.cell? (at_ (T.rp i) (j * 4 + 2 + 1)) = some (.slice (T.el i j).D.p (T.el i j).D.n (T.el i j).D.c) := x3
            have r1 : (T.el i j).N.n ≤ 70368744177664 := hraw.1.reach
            have r2 : (T.el i j).D.n ≤ 70368744177664 := hraw.2.reach
            by_cases hbad : width ≤ j ∨ limbs < (T.el i j).N.n ∨ limbs < (T.el i j).D.n
            · have ht : largeT T rows width limbs = true := largeT_iff.2 (.inr ⟨i, hiN, j, hjn, hbad⟩)
              have Ht := Lib.hid ht
              clear ht
              rcases (by omega : width ≤ j ∨ (j < width ∧ limbs < (T.el i j).N.n) ∨ (j < width ∧ (T.el i j).N.n ≤ limbs ∧ limbs < (T.el i j).D.n)) with b1 | ⟨b1, b2⟩ | ⟨b1, b2, b3⟩
              all_goals
                clear hbad
                go_wp2_with fail
                go_ret
                rw [Ht.out]
                exact Gv.of_v e1
            · obtain ⟨b1, b2, b3⟩ : j < width ∧ (T.el i j).N.n ≤ limbs ∧ (T.el i j).D.n ≤ limbs := by omega
              have Hb := Lib.hid hbad
              clear hbad
              go_wp2_with fail
              go_roundw
              case rel => exact ⟨j + 1, rfl, by omega, trivial, Lib.hid (fun j' hj' => (Nat.lt_or_eq_of_le (Nat.le_of_lt_succ hj')).elim (hin.out j') (fun e => e ▸ Hb.out))⟩
              case measure => simp [intOf]; omega
          · obtain rfl : j = T.rn i := by omega
            go_wp2_with fail
            go_roundw
            case rel => exact ⟨i + 1, rfl, by omega, trivial, Lib.hid (fun k' hk' => (Nat.lt_or_eq_of_le (Nat.le_of_lt_succ hk')).elim (hall.out k') (fun e => e ▸ hin.out))⟩
            case measure => simp [intOf]; omega
      · obtain rfl : i = T.N := by omega
        have ht : largeT T rows width limbs = false := largeT_f fun hh => hh.elim (fun x => hrows x) fun ⟨k, hk, j, hj, hx⟩ => hall.out k hk j hj hx
        have Ht := Lib.hid ht
        clear ht
        go_wp2_with fail
        go_ret
        rw [Ht.out]
        exact Gv.of_v e1
end Go.Proofs.YtndgaecfeaedeaaGreat
