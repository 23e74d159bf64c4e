/- Walks of the law on lives: the table of the examples. The second table of LifeLighter: its rates, that they are short enough, that they make a valid table. No condition: plain laws. Walks of the law on lives: Large, usable. Walks of the law on lives: the examples. Walks of the law on lives: usable. -/
import Derived.Test.YtndgaecfeaedeaaGreatG20
namespace Go.Proofs.YtndgaecfeaedeaaGreat
set_option linter.unusedSimpArgs false
set_option linter.unusedVariables false
open Go.RowKit Lex Mth
attribute [local go_sem] run_indexAt_at add_zero_map Oper.semAt_some at_zero at_add at_mk1 at_mk2 at_mk3
set_option linter.unusedSimpArgs false
set_option linter.unusedVariables false

theorem okR_of {w : World} {X : Fr} {q : Rat} (h : FR w X q) (s : Sz q) (hd : q.den < 65536) (h0 : 0 ≤ q) (h1 : q ≤ 1) : okR X.N.b (limbs q.num.natAbs) X.D.b (limbs q.den) = true := by
  have hn := Rat.num_nonneg.2 h0
  rw [Rat.le_iff] at h1
  have e1 : (1 : Rat).num = 1 := rfl
  have e2 : (1 : Rat).den = 1 := rfl
  rw [e1, e2] at h1
  have hb : X.N.b = false := by rw [h.1.neg]; simp; omega
  have s1 : (limbs q.num.natAbs).length ≤ 1 := siz_one.2 (by omega)
  have s2 : (limbs q.den).length ≤ 1 := siz_one.2 hd
  unfold okR
  rw [okF_of h s, hb, val_limbs, val_limbs]
  simp only [s1, s2, decide_true, Bool.not_false, Bool.true_and, decide_eq_true_eq]
  omega
/-- The table of the examples. -/
structure Sml (T : Tb) (R : Nat → Nat → Rat) : Prop where
  first : T.first = 60
  sel : T.sel = 1
  N : T.N = 3
  ok : okT T = true
  r00 : R 0 0 = 1 / 10
  r01 : R 0 1 = 1 / 5
  r10 : R 1 0 = 1 / 8
  r11 : R 1 1 = 1 / 2
  r20 : R 2 0 = 1 / 4
  r21 : R 2 1 = 1
def smlR (k j : Nat) : Rat := match k, j with
  | 0, 0 => Rat.divInt 1 10
  | 0, _ => Rat.divInt 1 5
  | 1, 0 => Rat.divInt 1 8
  | 1, _ => Rat.divInt 1 2
  | _, 0 => Rat.divInt 1 4
  | _, _ => Rat.divInt 1 1
theorem smlR_ok (k j : Nat) : Sz (smlR k j) ∧ (smlR k j).den < 65536 ∧ 0 ≤ smlR k j ∧ smlR k j ≤ 1 := by
  have h : ∀ q : Rat, q.num = 1 → q.den < 65536 → Sz q ∧ q.den < 65536 ∧ 0 ≤ q ∧ q ≤ 1 := fun q h1 h2 => by
    have h3 : siz q.den ≤ 1 := siz_one.2 h2
    have h4 : siz q.num.natAbs ≤ 1 := siz_one.2 (by rw [h1]; decide)
    have := q.den_nz
    refine ⟨⟨by omega, by omega⟩, h2, Rat.num_nonneg.1 (by omega), ?_⟩
    rw [Rat.le_iff, h1]
    have e1 : (1 : Rat).num = 1 := rfl
    have e2 : (1 : Rat).den = 1 := rfl
    rw [e1, e2]; omega
  unfold smlR
  split <;> exact h _ (by decide) (by decide)
def smlT (Z1 Z2 Z4 Z5 Z7 Z8 : Fr) (a b c P : Option Addr) : Tb where
  first := 60
  sel := 1
  P := P
  N := 3
  C := 3
  rp k := match k with | 0 => a | 1 => b | _ => c
  rn _ := 2
  rc _ := 2
  el k j := match k, j with | 0, 0 => Z1 | 0, _ => Z2 | 1, 0 => Z4 | 1, _ => Z5 | _, 0 => Z7 | _, _ => Z8
  ln k j := limbs (smlR k j).num.natAbs
  ld k j := limbs (smlR k j).den
theorem sml_of {w : World} {Z1 Z2 Z4 Z5 Z7 Z8 : Fr} {a b c g : Nat} (h1 : FR w Z1 (Rat.divInt 1 10)) (h2 : FR w Z2 (Rat.divInt 1 5)) (h4 : FR w Z4 (Rat.divInt 1 8)) (h5 : FR w Z5 (Rat.divInt 1 2)) (h7 : FR w Z7 (Rat.divInt 1 4)) (h8 : FR w Z8 (Rat.divInt 1 1))
    (ca : Cells w a 40 #[.bool Z1.N.b, .slice Z1.N.p Z1.N.n Z1.N.c, .bool Z1.D.b, .slice Z1.D.p Z1.D.n Z1.D.c, .bool Z2.N.b, .slice Z2.N.p Z2.N.n Z2.N.c, .bool Z2.D.b, .slice Z2.D.p Z2.D.n Z2.D.c])
    (cb : Cells w b 40 #[.bool Z4.N.b, .slice Z4.N.p Z4.N.n Z4.N.c, .bool Z4.D.b, .slice Z4.D.p Z4.D.n Z4.D.c, .bool Z5.N.b, .slice Z5.N.p Z5.N.n Z5.N.c, .bool Z5.D.b, .slice Z5.D.p Z5.D.n Z5.D.c])
    (cc : Cells w c 40 #[.bool Z7.N.b, .slice Z7.N.p Z7.N.n Z7.N.c, .bool Z7.D.b, .slice Z7.D.p Z7.D.n Z7.D.c, .bool Z8.N.b, .slice Z8.N.p Z8.N.n Z8.N.c, .bool Z8.D.b, .slice Z8.D.p Z8.D.n Z8.D.c])
    (cg : Cells w g 47 #[.slice (some ⟨a, 0, none⟩) 2 2, .slice (some ⟨b, 0, none⟩) 2 2, .slice (some ⟨c, 0, none⟩) 2 2]) :
    ∃ T R, T.val = .agg #[.int .i64 60, .int .i64 1, .slice (some ⟨g, 0, none⟩) 3 3] ∧ TQ w T R ∧ Sml T R := by
  have hq : ∀ k, k < 3 → ∀ j, j < 2 → FR w ((smlT Z1 Z2 Z4 Z5 Z7 Z8 (some ⟨a, 0, none⟩) (some ⟨b, 0, none⟩) (some ⟨c, 0, none⟩) (some ⟨g, 0, none⟩)).el k j) (smlR k j) := fun k hk j hj => by
    match k, hk, j, hj with
    | 0, _, 0, _ => exact h1
    | 0, _, 1, _ => exact h2
    | 1, _, 0, _ => exact h4
    | 1, _, 1, _ => exact h5
    | 2, _, 0, _ => exact h7
    | 2, _, 1, _ => exact h8
  have tw : TW w (smlT Z1 Z2 Z4 Z5 Z7 Z8 (some ⟨a, 0, none⟩) (some ⟨b, 0, none⟩) (some ⟨c, 0, none⟩) (some ⟨g, 0, none⟩)) := by
    refine ⟨by simp [smlT], by simp [smlT], by simp [smlT], by simp [smlT], Has.some _ _, Nat.le_refl _, by simp [smlT], fun k hk => ?_, fun k hk => ?_, fun k hk j hj => ?_⟩
    · match k, hk with
      | 0, _ => rw [show (smlT Z1 Z2 Z4 Z5 Z7 Z8 (some ⟨a, 0, none⟩) (some ⟨b, 0, none⟩) (some ⟨c, 0, none⟩) (some ⟨g, 0, none⟩)).P = some ⟨g, 0, none⟩ from rfl, at_zero]; exact cg.cell rfl
      | 1, _ => rw [show (smlT Z1 Z2 Z4 Z5 Z7 Z8 (some ⟨a, 0, none⟩) (some ⟨b, 0, none⟩) (some ⟨c, 0, none⟩) (some ⟨g, 0, none⟩)).P = some ⟨g, 0, none⟩ from rfl, at_zero]; exact cg.cell rfl
      | 2, _ => rw [show (smlT Z1 Z2 Z4 Z5 Z7 Z8 (some ⟨a, 0, none⟩) (some ⟨b, 0, none⟩) (some ⟨c, 0, none⟩) (some ⟨g, 0, none⟩)).P = some ⟨g, 0, none⟩ from rfl, at_zero]; exact cg.cell rfl
    · have fr : ∀ (x : Nat) (U V : Fr) (E : Nat → Fr), Cells w x 40 #[.bool U.N.b, .slice U.N.p U.N.n U.N.c, .bool U.D.b, .slice U.D.p U.D.n U.D.c, .bool V.N.b, .slice V.N.p V.N.n V.N.c, .bool V.D.b, .slice V.D.p V.D.n V.D.c] → E 0 = U → E 1 = V → FRow w (some ⟨x, 0, none⟩) 2 2 E := fun x U V E hc e0 e1 =>
        ⟨Has.some _ _, Nat.le_refl _, by decide, fun j hj => by
          match j, hj with
          | 0, _ => rw [e0]; exact ⟨by rw [at_zero]; exact hc.cell rfl, by rw [at_zero]; exact hc.cell rfl, by rw [at_zero]; exact hc.cell rfl, by rw [at_zero]; exact hc.cell rfl⟩
          | 1, _ => rw [e1]; exact ⟨by rw [at_zero]; exact hc.cell rfl, by rw [at_zero]; exact hc.cell rfl, by rw [at_zero]; exact hc.cell rfl, by rw [at_zero]; exact hc.cell rfl⟩⟩
      match k, hk with
      | 0, _ => exact fr _ _ _ _ ca rfl rfl
      | 1, _ => exact fr _ _ _ _ cb rfl rfl
      | 2, _ => exact fr _ _ _ _ cc rfl rfl
    · have h := hq k hk j hj
      exact ⟨h.1.u16.2, h.2.u16.2⟩
  have tq : TQ w (smlT Z1 Z2 Z4 Z5 Z7 Z8 (some ⟨a, 0, none⟩) (some ⟨b, 0, none⟩) (some ⟨c, 0, none⟩) (some ⟨g, 0, none⟩)) smlR :=
    ⟨tw, by unfold boundsOk; simp [smlT], fun _ _ => rfl, hq, fun k _ j _ => smlR_ok k j⟩
  refine ⟨_, smlR, rfl, tq, rfl, rfl, rfl, okT_iff.2 ⟨tq.b, fun k hk => ⟨rfl, fun j hj => ?_⟩, by show val (limbs (smlR 2 1).num.natAbs) = val (limbs (smlR 2 1).den); rw [val_limbs, val_limbs]; decide +kernel⟩, by decide +kernel, by decide +kernel, by decide +kernel, by decide +kernel, by decide +kernel, by decide +kernel⟩
  have h := hq k hk j hj
  have o := smlR_ok k j
  exact okR_of h o.1 o.2.1 o.2.2.1 o.2.2.2

set_option maxRecDepth 100000 in
theorem nsmall (w : World) :
    Calls Tryz.prog 25 #[] w (fun en w' => ∃ (T : Tb) (R : Nat → Nat → Rat), en = .returned T.val ∧ TQ w' T R ∧ Sml T R ∧ Ext w w') := by
  obtain ⟨w1, hww1, ew1, B1, zw1⟩ := alloc_at w (w.heap.size) (by omega) #[.int .i64 0, .int .i64 0, .slice none 0 0] 24
  go_enter Tryz.func25, Tryz.ntmps25
  go_wp2_with fail
  clear hww1
  replace zw1 := le2 zw1
  refine (nquick (1) (10) _ (by decide) (by decide) (by decide)).mono (Gv.onF0 fun Z1 w2 hZ1 ew2 zw2 => ?_)
  have xw_w2 := eg ew1 ew2
  go_wp2_with fail
  refine (nquick (1) (5) _ (by decide) (by decide) (by decide)).mono (Gv.onF0 fun Z2 w3 hZ2 ew3 zw3 => ?_)
  obtain ⟨w4, hww4, ew4, B2, zw4⟩ := alloc_at w3 (w3.heap.size) (by omega) #[.bool Z1.N.b, .slice Z1.N.p Z1.N.n Z1.N.c, .bool Z1.D.b, .slice Z1.D.p Z1.D.n Z1.D.c, .bool Z2.N.b, .slice Z2.N.p Z2.N.n Z2.N.c, .bool Z2.D.b, .slice Z2.D.p Z2.D.n Z2.D.c] 40
  have xw_w4 := eg (eg xw_w2 ew3) ew4
  go_wp2_with fail
  clear hww4
  replace zw4 := le2 zw4
  refine (nquick (1) (8) _ (by decide) (by decide) (by decide)).mono (Gv.onF0 fun Z4 w5 hZ4 ew5 zw5 => ?_)
  have xw_w5 := eg xw_w4 ew5
  go_wp2_with fail
  refine (nquick (1) (2) _ (by decide) (by decide) (by decide)).mono (Gv.onF0 fun Z5 w6 hZ5 ew6 zw6 => ?_)
  obtain ⟨w7, hww7, ew7, B3, zw7⟩ := alloc_at w6 (w6.heap.size) (by omega) #[.bool Z4.N.b, .slice Z4.N.p Z4.N.n Z4.N.c, .bool Z4.D.b, .slice Z4.D.p Z4.D.n Z4.D.c, .bool Z5.N.b, .slice Z5.N.p Z5.N.n Z5.N.c, .bool Z5.D.b, .slice Z5.D.p Z5.D.n Z5.D.c] 40
  have xw_w7 := eg (eg xw_w5 ew6) ew7
  go_wp2_with fail
  clear hww7
  replace zw7 := le2 zw7
  refine (nquick (1) (4) _ (by decide) (by decide) (by decide)).mono (Gv.onF0 fun Z7 w8 hZ7 ew8 zw8 => ?_)
  have xw_w8 := eg xw_w7 ew8
  go_wp2_with fail
  refine (nquick (1) (1) _ (by decide) (by decide) (by decide)).mono (Gv.onF0 fun Z8 w9 hZ8 ew9 zw9 => ?_)
  obtain ⟨w10, hww10, ew10, B4, zw10⟩ := alloc_at w9 (w9.heap.size) (by omega) #[.bool Z7.N.b, .slice Z7.N.p Z7.N.n Z7.N.c, .bool Z7.D.b, .slice Z7.D.p Z7.D.n Z7.D.c, .bool Z8.N.b, .slice Z8.N.p Z8.N.n Z8.N.c, .bool Z8.D.b, .slice Z8.D.p Z8.D.n Z8.D.c] 40
  obtain ⟨w11, hww11, ew11, B5, zw11⟩ := alloc_at w10 (w9.heap.size + 1) (by omega) #[.slice (some ⟨w3.heap.size, 0, none⟩) 2 2, .slice (some ⟨w6.heap.size, 0, none⟩) 2 2, .slice (some ⟨w9.heap.size, 0, none⟩) 2 2] 47
  have xw1_w11 := eg (eg (eg (eg (eg (eg (eg (eg (eg ew2 ew3) ew4) ew5) ew6) ew7) ew8) ew9) ew10) ew11
  replace B1 := B1.ext xw1_w11
  have b1_w11 := B1.c3
  have fb1_w11 := B1.f3
  have xw2_w11 := eg (eg (eg (eg (eg (eg (eg (eg ew3 ew4) ew5) ew6) ew7) ew8) ew9) ew10) ew11
  replace hZ1 := hZ1.ext xw2_w11
  have xw3_w11 := eg (eg (eg (eg (eg (eg (eg ew4 ew5) ew6) ew7) ew8) ew9) ew10) ew11
  replace hZ2 := hZ2.ext xw3_w11
  have xw4_w11 := eg (eg (eg (eg (eg (eg ew5 ew6) ew7) ew8) ew9) ew10) ew11
  replace B2 := B2.ext xw4_w11
  have xw5_w11 := eg (eg (eg (eg (eg ew6 ew7) ew8) ew9) ew10) ew11
  replace hZ4 := hZ4.ext xw5_w11
  have xw6_w11 := eg (eg (eg (eg ew7 ew8) ew9) ew10) ew11
  replace hZ5 := hZ5.ext xw6_w11
  have xw7_w11 := eg (eg (eg ew8 ew9) ew10) ew11
  replace B3 := B3.ext xw7_w11
  have xw8_w11 := eg (eg ew9 ew10) ew11
  replace hZ7 := hZ7.ext xw8_w11
  have xw9_w11 := eg ew10 ew11
  replace hZ8 := hZ8.ext xw9_w11
  replace B4 := B4.ext ew11
  have xw_w11 := eg (eg (eg xw_w8 ew9) ew10) ew11
  obtain ⟨w12, hww12, kw12, Nw12, zw12⟩ := B1.put3 (.int .i64 60) (.int .i64 1) (.slice (some ⟨w9.heap.size + 1, 0, none⟩) 3 3)
  have nuw12 : NoU #[.int .i64 0, .int .i64 0, .slice none 0 0] := by simp [NoU]
  replace hZ1 := FR.kb hZ1 B1 nuw12 kw12
  replace hZ2 := FR.kb hZ2 B1 nuw12 kw12
  replace B2 := B2.kb kw12 (by omega)
  replace hZ4 := FR.kb hZ4 B1 nuw12 kw12
  replace hZ5 := FR.kb hZ5 B1 nuw12 kw12
  replace B3 := B3.kb kw12 (by omega)
  replace hZ7 := FR.kb hZ7 B1 nuw12 kw12
  replace hZ8 := FR.kb hZ8 B1 nuw12 kw12
  replace B4 := B4.kb kw12 (by omega)
  replace B5 := B5.kb kw12 (by omega)
  have xw_w12 := Ext.kb xw_w11 kw12 (by omega)
  replace B1 := Nw12
  clear Nw12 kw12
  have b1_w12 := B1.c3
  go_wp2_with fail
  clear hww10 hww11 hww12
  clear b1_w11 fb1_w11
  replace zw10 := le2 zw10
  replace zw11 := le2 zw11
  replace zw12 := le2 zw12
  refine bodyPost_ret (v := .agg #[.int .i64 60, .int .i64 1, .slice (some ⟨w9.heap.size + 1, 0, none⟩) 3 3]) (by simp [results, Tryz.results25, go_sem, b1_w12]) rfl ?_
  obtain ⟨T, R, hv, tq, sm⟩ := sml_of hZ1 hZ2 hZ4 hZ5 hZ7 hZ8 B2 B3 B4 B5
  exact ⟨T, R, by rw [hv], tq, sm, xw_w12⟩
end Go.Proofs.YtndgaecfeaedeaaGreat

namespace Go.Proofs.YtndgaecfeaedeaaGreat
set_option linter.unusedSimpArgs false
set_option linter.unusedVariables false
open Go.RowKit Lex Mth

/-- Short enough for a rate. -/
def shQ (x : Rat) : Bool := decide (siz x.num.natAbs ≤ 1) && decide (siz x.den ≤ 1)
def upQ (p q : Rat) : Rat := q + (1 - q) * p
def upR (p q : Rat) : Rat := if shQ (upQ p q) then upQ p q else q
/-- A rate. -/
structure Rq (q : Rat) : Prop where
  sz : Sz q
  den : q.den < 65536
  nonneg : 0 ≤ q
  le : q ≤ 1
theorem Rq.sm {q : Rat} (h : Rq q) : Sm q q.den 1 := ⟨Nat.dvd_refl _, h.nonneg, by rw [natCast_one]; exact h.le⟩
structure UpS (p q : Rat) : Prop where
  sq : Sz q
  sn : Sz (1 - q)
  sp : Sz p
  sm : Sz ((1 - q) * p)
  su : Sz (upQ p q)
theorem up_sz {p q : Rat} (hp : Rq p) (hq : Rq q) : UpS p q := by
  have s1 := hq.sm
  have s2 := s1.not q.den_nz
  have s3 := hp.sm
  have s4 : Sm ((1 - q) * p) (q.den * p.den) 1 := s2.mul s3
  have hD : 0 < q.den * p.den := Nat.mul_pos (Nat.pos_of_ne_zero q.den_nz) (Nat.pos_of_ne_zero p.den_nz)
  have s5 : Sm (q + (1 - q) * p) (q.den * p.den) 2 := (s1.dvd' (Nat.dvd_mul_right _ _)).add (by omega) s4
  have z1 : siz q.den ≤ 1 := siz_one.2 hq.den
  have z2 : siz p.den ≤ 1 := siz_one.2 hp.den
  have z3 := siz_mul q.den p.den
  have z4 : siz 1 ≤ 1 := siz_one.2 (by omega)
  have z5 : siz 2 ≤ 1 := siz_one.2 (by omega)
  exact ⟨hq.sz, s2.sz (Nat.pos_of_ne_zero q.den_nz) (by omega), hp.sz, s4.sz hD (by omega), s5.sz hD (by omega)⟩
theorem upR_rq {p q : Rat} (hp : Rq p) (hq : Rq q) : Rq (upR p q) ∧ q ≤ upR p q := by
  unfold upR
  split
  · rename_i h
    unfold shQ at h
    simp only [Bool.and_eq_true, decide_eq_true_eq] at h
    have h1 : q ≤ upQ p q := up_ge hq.le hp.nonneg
    exact ⟨⟨(up_sz hp hq).su, siz_one.1 h.2, Rat.le_trans hq.nonneg h1, up_le hq.le hp.le⟩, h1⟩
  · exact ⟨hq, Rat.le_refl⟩
theorem upR_one (p : Rat) : upR p 1 = 1 := by
  have h : upQ p 1 = 1 := by unfold upQ; grind
  unfold upR
  rw [h]; simp
theorem quick_rq {n d : Int} (hn : 0 ≤ n) (hd : n ≤ d) (h0 : 0 < d) (h1 : d ≤ 255) : Rq (Rat.divInt n d) := by
  have hden : (Rat.divInt n d).den ∣ d.natAbs := by
    rw [Rat.den_divInt, if_neg (by omega)]
    exact Nat.div_dvd_of_dvd (by have := Int.gcd_dvd_natAbs_left d n; simpa using this)
  have hle := Nat.le_of_dvd (by omega) hden
  have e : Rat.divInt n d = (n : Rat) / (d : Rat) := Rat.divInt_eq_div n d
  have hd' : (0 : Rat) < (d : Rat) := by exact_mod_cast h0
  have p0 : 0 ≤ Rat.divInt n d := Rat.divInt_nonneg hn (by omega)
  have p1 : Rat.divInt n d ≤ 1 := by
    rw [e]
    have hnd : (n : Rat) ≤ (d : Rat) := by exact_mod_cast hd
    have hx : (d : Rat) / (d : Rat) = 1 := by
      rw [Rat.div_def]; exact Rat.mul_inv_cancel _ (by grind)
    have hi : (0 : Rat) ≤ (d : Rat)⁻¹ := Rat.le_of_lt (Rat.inv_pos.2 hd')
    rw [← hx, Rat.div_def, Rat.div_def]
    exact Rat.mul_le_mul_of_nonneg_right hnd hi
  have sm : Sm (Rat.divInt n d) (Rat.divInt n d).den 1 := ⟨Nat.dvd_refl _, p0, by rw [natCast_one]; exact p1⟩
  have hd2 : (Rat.divInt n d).den < 65536 := by omega
  have z1 : siz (Rat.divInt n d).den ≤ 1 := siz_one.2 hd2
  have z4 : siz 1 ≤ 1 := siz_one.2 (by omega)
  exact ⟨sm.sz (Nat.pos_of_ne_zero (Rat.divInt n d).den_nz) (by omega), hd2, p0, p1⟩
/-- What has been written when the loops stand at (i, j). -/
def Qs (p : Rat) (R : Nat → Nat → Rat) (i j k l : Nat) : Rat := if k < i ∨ (k = i ∧ l < j) then upR p (R k l) else R k l
theorem OQ.table {B : Nat} {w0 w : World} {T : Tb} {R Q : Nat → Nat → Rat} {g c : Nat} {rb rc : Nat → Nat} (hT : TQ w0 T R) (h : OQ B w T g rb rc Q) (hc : T.N ≤ c) (hQ : ∀ k, k < T.N → ∀ j, j < T.rn k → Rq (Q k j)) (h1 : Q (T.N - 1) T.sel.toNat = 1) (hle : ∀ k, k < T.N → ∀ j, j < T.rn k → R k j ≤ Q k j) :
    ∃ T' : Tb, T'.val = .agg #[.int .i64 T.first, .int .i64 T.sel, .slice (some ⟨g, 0, none⟩) T.N c] ∧ TQ w T' Q ∧ Worse T T' R Q ∧ okT T' = true := by
  obtain ⟨E, hE, hF⟩ := h
  have hb := hT.b
  have hb' := hT.b
  unfold boundsOk at hb'
  have tw := hT.tw
  let T' : Tb := ⟨T.first, T.sel, some ⟨g, 0, none⟩, T.N, c, fun k => some ⟨rb k, 0, none⟩, T.rn, rc, E, fun k j => limbs (Q k j).num.natAbs, fun k j => limbs (Q k j).den⟩
  have tw' : TW w T' := ⟨tw.f1, tw.f2, tw.s1, tw.s2, Has.some _ _, hc, tw.reach, fun k hk => by show w.cell? (at_ (some ⟨g, 0, none⟩) k) = _; rw [at_zero]; exact hE.sl k hk,
    fun k hk => ⟨Has.some _ _, hE.le k hk, by have := hT.rn k hk; show T.rn k ≤ _; omega, fun j hj => by
      obtain ⟨c0, c1, c2, c3⟩ := hE.cells hk hj
      exact ⟨by show w.cell? (at_ (some ⟨rb k, 0, none⟩) _) = _; rw [at_zero]; exact c0, by show w.cell? (at_ (some ⟨rb k, 0, none⟩) _) = _; rw [at_zero]; exact c1, by show w.cell? (at_ (some ⟨rb k, 0, none⟩) _) = _; rw [at_zero]; exact c2, by show w.cell? (at_ (some ⟨rb k, 0, none⟩) _) = _; rw [at_zero]; exact c3⟩⟩,
    fun k hk j hj => ⟨(hF k hk j hj).1.1.u16.2, (hF k hk j hj).1.2.u16.2⟩⟩
  have tq : TQ w T' Q := ⟨tw', hb, hT.rn, fun k hk j hj => (hF k hk j hj).1, fun k hk j hj => ⟨(hQ k hk j hj).sz, (hQ k hk j hj).den, (hQ k hk j hj).nonneg, (hQ k hk j hj).le⟩⟩
  refine ⟨T', rfl, tq, ⟨rfl, rfl, rfl, fun k hk j hj => hle k hk j (by have := hT.rn k hk; omega)⟩, okT_iff.2 ⟨hb, fun k hk => ⟨hT.rn k hk, fun j hj => okR_of (hF k hk j hj).1 (hQ k hk j hj).sz (hQ k hk j hj).den (hQ k hk j hj).nonneg (hQ k hk j hj).le⟩, ?_⟩⟩
  show val (limbs (Q (T.N - 1) T.sel.toNat).num.natAbs) = val (limbs (Q (T.N - 1) T.sel.toNat).den)
  rw [h1]; rfl
theorem TQ.last {w : World} {T : Tb} {R : Nat → Nat → Rat} (hT : TQ w T R) (ok : okT T = true) : R (T.N - 1) T.sel.toNat = 1 := by
  have hb := hT.b
  unfold boundsOk at hb
  have hN : T.N - 1 < T.N := by omega
  have hj : T.sel.toNat < T.rn (T.N - 1) := by have := hT.rn (T.N - 1) hN; omega
  have h := (okT_iff.1 ok).2.2
  exact eqQ_iff.1 ((eq_one_iff (hT.tw.raw _ hN _ hj) (hT.q _ hN _ hj) (hT.sz _ hN _ hj).2.2.1).2 h)
end Go.Proofs.YtndgaecfeaedeaaGreat

namespace Go.Proofs.YtndgaecfeaedeaaGreat
set_option linter.unusedSimpArgs false
set_option linter.unusedVariables false
open Go.RowKit Lex Mth
attribute [local go_sem] run_indexAt_at add_zero_map Oper.semAt_some at_zero at_add at_mk1 at_mk2 at_mk3

/-- What Large looks at. -/
def LargeT (T : Tb) (rows width limbs : Nat) : Prop := rows < T.N ∨ ∃ k, k < T.N ∧ ∃ j, j < T.rn k ∧ (width ≤ j ∨ limbs < (T.el k j).N.n ∨ limbs < (T.el k j).D.n)
noncomputable def largeT (T : Tb) (rows width limbs : Nat) : Bool := @decide (LargeT T rows width limbs) (Classical.propDecidable _)
theorem largeT_iff {T : Tb} {r wd l : Nat} : largeT T r wd l = true ↔ LargeT T r wd l := by unfold largeT; exact @decide_eq_true_iff _ (Classical.propDecidable _)
theorem largeT_f {T : Tb} {r wd l : Nat} (h : ¬ LargeT T r wd l) : largeT T r wd l = false := by rw [Bool.eq_false_iff]; exact fun e => h (largeT_iff.1 e)

set_option maxRecDepth 100000 in
set_option maxHeartbeats 2000000 in
theorem nLarge (T : Tb) (rows width limbs : Nat) (w : World) (h : TW w T) (hr : rows ≤ 1000) (hw : width ≤ 1000) (hl : limbs ≤ 1000) :
    Calls Tryz.prog 8 #[.agg #[.int .i64 T.first, .int .i64 T.sel, .slice T.P T.N T.C], .int .i64 (rows : Nat), .int .i64 (width : Nat), .int .i64 (limbs : Nat)] w (Gv (.v (.bool (largeT T rows width limbs))) w) := by
  have hN := h.reach
  have hhp := h.has
  obtain ⟨w1, hw1⟩ : ∃ W, w.alloc (.cells #[.int .i64 T.first, .int .i64 T.sel, .slice T.P T.N T.C] 24) = W := ⟨_, rfl⟩
  have e1 : Ext w w1 := by rw [← hw1]; exact ea _ _
  have B1 : Cells w1 w.heap.size 24 #[.int .i64 T.first, .int .i64 T.sel, .slice T.P T.N T.C] := by rw [← hw1]; exact Cells.newAt _ _ rfl
  have c2 := B1.cell (k := 2) rfl
  by_cases hrows : rows < T.N
  · have ht : largeT T rows width limbs = true := largeT_iff.2 (.inl hrows)
    have Ht := Lib.hid ht
    clear ht
    go_enter Tryz.func8, Tryz.ntmps8
    go_wp2_with fail
    go_ret
    rw [Ht.out]
    exact Gv.of_v e1
  · go_enter Tryz.func8, Tryz.ntmps8
    go_wp2_with fail
    clear hw1
    go_loopw [9] (fun v wr => ∃ i : Nat, v = .int .i64 (i : Nat) ∧ i ≤ T.N ∧ wr = w1 ∧ Hid (∀ k, k < i → ∀ j, j < T.rn k → ¬ (width ≤ j ∨ limbs < (T.el k j).N.n ∨ limbs < (T.el k j).D.n))) (fun v _ => (T.N - intOf v).toNat)
    case atStart => exact ⟨0, rfl, by omega, rfl, Lib.hid (fun j hj => absurd hj (Nat.not_lt_zero _))⟩
    case round =>
      obtain ⟨i, rfl, hi, rfl, hall⟩ := hrel
      by_cases hiN : i < T.N
      · have hs := cell_ext e1 (h.sl i hiN)
        have hrow := (h.row i hiN).ext e1
        have hrr := hrow.reach
        have hrh := hrow.has
        go_wp2_with fail
        go_loopw [10] (fun v wr' => ∃ j : Nat, v = .int .i64 (j : Nat) ∧ j ≤ T.rn i ∧ wr' = wr ∧ Hid (∀ j', j' < j → ¬ (width ≤ j' ∨ limbs < (T.el i j').N.n ∨ limbs < (T.el i j').D.n))) (fun v _ => (T.rn i - intOf v).toNat)
        case atStart => exact ⟨0, rfl, by omega, rfl, Lib.hid (fun j hj => absurd hj (Nat.not_lt_zero _))⟩
        case round =>
          obtain ⟨j, rfl, hj, rfl, hin⟩ := hrel
          by_cases hjn : j < T.rn i
          · have hel := hrow.el j hjn
            have hraw := (h.raw i hiN j hjn)
            have x1 := hel.c1
            have x3 := hel.c3
            have x3' : wr.cell? (at_ (T.rp i) (j * 4 + 2 + 1)) = some (.slice (T.el i j).D.p (T.el i j).D.n (T.el i j).D.c) := x3
            have r1 : (T.el i j).N.n ≤ 70368744177664 := hraw.1.reach
            have r2 : (T.el i j).D.n ≤ 70368744177664 := hraw.2.reach
            by_cases hbad : width ≤ j ∨ limbs < (T.el i j).N.n ∨ limbs < (T.el i j).D.n
            · have ht : largeT T rows width limbs = true := largeT_iff.2 (.inr ⟨i, hiN, j, hjn, hbad⟩)
              have Ht := Lib.hid ht
              clear ht
              rcases (by omega : width ≤ j ∨ (j < width ∧ limbs < (T.el i j).N.n) ∨ (j < width ∧ (T.el i j).N.n ≤ limbs ∧ limbs < (T.el i j).D.n)) with b1 | ⟨b1, b2⟩ | ⟨b1, b2, b3⟩
              all_goals
                clear hbad
                go_wp2_with fail
                go_ret
                rw [Ht.out]
                exact Gv.of_v e1
            · obtain ⟨b1, b2, b3⟩ : j < width ∧ (T.el i j).N.n ≤ limbs ∧ (T.el i j).D.n ≤ limbs := by omega
              have Hb := Lib.hid hbad
              clear hbad
              go_wp2_with fail
              go_roundw
              case rel => exact ⟨j + 1, rfl, by omega, trivial, Lib.hid (fun j' hj' => (Nat.lt_or_eq_of_le (Nat.le_of_lt_succ hj')).elim (hin.out j') (fun e => e ▸ Hb.out))⟩
              case measure => simp [intOf]; omega
          · obtain rfl : j = T.rn i := by omega
            go_wp2_with fail
            go_roundw
            case rel => exact ⟨i + 1, rfl, by omega, trivial, Lib.hid (fun k' hk' => (Nat.lt_or_eq_of_le (Nat.le_of_lt_succ hk')).elim (hall.out k') (fun e => e ▸ hin.out))⟩
            case measure => simp [intOf]; omega
      · obtain rfl : i = T.N := by omega
        have ht : largeT T rows width limbs = false := largeT_f fun hh => hh.elim (fun x => hrows x) fun ⟨k, hk, j, hj, hx⟩ => hall.out k hk j hj hx
        have Ht := Lib.hid ht
        clear ht
        go_wp2_with fail
        go_ret
        rw [Ht.out]
        exact Gv.of_v e1
end Go.Proofs.YtndgaecfeaedeaaGreat

namespace Go.Proofs.YtndgaecfeaedeaaGreat
set_option linter.unusedSimpArgs false
set_option linter.unusedVariables false
open Go.RowKit Lex Mth
attribute [local go_sem] run_indexAt_at add_zero_map Oper.semAt_some at_zero at_add at_mk1 at_mk2 at_mk3
set_option linter.unusedSimpArgs false
set_option linter.unusedVariables false

section
variable {T : Tb} {R : Nat → Nat → Rat} (s : Sml T R)
theorem Sml.okL (s : Sml T R) {e y : Int} (h : 60 ≤ e ∧ e ≤ 62 ∧ 0 ≤ y ∧ y ≤ 300) : okL T e y = true := by
  unfold Go.Proofs.YtndgaecfeaedeaaGreat.okL
  rw [s.ok, s.first, s.N]
  simp only [Bool.true_and, Bool.and_eq_true, decide_eq_true_eq]
  omega
theorem Sml.rt_a (s : Sml T R) : rt T R 60 0 = 1 / 10 := by unfold rt; rw [s.first, s.N, s.sel]; simp [s.r00]
theorem Sml.rt_b (s : Sml T R) : rt T R 60 1 = 1 / 2 := by unfold rt; rw [s.first, s.N, s.sel]; simp [s.r11]
theorem Sml.rt_c (s : Sml T R) : rt T R 60 2 = 1 := by unfold rt; rw [s.first, s.N, s.sel]; simp [s.r21]
theorem Sml.rt_d (s : Sml T R) : rt T R 60 3 = 1 := by unfold rt; rw [s.first, s.N, s.sel]; simp
theorem Sml.rt_e (s : Sml T R) : rt T R 62 0 = 1 / 4 := by unfold rt; rw [s.first, s.N, s.sel]; simp [s.r20]
theorem Sml.al1 (s : Sml T R) : lal T R 60 0 1 = 9 / 10 := by simp only [lal, al]; simp only [Int.natCast_zero, Int.add_zero, s.rt_a]; grind
theorem Sml.al2 (s : Sml T R) : lal T R 60 0 2 = 9 / 20 := by
  have h1 := s.al1
  simp only [lal] at h1 ⊢
  rw [al, h1]
  have : rt T R 60 (0 + ((1 : Nat) : Int)) = 1 / 2 := s.rt_b
  rw [this]; grind
theorem Sml.al3 (s : Sml T R) : lal T R 60 0 3 = 0 := by
  have h1 := s.al2
  simp only [lal] at h1 ⊢
  rw [al, h1]
  have : rt T R 60 (0 + ((2 : Nat) : Int)) = 1 := s.rt_c
  rw [this]; grind
theorem Sml.al4 (s : Sml T R) : lal T R 60 0 4 = 0 := by
  have h1 := s.al3
  simp only [lal] at h1 ⊢
  rw [al, h1]; grind
theorem Sml.bl1 (s : Sml T R) : lal T R 62 0 1 = 3 / 4 := by simp only [lal, al]; simp only [Int.natCast_zero, Int.add_zero, s.rt_e]; grind
theorem Sml.dq1 (s : Sml T R) : ldq T R 60 0 1 = 9 / 20 := by
  unfold ldq
  rw [s.al1]
  have : rt T R 60 (0 + ((1 : Nat) : Int)) = 1 / 2 := s.rt_b
  rw [this]; grind
theorem Sml.ex (s : Sml T R) : lex T R 60 0 = 27 / 20 := by
  have h0 : yN T 60 0 = 3 := by unfold yN; rw [s.first, s.N]; rfl
  have h1 := s.al1
  have h2 := s.al2
  have h3 := s.al3
  have h4 := s.al4
  unfold lex
  rw [h0]
  simp only [es]
  simp only [lal] at h1 h2 h3 h4
  rw [h1, h2, h3, h4]; grind
end
theorem eqv {x : Rat} {n d : Int} (h : x = (n : Rat) / (d : Rat)) : eqQ x (Rat.divInt n d) = true := by rw [eqQ_iff, Rat.divInt_eq_div, h]

set_option maxRecDepth 100000 in
set_option maxHeartbeats 4000000 in
theorem nawake (w : World) :
    Calls Tryz.prog 9 #[] w (Gv (.v (.bool true)) w) := by
  go_enter Tryz.func9, Tryz.ntmps9
  go_wp2_with fail
  refine (nsmall _).mono ?_
  intro ee w1 gg
  obtain ⟨T, R, rfl, hT, sm, ew1⟩ := gg
  have zw1 := ew1.size
  obtain ⟨w2, hww2, ew2, B1, zw2⟩ := alloc_at w1 (w1.heap.size) (by omega) #[.int .i64 0, .int .i64 0, .slice none 0 0] 24
  obtain ⟨w3, hww3, ew3, B2, zw3⟩ := alloc_at w2 (w1.heap.size + 1) (by omega) #[.int .i64 0, .int .i64 0] 26
  obtain ⟨w4, hww4, ew4, B3, zw4⟩ := alloc_at w3 (w1.heap.size + 1 + 1) (by omega) #[.int .i64 0, .int .i64 0] 26
  have xw2_w4 := eg ew3 ew4
  replace B1 := B1.ext xw2_w4
  have b1_w4 := B1.c3
  have fb1_w4 := B1.f3
  replace B2 := B2.ext ew4
  have xw_w4 := eg (eg (eg ew1 ew2) ew3) ew4
  have xw1_w4 := eg (eg ew2 ew3) ew4
  obtain ⟨w5, hww5, kw5, Nw5, zw5⟩ := B1.put3 (.int .i64 T.first) (.int .i64 T.sel) (.slice T.P T.N T.C)
  replace B2 := B2.kb kw5 (by omega)
  replace B3 := B3.kb kw5 (by omega)
  have xw_w5 := Ext.kb xw_w4 kw5 (by omega)
  have xw1_w5 := Ext.kb xw1_w4 kw5 (by omega)
  replace B1 := Nw5
  clear Nw5 kw5
  have b2_w5 := B2.c2
  have fb2_w5 := B2.f2
  obtain ⟨w6, hww6, kw6, Nw6, zw6⟩ := B2.put2 (.int .i64 60) (.int .i64 0)
  replace B1 := B1.kb kw6 (by omega)
  replace B3 := B3.kb kw6 (by omega)
  have xw_w6 := Ext.kb xw_w5 kw6 (by omega)
  have xw1_w6 := Ext.kb xw1_w5 kw6 (by omega)
  replace B2 := Nw6
  clear Nw6 kw6
  have b3_w6 := B3.c2
  have fb3_w6 := B3.f2
  obtain ⟨w7, hww7, kw7, Nw7, zw7⟩ := B3.put2 (.int .i64 62) (.int .i64 0)
  replace B1 := B1.kb kw7 (by omega)
  replace B2 := B2.kb kw7 (by omega)
  have xw_w7 := Ext.kb xw_w6 kw7 (by omega)
  have xw1_w7 := Ext.kb xw1_w6 kw7 (by omega)
  replace B3 := Nw7
  clear Nw7 kw7
  have b1_w7 := B1.c3
  go_wp2_with fail
  clear hww2 hww3 hww4 hww5 hww6 hww7
  clear b1_w4 fb1_w4 b2_w5 fb2_w5 b3_w6 fb3_w6
  replace zw2 := le2 zw2
  replace zw3 := le2 zw3
  replace zw4 := le2 zw4
  replace zw5 := le2 zw5
  replace zw6 := le2 zw6
  replace zw7 := le2 zw7
  refine (lRate T R 60 1 _ (hT.ext xw1_w7) (sm.okL (by decide))).mono (Gv.onFe fun Z28 w8 hZ28 ew8 zw8 => ?_)
  obtain ⟨w9, hww9, ew9, B4, zw9⟩ := alloc_at w8 (w8.heap.size) (by omega) #[.bool Z28.N.b, .slice Z28.N.p Z28.N.n Z28.N.c, .bool Z28.D.b, .slice Z28.D.p Z28.D.n Z28.D.c] 40
  have xw7_w9 := eg ew8 ew9
  replace B1 := B1.ext xw7_w9
  have b1_w9 := B1.c3
  replace B2 := B2.ext xw7_w9
  have b2_w9 := B2.c2
  have xw1_w9 := eg (eg xw1_w7 ew8) ew9
  have xw_w9 := eg (eg xw_w7 ew8) ew9
  go_wp2_with fail
  clear hww9
  clear b1_w7
  replace zw9 := le2 zw9
  refine (lAlive T R 60 0 2 _ (hT.ext xw1_w9) (sm.okL (by decide)) (by decide)).mono (Gv.onFe fun Z34 w10 hZ34 ew10 zw10 => ?_)
  obtain ⟨w11, hww11, ew11, B5, zw11⟩ := alloc_at w10 (w10.heap.size) (by omega) #[.bool Z34.N.b, .slice Z34.N.p Z34.N.n Z34.N.c, .bool Z34.D.b, .slice Z34.D.p Z34.D.n Z34.D.c] 40
  have xw9_w11 := eg ew10 ew11
  replace B1 := B1.ext xw9_w11
  have b1_w11 := B1.c3
  replace B2 := B2.ext xw9_w11
  have b2_w11 := B2.c2
  have xw1_w11 := eg (eg xw1_w9 ew10) ew11
  have xw_w11 := eg (eg xw_w9 ew10) ew11
  go_wp2_with fail
  clear hww11
  clear b1_w9 b2_w9
  replace zw11 := le2 zw11
  refine (lAlive T R 60 0 3 _ (hT.ext xw1_w11) (sm.okL (by decide)) (by decide)).mono (Gv.onFe fun Z40 w12 hZ40 ew12 zw12 => ?_)
  obtain ⟨w13, hww13, ew13, B6, zw13⟩ := alloc_at w12 (w12.heap.size) (by omega) #[.bool Z40.N.b, .slice Z40.N.p Z40.N.n Z40.N.c, .bool Z40.D.b, .slice Z40.D.p Z40.D.n Z40.D.c] 40
  have xw11_w13 := eg ew12 ew13
  replace B1 := B1.ext xw11_w13
  have b1_w13 := B1.c3
  replace B2 := B2.ext xw11_w13
  have b2_w13 := B2.c2
  have xw1_w13 := eg (eg xw1_w11 ew12) ew13
  have xw_w13 := eg (eg xw_w11 ew12) ew13
  go_wp2_with fail
  clear hww13
  clear b1_w11 b2_w11
  replace zw13 := le2 zw13
  refine (lDies T R 60 0 1 _ (hT.ext xw1_w13) (sm.okL (by decide)) (by decide)).mono (Gv.onFe fun Z46 w14 hZ46 ew14 zw14 => ?_)
  obtain ⟨w15, hww15, ew15, B7, zw15⟩ := alloc_at w14 (w14.heap.size) (by omega) #[.bool Z46.N.b, .slice Z46.N.p Z46.N.n Z46.N.c, .bool Z46.D.b, .slice Z46.D.p Z46.D.n Z46.D.c] 40
  have xw13_w15 := eg ew14 ew15
  replace B1 := B1.ext xw13_w15
  have b1_w15 := B1.c3
  replace B2 := B2.ext xw13_w15
  have b2_w15 := B2.c2
  have xw1_w15 := eg (eg xw1_w13 ew14) ew15
  have xw_w15 := eg (eg xw_w13 ew14) ew15
  go_wp2_with fail
  clear hww15
  clear b1_w13 b2_w13
  replace zw15 := le2 zw15
  refine (lExpect T R 60 0 _ (hT.ext xw1_w15) (sm.okL (by decide))).mono (Gv.onFe fun Z52 w16 hZ52 ew16 zw16 => ?_)
  obtain ⟨w17, hww17, ew17, B8, zw17⟩ := alloc_at w16 (w16.heap.size) (by omega) #[.bool Z52.N.b, .slice Z52.N.p Z52.N.n Z52.N.c, .bool Z52.D.b, .slice Z52.D.p Z52.D.n Z52.D.c] 40
  have xw15_w17 := eg ew16 ew17
  replace B1 := B1.ext xw15_w17
  have b1_w17 := B1.c3
  have xw7_w17 := eg (eg (eg (eg (eg (eg (eg (eg xw7_w9 ew10) ew11) ew12) ew13) ew14) ew15) ew16) ew17
  replace B3 := B3.ext xw7_w17
  have b3_w17 := B3.c2
  have xw1_w17 := eg (eg xw1_w15 ew16) ew17
  have xw_w17 := eg (eg xw_w15 ew16) ew17
  go_wp2_with fail
  clear hww17
  clear b1_w15 b2_w15
  replace zw17 := le2 zw17
  refine (lRate T R 62 0 _ (hT.ext xw1_w17) (sm.okL (by decide))).mono (Gv.onFe fun Z58 w18 hZ58 ew18 zw18 => ?_)
  obtain ⟨w19, hww19, ew19, B9, zw19⟩ := alloc_at w18 (w18.heap.size) (by omega) #[.bool Z58.N.b, .slice Z58.N.p Z58.N.n Z58.N.c, .bool Z58.D.b, .slice Z58.D.p Z58.D.n Z58.D.c] 40
  have xw17_w19 := eg ew18 ew19
  replace B1 := B1.ext xw17_w19
  have b1_w19 := B1.c3
  have xw15_w19 := eg (eg xw15_w17 ew18) ew19
  replace B2 := B2.ext xw15_w19
  have b2_w19 := B2.c2
  replace B3 := B3.ext xw17_w19
  have b3_w19 := B3.c2
  have xw1_w19 := eg (eg xw1_w17 ew18) ew19
  have xw_w19 := eg (eg xw_w17 ew18) ew19
  go_wp2_with fail
  clear hww19
  clear b1_w17 b3_w17
  replace zw19 := le2 zw19
  refine (lBoth T R 60 0 62 0 1 _ (hT.ext xw1_w19) (sm.okL (by decide)) (sm.okL (by decide)) (by decide)).mono (Gv.onFe fun Z65 w20 hZ65 ew20 zw20 => ?_)
  obtain ⟨w21, hww21, ew21, B10, zw21⟩ := alloc_at w20 (w20.heap.size) (by omega) #[.bool Z65.N.b, .slice Z65.N.p Z65.N.n Z65.N.c, .bool Z65.D.b, .slice Z65.D.p Z65.D.n Z65.D.c] 40
  have xw19_w21 := eg ew20 ew21
  replace B1 := B1.ext xw19_w21
  have b1_w21 := B1.c3
  replace B2 := B2.ext xw19_w21
  have b2_w21 := B2.c2
  replace B3 := B3.ext xw19_w21
  have b3_w21 := B3.c2
  have xw1_w21 := eg (eg xw1_w19 ew20) ew21
  have xw_w21 := eg (eg xw_w19 ew20) ew21
  go_wp2_with fail
  clear hww21
  clear b1_w19 b2_w19 b3_w19
  replace zw21 := le2 zw21
  refine (lEither T R 60 0 62 0 1 _ (hT.ext xw1_w21) (sm.okL (by decide)) (sm.okL (by decide)) (by decide)).mono (Gv.onFe fun Z72 w22 hZ72 ew22 zw22 => ?_)
  obtain ⟨w23, hww23, ew23, B11, zw23⟩ := alloc_at w22 (w22.heap.size) (by omega) #[.bool Z72.N.b, .slice Z72.N.p Z72.N.n Z72.N.c, .bool Z72.D.b, .slice Z72.D.p Z72.D.n Z72.D.c] 40
  have xw21_w23 := eg ew22 ew23
  replace B1 := B1.ext xw21_w23
  have b1_w23 := B1.c3
  replace B2 := B2.ext xw21_w23
  have b2_w23 := B2.c2
  replace B3 := B3.ext xw21_w23
  have b3_w23 := B3.c2
  have xw1_w23 := eg (eg xw1_w21 ew22) ew23
  have xw_w23 := eg (eg xw_w21 ew22) ew23
  go_wp2_with fail
  clear hww23
  clear b1_w21 b2_w21 b3_w21
  replace zw23 := le2 zw23
  refine (lLeft T R 60 0 62 0 1 _ (hT.ext xw1_w23) (sm.okL (by decide)) (sm.okL (by decide)) (by decide)).mono (Gv.onFe fun Z79 w24 hZ79 ew24 zw24 => ?_)
  obtain ⟨w25, hww25, ew25, B12, zw25⟩ := alloc_at w24 (w24.heap.size) (by omega) #[.bool Z79.N.b, .slice Z79.N.p Z79.N.n Z79.N.c, .bool Z79.D.b, .slice Z79.D.p Z79.D.n Z79.D.c] 40
  have xw9_w25 := eg (eg (eg (eg (eg (eg (eg (eg (eg (eg (eg (eg (eg (eg xw9_w11 ew12) ew13) ew14) ew15) ew16) ew17) ew18) ew19) ew20) ew21) ew22) ew23) ew24) ew25
  replace B4 := B4.ext xw9_w25
  have b4_w25 := B4.c4
  have xw8_w25 := eg (eg (eg (eg (eg (eg (eg (eg (eg (eg (eg (eg (eg (eg (eg (eg ew9 ew10) ew11) ew12) ew13) ew14) ew15) ew16) ew17) ew18) ew19) ew20) ew21) ew22) ew23) ew24) ew25
  replace hZ28 := hZ28.ext xw8_w25
  have xw_w25 := eg (eg xw_w23 ew24) ew25
  go_upto_region 11 with (fail)
  clear hww25
  clear b1_w23 b2_w23 b3_w23
  replace zw25 := le2 zw25
  refine wp_region_lit ?_
  iterate 2
    refine wpList_one (x := ?_) (by as_aux_lemma => kernel_rfl) (fun K hK => ?_) ?_
    rotate_left
    · go_simp
      repeat (first | (go_ints; try go_simp) | (simp only [↓IntWalk.iteOmega]; try go_simp))
      exact hK
    simp only [Act.put, List.setIfInBounds_toArray, List.set_cons_zero, List.set_cons_succ]
  refine wpList_tell (t := .v (.bool true)) (by as_aux_lemma => kernel_rfl) (fun K hK => ?_) ?_
  · go_simp
    exact (nis Z28 1 2 _ _ (hZ28) (by decide) (by decide) (by decide) (eqv (by rw [sm.rt_b]; decide +kernel))).mono (tell hK)
  rintro _ w26 rfl - ew26
  simp only [Act.put, List.setIfInBounds_toArray, List.set_cons_zero, List.set_cons_succ]
  have zw26 := ew26.size
  have xw11_w26 := eg (eg (eg (eg (eg (eg (eg (eg (eg (eg (eg (eg (eg xw11_w13 ew14) ew15) ew16) ew17) ew18) ew19) ew20) ew21) ew22) ew23) ew24) ew25) ew26
  replace B5 := B5.ext xw11_w26
  have b5_w26 := B5.c4
  have xw10_w26 := eg (eg (eg (eg (eg (eg (eg (eg (eg (eg (eg (eg (eg (eg (eg ew11 ew12) ew13) ew14) ew15) ew16) ew17) ew18) ew19) ew20) ew21) ew22) ew23) ew24) ew25) ew26
  replace hZ34 := hZ34.ext xw10_w26
  have xw_w26 := eg xw_w25 ew26
  clear b4_w25
  iterate 3
    refine wpList_one (x := ?_) (by as_aux_lemma => kernel_rfl) (fun K hK => ?_) ?_
    rotate_left
    · go_simp
      repeat (first | (go_ints; try go_simp) | (simp only [↓IntWalk.iteOmega]; try go_simp))
      exact hK
    simp only [Act.put, List.setIfInBounds_toArray, List.set_cons_zero, List.set_cons_succ]
  refine wpList_tell (t := .v (.bool true)) (by as_aux_lemma => kernel_rfl) (fun K hK => ?_) ?_
  · go_simp
    exact (nis Z34 9 20 _ _ (hZ34) (by decide) (by decide) (by decide) (eqv (by rw [show lal T R 60 0 (2 : Int).toNat = _ from sm.al2]; decide +kernel))).mono (tell hK)
  rintro _ w27 rfl - ew27
  simp only [Act.put, List.setIfInBounds_toArray, List.set_cons_zero, List.set_cons_succ]
  have zw27 := ew27.size
  have xw13_w27 := eg (eg (eg (eg (eg (eg (eg (eg (eg (eg (eg (eg xw13_w15 ew16) ew17) ew18) ew19) ew20) ew21) ew22) ew23) ew24) ew25) ew26) ew27
  replace B6 := B6.ext xw13_w27
  have b6_w27 := B6.c4
  have xw12_w27 := eg (eg (eg (eg (eg (eg (eg (eg (eg (eg (eg (eg (eg (eg ew13 ew14) ew15) ew16) ew17) ew18) ew19) ew20) ew21) ew22) ew23) ew24) ew25) ew26) ew27
  replace hZ40 := hZ40.ext xw12_w27
  have xw_w27 := eg xw_w26 ew27
  clear b5_w26
  iterate 4
    refine wpList_one (x := ?_) (by as_aux_lemma => kernel_rfl) (fun K hK => ?_) ?_
    rotate_left
    · go_simp
      repeat (first | (go_ints; try go_simp) | (simp only [↓IntWalk.iteOmega]; try go_simp))
      exact hK
    simp only [Act.put, List.setIfInBounds_toArray, List.set_cons_zero, List.set_cons_succ]
  refine wpList_tell (t := .v (.bool true)) (by as_aux_lemma => kernel_rfl) (fun K hK => ?_) ?_
  · go_simp
    exact (nis Z40 0 1 _ _ (hZ40) (by decide) (by decide) (by decide) (eqv (by rw [show lal T R 60 0 (3 : Int).toNat = _ from sm.al3]; decide +kernel))).mono (tell hK)
  rintro _ w28 rfl - ew28
  simp only [Act.put, List.setIfInBounds_toArray, List.set_cons_zero, List.set_cons_succ]
  have zw28 := ew28.size
  have xw15_w28 := eg (eg (eg (eg (eg (eg (eg (eg (eg xw15_w19 ew20) ew21) ew22) ew23) ew24) ew25) ew26) ew27) ew28
  replace B7 := B7.ext xw15_w28
  have b7_w28 := B7.c4
  have xw14_w28 := eg (eg (eg (eg (eg (eg (eg (eg (eg (eg (eg (eg (eg ew15 ew16) ew17) ew18) ew19) ew20) ew21) ew22) ew23) ew24) ew25) ew26) ew27) ew28
  replace hZ46 := hZ46.ext xw14_w28
  have xw_w28 := eg xw_w27 ew28
  clear b6_w27
  iterate 4
    refine wpList_one (x := ?_) (by as_aux_lemma => kernel_rfl) (fun K hK => ?_) ?_
    rotate_left
    · go_simp
      repeat (first | (go_ints; try go_simp) | (simp only [↓IntWalk.iteOmega]; try go_simp))
      exact hK
    simp only [Act.put, List.setIfInBounds_toArray, List.set_cons_zero, List.set_cons_succ]
  refine wpList_tell (t := .v (.bool true)) (by as_aux_lemma => kernel_rfl) (fun K hK => ?_) ?_
  · go_simp
    exact (nis Z46 9 20 _ _ (hZ46) (by decide) (by decide) (by decide) (eqv (by rw [show ldq T R 60 0 (1 : Int).toNat = _ from sm.dq1]; decide +kernel))).mono (tell hK)
  rintro _ w29 rfl - ew29
  simp only [Act.put, List.setIfInBounds_toArray, List.set_cons_zero, List.set_cons_succ]
  have zw29 := ew29.size
  have xw17_w29 := eg (eg (eg (eg (eg (eg (eg (eg (eg (eg xw17_w19 ew20) ew21) ew22) ew23) ew24) ew25) ew26) ew27) ew28) ew29
  replace B8 := B8.ext xw17_w29
  have b8_w29 := B8.c4
  have xw16_w29 := eg (eg (eg (eg (eg (eg (eg (eg (eg (eg (eg (eg ew17 ew18) ew19) ew20) ew21) ew22) ew23) ew24) ew25) ew26) ew27) ew28) ew29
  replace hZ52 := hZ52.ext xw16_w29
  have xw_w29 := eg xw_w28 ew29
  clear b7_w28
  iterate 4
    refine wpList_one (x := ?_) (by as_aux_lemma => kernel_rfl) (fun K hK => ?_) ?_
    rotate_left
    · go_simp
      repeat (first | (go_ints; try go_simp) | (simp only [↓IntWalk.iteOmega]; try go_simp))
      exact hK
    simp only [Act.put, List.setIfInBounds_toArray, List.set_cons_zero, List.set_cons_succ]
  refine wpList_tell (t := .v (.bool true)) (by as_aux_lemma => kernel_rfl) (fun K hK => ?_) ?_
  · go_simp
    exact (nis Z52 27 20 _ _ (hZ52) (by decide) (by decide) (by decide) (eqv (by rw [sm.ex]; decide +kernel))).mono (tell hK)
  rintro _ w30 rfl - ew30
  simp only [Act.put, List.setIfInBounds_toArray, List.set_cons_zero, List.set_cons_succ]
  have zw30 := ew30.size
  have xw19_w30 := eg (eg (eg (eg (eg (eg (eg (eg (eg xw19_w21 ew22) ew23) ew24) ew25) ew26) ew27) ew28) ew29) ew30
  replace B9 := B9.ext xw19_w30
  have b9_w30 := B9.c4
  have xw18_w30 := eg (eg (eg (eg (eg (eg (eg (eg (eg (eg (eg ew19 ew20) ew21) ew22) ew23) ew24) ew25) ew26) ew27) ew28) ew29) ew30
  replace hZ58 := hZ58.ext xw18_w30
  have xw_w30 := eg xw_w29 ew30
  clear b8_w29
  iterate 4
    refine wpList_one (x := ?_) (by as_aux_lemma => kernel_rfl) (fun K hK => ?_) ?_
    rotate_left
    · go_simp
      repeat (first | (go_ints; try go_simp) | (simp only [↓IntWalk.iteOmega]; try go_simp))
      exact hK
    simp only [Act.put, List.setIfInBounds_toArray, List.set_cons_zero, List.set_cons_succ]
  refine wpList_tell (t := .v (.bool true)) (by as_aux_lemma => kernel_rfl) (fun K hK => ?_) ?_
  · go_simp
    exact (nis Z58 1 4 _ _ (hZ58) (by decide) (by decide) (by decide) (eqv (by rw [sm.rt_e]; decide +kernel))).mono (tell hK)
  rintro _ w31 rfl - ew31
  simp only [Act.put, List.setIfInBounds_toArray, List.set_cons_zero, List.set_cons_succ]
  have zw31 := ew31.size
  have xw21_w31 := eg (eg (eg (eg (eg (eg (eg (eg xw21_w23 ew24) ew25) ew26) ew27) ew28) ew29) ew30) ew31
  replace B10 := B10.ext xw21_w31
  have b10_w31 := B10.c4
  have xw20_w31 := eg (eg (eg (eg (eg (eg (eg (eg (eg (eg ew21 ew22) ew23) ew24) ew25) ew26) ew27) ew28) ew29) ew30) ew31
  replace hZ65 := hZ65.ext xw20_w31
  have xw_w31 := eg xw_w30 ew31
  clear b9_w30
  iterate 4
    refine wpList_one (x := ?_) (by as_aux_lemma => kernel_rfl) (fun K hK => ?_) ?_
    rotate_left
    · go_simp
      repeat (first | (go_ints; try go_simp) | (simp only [↓IntWalk.iteOmega]; try go_simp))
      exact hK
    simp only [Act.put, List.setIfInBounds_toArray, List.set_cons_zero, List.set_cons_succ]
  refine wpList_tell (t := .v (.bool true)) (by as_aux_lemma => kernel_rfl) (fun K hK => ?_) ?_
  · go_simp
    exact (nis Z65 27 40 _ _ (hZ65) (by decide) (by decide) (by decide) (eqv (by rw [show lal T R 60 0 (1 : Int).toNat = _ from sm.al1, show lal T R 62 0 (1 : Int).toNat = _ from sm.bl1]; decide +kernel))).mono (tell hK)
  rintro _ w32 rfl - ew32
  simp only [Act.put, List.setIfInBounds_toArray, List.set_cons_zero, List.set_cons_succ]
  have zw32 := ew32.size
  have xw23_w32 := eg (eg (eg (eg (eg (eg (eg (eg ew24 ew25) ew26) ew27) ew28) ew29) ew30) ew31) ew32
  replace B11 := B11.ext xw23_w32
  have b11_w32 := B11.c4
  have xw22_w32 := eg (eg (eg (eg (eg (eg (eg (eg (eg ew23 ew24) ew25) ew26) ew27) ew28) ew29) ew30) ew31) ew32
  replace hZ72 := hZ72.ext xw22_w32
  have xw_w32 := eg xw_w31 ew32
  clear b10_w31
  iterate 4
    refine wpList_one (x := ?_) (by as_aux_lemma => kernel_rfl) (fun K hK => ?_) ?_
    rotate_left
    · go_simp
      repeat (first | (go_ints; try go_simp) | (simp only [↓IntWalk.iteOmega]; try go_simp))
      exact hK
    simp only [Act.put, List.setIfInBounds_toArray, List.set_cons_zero, List.set_cons_succ]
  refine wpList_tell (t := .v (.bool true)) (by as_aux_lemma => kernel_rfl) (fun K hK => ?_) ?_
  · go_simp
    exact (nis Z72 39 40 _ _ (hZ72) (by decide) (by decide) (by decide) (eqv (by rw [show lal T R 60 0 (1 : Int).toNat = _ from sm.al1, show lal T R 62 0 (1 : Int).toNat = _ from sm.bl1]; unfold eiQ; decide +kernel))).mono (tell hK)
  rintro _ w33 rfl - ew33
  simp only [Act.put, List.setIfInBounds_toArray, List.set_cons_zero, List.set_cons_succ]
  have zw33 := ew33.size
  have xw25_w33 := eg (eg (eg (eg (eg (eg (eg ew26 ew27) ew28) ew29) ew30) ew31) ew32) ew33
  replace B12 := B12.ext xw25_w33
  have b12_w33 := B12.c4
  have xw24_w33 := eg (eg (eg (eg (eg (eg (eg (eg ew25 ew26) ew27) ew28) ew29) ew30) ew31) ew32) ew33
  replace hZ79 := hZ79.ext xw24_w33
  have xw_w33 := eg xw_w32 ew33
  clear b11_w32
  iterate 4
    refine wpList_one (x := ?_) (by as_aux_lemma => kernel_rfl) (fun K hK => ?_) ?_
    rotate_left
    · go_simp
      repeat (first | (go_ints; try go_simp) | (simp only [↓IntWalk.iteOmega]; try go_simp))
      exact hK
    simp only [Act.put, List.setIfInBounds_toArray, List.set_cons_zero, List.set_cons_succ]
  refine wpList_tell (t := .v (.bool true)) (by as_aux_lemma => kernel_rfl) (fun K hK => ?_) ?_
  · go_simp
    exact (nis Z79 3 40 _ _ (hZ79) (by decide) (by decide) (by decide) (eqv (by rw [show lal T R 60 0 (1 : Int).toNat = _ from sm.al1, show lal T R 62 0 (1 : Int).toNat = _ from sm.bl1]; unfold leQ; decide +kernel))).mono (tell hK)
  rintro _ w34 rfl - ew34
  simp only [Act.put, List.setIfInBounds_toArray, List.set_cons_zero, List.set_cons_succ]
  have zw34 := ew34.size
  have xw_w34 := eg xw_w33 ew34
  clear b12_w33
  iterate 2
    refine wpList_one (x := ?_) (by as_aux_lemma => kernel_rfl) (fun K hK => ?_) ?_
    rotate_left
    · go_simp
      repeat (first | (go_ints; try go_simp) | (simp only [↓IntWalk.iteOmega]; try go_simp))
      exact hK
    simp only [Act.put, List.setIfInBounds_toArray, List.set_cons_zero, List.set_cons_succ]
  go_wp2_with fail
  refine bodyPost_ret (v := .bool true) (by simp [results, Tryz.results9, go_sem]) rfl ?_
  exact Gv.of_v xw_w34
end Go.Proofs.YtndgaecfeaedeaaGreat

namespace Go.Proofs.YtndgaecfeaedeaaGreat
set_option linter.unusedSimpArgs false
set_option linter.unusedVariables false
open Go.RowKit Lex Mth
attribute [local go_sem] run_indexAt_at add_zero_map Oper.semAt_some at_zero at_add at_mk1 at_mk2 at_mk3
set_option linter.unusedSimpArgs false
set_option linter.unusedVariables false

/-- What usable looks at. -/
noncomputable def okU (T : Tb) (e y : Int) : Bool := !largeT T 25 8 2 && okL T e y
theorem okU_l {T : Tb} {e y : Int} (h : okU T e y = true) : okL T e y = true := by unfold okU at h; simp only [Bool.and_eq_true] at h; exact h.2
theorem okU_n {T : Tb} {e y : Int} (h : okU T e y = true) : T.N ≤ 25 := by
  unfold okU at h
  simp only [Bool.and_eq_true, Bool.not_eq_true'] at h
  apply Decidable.byContradiction
  intro hn
  have := largeT_iff (T := T) (r := 25) (wd := 8) (l := 2)
  rw [h.1] at this
  exact absurd (this.2 (.inl (by omega))) (by simp)
theorem nequal_t (X Y : Fr) (x y : Rat) (w : World) (hX : FR w X x) (hY : FR w Y y) (bx : Sz x) (by_ : Sz y) (h : x = y) : Calls Tryz.prog 30 #[.agg #[.bool X.N.b, .slice X.N.p X.N.n X.N.c, .bool X.D.b, .slice X.D.p X.D.n X.D.c], .agg #[.bool Y.N.b, .slice Y.N.p Y.N.n Y.N.c, .bool Y.D.b, .slice Y.D.p Y.D.n Y.D.c]] w (Gv (.v (.bool true)) w) := by
  have := nequal X Y x y w hX hY bx by_
  rwa [eqQ_iff.2 h] at this
theorem okL_q4 {T : Tb} {e y : Int} (ok : okL T e y = true) : T.first ≤ e ∧ e ≤ T.first + (T.N : Int) - 1 ∧ 0 ≤ y ∧ y ≤ 300 := by
  unfold okL at ok
  simp only [Bool.and_eq_true, decide_eq_true_eq] at ok
  exact ⟨ok.1.1.1.2, ok.1.1.2, ok.1.2, ok.2⟩

theorem nLarge_b (T : Tb) (rows width limbs : Nat) (w : World) (h : TW w T) (hr : rows ≤ 1000) (hw : width ≤ 1000) (hl : limbs ≤ 1000) {b : Bool} (hb : largeT T rows width limbs = b) :
    Calls Tryz.prog 8 #[.agg #[.int .i64 T.first, .int .i64 T.sel, .slice T.P T.N T.C], .int .i64 (rows : Nat), .int .i64 (width : Nat), .int .i64 (limbs : Nat)] w (Gv (.v (.bool b)) w) := hb ▸ nLarge T rows width limbs w h hr hw hl

set_option maxRecDepth 100000 in
theorem nusable1 (T : Tb) (e y : Int) (w : World) (hT : TW w T) (ey : -9223372036854775808 ≤ e ∧ e ≤ 9223372036854775807 ∧ -9223372036854775808 ≤ y ∧ y ≤ 9223372036854775807) (hl : largeT T 25 8 2 = true) :
    Calls Tryz.prog 27 #[.agg #[.int .i64 T.first, .int .i64 T.sel, .slice T.P T.N T.C], .agg #[.int .i64 e, .int .i64 y]] w (Gv (.v (.bool false)) w) := by
  have HL := Lib.hid hl
  clear hl
  obtain ⟨w1, hww1, ew1, B1, zw1⟩ := alloc_at w (w.heap.size) (by omega) #[.int .i64 T.first, .int .i64 T.sel, .slice T.P T.N T.C] 24
  obtain ⟨w2, hww2, ew2, -, zw2⟩ := alloc_at w1 (w.heap.size + 1) (by omega) #[.int .i64 e, .int .i64 y] 26
  replace B1 := B1.ext ew2
  have b1_w2 := B1.c3
  have xw_w2 := eg ew1 ew2
  go_enter Tryz.func27, Tryz.ntmps27
  go_wp2_with fail
  clear hww1 hww2
  replace zw1 := le2 zw1
  replace zw2 := le2 zw2
  refine (nLarge_b T 25 8 2 _ (hT.ext xw_w2) (by decide) (by decide) (by decide) HL.out).mono (Gv.onV fun w3 ew3 zw3 => ?_)
  have xw_w3 := eg xw_w2 ew3
  go_wp2_with fail
  clear b1_w2
  refine bodyPost_ret (v := .bool false) (by simp [results, Tryz.results27, go_sem]) rfl ?_
  exact Gv.of_v xw_w3

set_option maxRecDepth 100000 in
theorem nusable2 (T : Tb) (e y : Int) (w : World) (hT : TW w T) (ey : -9223372036854775808 ≤ e ∧ e ≤ 9223372036854775807 ∧ -9223372036854775808 ≤ y ∧ y ≤ 9223372036854775807) (hl : largeT T 25 8 2 = false) (b : Bool) (hr : okL T e y = b) :
    Calls Tryz.prog 27 #[.agg #[.int .i64 T.first, .int .i64 T.sel, .slice T.P T.N T.C], .agg #[.int .i64 e, .int .i64 y]] w (Gv (.v (.bool b)) w) := by
  have HL := Lib.hid hl
  clear hl
  have HR := Lib.hid hr
  clear hr
  obtain ⟨w1, hww1, ew1, B1, zw1⟩ := alloc_at w (w.heap.size) (by omega) #[.int .i64 T.first, .int .i64 T.sel, .slice T.P T.N T.C] 24
  obtain ⟨w2, hww2, ew2, B2, zw2⟩ := alloc_at w1 (w.heap.size + 1) (by omega) #[.int .i64 e, .int .i64 y] 26
  replace B1 := B1.ext ew2
  have b1_w2 := B1.c3
  have xw_w2 := eg ew1 ew2
  go_enter Tryz.func27, Tryz.ntmps27
  go_wp2_with fail
  clear hww1 hww2
  replace zw1 := le2 zw1
  replace zw2 := le2 zw2
  refine (nLarge_b T 25 8 2 _ (hT.ext xw_w2) (by decide) (by decide) (by decide) HL.out).mono (Gv.onV fun w3 ew3 zw3 => ?_)
  replace B1 := B1.ext ew3
  have b1_w3 := B1.c3
  replace B2 := B2.ext ew3
  have b2_w3 := B2.c2
  have xw_w3 := eg xw_w2 ew3
  go_wp2_with fail
  clear b1_w2
  refine (lRight T e y _ (hT.ext xw_w3) ey HR.out).mono (Gv.onV fun w4 ew4 zw4 => ?_)
  have xw_w4 := eg xw_w3 ew4
  go_wp2_with fail
  clear b1_w3 b2_w3
  refine bodyPost_ret (v := .bool b) (by simp [results, Tryz.results27, go_sem]) rfl ?_
  exact Gv.of_v xw_w4

theorem nusable (T : Tb) (e y : Int) (w : World) (hT : TW w T) (ey : -9223372036854775808 ≤ e ∧ e ≤ 9223372036854775807 ∧ -9223372036854775808 ≤ y ∧ y ≤ 9223372036854775807) {b : Bool} (hb : okU T e y = b) : Calls Tryz.prog 27 #[.agg #[.int .i64 T.first, .int .i64 T.sel, .slice T.P T.N T.C], .agg #[.int .i64 e, .int .i64 y]] w (Gv (.v (.bool b)) w) := by
  subst hb
  cases hl : largeT T 25 8 2
  · rw [show okU T e y = okL T e y by unfold okU; rw [hl]; rfl]
    exact nusable2 T e y w hT ey hl _ rfl
  · rw [show okU T e y = false by unfold okU; rw [hl]; rfl]
    exact nusable1 T e y w hT ey hl
end Go.Proofs.YtndgaecfeaedeaaGreat
