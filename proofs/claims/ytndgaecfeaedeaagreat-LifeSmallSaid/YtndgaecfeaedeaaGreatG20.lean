/- Walks of package life: the years of a life. Probabilities of living and dying, out of a sequence of rates; how long their fractions get. No condition: plain laws of numbers. Walks of package life: alive. -/
import Derived.Test.YtndgaecfeaedeaaGreatG11
import Derived.Test.YtndgaecfeaedeaaGreatG19
set_option linter.unusedSimpArgs false
set_option linter.unusedVariables false
namespace Go.Proofs.YtndgaecfeaedeaaGreat
open Go.RowKit Lex Mth
attribute [local go_sem] run_indexAt_at add_zero_map Oper.semAt_some at_zero at_add at_mk1 at_mk2 at_mk3

/-- How many years the table has from a life's age on. -/
def yN (T : Tb) (e y : Int) : Nat := (T.first + T.N - e - y).toNat
/-- What years hands on in round k. -/
def yV (T : Tb) (R : Nat → Nat → Rat) (e y : Int) (Bq : Nat) (k : Nat) (vs : Array Value) (w : World) : Prop := ∃ Q : Fr, vs = #[.int .i64 (k : Nat), .agg #[.bool Q.N.b, .slice Q.N.p Q.N.n Q.N.c, .bool Q.D.b, .slice Q.D.p Q.D.n Q.D.c]] ∧ FR w Q (rt T R e (y + k)) ∧ OF Bq w Q ∧ Sz (rt T R e (y + k))
theorem Keeps.go {M : Nat → Prop} {w0 w w' : World} (h : Ext w0 w) (k : Keeps M w w') (hM : ∀ b, M b → w0.heap.size ≤ b) : Ext w0 w' :=
 ((Keeps.of_ext (M := M) h).trans k).ext hM
theorem sz_rt {w : World} {T : Tb} {R : Nat → Nat → Rat} (hT : TQ w T R) {e y : Int} (h1 : T.first ≤ e) (h2 : e ≤ T.first + (T.N : Int) - 1) (h3 : 0 ≤ y) : Sz (rt T R e y) ∧ (rt T R e y).den < 65536 ∧ 0 ≤ rt T R e y ∧ rt T R e y ≤ 1 := by
 have hb := hT.b
 unfold boundsOk at hb
 unfold rt
 split
 ·exact ⟨sz_one, by decide, by decide, by decide⟩
 ·split
  ·exact hT.sz _ (by omega) _ (by have := hT.rn (e - T.first).toNat (by omega); omega)
  ·exact hT.sz _ (by omega) _ (by have := hT.rn (e + y - T.first).toNat (by omega); omega)

set_option maxRecDepth 100000 in
set_option maxHeartbeats 1000000 in
theorem years_gives (T : Tb) (R : Nat → Nat → Rat) (e y : Int) (w0 : World) (hT : TQ w0 T R) (h1 : T.first ≤ e) (h2 : e ≤ T.first + (T.N : Int) - 1) (h3 : 0 ≤ y) (h4 : y ≤ 500) (Bs : Nat) (Mut : Nat → Prop) (w : World) (hE0 : Ext w0 w)
    (hbox : Cells w Bs 72 #[.int .i64 T.first, .int .i64 T.sel, .slice T.P T.N T.C, .int .i64 e, .int .i64 y]) (hm1 : ¬ Mut Bs) (hm2 : ∀ b, Mut b → w0.heap.size ≤ b) :
    Gives Tryz.prog 97 #[.pointer (some ⟨Bs, 0, none⟩)] (yN T e y + 1) 1 (yV T R e y) Mut w := by
 intro loop J Jx W hW hMl hJs _ hY _ h0
 obtain ⟨b1, b2, b3, b4, b5, b6⟩ := id hT.b
 have hb := hT.b
 have hB := hbox.ext hW
 have c0 := hB.cell (k := 0) rfl
 have c1 := hB.cell (k := 1) rfl
 have c2 := hB.cell (k := 2) rfl
 have c3 := hB.cell (k := 3) rfl
 have c4 := hB.cell (k := 4) rfl
 have lB := hB.lt
 have hMW : ¬ Mut W.heap.size := fun h => by have := hMl _ h; omega
 have hYN : Hid ((yN T e y : Int) = if e + y < T.first + T.N then T.first + T.N - e - y else 0) := by unfold Hid yN; split <;> omega
 refine callsIn_of_wp Tryz.func97 rfl trivial ?_ rfl
 simp only [Tryz.ntmps97, List.size_toArray, List.length_cons, List.length_nil, Nat.reduceAdd, Nat.reduceSub, Array.replicate_succ, Array.replicate_zero, List.push_toArray, List.append_toArray, List.nil_append, List.cons_append]
 gi_wp2_with fail
 refine Lex.regionIn 3 (fun k => k == 1) (fun _ v => v = .pointer (some ⟨W.heap.size, 0, none⟩)) (fun _ _ w1 => Cells w1 W.heap.size 72 #[.int .i64 0, .int .i64 0, .slice none 0 0, .int .i64 0, .int .i64 0])
  (Ext W) (fun _ _ => Ext) XE (fun _ w1 => w1.heap.size = W.heap.size) (.inl rfl) (by kernel_rfl) (by kernel_rfl) (by kernel_rfl) (fun _ _ _ _ _ _ _ _ _ h h2 _ => h.ext h2) (fun _ _ _ _ _ _ _ _ _ _ _ _ _ => ⟨trivial, trivial⟩) (fun i k _ _ _ hne hi hk _ _ => absurd ((beq_iff_eq.1 hi).trans (beq_iff_eq.1 hk).symm) hne) (Below.refl _ _).drew (fun _ _ => rfl) ?_
 refine Walk.one (x := ?_) rfl rfl (fun w1 hI hL K hK => ?_) ?_
 rotate_left
 ·obtain ⟨hc, hf⟩ := bcell hI
  go_simp
  repeat (first | (go_ints; try go_simp) | (simp only [↓IntWalk.iteOmega]; try go_simp))
  exact hK
 simp only [Pq1]
 refine Walk.toldK rfl rfl ⟨_, rfl⟩ (fun w1 hI hu hL K hK => ?_) ?_
 ·go_simp
  refine hK _ _ rfl ?_ (eg hI (ea _ _)) (ea _ _) (fun _ _ _ => ⟨trivial, trivial⟩)
  exact Cells.newAt _ _ hu.symm
 rintro _ rfl
 simp only [Pq1]
 refine Walk.one (x := ?_) rfl rfl (fun w1 hI hL K hK => ?_) ?_
 rotate_left
 ·obtain ⟨hc, hf⟩ := bcell hI
  go_simp
  repeat (first | (go_ints; try go_simp) | (simp only [↓IntWalk.iteOmega]; try go_simp))
  exact hK
 simp only [Pq1]
 refine Walk.nil fun w1 e1 hL => ?_
 have g0 := hL (1, .pointer (some ⟨W.heap.size, 0, none⟩)) (by simp)
 clear hL
 have f0 := g0.frozen 0
 have f1 := g0.frozen 1
 have f2 := g0.frozen 2
 have f3 := g0.frozen 3
 have f4 := g0.frozen 4
 have a0 := g0.cell (k := 0) rfl
 have a1 := g0.cell (k := 1) rfl
 have a2 := g0.cell (k := 2) rfl
 have a3 := g0.cell (k := 3) rfl
 have a4 := g0.cell (k := 4) rfl
 simp only [List.drop_succ_cons, List.drop_zero]
 obtain ⟨w2, hw2⟩ : ∃ V, ((((w1.setCell ⟨W.heap.size, 0, none⟩ (.int .i64 T.first)).setCell ⟨W.heap.size, 1, none⟩ (.int .i64 T.sel)).setCell ⟨W.heap.size, 2, none⟩ (.slice T.P T.N T.C)).setCell ⟨W.heap.size, 3, none⟩ (.int .i64 e)).setCell ⟨W.heap.size, 4, none⟩ (.int .i64 y) = V := ⟨_, rfl⟩
 have g1 : Cells w2 W.heap.size 72 #[.int .i64 T.first, .int .i64 T.sel, .slice T.P T.N T.C, .int .i64 e, .int .i64 (y + (0 : Nat))] := by rw [← hw2, show y + ((0 : Nat) : Int) = y by simp]; exact Cells.sets [.int .i64 T.first, .int .i64 T.sel, .slice T.P T.N T.C, .int .i64 e, .int .i64 y] g0 0
 have k2 : Keeps (fun b => W.heap.size ≤ b ∧ b < W.heap.size + 1) W w2 := by
  rw [← hw2]
  exact (Keeps.of_ext e1).trans ((sets_keeps W.heap.size [.int .i64 T.first, .int .i64 T.sel, .slice T.P T.N T.C, .int .i64 e, .int .i64 y] w1 0).mono fun b _ h => by omega)
 gi_wp2_with fail
 clear hw2 c0 c1 c2 c3 c4 f0 f1 f2 f3 f4 a0 a1 a2 a3 a4
 gi_loopw [3] (fun v wr => ∃ k : Nat, v = .int .i64 (k : Nat) ∧ k ≤ yN T e y ∧ J k wr ∧ Cells wr W.heap.size 72 #[.int .i64 T.first, .int .i64 T.sel, .slice T.P T.N T.C, .int .i64 e, .int .i64 (y + (k : Nat))] ∧ Keeps (fun b => Mut b ∨ (W.heap.size ≤ b ∧ b < W.heap.size + 1)) W wr) (fun v _ => (yN T e y - intOf v).toNat)
 case atStart => exact ⟨0, rfl, Nat.zero_le _, hJs _ _ _ h0 k2, g1, k2.mono fun b _ h => .inr h⟩
 case round =>
  obtain ⟨k, rfl, hk, hJ, hC, hK⟩ := hrel
  have c0 := hC.cell (k := 0) rfl
  have c1 := hC.cell (k := 1) rfl
  have c2 := hC.cell (k := 2) rfl
  have c3 := hC.cell (k := 3) rfl
  have c4 := hC.cell (k := 4) rfl
  have lC := hC.lt
  have hEr : Ext w0 wr := Keeps.go (eg hE0 hW) hK (by rintro b (h | h); exact hm2 b h; have := (eg hE0 hW).size; omega)
  have hy := hYN.out
  have hkb : k ≤ 300 := by unfold yN at hk; omega
  have hadd : IntKind.i64.wrap (e + (y + (k : Int))) = e + (y + (k : Int)) := by simp [IntKind.wrap, IntKind.bits, IntKind.signed]; omega
  by_cases hlt : k < yN T e y
  ·have hle : e + (y + (k : Int)) ≤ T.first + (T.N : Int) - 1 := by split at hy <;> omega
   have hle2 : e + (y + (k : Int)) < T.first + (T.N : Int) := by omega
   have d1 : decide (e + (y + (k : Int)) ≤ T.first + (T.N : Int) - 1) = true := by simp; omega
   have d2 : decide (e + (y + (k : Int)) < T.first + (T.N : Int)) = true := by simp; omega
   clear hy
   gi_wp2_with fail
   refine regionInT 11 (fun k => match k with | 9 => some (.v (.int .i64 (T.first + (T.N : Int) - 1))) | _ => none) (.inl rfl) (by kernel_rfl) (by kernel_rfl) (by kernel_rfl) ?_
   iterate 9
    refine Walk.one (x := ?_) rfl rfl (fun w1 hI hL K hK => ?_) ?_
    rotate_left
    ·obtain ⟨hc, hf⟩ := bcell hI
     go_simp
     repeat (first | (go_ints; try go_simp) | (simp only [↓IntWalk.iteOmega]; try go_simp))
     exact hK
    simp only [Pq1]
   refine Walk.tell rfl rfl (fun w1 hI hL K hK => ?_) ?_
   ·go_simp
    exact (llast T w1 hb).mono (tell hK)
   rintro _ rfl
   simp only [Pq1]
   refine Walk.one (x := ?_) rfl rfl (fun w1 hI hL K hK => ?_) ?_
   rotate_left
   ·obtain ⟨hc, hf⟩ := bcell hI
    go_simp
    repeat (first | (go_ints; try go_simp) | (simp only [↓IntWalk.iteOmega]; try go_simp))
    exact hK
   simp only [Pq1]
   refine Walk.nil fun w3 e3 _ => ?_
   simp only [List.drop_succ_cons, List.drop_zero, List.drop_nil]
   have hC3 := hC.ext e3
   have c0 := hC3.cell (k := 0) rfl
   have c1 := hC3.cell (k := 1) rfl
   have c2 := hC3.cell (k := 2) rfl
   have c3 := hC3.cell (k := 3) rfl
   have c4 := hC3.cell (k := 4) rfl
   gi_wp2_with fail
   refine Go_wide (lrate T R e (y + k) w3 (hT.ext (eg hEr e3)) h1 h2 (by omega) (by omega)) ?_
   intro ee w4 gg
   obtain ⟨Q, rfl, hQ, oQ, e4⟩ := Gv.f gg
   have e34 := eg e3 e4
   have hJ4 := hJs _ _ w4 hJ (Keeps.of_ext e34)
   obtain ⟨fn, tmps, assign, body, hy, hR⟩ := hY k _ w4 hJ4 (by omega) ⟨Q, rfl, hQ, oQ.mono (by have := hC.lt; have := e3.size; omega), (sz_rt hT h1 h2 (by omega)).1⟩ (by have := hC.lt; have := e34.size; omega) 0
   gi_wp2
   refine hR.mono ?_
   rintro ee W3 (⟨rfl, hJ3, hk3⟩ | ⟨rfl, hJx3⟩)
   ·have hC4 : Cells W3 W.heap.size 72 #[.int .i64 T.first, .int .i64 T.sel, .slice T.P T.N T.C, .int .i64 e, .int .i64 (y + (k : Nat))] := (hC.ext e34).keeps hk3 hMW
    have x4 := hC4.cell (k := 4) rfl
    have z4 := hC4.frozen 4
    gi_wp2
    refine ⟨⟨k + 1, rfl, by omega, hJs _ _ _ hJ3 ((Keeps.refl _ _).setCell (p := ⟨W.heap.size, 4, none⟩) ⟨Nat.le_refl _, Nat.lt_succ_self _⟩ _), ?_, ?_⟩, by simp [intOf]; omega⟩
    ·have := Cells.setOne hC4 4 (.int .i64 (y + (k : Int) + 1))
     rw [show y + ((k + 1 : Nat) : Int) = y + (k : Int) + 1 by omega]
     exact this
    ·exact ((hK.trans (Keeps.of_ext e34)).trans (hk3.mono fun b _ h => .inl h)).setCell (p := ⟨W.heap.size, 4, none⟩) (.inr ⟨Nat.le_refl _, Nat.lt_succ_self _⟩) _
   ·gi_wp2
    refine bodyPost_ret (results_none rfl _ _ _) rfl ?_
    exact ⟨⟨_, rfl⟩, .inr hJx3⟩
  ·obtain rfl : k = yN T e y := by omega
   have hgt : T.first + (T.N : Int) ≤ e + (y + (yN T e y : Int)) := by split at hy <;> omega
   have d1 : decide (e + (y + (yN T e y : Int)) ≤ T.first + (T.N : Int) - 1) = false := by simp; omega
   have d2 : decide (e + (y + (yN T e y : Int)) < T.first + (T.N : Int)) = false := by simp; omega
   have H1 : Hid (rt T R e (y + (yN T e y : Nat)) = 1) := by unfold Hid rt; rw [if_pos hgt]
   clear hy
   gi_wp2_with fail
   refine regionInT 11 (fun k => match k with | 9 => some (.v (.int .i64 (T.first + (T.N : Int) - 1))) | _ => none) (.inl rfl) (by kernel_rfl) (by kernel_rfl) (by kernel_rfl) ?_
   iterate 9
    refine Walk.one (x := ?_) rfl rfl (fun w1 hI hL K hK => ?_) ?_
    rotate_left
    ·obtain ⟨hc, hf⟩ := bcell hI
     go_simp
     repeat (first | (go_ints; try go_simp) | (simp only [↓IntWalk.iteOmega]; try go_simp))
     exact hK
    simp only [Pq1]
   refine Walk.tell rfl rfl (fun w1 hI hL K hK => ?_) ?_
   ·go_simp
    exact (llast T w1 hb).mono (tell hK)
   rintro _ rfl
   simp only [Pq1]
   refine Walk.one (x := ?_) rfl rfl (fun w1 hI hL K hK => ?_) ?_
   rotate_left
   ·obtain ⟨hc, hf⟩ := bcell hI
    go_simp
    repeat (first | (go_ints; try go_simp) | (simp only [↓IntWalk.iteOmega]; try go_simp))
    exact hK
   simp only [Pq1]
   refine Walk.nil fun w3 e3 _ => ?_
   simp only [List.drop_succ_cons, List.drop_zero, List.drop_nil]
   gi_wp2_with fail
   refine Go_wide (fFromInt_1 w3) ?_
   intro ee w4 gg
   obtain ⟨Q, rfl, hQ, oQ, e4⟩ := Gv.f gg
   have e34 := eg e3 e4
   have hJ4 := hJs _ _ w4 hJ (Keeps.of_ext e34)
   obtain ⟨fn, tmps, assign, body, hy, hR⟩ := hY (yN T e y) _ w4 hJ4 (by omega) ⟨Q, rfl, by rw [H1.out]; exact hQ, oQ.mono (by have := hC.lt; have := e3.size; omega), by rw [H1.out]; exact sz_one⟩ (by have := hC.lt; have := e34.size; omega) 0
   gi_wp2
   refine hR.mono ?_
   rintro ee W3 (⟨rfl, hJ3, hk3⟩ | ⟨rfl, hJx3⟩)
   ·gi_wp2
    go_end0
    exact ⟨⟨_, rfl⟩, .inl hJ3⟩
   ·gi_wp2
    go_end0
    exact ⟨⟨_, rfl⟩, .inr hJx3⟩
end Go.Proofs.YtndgaecfeaedeaaGreat
namespace Go.Proofs.YtndgaecfeaedeaaGreat
open Mth

/-- A fraction from 0 to m whose denominator divides D. -/
structure Sm (q : Rat) (D m : Nat) : Prop where
 dvd : q.den ∣ D
 nonneg : 0 ≤ q
 le : q ≤ (m : Rat)
theorem Sm.sz {q : Rat} {D m : Nat} (h : Sm q D m) (hD : 0 < D) (hs : siz D + siz m ≤ 256) : Sz q := by
 have h1 := Nat.le_of_dvd hD h.dvd
 have h2 := siz_mono h1
 have h3 := h.le
 rw [Rat.le_iff] at h3
 have h4 := Rat.num_nonneg.2 h.nonneg
 have h5 : (m : Rat).num = (m : Int) := Rat.num_natCast m
 have h6 : (m : Rat).den = 1 := Rat.den_natCast m
 rw [h5, h6] at h3
 have h7 : q.num.natAbs ≤ m * q.den := by
  have h8 : ((m * q.den : Nat) : Int) = (m : Int) * (q.den : Int) := by simp
  simp only [Int.mul_one, Int.natCast_one] at h3
  omega
 have h8 : q.num.natAbs ≤ m * D := Nat.le_trans h7 (Nat.mul_le_mul_left _ h1)
 have h9 := Nat.le_trans (siz_mono h8) (siz_mul m D)
 exact ⟨by omega, by omega⟩
theorem div_den (q : Rat) {D : Nat} (hD : D ≠ 0) (h : q.den ∣ D) : ∃ n : Int, q = Rat.divInt n D := by
 obtain ⟨k, rfl⟩ := h
 have hk : k ≠ 0 := fun e => by subst e; simp at hD
 refine ⟨q.num * k, ?_⟩
 have : ((q.den * k : Nat) : Int) = (q.den : Int) * (k : Int) := by simp
 rw [this, Rat.divInt_mul_right (by omega), Rat.num_divInt_den]
theorem divInt_den (n : Int) {D : Nat} (hD : D ≠ 0) : (Rat.divInt n D).den ∣ D := by
 rw [Rat.den_divInt, if_neg (by omega), Int.natAbs_natCast]
 refine Nat.div_dvd_of_dvd ?_
 have := Int.gcd_dvd_natAbs_left (D : Int) n
 simpa using this
theorem add_dvd {a b : Rat} {D : Nat} (hD : D ≠ 0) (ha : a.den ∣ D) (hb : b.den ∣ D) : (a + b).den ∣ D := by
 obtain ⟨n, rfl⟩ := div_den a hD ha
 obtain ⟨m, rfl⟩ := div_den b hD hb
 have hD' : (D : Int) ≠ 0 := by omega
 rw [Rat.divInt_add_divInt _ _ hD' hD', show n * (D : Int) + m * (D : Int) = (n + m) * (D : Int) by rw [Int.add_mul], Rat.divInt_mul_right hD']
 exact divInt_den _ hD
theorem mul_dvd {a b : Rat} {D E : Nat} (ha : a.den ∣ D) (hb : b.den ∣ E) : (a * b).den ∣ D * E := by
 rw [Rat.den_mul]
 exact Nat.dvd_trans (Nat.div_dvd_of_dvd (Nat.gcd_dvd_right _ _)) (Nat.mul_dvd_mul ha hb)
theorem neg_dvd {a : Rat} {D : Nat} (ha : a.den ∣ D) : (-a).den ∣ D := ha
theorem one_dvd_den (D : Nat) : (1 : Rat).den ∣ D := Nat.one_dvd D
theorem sub_dvd {a b : Rat} {D : Nat} (hD : D ≠ 0) (ha : a.den ∣ D) (hb : b.den ∣ D) : (a - b).den ∣ D := by
 rw [Rat.sub_eq_add_neg]; exact add_dvd hD ha (neg_dvd hb)

theorem natCast_one : ((1 : Nat) : Rat) = 1 := by simp
theorem Sm.one (D : Nat) : Sm 1 D 1 := ⟨one_dvd_den D, by decide, by simp⟩
theorem Sm.zero (D : Nat) : Sm 0 D 0 := ⟨Nat.one_dvd D, by decide, by simp⟩
theorem Sm.not {q : Rat} {D : Nat} (hD : D ≠ 0) (h : Sm q D 1) : Sm (1 - q) D 1 := by
 have h1 := h.nonneg
 have h2 := h.le
 simp only [natCast_one] at h2
 exact ⟨sub_dvd hD (one_dvd_den D) h.dvd, by grind, by simp only [natCast_one]; grind⟩
theorem Sm.mul {x y : Rat} {D E : Nat} (hx : Sm x D 1) (hy : Sm y E 1) : Sm (x * y) (D * E) 1 := by
 have h1 := hx.le
 have h2 := hy.le
 simp only [natCast_one] at h1 h2
 refine ⟨mul_dvd hx.dvd hy.dvd, Rat.mul_nonneg hx.nonneg hy.nonneg, ?_⟩
 have h3 := Rat.mul_le_mul_of_nonneg_right h1 hy.nonneg
 rw [Rat.one_mul] at h3
 simp only [natCast_one]
 exact Rat.le_trans h3 h2
theorem Sm.add {x y : Rat} {D m n : Nat} (hD : D ≠ 0) (hx : Sm x D m) (hy : Sm y D n) : Sm (x + y) D (m + n) := by
 have h1 := hx.le
 have h2 := hy.le
 have h3 := hx.nonneg
 have h4 := hy.nonneg
 refine ⟨add_dvd hD hx.dvd hy.dvd, by grind, ?_⟩
 rw [show ((m + n : Nat) : Rat) = (m : Rat) + (n : Rat) by simp]
 grind
theorem Sm.dvd' {x : Rat} {D E m : Nat} (h : Sm x D m) (hd : D ∣ E) : Sm x E m := ⟨Nat.dvd_trans h.dvd hd, h.nonneg, h.le⟩

/-- Alive after n years, by the rates r. -/
def al (r : Nat → Rat) : Nat → Rat
 | 0 => 1
 | n + 1 => al r n * (1 - r n)
/-- The sum of the first n probabilities of being alive after a year or more. -/
def es (r : Nat → Rat) : Nat → Rat
 | 0 => 0
 | n + 1 => es r n + al r (n + 1)
def DD (r : Nat → Rat) : Nat → Nat
 | 0 => 1
 | n + 1 => DD r n * (r n).den
/-- Rates: from 0 to 1, short, and 1 from year A on. -/
structure RS (r : Nat → Rat) (A : Nat) : Prop where
 nonneg : ∀ k, 0 ≤ r k
 le : ∀ k, r k ≤ 1
 den : ∀ k, (r k).den < 65536
 end_ : ∀ k, A ≤ k → r k = 1
theorem RS.sm {r : Nat → Rat} {A : Nat} (h : RS r A) (k : Nat) : Sm (r k) (r k).den 1 := ⟨Nat.dvd_refl _, h.nonneg k, by rw [natCast_one]; exact h.le k⟩
theorem DD_ne (r : Nat → Rat) : ∀ n, DD r n ≠ 0
 | 0 => by simp [DD]
 | n + 1 => by
  have h1 := DD_ne r n
  have h2 := (r n).den_nz
  intro h
  rcases Nat.mul_eq_zero.1 h with h | h
  ·exact h1 h
  ·exact h2 h
theorem DD_dvd (r : Nat → Rat) {m n : Nat} (h : m ≤ n) : DD r m ∣ DD r n := by
 induction n with
 | zero => obtain rfl : m = 0 := by omega
           exact Nat.dvd_refl _
 | succ n ih =>
  rcases Nat.lt_or_eq_of_le h with h | rfl
  ·exact Nat.dvd_trans (ih (by omega)) (Nat.dvd_mul_right _ _)
  ·exact Nat.dvd_refl _
theorem DD_siz {r : Nat → Rat} {A : Nat} (h : RS r A) : ∀ n, siz (DD r n) ≤ n + 1
 | 0 => by rw [DD]; exact siz_one.2 (by omega)
 | n + 1 => by
  have h1 := DD_siz h n
  have h2 := siz_mul (DD r n) (r n).den
  have h3 : siz (r n).den ≤ 1 := siz_one.2 (h.den n)
  rw [DD]; omega
theorem DD_end {r : Nat → Rat} {A : Nat} (h : RS r A) : ∀ n, A ≤ n → DD r n = DD r A
 | 0, hn => by obtain rfl : A = 0 := by omega
               rfl
 | n + 1, hn => by
  by_cases e : A = n + 1
  ·rw [e]
  ·rw [DD, h.end_ n (by omega), DD_end h n (by omega)]
   exact Nat.mul_one _
theorem al_sm {r : Nat → Rat} {A : Nat} (h : RS r A) : ∀ n, Sm (al r n) (DD r n) 1
 | 0 => Sm.one _
 | n + 1 => by
  rw [al, DD]
  exact (al_sm h n).mul (Sm.not (r n).den_nz (h.sm n))
theorem al_smA {r : Nat → Rat} {A : Nat} (h : RS r A) (n : Nat) : Sm (al r n) (DD r A) 1 := by
 rcases Nat.lt_or_ge n A with hn | hn
 ·exact (al_sm h n).dvd' (DD_dvd r (by omega))
 ·have := al_sm h n
  rwa [DD_end h n hn] at this
theorem al_end {r : Nat → Rat} {A : Nat} (h : RS r A) : ∀ n, A < n → al r n = 0
 | 0, hn => by omega
 | n + 1, hn => by
  rw [al, h.end_ n (by omega), Rat.sub_self, Rat.mul_zero]
theorem es_sm {r : Nat → Rat} {A : Nat} (h : RS r A) : ∀ n, Sm (es r n) (DD r A) n
 | 0 => Sm.zero _
 | n + 1 => by
  rw [es]
  exact (es_sm h n).add (DD_ne r A) (al_smA h (n + 1))
theorem al_sz {r : Nat → Rat} {A : Nat} (h : RS r A) (hA : A ≤ 111) (n : Nat) : Sz (al r n) :=
 (al_smA h n).sz (Nat.pos_of_ne_zero (DD_ne r A)) (by have := DD_siz h A; have : siz 1 ≤ 1 := siz_one.2 (by omega); omega)
theorem es_sz {r : Nat → Rat} {A : Nat} (h : RS r A) (hA : A ≤ 111) (n : Nat) (hn : n < 65536) : Sz (es r n) :=
 (es_sm h n).sz (Nat.pos_of_ne_zero (DD_ne r A)) (by have := DD_siz h A; have : siz n ≤ 1 := siz_one.2 hn; omega)
theorem al_nonneg {r : Nat → Rat} {A : Nat} (h : RS r A) (n : Nat) : 0 ≤ al r n := (al_sm h n).nonneg
theorem al_le {r : Nat → Rat} {A : Nat} (h : RS r A) (n : Nat) : al r n ≤ 1 := by have := (al_sm h n).le; rwa [natCast_one] at this
/-- Dying in year n. -/
theorem dies_sm {r : Nat → Rat} {A : Nat} (h : RS r A) (n : Nat) : Sm (al r n * r n) (DD r A) 1 := by
 rcases Nat.lt_or_ge n A with hn | hn
 ·exact ((al_sm h n).mul (h.sm n)).dvd' (DD_dvd r (show n + 1 ≤ A by omega))
 ·rw [h.end_ n hn, Rat.mul_one]; exact al_smA h n
theorem not_sz {q : Rat} {D : Nat} (h : Sm q D 1) (hD : 0 < D) (hs : siz D ≤ 255) : Sz (1 - q) := (Sm.not (by omega) h).sz hD (by have : siz 1 ≤ 1 := siz_one.2 (by omega); omega)
end Go.Proofs.YtndgaecfeaedeaaGreat
namespace Go.Proofs.YtndgaecfeaedeaaGreat
open Go.RowKit Lex Mth
attribute [local go_sem] run_indexAt_at add_zero_map Oper.semAt_some at_zero at_add at_mk1 at_mk2 at_mk3

theorem WR.keepsO {M : Nat → Prop} {A C : World} {X : Wh} {z : Int} {B : Nat} (h : WR A X z) (o : OW B A X) (k : Keeps M A C) (hm : ∀ b ∈ Bl X.val, ¬ M b) : WR C X z ∧ OW B C X := by
 obtain ⟨nb, p, n, c⟩ := X
 rcases o with o | ⟨g, cur, o1, o2, o3, o4⟩
 ·refine ⟨WR.mk h.neg (k.u16 h.u16.2 fun j hj => ?_), .inl o⟩
  have := h.u16.2.le
  simp only at o this hj
  omega
 ·simp only at o1 o4
  subst o1
  have hg : 0 < c → ¬ M g := fun hc => hm g (by
   cases c with
   | zero => omega
   | succ c => simp [Bl, Bl1])
  refine ⟨WR.mk h.neg (k.u16 h.u16.2 fun j hj => ?_), ?_⟩
  ·rw [at_zero]
   have := h.u16.2.le
   simp only at this hj
   exact hg (by omega)
  ·rcases Nat.eq_zero_or_pos c with hc | hc
   ·exact .inl hc
   ·exact .inr ⟨g, cur, rfl, o2, k.heap o3 (hg hc), o4⟩
theorem FR.keepsO {M : Nat → Prop} {A C : World} {X : Fr} {q : Rat} {B : Nat} (h : FR A X q) (o : OF B A X) (k : Keeps M A C) (hm : ∀ b ∈ Bl X.val, ¬ M b) : FR C X q ∧ OF B C X := by
 have a := WR.keepsO h.1 o.1 k (fun b hb => hm b (by rw [bl_fr]; exact List.mem_append_left _ hb))
 have b := WR.keepsO h.2 o.2.1 k (fun b hb => hm b (by rw [bl_fr]; exact List.mem_append_right _ hb))
 exact ⟨⟨a.1, b.1⟩, a.2, b.2, o.2.2⟩
theorem rs_rt {w : World} {T : Tb} {R : Nat → Nat → Rat} (hT : TQ w T R) {e y : Int} (h1 : T.first ≤ e) (h2 : e ≤ T.first + (T.N : Int) - 1) (h3 : 0 ≤ y) : RS (fun k => rt T R e (y + (k : Nat))) (yN T e y) :=
 ⟨fun k => (sz_rt hT h1 h2 (by omega)).2.2.1, fun k => (sz_rt hT h1 h2 (by omega)).2.2.2, fun k => (sz_rt hT h1 h2 (by omega)).2.1, fun k hk => by
  unfold yN at hk
  show rt T R e (y + (k : Nat)) = 1
  unfold rt
  rw [if_pos (by omega)]⟩
theorem yN_le {w : World} {T : Tb} {R : Nat → Nat → Rat} (hT : TQ w T R) {e y : Int} (h1 : T.first ≤ e) (h3 : 0 ≤ y) : yN T e y ≤ 111 := by
 have := hT.b
 unfold boundsOk at this
 unfold yN
 omega
/-- The probability of being alive. -/
def lal (T : Tb) (R : Nat → Nat → Rat) (e y : Int) (n : Nat) : Rat := al (fun k => rt T R e (y + (k : Nat))) n

/-- What a loop over the years has gathered, in the box g. -/
def OutI (g : Nat) (q : Rat) (B : Nat) (w4 W : World) : Prop := ∃ O : Fr, Cells W g 40 #[.bool O.N.b, .slice O.N.p O.N.n O.N.c, .bool O.D.b, .slice O.D.p O.D.n O.D.c] ∧ FR W O q ∧ OF B W O ∧ (∀ b ∈ Bl O.val, ¬ LoopBlocks w4 1 b) ∧ Keeps (fun b => b = g ∨ LoopBlocks w4 1 b) w4 W
theorem OutI.keeps {g : Nat} {q : Rat} {B : Nat} {w4 A C : World} (h : OutI g q B w4 A) (k : Keeps (LoopBlocks w4 1) A C) (hg : ¬ LoopBlocks w4 1 g) : OutI g q B w4 C := by
 obtain ⟨O, h1, h2, h3, h4, h5⟩ := h
 obtain ⟨a, b⟩ := FR.keepsO h2 h3 k h4
 exact ⟨O, h1.keeps k hg, a, b, h4, h5.trans (k.mono fun b _ h => .inr h)⟩

theorem lyears (T : Tb) (e y : Int) (w : World) : Calls Tryz.prog 58 #[.agg #[.int .i64 T.first, .int .i64 T.sel, .slice T.P T.N T.C, .int .i64 e, .int .i64 y]] w fun en w' =>
    ∃ g, en = .returned (.func (.func 97) #[] #[.pointer (some ⟨g, 0, none⟩)]) ∧ Cells w' g 72 #[.int .i64 T.first, .int .i64 T.sel, .slice T.P T.N T.C, .int .i64 e, .int .i64 y] ∧ w.heap.size ≤ g ∧ Ext w w' := by
 go_enter Tryz.func58, Tryz.ntmps58
 go_wp2
 go_ret
 exact ⟨_, rfl, Cells.newAt _ _ rfl, Nat.le_refl _, ea _ _⟩

set_option maxRecDepth 100000 in
set_option maxHeartbeats 2000000 in
theorem lalive (T : Tb) (R : Nat → Nat → Rat) (e y n : Int) (w : World) (hT : TQ w T R) (h1 : T.first ≤ e) (h2 : e ≤ T.first + (T.N : Int) - 1) (h3 : 0 ≤ y) (h4 : y ≤ 500) (hn : 0 ≤ n) :
    Calls Tryz.prog 57 #[.agg #[.int .i64 T.first, .int .i64 T.sel, .slice T.P T.N T.C, .int .i64 e, .int .i64 y], .int .i64 n] w (Gv (.f (lal T R e y n.toNat)) w) := by
 obtain ⟨n, rfl⟩ : ∃ m : Nat, n = (m : Int) := ⟨n.toNat, by omega⟩
 rw [Int.toNat_natCast]
 clear hn
 have rs := rs_rt hT h1 h2 h3
 have hA := yN_le hT h1 h3
 refine (callsIn_wide (n := 2)).1 ?_
 refine callsIn_of_wp_marks Tryz.func57 rfl trivial ?_ rfl
 simp only [Tryz.ntmps57, List.size_toArray, List.length_cons, List.length_nil, Nat.reduceAdd, Nat.reduceSub, Array.replicate_succ, Array.replicate_zero, List.push_toArray, List.append_toArray, List.nil_append, List.cons_append]
 obtain ⟨w1, hw1⟩ : ∃ W, ((w.alloc (.cells #[.int .i64 T.first, .int .i64 T.sel, .slice T.P T.N T.C, .int .i64 e, .int .i64 y] 72)).alloc (.cells #[.int .i64 (n : Nat)] 3)).alloc (.cells #[.bool false, .slice none 0 0, .bool false, .slice none 0 0] 40) = W := ⟨_, rfl⟩
 have e1 : Ext w w1 := by rw [← hw1]; exact eg (eg (ea _ _) (ea _ _)) (ea _ _)
 have A1 : Cells w1 w.heap.size 72 #[.int .i64 T.first, .int .i64 T.sel, .slice T.P T.N T.C, .int .i64 e, .int .i64 y] := by rw [← hw1]; exact ((Cells.newAt _ _ rfl).alloc _).alloc _
 have A2 : Cells w1 (w.heap.size + 1) 3 #[.int .i64 (n : Nat)] := by rw [← hw1]; exact (Cells.newAt _ _ (by simp)).alloc _
 have A3 : Cells w1 (w.heap.size + 1 + 1) 40 #[.bool false, .slice none 0 0, .bool false, .slice none 0 0] := by rw [← hw1]; exact Cells.newAt _ _ (by simp)
 have l20 := A2.lt
 have l30 := A3.lt
 gi_wp2_with fail
 clear hw1
 refine Go_wide (fFromInt_1 w1) ?_
 intro ee w2 gg
 obtain ⟨O, rfl, hO, oO, e2⟩ := Gv.f gg
 obtain ⟨w3, hw3⟩ : ∃ W, w2.alloc (.cells #[.bool O.N.b, .slice O.N.p O.N.n O.N.c, .bool O.D.b, .slice O.D.p O.D.n O.D.c] 40) = W := ⟨_, rfl⟩
 have e3 : Ext w2 w3 := by rw [← hw3]; exact ea _ _
 have A4 : Cells w3 w2.heap.size 40 #[.bool O.N.b, .slice O.N.p O.N.n O.N.c, .bool O.D.b, .slice O.D.p O.D.n O.D.c] := by rw [← hw3]; exact Cells.newAt _ _ rfl
 have l43 := A4.lt
 have e23 := eg e2 e3
 replace A1 := A1.ext e23
 replace A2 := A2.ext e23
 replace A3 := A3.ext e23
 replace hO := hO.ext e3
 replace oO := oO.ext e3
 have eW3 := eg e1 e23
 have a0 := A1.cell (k := 0) rfl
 have a1 := A1.cell (k := 1) rfl
 have a2 := A1.cell (k := 2) rfl
 have a3 := A1.cell (k := 3) rfl
 have a4 := A1.cell (k := 4) rfl
 gi_wp2_with fail
 clear hw3 a0 a1 a2 a3 a4
 refine Go_wide (lyears T e y w3) ?_
 rintro ee w4 ⟨Bs, rfl, hBs, hBge, e4⟩
 replace A2 := A2.ext e4
 replace A3 := A3.ext e4
 replace A4 := A4.ext e4
 replace hO := hO.ext e4
 replace oO := oO.ext e4
 have eW4 := eg eW3 e4
 have l2 := A2.lt
 have l3 := A3.lt
 have l4 := A4.lt
 have lBs := hBs.lt
 have s1 := e1.size
 have s2 := e2.size
 have hob := oO.bl
 have hLg : ¬ LoopBlocks w4 1 w2.heap.size := fun h => by have := h.1; omega
 gi_wp2_with fail
 refine wp_range (gf := 97) rfl (enters_of Tryz.func97 (by kernel_rfl) rfl)
  (years_gives T R e y w hT h1 h2 h3 h4 Bs (fun b => b = w2.heap.size) w4 eW4 hBs (by omega) (fun b hb => by have := eW3.size; omega))
  (Below.refl _ _) (fun _ k vs W hV => by obtain ⟨Q, rfl, _⟩ := hV; rfl) (fun b hb h => by have h1 := h.1; omega)
  (fun k W => OutI w2.heap.size (lal T R e y k) w.heap.size w4 W ∧ k ≤ n)
  (fun c W => c = .exit 0 ∧ OutI w2.heap.size (lal T R e y n) w.heap.size w4 W)
  (fun k A C h hk => ⟨h.1.keeps hk hLg, h.2⟩)
  (fun c A C h hk => ⟨h.1, h.2.keeps hk hLg⟩)
  ⟨⟨O, A4, hO, oO.mono e1.size, fun b hb h => by have := (hob b hb).2; have := h.1; omega, Keeps.refl _ _⟩, Nat.zero_le _⟩ (fun _ _ _ => trivial) ?round ?done ?stop
 case round =>
  rintro l k vs W ⟨⟨O, hC, hO, oO, hap, hk⟩, hkn⟩ hkN ⟨Q, rfl, hQ, oQ, hQs⟩ hWs K hK
  obtain ⟨V1, hV1⟩ : ∃ V, W.alloc (.cells #[.bool Q.N.b, .slice Q.N.p Q.N.n Q.N.c, .bool Q.D.b, .slice Q.D.p Q.D.n Q.D.c] 40) = V := ⟨_, rfl⟩
  have eV : Ext W V1 := by rw [← hV1]; exact ea _ _
  have CQ : Cells V1 W.heap.size 40 #[.bool Q.N.b, .slice Q.N.p Q.N.n Q.N.c, .bool Q.D.b, .slice Q.D.p Q.D.n Q.D.c] := by rw [← hV1]; exact Cells.newAt _ _ rfl
  have lC := hC.lt
  gi_wp2
  refine hK _ _ (Keeps.of_ext eV) ?_
  clear hK hV1
  intro W2 hk2 hs2
  have hs3 := Nat.le_of_eq hs2
  have hs4 := Nat.le_of_eq hs2.symm
  clear hs2
  have hQb : ∀ b ∈ Bl Q.val, ¬ LoopBlocks w4 1 b := fun b hb h => by have := (oQ.bl b hb).1; have := h.2; omega
  obtain ⟨hO2, oO2⟩ := FR.keepsO (hO.ext eV) (oO.ext eV) hk2 hap
  obtain ⟨hQ2, oQ2⟩ := FR.keepsO (hQ.ext eV) (oQ.ext eV) hk2 hQb
  have hC2 := (hC.ext eV).keeps hk2 hLg
  have CQ2 := CQ.keeps hk2 (fun h => by have := h.2; omega)
  have hkW : Keeps (fun b => b = w2.heap.size ∨ LoopBlocks w4 1 b) w4 W2 := (hk.trans (Keeps.of_ext eV)).trans (hk2.mono fun b _ h => .inr h)
  have A22 := A2.keeps hkW (by rintro (h | h); omega; have := h.1; omega)
  have n0 := A22.cell (k := 0) rfl
  have c0 := hC2.cell (k := 0) rfl
  have c1 := hC2.cell (k := 1) rfl
  have c2 := hC2.cell (k := 2) rfl
  have c3 := hC2.cell (k := 3) rfl
  have f0 := hC2.frozen 0
  have f1 := hC2.frozen 1
  have f2 := hC2.frozen 2
  have f3 := hC2.frozen 3
  have q0 := CQ2.cell (k := 0) rfl
  have q1 := CQ2.cell (k := 1) rfl
  have q2 := CQ2.cell (k := 2) rfl
  have q3 := CQ2.cell (k := 3) rfl
  have lC2 := hC2.lt
  have lQ2 := CQ2.lt
  by_cases hkn2 : k = n
  ·subst hkn2
   have ht : ((k : Int) == (k : Int)) = true := by simp
   gi_wp2_with fail
   exact ⟨Keeps.refl _ _, rfl, O, hC2, hO2, oO2, hap, hkW⟩
  ·have ht : ((k : Int) == (n : Int)) = false := by simp; omega
   have hk1 : k + 1 ≤ n := by omega
   have hal : lal T R e y k * (1 - rt T R e (y + (k : Nat))) = lal T R e y (k + 1) := rfl
   have Hal := Lib.hid hal
   have HS1 := Lib.hid (al_sz rs hA k)
   have HS2 := Lib.hid (al_sz rs hA (k + 1))
   have HS3 : Hid (Sz (1 - rt T R e (y + (k : Nat)))) := not_sz (rs.sm k) (by have := (rt T R e (y + (k : Nat))).den_nz; omega) (by have : siz (rt T R e (y + (k : Nat))).den ≤ 1 := siz_one.2 (rs.den k); omega)
   clear hal hkn2
   gi_wp2_with fail
   refine regionInT 4 (fun i => match i with | 2 => some (.f (1 - rt T R e (y + (k : Nat)))) | 3 => some (.f (lal T R e y (k + 1))) | _ => none) (.inr ⟨_, rfl⟩) (by kernel_rfl) (by kernel_rfl) (by kernel_rfl) ?_
   iterate 2
    refine Walk.one (x := ?_) rfl rfl (fun w1 hI hL K hK => ?_) ?_
    rotate_left
    ·obtain ⟨hc, hf⟩ := bcell hI
     go_simp
     repeat (first | (go_ints; try go_simp) | (simp only [↓IntWalk.iteOmega]; try go_simp))
     exact hK
    simp only [Pq1]
   refine Walk.tell rfl rfl (fun w1 hI hL K hK => ?_) ?_
   ·go_simp
    exact (lnot Q _ w1 (hQ2.ext hI) hQs HS3.out).mono (tell hK)
   rintro _ ⟨Z18, rfl⟩
   simp only [Pq1]
   refine Walk.tell rfl rfl (fun w1 hI hL K hK => ?_) ?_
   ·have z := (Tl.getF (kn (i := 2) (v := .agg #[.bool Z18.N.b, .slice Z18.N.p Z18.N.n Z18.N.c, .bool Z18.D.b, .slice Z18.D.p Z18.D.n Z18.D.c]) rfl (by simp) (by kernel_rfl) hL)).1
    clear hL
    go_simp
    rw [← Hal.out] at hK
    exact (ltimes O Z18 _ _ w1 (hO2.ext hI) z HS1.out HS3.out (by have := HS2.out; rwa [show al _ (k + 1) = _ from Hal.out.symm] at this)).mono (tell hK)
   rintro _ ⟨Z19, rfl⟩
   simp only [Pq1]
   refine Walk.nilF fun W5 e5 kzL kzX => ?_
   obtain ⟨hZ, oZ⟩ := Tl.getF (kz (i := 3) (v := .agg #[.bool Z19.N.b, .slice Z19.N.p Z19.N.n Z19.N.c, .bool Z19.D.b, .slice Z19.D.p Z19.D.n Z19.D.c]) rfl (by simp) kzL)
   clear kzL kzX
   have hC5 := hC2.ext e5
   have f0 := hC5.frozen 0
   have f1 := hC5.frozen 1
   have f2 := hC5.frozen 2
   have f3 := hC5.frozen 3
   have c0 := hC5.cell (k := 0) rfl
   have c1 := hC5.cell (k := 1) rfl
   have c2 := hC5.cell (k := 2) rfl
   have c3 := hC5.cell (k := 3) rfl
   simp only [List.drop_succ_cons, List.drop_zero]
   obtain ⟨W6, hW6⟩ : ∃ V, (((W5.setCell ⟨w2.heap.size, 0, none⟩ (.bool Z19.N.b)).setCell ⟨w2.heap.size, 1, none⟩ (.slice Z19.N.p Z19.N.n Z19.N.c)).setCell ⟨w2.heap.size, 2, none⟩ (.bool Z19.D.b)).setCell ⟨w2.heap.size, 3, none⟩ (.slice Z19.D.p Z19.D.n Z19.D.c) = V := ⟨_, rfl⟩
   have hC6 : Cells W6 w2.heap.size 40 #[.bool Z19.N.b, .slice Z19.N.p Z19.N.n Z19.N.c, .bool Z19.D.b, .slice Z19.D.p Z19.D.n Z19.D.c] := by rw [← hW6]; exact Cells.sets [.bool Z19.N.b, .slice Z19.N.p Z19.N.n Z19.N.c, .bool Z19.D.b, .slice Z19.D.p Z19.D.n Z19.D.c] hC5 0
   have hZ6 : FR W6 Z19 (lal T R e y (k + 1)) := by rw [← hW6]; exact FR.sets hZ hC5 (by simp [NoU]) 0 [.bool Z19.N.b, .slice Z19.N.p Z19.N.n Z19.N.c, .bool Z19.D.b, .slice Z19.D.p Z19.D.n Z19.D.c]
   have oZ6 : OF W2.heap.size W6 Z19 := by rw [← hW6]; exact OF.sets oZ hC5 (by decide) 0 [.bool Z19.N.b, .slice Z19.N.p Z19.N.n Z19.N.c, .bool Z19.D.b, .slice Z19.D.p Z19.D.n Z19.D.c]
   have k6 : Keeps (fun b => b = w2.heap.size) W5 W6 := by rw [← hW6]; exact sets_keeps w2.heap.size [.bool Z19.N.b, .slice Z19.N.p Z19.N.n Z19.N.c, .bool Z19.D.b, .slice Z19.D.p Z19.D.n Z19.D.c] W5 0
   gi_wp2_with fail
   clear hW6
   exact ⟨(Keeps.of_ext e5).trans k6, ⟨Z19, hC6, hZ6, oZ6.mono (by have := eW4.size; have := hkW.size; omega), fun b hb h => by have := (oZ.bl b hb).1; have := h.2; have := eV.size; omega, (hkW.trans (Keeps.of_ext e5)).trans (k6.mono fun b _ h => .inl h)⟩, hk1⟩
 case done =>
  rintro W ⟨hOI, hkn⟩ hD
  have hq : lal T R e y (yN T e y + 1) = lal T R e y n := by
   show al _ _ = al _ _
   rw [al_end rs _ (by omega), al_end rs _ (by omega)]
  rw [hq] at hOI
  obtain ⟨O5, hC5, hO5, oO5, hap5, hK5⟩ := hOI
  have c0 := hC5.cell (k := 0) rfl
  have c1 := hC5.cell (k := 1) rfl
  have c2 := hC5.cell (k := 2) rfl
  have c3 := hC5.cell (k := 3) rfl
  have A35 := A3.keeps hK5 (by rintro (h | h); omega; have := h.1; omega)
  have f0 := A35.frozen 0
  have f1 := A35.frozen 1
  have f2 := A35.frozen 2
  have f3 := A35.frozen 3
  have b0 := A35.cell (k := 0) rfl
  have b1 := A35.cell (k := 1) rfl
  have b2 := A35.cell (k := 2) rfl
  have b3 := A35.cell (k := 3) rfl
  obtain ⟨W6, hW6⟩ : ∃ V, (((W.setCell ⟨w.heap.size + 1 + 1, 0, none⟩ (.bool O5.N.b)).setCell ⟨w.heap.size + 1 + 1, 1, none⟩ (.slice O5.N.p O5.N.n O5.N.c)).setCell ⟨w.heap.size + 1 + 1, 2, none⟩ (.bool O5.D.b)).setCell ⟨w.heap.size + 1 + 1, 3, none⟩ (.slice O5.D.p O5.D.n O5.D.c) = V := ⟨_, rfl⟩
  have C6 : Cells W6 (w.heap.size + 1 + 1) 40 #[.bool O5.N.b, .slice O5.N.p O5.N.n O5.N.c, .bool O5.D.b, .slice O5.D.p O5.D.n O5.D.c] := by rw [← hW6]; exact Cells.sets [.bool O5.N.b, .slice O5.N.p O5.N.n O5.N.c, .bool O5.D.b, .slice O5.D.p O5.D.n O5.D.c] A35 0
  have hO6 : FR W6 O5 (lal T R e y n) := by rw [← hW6]; exact FR.sets hO5 A35 (by simp [NoU]) 0 [.bool O5.N.b, .slice O5.N.p O5.N.n O5.N.c, .bool O5.D.b, .slice O5.D.p O5.D.n O5.D.c]
  have oO6 : OF w.heap.size W6 O5 := by rw [← hW6]; exact OF.sets oO5 A35 (by decide) 0 [.bool O5.N.b, .slice O5.N.p O5.N.n O5.N.c, .bool O5.D.b, .slice O5.D.p O5.D.n O5.D.c]
  have k6 : Keeps (fun b => b = w.heap.size + 1 + 1) W W6 := by rw [← hW6]; exact sets_keeps _ [.bool O5.N.b, .slice O5.N.p O5.N.n O5.N.c, .bool O5.D.b, .slice O5.D.p O5.D.n O5.D.c] W 0
  have hD6 : W6.heap[w4.heap.size]? = some (.deferred (some [])) := k6.heap hD (by omega)
  have kk : Keeps (fun b => b = w4.heap.size) W6 (W6.putObj w4.heap.size (.deferred none)) := Keeps.mark (M := fun b => b = w4.heap.size) (Keeps.refl _ _) rfl
  obtain ⟨hO7, oO7⟩ := FR.keepsO hO6 oO6 kk (fun b hb h => hap5 b hb ⟨by omega, by omega⟩)
  have C7 := C6.keeps kk (by omega)
  have s4 := eW4.size
  gi_wp2_with fail
  clear hW6
  have d0 := C7.cell (k := 0) rfl
  have d1 := C7.cell (k := 1) rfl
  have d2 := C7.cell (k := 2) rfl
  have d3 := C7.cell (k := 3) rfl
  refine leave_marked (v := .agg #[.bool O5.N.b, .slice O5.N.p O5.N.n O5.N.c, .bool O5.D.b, .slice O5.D.p O5.D.n O5.D.c]) hD6 (by simp [results, Tryz.results57, go_sem, d0, d1, d2, d3]) (Gv.of_f (X := O5) hO7 oO7 ?_)
  exact Keeps.go (M := fun b => w.heap.size ≤ b) eW4 (((hK5.mono (by rintro b _ (h | h); omega; have := h.1; omega)).trans (k6.mono fun b _ h => by omega)).trans (kk.mono fun b _ h => by omega)) (fun _ h => h)
 case stop =>
  rintro c W ⟨rfl, hOI⟩ hD
  obtain ⟨O5, hC5, hO5, oO5, hap5, hK5⟩ := hOI
  have c0 := hC5.cell (k := 0) rfl
  have c1 := hC5.cell (k := 1) rfl
  have c2 := hC5.cell (k := 2) rfl
  have c3 := hC5.cell (k := 3) rfl
  have A35 := A3.keeps hK5 (by rintro (h | h); omega; have := h.1; omega)
  have f0 := A35.frozen 0
  have f1 := A35.frozen 1
  have f2 := A35.frozen 2
  have f3 := A35.frozen 3
  have b0 := A35.cell (k := 0) rfl
  have b1 := A35.cell (k := 1) rfl
  have b2 := A35.cell (k := 2) rfl
  have b3 := A35.cell (k := 3) rfl
  obtain ⟨W6, hW6⟩ : ∃ V, (((W.setCell ⟨w.heap.size + 1 + 1, 0, none⟩ (.bool O5.N.b)).setCell ⟨w.heap.size + 1 + 1, 1, none⟩ (.slice O5.N.p O5.N.n O5.N.c)).setCell ⟨w.heap.size + 1 + 1, 2, none⟩ (.bool O5.D.b)).setCell ⟨w.heap.size + 1 + 1, 3, none⟩ (.slice O5.D.p O5.D.n O5.D.c) = V := ⟨_, rfl⟩
  have C6 : Cells W6 (w.heap.size + 1 + 1) 40 #[.bool O5.N.b, .slice O5.N.p O5.N.n O5.N.c, .bool O5.D.b, .slice O5.D.p O5.D.n O5.D.c] := by rw [← hW6]; exact Cells.sets [.bool O5.N.b, .slice O5.N.p O5.N.n O5.N.c, .bool O5.D.b, .slice O5.D.p O5.D.n O5.D.c] A35 0
  have hO6 : FR W6 O5 (lal T R e y n) := by rw [← hW6]; exact FR.sets hO5 A35 (by simp [NoU]) 0 [.bool O5.N.b, .slice O5.N.p O5.N.n O5.N.c, .bool O5.D.b, .slice O5.D.p O5.D.n O5.D.c]
  have oO6 : OF w.heap.size W6 O5 := by rw [← hW6]; exact OF.sets oO5 A35 (by decide) 0 [.bool O5.N.b, .slice O5.N.p O5.N.n O5.N.c, .bool O5.D.b, .slice O5.D.p O5.D.n O5.D.c]
  have k6 : Keeps (fun b => b = w.heap.size + 1 + 1) W W6 := by rw [← hW6]; exact sets_keeps _ [.bool O5.N.b, .slice O5.N.p O5.N.n O5.N.c, .bool O5.D.b, .slice O5.D.p O5.D.n O5.D.c] W 0
  have hD6 : W6.heap[w4.heap.size]? = some (.deferred (some [])) := k6.heap hD (by omega)
  have kk : Keeps (fun b => b = w4.heap.size) W6 (W6.putObj w4.heap.size (.deferred none)) := Keeps.mark (M := fun b => b = w4.heap.size) (Keeps.refl _ _) rfl
  obtain ⟨hO7, oO7⟩ := FR.keepsO hO6 oO6 kk (fun b hb h => hap5 b hb ⟨by omega, by omega⟩)
  have C7 := C6.keeps kk (by omega)
  have s4 := eW4.size
  gi_wp2_with fail
  clear hW6
  have d0 := C7.cell (k := 0) rfl
  have d1 := C7.cell (k := 1) rfl
  have d2 := C7.cell (k := 2) rfl
  have d3 := C7.cell (k := 3) rfl
  refine leave_marked (v := .agg #[.bool O5.N.b, .slice O5.N.p O5.N.n O5.N.c, .bool O5.D.b, .slice O5.D.p O5.D.n O5.D.c]) hD6 (by simp [results, Tryz.results57, go_sem, d0, d1, d2, d3]) (Gv.of_f (X := O5) hO7 oO7 ?_)
  exact Keeps.go (M := fun b => w.heap.size ≤ b) eW4 (((hK5.mono (by rintro b _ (h | h); omega; have := h.1; omega)).trans (k6.mono fun b _ h => by omega)).trans (kk.mono fun b _ h => by omega)) (fun _ h => h)
end Go.Proofs.YtndgaecfeaedeaaGreat
