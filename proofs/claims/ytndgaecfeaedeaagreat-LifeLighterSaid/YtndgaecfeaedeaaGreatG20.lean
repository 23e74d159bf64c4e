/- Walks of package life: Expect. If no rate is less, no probability of being alive is greater. No condition: plain laws of numbers. A table in memory of its own, whose rates may be written. No condition: laws on the model's worlds. Walks of the law on lives: its small functions. -/
import Derived.Test.YtndgaecfeaedeaaGreatG16
import Derived.Test.YtndgaecfeaedeaaGreatG19
namespace Go.Proofs.YtndgaecfeaedeaaGreat
set_option linter.unusedSimpArgs false
set_option linter.unusedVariables false
open Go.RowKit Lex Mth
attribute [local go_sem] run_indexAt_at add_zero_map Oper.semAt_some at_zero at_add at_mk1 at_mk2 at_mk3

/-- The expected number of complete years. -/
def lex (T : Tb) (R : Nat → Nat → Rat) (e y : Int) : Rat := es (fun k => rt T R e (y + (k : Nat))) (yN T e y + 1)
/-- What the loop has gathered: the sum in the box g, the probability in the box g'. -/
def EI (g g' : Nat) (q q' : Rat) (B : Nat) (w4 W : World) : Prop := ∃ O O' : Fr, Cells W g 40 #[.bool O.N.b, .slice O.N.p O.N.n O.N.c, .bool O.D.b, .slice O.D.p O.D.n O.D.c] ∧ FR W O q ∧ OF B W O ∧ (∀ b ∈ Bl O.val, ¬ LoopBlocks w4 1 b) ∧ Cells W g' 40 #[.bool O'.N.b, .slice O'.N.p O'.N.n O'.N.c, .bool O'.D.b, .slice O'.D.p O'.D.n O'.D.c] ∧ FR W O' q' ∧ OF B W O' ∧ (∀ b ∈ Bl O'.val, ¬ LoopBlocks w4 1 b) ∧ Keeps (fun b => (b = g ∨ b = g') ∨ LoopBlocks w4 1 b) w4 W
theorem EI.keeps {g g' : Nat} {q q' : Rat} {B : Nat} {w4 A C : World} (h : EI g g' q q' B w4 A) (k : Keeps (LoopBlocks w4 1) A C) (hg : ¬ LoopBlocks w4 1 g) (hg' : ¬ LoopBlocks w4 1 g') : EI g g' q q' B w4 C := by
  obtain ⟨O, O', h1, h2, h3, h4, k1, k2, k3, k4, h7⟩ := h
  obtain ⟨a, b⟩ := FR.keepsO h2 h3 k h4
  obtain ⟨a', b'⟩ := FR.keepsO k2 k3 k k4
  exact ⟨O, O', h1.keeps k hg, a, b, h4, k1.keeps k hg', a', b', k4, h7.trans (k.mono fun b _ h => .inr h)⟩

set_option maxRecDepth 100000 in
set_option maxHeartbeats 2000000 in
theorem lExpect (T : Tb) (R : Nat → Nat → Rat) (e y : Int) (w : World) (hT : TQ w T R) (hok : okL T e y = true) :
    Calls Tryz.prog 19 #[.agg #[.int .i64 T.first, .int .i64 T.sel, .slice T.P T.N T.C], .agg #[.int .i64 e, .int .i64 y]] w (Gv (.fe (lex T R e y) 0) w) := by
  obtain ⟨h1, h2, h3, h4⟩ : T.first ≤ e ∧ e ≤ T.first + (T.N : Int) - 1 ∧ 0 ≤ y ∧ y ≤ 500 := by
    unfold okL at hok
    simp only [Bool.and_eq_true, decide_eq_true_eq] at hok
    exact ⟨hok.1.1.1.2, hok.1.1.2, hok.1.2, by omega⟩
  have rs := rs_rt hT h1 h2 h3
  have hA := yN_le hT h1 h3
  have Hok := Lib.hid hok
  clear hok
  refine (callsIn_wide (n := 2)).1 ?_
  refine callsIn_of_wp_marks Tryz.func19 rfl trivial ?_ rfl
  simp only [Tryz.ntmps19, List.size_toArray, List.length_cons, List.length_nil, Nat.reduceAdd, Nat.reduceSub, Array.replicate_succ, Array.replicate_zero, List.push_toArray, List.append_toArray, List.nil_append, List.cons_append]
  obtain ⟨w1, hw1⟩ : ∃ W, ((w.alloc (.cells #[.int .i64 T.first, .int .i64 T.sel, .slice T.P T.N T.C] 24)).alloc (.cells #[.int .i64 e, .int .i64 y] 26)).alloc (.cells #[.bool false, .slice none 0 0, .bool false, .slice none 0 0] 40) = W := ⟨_, rfl⟩
  have e1 : Ext w w1 := by rw [← hw1]; exact eg (eg (ea _ _) (ea _ _)) (ea _ _)
  have A1 : Cells w1 w.heap.size 24 #[.int .i64 T.first, .int .i64 T.sel, .slice T.P T.N T.C] := by rw [← hw1]; exact ((Cells.newAt _ _ rfl).alloc _).alloc _
  have AL : Cells w1 (w.heap.size + 1) 26 #[.int .i64 e, .int .i64 y] := by rw [← hw1]; exact (Cells.newAt _ _ (by simp)).alloc _
  have A3 : Cells w1 (w.heap.size + 1 + 1) 40 #[.bool false, .slice none 0 0, .bool false, .slice none 0 0] := by rw [← hw1]; exact Cells.newAt _ _ (by simp)
  have a0 := A1.cell (k := 0) rfl
  have a1 := A1.cell (k := 1) rfl
  have a2 := A1.cell (k := 2) rfl
  have a3 := AL.cell (k := 0) rfl
  have a4 := AL.cell (k := 1) rfl
  have l30 := A3.lt
  gi_wp2_with fail
  clear hw1 a0 a1 a2 a3 a4
  refine Go_wide (lRight T e y w1 (hT.tw.ext e1) (okL_ey Hok.out) Hok.out) ?_
  intro ee w1b gg
  obtain ⟨rfl, e1b⟩ := Gv.v gg
  replace A1 := A1.ext e1b
  replace AL := AL.ext e1b
  replace A3 := A3.ext e1b
  gi_wp2_with fail
  refine Go_wide (fFromInt_0 w1b) ?_
  intro ee w2 gg
  obtain ⟨O, rfl, hO, oO, e2⟩ := Gv.f gg
  gi_wp2_with fail
  refine Go_wide (fFromInt_1 w2) ?_
  intro ee w2c gg
  obtain ⟨O', rfl, hO', oO', e2c⟩ := Gv.f gg
  obtain ⟨w3, hw3⟩ : ∃ W, (w2c.alloc (.cells #[.bool O.N.b, .slice O.N.p O.N.n O.N.c, .bool O.D.b, .slice O.D.p O.D.n O.D.c] 40)).alloc (.cells #[.bool O'.N.b, .slice O'.N.p O'.N.n O'.N.c, .bool O'.D.b, .slice O'.D.p O'.D.n O'.D.c] 40) = W := ⟨_, rfl⟩
  have e3 : Ext w2c w3 := by rw [← hw3]; exact eg (ea _ _) (ea _ _)
  have A4 : Cells w3 w2c.heap.size 40 #[.bool O.N.b, .slice O.N.p O.N.n O.N.c, .bool O.D.b, .slice O.D.p O.D.n O.D.c] := by rw [← hw3]; exact (Cells.newAt _ _ rfl).alloc _
  have A5 : Cells w3 (w2c.heap.size + 1) 40 #[.bool O'.N.b, .slice O'.N.p O'.N.n O'.N.c, .bool O'.D.b, .slice O'.D.p O'.D.n O'.D.c] := by rw [← hw3]; exact Cells.newAt _ _ (by simp)
  have l43 := A5.lt
  have e23 := eg (eg e2 e2c) e3
  replace A1 := A1.ext e23
  replace AL := AL.ext e23
  replace A3 := A3.ext e23
  replace hO := hO.ext (eg e2c e3)
  replace oO := oO.ext (eg e2c e3)
  replace hO' := hO'.ext e3
  replace oO' := oO'.ext e3
  have eW3 := eg (eg e1 e1b) e23
  have a0 := A1.cell (k := 0) rfl
  have a1 := A1.cell (k := 1) rfl
  have a2 := A1.cell (k := 2) rfl
  have a3 := AL.cell (k := 0) rfl
  have a4 := AL.cell (k := 1) rfl
  gi_wp2_with fail
  clear hw3 a0 a1 a2 a3 a4
  refine Go_wide (lyears T e y w3) ?_
  rintro ee w4 ⟨Bs, rfl, hBs, hBge, e4⟩
  replace A3 := A3.ext e4
  replace A4 := A4.ext e4
  replace A5 := A5.ext e4
  replace hO := hO.ext e4
  replace oO := oO.ext e4
  replace hO' := hO'.ext e4
  replace oO' := oO'.ext e4
  have eW4 := eg eW3 e4
  have l3 := A3.lt
  have l4 := A4.lt
  have l5 := A5.lt
  have lBs := hBs.lt
  have s1 := e1.size
  have s1b := e1b.size
  have s2 := e2.size
  have s2c := e2c.size
  have hob := oO.bl
  have hob' := oO'.bl
  have hLg : ¬ LoopBlocks w4 1 w2c.heap.size := fun h => by have := h.1; omega
  have hLg' : ¬ LoopBlocks w4 1 (w2c.heap.size + 1) := fun h => by have := h.1; omega
  gi_wp2_with fail
  refine wp_range (gf := 97) rfl (enters_of Tryz.func97 (by kernel_rfl) rfl)
    (years_gives T R e y w hT h1 h2 h3 h4 Bs (fun b => b = w2c.heap.size ∨ b = w2c.heap.size + 1) w4 eW4 hBs (by omega) (fun b hb => by have := eW3.size; omega))
    (Below.refl _ _) (fun _ k vs W hV => by obtain ⟨Q, rfl, _⟩ := hV; rfl) (fun b hb h => by have h1 := h.1; omega)
    (fun k W => EI w2c.heap.size (w2c.heap.size + 1) (es (fun k => rt T R e (y + (k : Nat))) k) (lal T R e y k) w.heap.size w4 W)
    (fun _ _ => False)
    (fun k A C h hk => h.keeps hk hLg hLg')
    (fun c A C h hk => h)
    ⟨O, O', A4, hO, oO.mono (by omega), fun b hb h => by have := (hob b hb).2; have := h.1; omega, A5, hO', oO'.mono (by omega), fun b hb h => by have := (hob' b hb).2; have := h.1; omega, Keeps.refl _ _⟩ (fun _ _ _ => trivial) ?round ?done ?stop
  case round =>
    rintro l k vs W ⟨O, O', hC, hO, oO, hap, hC', hO', oO', hap', hk⟩ hkN ⟨Q, rfl, hQ, oQ, hQs⟩ hWs K hK
    obtain ⟨V1, hV1⟩ : ∃ V, W.alloc (.cells #[.bool Q.N.b, .slice Q.N.p Q.N.n Q.N.c, .bool Q.D.b, .slice Q.D.p Q.D.n Q.D.c] 40) = V := ⟨_, rfl⟩
    have eV : Ext W V1 := by rw [← hV1]; exact ea _ _
    have CQ : Cells V1 W.heap.size 40 #[.bool Q.N.b, .slice Q.N.p Q.N.n Q.N.c, .bool Q.D.b, .slice Q.D.p Q.D.n Q.D.c] := by rw [← hV1]; exact Cells.newAt _ _ rfl
    have lC := hC.lt
    have lC' := hC'.lt
    gi_wp2
    refine hK _ _ (Keeps.of_ext eV) ?_
    clear hK hV1
    intro W2 hk2 hs2
    have hs3 := Nat.le_of_eq hs2
    have hs4 := Nat.le_of_eq hs2.symm
    clear hs2
    have hQb : ∀ b ∈ Bl Q.val, ¬ LoopBlocks w4 1 b := fun b hb h => by have := (oQ.bl b hb).1; have := h.2; omega
    obtain ⟨hO2, oO2⟩ := FR.keepsO (hO.ext eV) (oO.ext eV) hk2 hap
    obtain ⟨hO2', oO2'⟩ := FR.keepsO (hO'.ext eV) (oO'.ext eV) hk2 hap'
    obtain ⟨hQ2, oQ2⟩ := FR.keepsO (hQ.ext eV) (oQ.ext eV) hk2 hQb
    have hC2 := (hC.ext eV).keeps hk2 hLg
    have hC2' := (hC'.ext eV).keeps hk2 hLg'
    have CQ2 := CQ.keeps hk2 (fun h => by have := h.2; omega)
    have hkW : Keeps (fun b => (b = w2c.heap.size ∨ b = w2c.heap.size + 1) ∨ LoopBlocks w4 1 b) w4 W2 := (hk.trans (Keeps.of_ext eV)).trans (hk2.mono fun b _ h => .inr h)
    have c0 := hC2'.cell (k := 0) rfl
    have c1 := hC2'.cell (k := 1) rfl
    have c2 := hC2'.cell (k := 2) rfl
    have c3 := hC2'.cell (k := 3) rfl
    have q0 := CQ2.cell (k := 0) rfl
    have q1 := CQ2.cell (k := 1) rfl
    have q2 := CQ2.cell (k := 2) rfl
    have q3 := CQ2.cell (k := 3) rfl
    have lC2 := hC2'.lt
    have lQ2 := CQ2.lt
    have hal : lal T R e y k * (1 - rt T R e (y + (k : Nat))) = lal T R e y (k + 1) := rfl
    have hes : es (fun k => rt T R e (y + (k : Nat))) k + lal T R e y (k + 1) = es (fun k => rt T R e (y + (k : Nat))) (k + 1) := rfl
    have Hal := Lib.hid hal
    have Hes := Lib.hid hes
    have HS1 := Lib.hid (al_sz rs hA k)
    have HS2 := Lib.hid (al_sz rs hA (k + 1))
    have HE1 := Lib.hid (es_sz rs hA k (by omega))
    have HE2 := Lib.hid (es_sz rs hA (k + 1) (by omega))
    have HS3 : Hid (Sz (1 - rt T R e (y + (k : Nat)))) := not_sz (rs.sm k) (by have := (rt T R e (y + (k : Nat))).den_nz; omega) (by have : siz (rt T R e (y + (k : Nat))).den ≤ 1 := siz_one.2 (rs.den k); omega)
    clear hal hes
    gi_wp2_with fail
    refine regionInT 4 (fun i => match i with | 2 => some (.f (1 - rt T R e (y + (k : Nat)))) | 3 => some (.f (lal T R e y (k + 1))) | _ => none) (.inr ⟨_, rfl⟩) (by kernel_rfl) (by kernel_rfl) (by kernel_rfl) ?_
    iterate 2
      refine Walk.one (x := ?_) rfl rfl (fun w1 hI hL K hK => ?_) ?_
      rotate_left
      · obtain ⟨hc, hf⟩ := bcell hI
        go_simp
        repeat (first | (go_ints; try go_simp) | (simp only [↓IntWalk.iteOmega]; try go_simp))
        exact hK
      simp only [Act.put, List.setIfInBounds_toArray, List.set_cons_zero, List.set_cons_succ]
    refine Walk.tell rfl rfl (fun w1 hI hL K hK => ?_) ?_
    · go_simp
      exact (lnot Q _ w1 (hQ2.ext hI) hQs HS3.out).mono (tell hK)
    rintro _ ⟨Z18, rfl⟩
    simp only [Act.put, List.setIfInBounds_toArray, List.set_cons_zero, List.set_cons_succ]
    refine Walk.tell rfl rfl (fun w1 hI hL K hK => ?_) ?_
    · have z := (Tl.getF (kn (i := 2) (v := .agg #[.bool Z18.N.b, .slice Z18.N.p Z18.N.n Z18.N.c, .bool Z18.D.b, .slice Z18.D.p Z18.D.n Z18.D.c]) rfl (by simp) (by kernel_rfl) hL)).1
      clear hL
      go_simp
      rw [← Hal.out] at hK
      exact (ltimes O' Z18 _ _ w1 (hO2'.ext hI) z HS1.out HS3.out (by have := HS2.out; rwa [show al _ (k + 1) = _ from Hal.out.symm] at this)).mono (tell hK)
    rintro _ ⟨Z19, rfl⟩
    simp only [Act.put, List.setIfInBounds_toArray, List.set_cons_zero, List.set_cons_succ]
    refine Walk.nilF fun W5 e5 kzL kzX => ?_
    obtain ⟨hZ, oZ⟩ := Tl.getF (kz (i := 3) (v := .agg #[.bool Z19.N.b, .slice Z19.N.p Z19.N.n Z19.N.c, .bool Z19.D.b, .slice Z19.D.p Z19.D.n Z19.D.c]) rfl (by simp) kzL)
    clear kzL kzX
    have hC5 := hC2'.ext e5
    have hG5 := hC2.ext e5
    have f0 := hC5.frozen 0
    have f1 := hC5.frozen 1
    have f2 := hC5.frozen 2
    have f3 := hC5.frozen 3
    have c0 := hC5.cell (k := 0) rfl
    have c1 := hC5.cell (k := 1) rfl
    have c2 := hC5.cell (k := 2) rfl
    have c3 := hC5.cell (k := 3) rfl
    simp only [List.drop_succ_cons, List.drop_zero]
    obtain ⟨W6, hW6⟩ : ∃ V, ((((W5).setCell ⟨w2c.heap.size + 1, 0, none⟩ (.bool Z19.N.b)).setCell ⟨w2c.heap.size + 1, 1, none⟩ (.slice Z19.N.p Z19.N.n Z19.N.c)).setCell ⟨w2c.heap.size + 1, 2, none⟩ (.bool Z19.D.b)).setCell ⟨w2c.heap.size + 1, 3, none⟩ (.slice Z19.D.p Z19.D.n Z19.D.c) = V := ⟨_, rfl⟩
    have hC6 : Cells W6 (w2c.heap.size + 1) 40 #[.bool Z19.N.b, .slice Z19.N.p Z19.N.n Z19.N.c, .bool Z19.D.b, .slice Z19.D.p Z19.D.n Z19.D.c] := by rw [← hW6]; exact Cells.sets [.bool Z19.N.b, .slice Z19.N.p Z19.N.n Z19.N.c, .bool Z19.D.b, .slice Z19.D.p Z19.D.n Z19.D.c] hC5 0
    have hG6 : Cells W6 w2c.heap.size 40 #[.bool O.N.b, .slice O.N.p O.N.n O.N.c, .bool O.D.b, .slice O.D.p O.D.n O.D.c] := by rw [← hW6]; exact Cells.off hG5 (b' := w2c.heap.size + 1) (by omega) 0 [.bool Z19.N.b, .slice Z19.N.p Z19.N.n Z19.N.c, .bool Z19.D.b, .slice Z19.D.p Z19.D.n Z19.D.c]
    have hZ6 : FR W6 Z19 (lal T R e y (k + 1)) := by rw [← hW6]; exact FR.sets hZ hC5 (by simp [NoU]) 0 [.bool Z19.N.b, .slice Z19.N.p Z19.N.n Z19.N.c, .bool Z19.D.b, .slice Z19.D.p Z19.D.n Z19.D.c]
    have oZ6 : OF W2.heap.size W6 Z19 := by rw [← hW6]; exact OF.sets oZ hC5 (by decide) 0 [.bool Z19.N.b, .slice Z19.N.p Z19.N.n Z19.N.c, .bool Z19.D.b, .slice Z19.D.p Z19.D.n Z19.D.c]
    have hO6 : FR W6 O (es (fun k => rt T R e (y + (k : Nat))) k) := by rw [← hW6]; exact FR.sets (hO2.ext e5) hC5 (by simp [NoU]) 0 [.bool Z19.N.b, .slice Z19.N.p Z19.N.n Z19.N.c, .bool Z19.D.b, .slice Z19.D.p Z19.D.n Z19.D.c]
    have k6 : Keeps (fun b => b = w2c.heap.size + 1) W5 W6 := by rw [← hW6]; exact sets_keeps (w2c.heap.size + 1) [.bool Z19.N.b, .slice Z19.N.p Z19.N.n Z19.N.c, .bool Z19.D.b, .slice Z19.D.p Z19.D.n Z19.D.c] W5 0
    have g0 := hG6.cell (k := 0) rfl
    have g1 := hG6.cell (k := 1) rfl
    have g2 := hG6.cell (k := 2) rfl
    have g3 := hG6.cell (k := 3) rfl
    have z0 := hC6.cell (k := 0) rfl
    have z1 := hC6.cell (k := 1) rfl
    have z2 := hC6.cell (k := 2) rfl
    have z3 := hC6.cell (k := 3) rfl
    gi_wp2_with fail
    clear hW6

    refine Go_round (lplus O Z19 _ _ W6 hO6 hZ6 HE1.out HS2.out (by rw [Hes.out]; exact HE2.out)) ?_
    intro ee W7 gg
    obtain ⟨Z29, rfl, hY, oY, e7⟩ := Gv.f gg
    have hG7 := hG6.ext e7
    have hC7 := hC6.ext e7
    have f0 := hG7.frozen 0
    have f1 := hG7.frozen 1
    have f2 := hG7.frozen 2
    have f3 := hG7.frozen 3
    have c0 := hG7.cell (k := 0) rfl
    have c1 := hG7.cell (k := 1) rfl
    have c2 := hG7.cell (k := 2) rfl
    have c3 := hG7.cell (k := 3) rfl
    obtain ⟨W8, hW8⟩ : ∃ V, ((((W7).setCell ⟨w2c.heap.size, 0, none⟩ (.bool Z29.N.b)).setCell ⟨w2c.heap.size, 1, none⟩ (.slice Z29.N.p Z29.N.n Z29.N.c)).setCell ⟨w2c.heap.size, 2, none⟩ (.bool Z29.D.b)).setCell ⟨w2c.heap.size, 3, none⟩ (.slice Z29.D.p Z29.D.n Z29.D.c) = V := ⟨_, rfl⟩
    have hG8 : Cells W8 w2c.heap.size 40 #[.bool Z29.N.b, .slice Z29.N.p Z29.N.n Z29.N.c, .bool Z29.D.b, .slice Z29.D.p Z29.D.n Z29.D.c] := by rw [← hW8]; exact Cells.sets [.bool Z29.N.b, .slice Z29.N.p Z29.N.n Z29.N.c, .bool Z29.D.b, .slice Z29.D.p Z29.D.n Z29.D.c] hG7 0
    have hC8 : Cells W8 (w2c.heap.size + 1) 40 #[.bool Z19.N.b, .slice Z19.N.p Z19.N.n Z19.N.c, .bool Z19.D.b, .slice Z19.D.p Z19.D.n Z19.D.c] := by rw [← hW8]; exact Cells.off hC7 (b' := w2c.heap.size) (by omega) 0 [.bool Z29.N.b, .slice Z29.N.p Z29.N.n Z29.N.c, .bool Z29.D.b, .slice Z29.D.p Z29.D.n Z29.D.c]
    have hY8 : FR W8 Z29 (es (fun k => rt T R e (y + (k : Nat))) k + lal T R e y (k + 1)) := by rw [← hW8]; exact FR.sets hY hG7 (by simp [NoU]) 0 [.bool Z29.N.b, .slice Z29.N.p Z29.N.n Z29.N.c, .bool Z29.D.b, .slice Z29.D.p Z29.D.n Z29.D.c]
    have oY8 : OF W6.heap.size W8 Z29 := by rw [← hW8]; exact OF.sets oY hG7 (by decide) 0 [.bool Z29.N.b, .slice Z29.N.p Z29.N.n Z29.N.c, .bool Z29.D.b, .slice Z29.D.p Z29.D.n Z29.D.c]
    have hZ8 : FR W8 Z19 (lal T R e y (k + 1)) := by rw [← hW8]; exact FR.sets (hZ6.ext e7) hG7 (by simp [NoU]) 0 [.bool Z29.N.b, .slice Z29.N.p Z29.N.n Z29.N.c, .bool Z29.D.b, .slice Z29.D.p Z29.D.n Z29.D.c]
    have oZ8 : OF W2.heap.size W8 Z19 := by rw [← hW8]; exact OF.sets (oZ6.ext e7) hG7 (by decide) 0 [.bool Z29.N.b, .slice Z29.N.p Z29.N.n Z29.N.c, .bool Z29.D.b, .slice Z29.D.p Z29.D.n Z29.D.c]
    have k8 : Keeps (fun b => b = w2c.heap.size) W7 W8 := by rw [← hW8]; exact sets_keeps w2c.heap.size [.bool Z29.N.b, .slice Z29.N.p Z29.N.n Z29.N.c, .bool Z29.D.b, .slice Z29.D.p Z29.D.n Z29.D.c] W7 0
    have kAll : Keeps (fun b => b = w2c.heap.size ∨ b = w2c.heap.size + 1) W2 W8 := (((Keeps.of_ext e5).trans (k6.mono fun b _ h => .inr h)).trans (Keeps.of_ext e7)).trans (k8.mono fun b _ h => .inl h)
    have s4 := eW4.size
    have s5 := hkW.size
    have s6 := eV.size
    have s7 := e5.size
    have s8 := k6.size
    gi_wp2_with fail
    clear hW8
    exact ⟨kAll, Z29, Z19, hG8, hY8, oY8.mono (by omega), fun b hb h => by have := (oY.bl b hb).1; have := h.2; omega, hC8, hZ8, oZ8.mono (by omega), fun b hb h => by have := (oZ.bl b hb).1; have := h.2; omega, hkW.trans (kAll.mono fun b _ h => .inl h)⟩
  case done =>
    rintro W ⟨O5, O6, hC5, hO5, oO5, hap5, _, _, _, _, hK5⟩ hD
    have c0 := hC5.cell (k := 0) rfl
    have c1 := hC5.cell (k := 1) rfl
    have c2 := hC5.cell (k := 2) rfl
    have c3 := hC5.cell (k := 3) rfl
    have A35 := A3.keeps hK5 (by rintro (h | h); omega; have := h.1; omega)
    have f0 := A35.frozen 0
    have f1 := A35.frozen 1
    have f2 := A35.frozen 2
    have f3 := A35.frozen 3
    have b0 := A35.cell (k := 0) rfl
    have b1 := A35.cell (k := 1) rfl
    have b2 := A35.cell (k := 2) rfl
    have b3 := A35.cell (k := 3) rfl
    obtain ⟨W6, hW6⟩ : ∃ V, ((((W).setCell ⟨w.heap.size + 1 + 1, 0, none⟩ (.bool O5.N.b)).setCell ⟨w.heap.size + 1 + 1, 1, none⟩ (.slice O5.N.p O5.N.n O5.N.c)).setCell ⟨w.heap.size + 1 + 1, 2, none⟩ (.bool O5.D.b)).setCell ⟨w.heap.size + 1 + 1, 3, none⟩ (.slice O5.D.p O5.D.n O5.D.c) = V := ⟨_, rfl⟩
    have C6 : Cells W6 (w.heap.size + 1 + 1) 40 #[.bool O5.N.b, .slice O5.N.p O5.N.n O5.N.c, .bool O5.D.b, .slice O5.D.p O5.D.n O5.D.c] := by rw [← hW6]; exact Cells.sets [.bool O5.N.b, .slice O5.N.p O5.N.n O5.N.c, .bool O5.D.b, .slice O5.D.p O5.D.n O5.D.c] A35 0
    have hO6 : FR W6 O5 (lex T R e y) := by rw [← hW6]; exact FR.sets hO5 A35 (by simp [NoU]) 0 [.bool O5.N.b, .slice O5.N.p O5.N.n O5.N.c, .bool O5.D.b, .slice O5.D.p O5.D.n O5.D.c]
    have oO6 : OF w.heap.size W6 O5 := by rw [← hW6]; exact OF.sets oO5 A35 (by decide) 0 [.bool O5.N.b, .slice O5.N.p O5.N.n O5.N.c, .bool O5.D.b, .slice O5.D.p O5.D.n O5.D.c]
    have k6 : Keeps (fun b => b = w.heap.size + 1 + 1) W W6 := by rw [← hW6]; exact sets_keeps _ [.bool O5.N.b, .slice O5.N.p O5.N.n O5.N.c, .bool O5.D.b, .slice O5.D.p O5.D.n O5.D.c] W 0
    have hD6 : W6.heap[w4.heap.size]? = some (.deferred (some [])) := k6.heap hD (by omega)
    have kk : Keeps (fun b => b = w4.heap.size) W6 (W6.putObj w4.heap.size (.deferred none)) := Keeps.mark (M := fun b => b = w4.heap.size) (Keeps.refl _ _) rfl
    obtain ⟨hO7, oO7⟩ := FR.keepsO hO6 oO6 kk (fun b hb h => hap5 b hb ⟨by omega, by omega⟩)
    have C7 := C6.keeps kk (by omega)
    have s4 := eW4.size
    gi_wp2_with fail
    clear hW6
    have d0 := C7.cell (k := 0) rfl
    have d1 := C7.cell (k := 1) rfl
    have d2 := C7.cell (k := 2) rfl
    have d3 := C7.cell (k := 3) rfl
    refine leave_marked (v := .tuple #[.agg #[.bool O5.N.b, .slice O5.N.p O5.N.n O5.N.c, .bool O5.D.b, .slice O5.D.p O5.D.n O5.D.c], .int .i64 0]) hD6 (by simp [results, Tryz.results19, go_sem, d0, d1, d2, d3]) (Gv.of_fe (X := O5) hO7 oO7 ?_)
    exact Keeps.go (M := fun b => w.heap.size ≤ b) eW4 (((hK5.mono (by rintro b _ (h | h); omega; have := h.1; omega)).trans (k6.mono fun b _ h => by omega)).trans (kk.mono fun b _ h => by omega)) (fun _ h => h)
  case stop =>
    intro c W h
    exact h.elim
end Go.Proofs.YtndgaecfeaedeaaGreat

namespace Go.Proofs.YtndgaecfeaedeaaGreat
set_option linter.unusedSimpArgs false
set_option linter.unusedVariables false
open Mth

theorem mul_le {a b c d : Rat} (h1 : a ≤ b) (h2 : c ≤ d) (h3 : 0 ≤ b) (h4 : 0 ≤ c) : a * c ≤ b * d :=
  Rat.le_trans (Rat.mul_le_mul_of_nonneg_right h1 h4) (Rat.mul_le_mul_of_nonneg_left h2 h3)
theorem al_worse {r r' : Nat → Rat} {A A' : Nat} (h : RS r A) (h' : RS r' A') (hle : ∀ k, r k ≤ r' k) : ∀ n, al r' n ≤ al r n
  | 0 => Rat.le_refl
  | n + 1 => by
    rw [al, al]
    have h1 := hle n
    have h2 := h'.le n
    exact mul_le (al_worse h h' hle n) (by grind) (al_nonneg h n) (by grind)
theorem es_worse {r r' : Nat → Rat} {A A' : Nat} (h : RS r A) (h' : RS r' A') (hle : ∀ k, r k ≤ r' k) : ∀ n, es r' n ≤ es r n
  | 0 => Rat.le_refl
  | n + 1 => by
    rw [es, es]
    have h1 := es_worse h h' hle n
    have h2 := al_worse h h' hle (n + 1)
    grind
/-- A table none of whose rates is less than the other's. -/
structure Worse (T T' : Tb) (R R' : Nat → Nat → Rat) : Prop where
  first : T'.first = T.first
  sel : T'.sel = T.sel
  N : T'.N = T.N
  le : ∀ k, k < T.N → ∀ j : Nat, (j : Int) ≤ T.sel → R k j ≤ R' k j
theorem rt_worse {w w' : World} {T T' : Tb} {R R' : Nat → Nat → Rat} (hT : TQ w T R) (hT' : TQ w' T' R') (h : Worse T T' R R') {e y : Int} (h1 : T.first ≤ e) (h2 : e ≤ T.first + (T.N : Int) - 1) (h3 : 0 ≤ y) : rt T R e y ≤ rt T' R' e y := by
  have hb := hT.b
  unfold boundsOk at hb
  unfold rt
  rw [h.first, h.sel, h.N]
  split
  · exact Rat.le_refl
  · split
    · exact h.le _ (by omega) _ (by omega)
    · exact h.le _ (by omega) _ (by omega)
theorem lal_worse {w w' : World} {T T' : Tb} {R R' : Nat → Nat → Rat} (hT : TQ w T R) (hT' : TQ w' T' R') (h : Worse T T' R R') {e y : Int} (h1 : T.first ≤ e) (h2 : e ≤ T.first + (T.N : Int) - 1) (h3 : 0 ≤ y) (n : Nat) : lal T' R' e y n ≤ lal T R e y n :=
  al_worse (rs_rt hT h1 h2 h3) (rs_rt hT' (by rw [h.first]; exact h1) (by rw [h.first, h.N]; exact h2) h3) (fun k => rt_worse hT hT' h h1 h2 (by omega)) n
theorem lex_worse {w w' : World} {T T' : Tb} {R R' : Nat → Nat → Rat} (hT : TQ w T R) (hT' : TQ w' T' R') (h : Worse T T' R R') {e y : Int} (h1 : T.first ≤ e) (h2 : e ≤ T.first + (T.N : Int) - 1) (h3 : 0 ≤ y) : lex T' R' e y ≤ lex T R e y := by
  unfold lex
  rw [show yN T' e y = yN T e y by unfold yN; rw [h.first, h.N]]
  exact es_worse (rs_rt hT h1 h2 h3) (rs_rt hT' (by rw [h.first]; exact h1) (by rw [h.first, h.N]; exact h2) h3) (fun k => rt_worse hT hT' h h1 h2 (by omega)) _
theorem cmpQ_ge {x y : Rat} (h : y ≤ x) : 0 ≤ cmpQ x y := by
  rw [Rat.le_iff] at h
  unfold cmpQ cmpZ
  split
  · omega
  · split <;> omega
/-- The rate r + (1 - r) * n / d. -/
theorem up_ge {q p : Rat} (hq : q ≤ 1) (hp : 0 ≤ p) : q ≤ q + (1 - q) * p := by
  have := Rat.mul_nonneg (a := 1 - q) (b := p) (by grind) hp
  grind
theorem up_le {q p : Rat} (hq : q ≤ 1) (hp : p ≤ 1) : q + (1 - q) * p ≤ 1 := by
  have := Rat.mul_le_mul_of_nonneg_left (a := p) (b := 1) (c := 1 - q) hp (by grind)
  grind
end Go.Proofs.YtndgaecfeaedeaaGreat

namespace Go.Proofs.YtndgaecfeaedeaaGreat
set_option linter.unusedSimpArgs false
set_option linter.unusedVariables false
open Go.RowKit Lex Mth

/-- The table's rows lie in blocks rb k, its slices in block g; its fractions are E. -/
structure OT (B : Nat) (w : World) (T : Tb) (g : Nat) (rb rc : Nat → Nat) (E : Nat → Nat → Fr) : Prop where
  gB : B ≤ g
  gt : ∃ gc, w.heap[g]? = some (.cells gc 47 (0, 0))
  sl : ∀ k, k < T.N → w.cell? ⟨g, k, none⟩ = some (.slice (some ⟨rb k, 0, none⟩) (T.rn k) (rc k))
  le : ∀ k, k < T.N → T.rn k ≤ rc k
  rB : ∀ k, k < T.N → B ≤ rb k
  row : ∀ k, k < T.N → ∃ cur, Cells w (rb k) 40 cur ∧ T.rn k * 4 ≤ cur.size ∧ ∀ j, j < T.rn k → ∀ i, i < 4 → cur[j * 4 + i]? = (frV (E k j))[i]?
  inj : ∀ k l, k < T.N → l < T.N → k ≠ l → rb k ≠ rb l
theorem OT.ext {B : Nat} {w w' : World} {T : Tb} {g : Nat} {rb rc : Nat → Nat} {E : Nat → Nat → Fr} (h : OT B w T g rb rc E) (e : Ext w w') : OT B w' T g rb rc E :=
  ⟨h.gB, let ⟨gc, hg⟩ := h.gt; ⟨gc, (e.block g (Array.getElem?_eq_some_iff.1 hg).1).trans hg⟩, fun k hk => cell_ext e (h.sl k hk), h.le, h.rB, fun k hk => let ⟨cur, h1, h2, h3⟩ := h.row k hk; ⟨cur, h1.ext e, h2, h3⟩, h.inj⟩
theorem OT.ne {B : Nat} {w : World} {T : Tb} {g : Nat} {rb rc : Nat → Nat} {E : Nat → Nat → Fr} (h : OT B w T g rb rc E) {k : Nat} (hk : k < T.N) : g ≠ rb k := fun e => by
  obtain ⟨gc, hg⟩ := h.gt
  obtain ⟨cur, h1, _⟩ := h.row k hk
  have h2 : w.heap[rb k]? = some (.cells cur 40 (0, 0)) := h1
  rw [e, h2] at hg
  simp only [Option.some.injEq, Obj.cells.injEq] at hg
  exact absurd hg.2.1 (by decide)
theorem OT.cells {B : Nat} {w : World} {T : Tb} {g : Nat} {rb rc : Nat → Nat} {E : Nat → Nat → Fr} (h : OT B w T g rb rc E) {k j : Nat} (hk : k < T.N) (hj : j < T.rn k) : w.cell? ⟨rb k, j * 4, none⟩ = some (.bool (E k j).N.b) ∧ w.cell? ⟨rb k, j * 4 + 1, none⟩ = some (.slice (E k j).N.p (E k j).N.n (E k j).N.c) ∧ w.cell? ⟨rb k, j * 4 + 2, none⟩ = some (.bool (E k j).D.b) ∧ w.cell? ⟨rb k, j * 4 + 3, none⟩ = some (.slice (E k j).D.p (E k j).D.n (E k j).D.c) := by
  obtain ⟨cur, h1, h2, h3⟩ := h.row k hk
  exact ⟨h1.cell (k := j * 4) (h3 j hj 0 (by decide)), h1.cell (k := j * 4 + 1) (h3 j hj 1 (by decide)), h1.cell (k := j * 4 + 2) (h3 j hj 2 (by decide)), h1.cell (k := j * 4 + 3) (h3 j hj 3 (by decide))⟩
theorem OT.free {B : Nat} {w : World} {T : Tb} {g : Nat} {rb rc : Nat → Nat} {E : Nat → Nat → Fr} (h : OT B w T g rb rc E) {k : Nat} (hk : k < T.N) (j : Nat) : w.frozen? ⟨rb k, j, none⟩ = false := by
  obtain ⟨cur, h1, _⟩ := h.row k hk
  exact h1.frozen j
theorem splice4_get (c : Array Value) (X : Fr) (o m : Nat) (ho : o + 4 ≤ c.size) : (splice c o (frV X))[m]? = if o ≤ m ∧ m < o + 4 then (frV X)[m - o]? else c[m]? := by
  simp only [frV, splice, Array.getElem?_setIfInBounds, Array.size_setIfInBounds]
  by_cases h : o ≤ m ∧ m < o + 4
  · rw [if_pos h]
    obtain ⟨i, rfl⟩ : ∃ i, m = o + i := ⟨m - o, by omega⟩
    have hi : i < 4 := by omega
    have s0 : o < c.size := by omega
    have s1 : o + 1 < c.size := by omega
    have s2 : o + 1 + 1 < c.size := by omega
    have s3 : o + 1 + 1 + 1 < c.size := by omega
    match i, hi with
    | 0, _ => rw [if_neg (by omega), if_neg (by omega), if_neg (by omega), if_pos (by omega), if_pos (by omega)]; simp
    | 1, _ => rw [if_neg (by omega), if_neg (by omega), if_pos (by omega), if_pos (by omega)]; simp
    | 2, _ => rw [if_neg (by omega), if_pos (by omega), if_pos (by omega)]; simp
    | 3, _ => rw [if_pos (by omega), if_pos (by omega)]; simp
  · rw [if_neg h]
    rw [if_neg (by omega), if_neg (by omega), if_neg (by omega), if_neg (by omega)]
/-- A rate is written. -/
theorem OT.put {B : Nat} {w : World} {T : Tb} {g : Nat} {rb rc : Nat → Nat} {E : Nat → Nat → Fr} (h : OT B w T g rb rc E) {i j : Nat} (hi : i < T.N) (hj : j < T.rn i) (X : Fr) : OT B (sets w (rb i) (j * 4) (frV X)) T g rb rc (fun k l => if k = i ∧ l = j then X else E k l) := by
  have k := sets_keeps (rb i) (frV X) w (j * 4)
  refine ⟨h.gB, let ⟨gc, hg⟩ := h.gt; ⟨gc, k.heap hg (h.ne hi)⟩, fun l hl => k.cell (h.sl l hl) (h.ne hi), h.le, h.rB, fun l hl => ?_, h.inj⟩
  obtain ⟨cur, h1, h2, h3⟩ := h.row l hl
  by_cases e : l = i
  · subst e
    refine ⟨_, Cells.sets (frV X) h1 (j * 4), by rw [splice_size]; exact h2, fun m hm q hq => ?_⟩
    rw [splice4_get cur X (j * 4) (m * 4 + q) (by omega)]
    by_cases hmj : m = j
    · subst hmj
      rw [if_pos (by omega), if_pos ⟨rfl, rfl⟩]
      congr 1; omega
    · rw [if_neg (by omega), if_neg (by simp [hmj])]
      exact h3 m hm q hq
  · refine ⟨cur, h1.kb k (h.inj l i hl hi e), h2, fun m hm q hq => ?_⟩
    rw [if_neg (by simp [e])]
    exact h3 m hm q hq

theorem FR.grown {B : Nat} {w w' : World} {X : Fr} {q : Rat} {row : Option Nat} (h : FR w X q) (o : OF B w X) (hg : w.grownBy w' row) (ht : ∀ k, row = some k → ∃ cur t, w.heap[k]? = some (.cells cur t (0, 0)) ∧ t ≠ 153) : FR w' X q ∧ OF B w' X := by
  obtain ⟨⟨a1, b1⟩, c1⟩ := UF.grown (X := X) ⟨h.1.u16.2, h.2.u16.2⟩ o hg ht
  exact ⟨⟨WR.mk h.1.neg a1, WR.mk h.2.neg b1⟩, c1⟩
/-- .. and its rates are Q. -/
def OQ (B : Nat) (w : World) (T : Tb) (g : Nat) (rb rc : Nat → Nat) (Q : Nat → Nat → Rat) : Prop := ∃ E, OT B w T g rb rc E ∧ ∀ k, k < T.N → ∀ l, l < T.rn k → FR w (E k l) (Q k l) ∧ OF B w (E k l)
theorem OQ.ext {B : Nat} {w w' : World} {T : Tb} {g : Nat} {rb rc : Nat → Nat} {Q : Nat → Nat → Rat} (h : OQ B w T g rb rc Q) (e : Ext w w') : OQ B w' T g rb rc Q :=
  let ⟨E, h1, h2⟩ := h; ⟨E, h1.ext e, fun k hk l hl => ⟨(h2 k hk l hl).1.ext e, (h2 k hk l hl).2.ext e⟩⟩
theorem OQ.cast {B : Nat} {w : World} {T : Tb} {g : Nat} {rb rc : Nat → Nat} {Q Q' : Nat → Nat → Rat} (h : OQ B w T g rb rc Q) (e : ∀ k, k < T.N → ∀ l, l < T.rn k → Q k l = Q' k l) : OQ B w T g rb rc Q' :=
  let ⟨E, h1, h2⟩ := h; ⟨E, h1, fun k hk l hl => ⟨(e k hk l hl) ▸ (h2 k hk l hl).1, (h2 k hk l hl).2⟩⟩
theorem OQ.put {B : Nat} {w : World} {T : Tb} {g : Nat} {rb rc : Nat → Nat} {Q Q' : Nat → Nat → Rat} (h : OQ B w T g rb rc Q) {i j : Nat} (hi : i < T.N) (hj : j < T.rn i) {X : Fr} {q : Rat} (hX : FR w X q) (oX : OF B w X) (hq : Q' i j = q) (e : ∀ k, k < T.N → ∀ l, l < T.rn k → ¬ (k = i ∧ l = j) → Q k l = Q' k l) : OQ B (sets w (rb i) (j * 4) (frV X)) T g rb rc Q' := by
  obtain ⟨E, h1, h2⟩ := h
  have kg := keeps_grown (sets_keeps (rb i) (frV X) w (j * 4))
  obtain ⟨cur, c1, _⟩ := h1.row i hi
  have ht : ∀ k, some (rb i) = some k → ∃ cur t, w.heap[k]? = some (.cells cur t (0, 0)) ∧ t ≠ 153 := fun k hk => (Option.some.inj hk) ▸ ⟨cur, _, c1, by decide⟩
  refine ⟨_, h1.put hi hj X, fun k hk l hl => ?_⟩
  by_cases hkl : k = i ∧ l = j
  · rw [if_pos hkl, hkl.1, hkl.2, hq]
    exact FR.grown hX oX kg ht
  · rw [if_neg hkl, ← e k hk l hl hkl]
    exact FR.grown (h2 k hk l hl).1 (h2 k hk l hl).2 kg ht
/-- A copy is such a table. -/
theorem OQ.of_copy {B : Nat} {w0 w : World} {T : Tb} {R : Nat → Nat → Rat} {p : Option Addr} {c : Nat} {vs : List Value} (hT : TQ w0 T R) (hl : vs.length = T.N) (hC : CpT B w T vs) (hO : w.ownsRow B 47 1 (.slice p T.N c) T.N vs) : ∃ g rb rc, p = some ⟨g, 0, none⟩ ∧ T.N ≤ c ∧ OQ B w T g rb rc R := by
  have hb := hT.b
  unfold boundsOk at hb
  have hO2 := hO
  rcases hO.2 with ⟨_, h0⟩ | ⟨g, cap, cur, hv, hB, hg, hle, _, _, hcur⟩
  · omega
  · simp only [Value.slice.injEq, true_and] at hv
    obtain ⟨rfl, rfl⟩ := hv
    have hrow : ∀ k, k < T.N → ∃ b cb fs, vs[k]? = some (.slice (some ⟨b, 0, none⟩) (T.rn k) cb) ∧ T.rn k ≤ cb ∧ fs.length = T.rn k ∧ CpF B w (T.el k) (T.ln k) (T.ld k) fs ∧ w.ownsRow B 40 4 (.slice (some ⟨b, 0, none⟩) (T.rn k) cb) (T.rn k) (frC fs) := fun k hk => by
      have hk' : k < vs.length := by omega
      obtain ⟨fs, q1, q2, q3⟩ := hC.row k vs[k] (by simp [hk'])
      have hrn := hT.rn k hk
      rcases q3.2 with ⟨_, h0⟩ | ⟨b, cb, curb, hvb, _, _, hleb, _⟩
      · omega
      · exact ⟨b, cb, fs, by rw [← hvb]; simp [hk'], hleb, q1, q2, hvb ▸ q3⟩
    let rb : Nat → Nat := fun k => if h : k < T.N then Classical.choose (hrow k h) else 0
    let rc : Nat → Nat := fun k => if h : k < T.N then Classical.choose (Classical.choose_spec (hrow k h)) else 0
    let F : Nat → List Fr := fun k => if h : k < T.N then Classical.choose (Classical.choose_spec (Classical.choose_spec (hrow k h))) else []
    have hs : ∀ k, k < T.N → vs[k]? = some (.slice (some ⟨rb k, 0, none⟩) (T.rn k) (rc k)) ∧ T.rn k ≤ rc k ∧ (F k).length = T.rn k ∧ CpF B w (T.el k) (T.ln k) (T.ld k) (F k) ∧ w.ownsRow B 40 4 (.slice (some ⟨rb k, 0, none⟩) (T.rn k) (rc k)) (T.rn k) (frC (F k)) := fun k hk => by
      have := Classical.choose_spec (Classical.choose_spec (Classical.choose_spec (hrow k hk)))
      simp only [rb, rc, F, dif_pos hk]
      exact this
    let E : Nat → Nat → Fr := fun k j => (F k).getD j ⟨zeroWh, zeroWh⟩
    have hE : ∀ k, k < T.N → ∀ j, j < T.rn k → (F k)[j]? = some (E k j) := fun k hk j hj => by
      have h1 := (hs k hk).2.2.1
      have : j < (F k).length := by omega
      simp only [E, List.getD_eq_getElem?_getD, List.getElem?_eq_getElem this, Option.getD_some]
    refine ⟨g, rb, rc, rfl, hle, E, ⟨hB, ⟨cur, hg⟩, fun k hk => ?_, fun k hk => (hs k hk).2.1, fun k hk => ?_, fun k hk => ?_, fun k l hk hl hne => ?_⟩, fun k hk j hj => ?_⟩
    · have := hO2.cells (g := g) rfl k _ (hs k hk).1
      simpa [Addr.add] using (by by_cases h0 : k = 0 <;> simpa [Addr.add, h0] using this : w.cell? ⟨g, k, none⟩ = _)
    · exact ((hs k hk).2.2.2.2.lt _ rfl).1
    · obtain ⟨_, _, hlen, _, ho⟩ := hs k hk
      rcases ho.2 with ⟨h1, _⟩ | ⟨b, cb, curb, hvb, _, hgb, hleb, _, hsz, hpre⟩
      · cases h1
      · simp only [Value.slice.injEq, Option.some.injEq, Addr.mk.injEq, true_and, and_true] at hvb
        obtain ⟨e1, e2⟩ := hvb
        refine ⟨curb, by rw [e1]; exact hgb, by rw [hsz]; exact Nat.mul_le_mul_right 4 hleb, fun j hj i hi => ?_⟩
        have h2 := frC_get (F k) j (E k j) (hE k hk j hj) i hi
        rw [← h2]
        rw [← hpre, List.getElem?_take, if_pos (by omega)]
        simp
    · intro e
      rcases Nat.lt_or_gt_of_ne hne with h | h
      · have h9 : rb k < rb l := hC.ord k l _ _ _ _ h (hs k hk).1 (hs l hl).1 rfl rfl
        omega
      · have h9 : rb l < rb k := hC.ord l k _ _ _ _ h (hs l hl).1 (hs k hk).1 rfl rfl
        omega
    · obtain ⟨u1, u2, u3, u4⟩ := (hs k hk).2.2.2.1 j _ (hE k hk j hj)
      have hq := hT.q k hk j hj
      obtain ⟨l1, l2⟩ := uf_lists (hT.tw.raw k hk j hj) hq
      rw [l1, l2] at u1
      exact ⟨⟨WR.mk (u2.trans hq.1.neg) u1.1, WR.mk (u3.trans hq.2.neg) (by rw [Int.natAbs_natCast]; exact u1.2)⟩, u4⟩
end Go.Proofs.YtndgaecfeaedeaaGreat

namespace Go.Proofs.YtndgaecfeaedeaaGreat
set_option linter.unusedSimpArgs false
set_option linter.unusedVariables false
open Go.RowKit Lex Mth
attribute [local go_sem] run_indexAt_at add_zero_map Oper.semAt_some at_zero at_add at_mk1 at_mk2 at_mk3
set_option linter.unusedSimpArgs false
set_option linter.unusedVariables false

theorem rSameQ_b (X Y : Fr) (x y : Rat) (w : World) (hX : FR w X x) (hY : FR w Y y) {b : Bool} (hb : eqQ x y = b) : Calls Tryz.prog 44 #[X.val, Y.val] w (Gv (.v (.bool b)) w) := hb ▸ rSameQ X Y x y w hX hY

set_option maxRecDepth 100000 in
theorem nquick (x : Int) (y : Int) (w : World) (hy0 : y ≠ 0) (bx : (-9223372036854775808 ≤ x ∧ x ≤ 9223372036854775807)) (by_ : (-9223372036854775808 ≤ y ∧ y ≤ 9223372036854775807)) :
    Calls Tryz.prog 26 #[.int .i64 x, .int .i64 y] w (Gv (.f0 (Rat.divInt x y)) w) := by
  have Hy := Lib.hid hy0
  clear hy0
  obtain ⟨w1, hww1, ew1, B1, zw1⟩ := alloc_at w (w.heap.size) (by omega) #[.bool false, .slice none 0 0, .bool false, .slice none 0 0] 40
  go_enter Tryz.func26, Tryz.ntmps26
  go_wp2_with fail
  clear hww1
  replace zw1 := le2 zw1
  refine (rQuick (x) (y) _ (Hy.out) (bx) (by_)).mono (Gv.onF0 fun Z7 w2 hZ7 ew2 zw2 => ?_)
  replace B1 := B1.ext ew2
  have b1_w2 := B1.c4
  have fb1_w2 := B1.f4
  have xw_w2 := eg ew1 ew2
  obtain ⟨w3, hww3, kw3, Nw3, zw3⟩ := B1.put4 (.bool Z7.N.b) (.slice Z7.N.p Z7.N.n Z7.N.c) (.bool Z7.D.b) (.slice Z7.D.p Z7.D.n Z7.D.c)
  have nuw3 : NoU #[.bool false, .slice none 0 0, .bool false, .slice none 0 0] := by simp [NoU]
  replace hZ7 := FR.kb hZ7 B1 nuw3 kw3
  have xw_w3 := Ext.kb xw_w2 kw3 (by omega)
  replace B1 := Nw3
  clear Nw3 kw3
  have b1_w3 := B1.c4
  go_wp2_with fail
  clear hww3
  clear b1_w2 fb1_w2
  replace zw3 := le2 zw3
  refine bodyPost_ret (v := .agg #[.bool Z7.N.b, .slice Z7.N.p Z7.N.n Z7.N.c, .bool Z7.D.b, .slice Z7.D.p Z7.D.n Z7.D.c]) (by simp [results, Tryz.results26, go_sem, b1_w3]) rfl ?_
  exact Gv.of_f0 (X := Z7) (hZ7) xw_w3

set_option maxRecDepth 100000 in
theorem nis (A : Fr) (x : Int) (y : Int) (a : Rat) (w : World) (hA : FR w A a) (hy0 : y ≠ 0) (bx : (-9223372036854775808 ≤ x ∧ x ≤ 9223372036854775807)) (by_ : (-9223372036854775808 ≤ y ∧ y ≤ 9223372036854775807)) (he : eqQ a (Rat.divInt x y) = true) :
    Calls Tryz.prog 35 #[.agg #[.bool A.N.b, .slice A.N.p A.N.n A.N.c, .bool A.D.b, .slice A.D.p A.D.n A.D.c], .int .i64 0, .int .i64 x, .int .i64 y] w (Gv (.v (.bool true)) w) := by
  have Hy := Lib.hid hy0
  have He := Lib.hid he
  clear hy0 he
  obtain ⟨w1, hww1, ew1, B1, zw1⟩ := alloc_at w (w.heap.size) (by omega) #[.bool A.N.b, .slice A.N.p A.N.n A.N.c, .bool A.D.b, .slice A.D.p A.D.n A.D.c] 40
  have b1_w1 := B1.c4
  replace hA := hA.ext ew1
  go_enter Tryz.func35, Tryz.ntmps35
  go_wp2_with fail
  clear hww1
  replace zw1 := le2 zw1
  refine regionT 9 (fun kk => match kk with | 6 => some (.f0 (Rat.divInt (x) (y))) | 7 => some (.v (.bool true)) | _ => none) (by as_aux_lemma => kernel_rfl) (head_of (by as_aux_lemma => kernel_rfl)) ?_
  iterate 3
    refine Walk.one (x := ?_) rfl rfl (fun w1 hI hL K hK => ?_) ?_
    rotate_left
    · obtain ⟨hc, hf⟩ := bcell hI
      go_simp
      repeat (first | (go_ints; try go_simp) | (simp only [↓IntWalk.iteOmega]; try go_simp))
      exact hK
    simp only [Act.put, List.setIfInBounds_toArray, List.set_cons_zero, List.set_cons_succ]
  refine Walk.oneG (x := ?_) rfl (by as_aux_lemma => kernel_rfl) (fun w1 hI hL K hK => ?_) ?_
  rotate_left
  · obtain ⟨hc, hf⟩ := bcell hI
    go_simp
    repeat (first | (go_ints; try go_simp) | (simp only [↓IntWalk.iteOmega]; try go_simp))
    exact hK
  simp only [Act.put, List.setIfInBounds_toArray, List.set_cons_zero, List.set_cons_succ]
  refine Walk.oneG (x := ?_) rfl (by as_aux_lemma => kernel_rfl) (fun w1 hI hL K hK => ?_) ?_
  rotate_left
  · obtain ⟨hc, hf⟩ := bcell hI
    go_simp
    repeat (first | (go_ints; try go_simp) | (simp only [↓IntWalk.iteOmega]; try go_simp))
    exact hK
  simp only [Act.put, List.setIfInBounds_toArray, List.set_cons_zero, List.set_cons_succ]
  refine Walk.oneG (x := ?_) rfl (by as_aux_lemma => kernel_rfl) (fun w1 hI hL K hK => ?_) ?_
  rotate_left
  · obtain ⟨hc, hf⟩ := bcell hI
    go_simp
    repeat (first | (go_ints; try go_simp) | (simp only [↓IntWalk.iteOmega]; try go_simp))
    exact hK
  simp only [Act.put, List.setIfInBounds_toArray, List.set_cons_zero, List.set_cons_succ]
  refine Walk.tellG rfl (by as_aux_lemma => kernel_rfl) (fun w1 hI hL K hK => ?_) ?_
  · go_simp
    exact (nquick (x) (y) w1 (Hy.out) (bx) (by_)).mono (tell hK)
  rintro _ ⟨Z15, rfl⟩
  simp only [Act.put, List.setIfInBounds_toArray, List.set_cons_zero, List.set_cons_succ]
  refine Walk.tellG rfl (by as_aux_lemma => kernel_rfl) (fun w1 hI hL K hK => ?_) ?_
  · go_simp
    exact (rSameQ_b A Z15 _ _ w1 ((hA).ext hI) ((Tl.getF0 (kn (i := 6) (v := .agg #[.bool Z15.N.b, .slice Z15.N.p Z15.N.n Z15.N.c, .bool Z15.D.b, .slice Z15.D.p Z15.D.n Z15.D.c]) rfl (by simp) (pred_of (by as_aux_lemma => kernel_rfl)) hL))) He.out).mono (tell hK)
  rintro _ rfl
  simp only [Act.put, List.setIfInBounds_toArray, List.set_cons_zero, List.set_cons_succ]
  refine Walk.one (x := ?_) rfl rfl (fun w1 hI hL K hK => ?_) ?_
  rotate_left
  · obtain ⟨hc, hf⟩ := bcell hI
    go_simp
    repeat (first | (go_ints; try go_simp) | (simp only [↓IntWalk.iteOmega]; try go_simp))
    exact hK
  simp only [Act.put, List.setIfInBounds_toArray, List.set_cons_zero, List.set_cons_succ]
  refine Walk.nilF fun w2 ew2 kzL kzX => ?_
  have zw2 := ew2.size
  clear kzL kzX
  simp only [List.drop_succ_cons, List.drop_zero, List.drop_nil]
  have xw_w2 := eg ew1 ew2
  go_wp2_with fail
  clear b1_w1
  refine bodyPost_ret (v := .bool true) (by simp [results, Tryz.results35, go_sem]) rfl ?_
  exact Gv.of_v xw_w2

set_option maxRecDepth 100000 in
theorem nproduct (X : Fr) (Y : Fr) (x : Rat) (y : Rat) (w : World) (hX : FR w X x) (hY : FR w Y y) (bx : Sz x) (by_ : Sz y) (bz : Sz (x * y)) :
    Calls Tryz.prog 33 #[.agg #[.bool X.N.b, .slice X.N.p X.N.n X.N.c, .bool X.D.b, .slice X.D.p X.D.n X.D.c], .agg #[.bool Y.N.b, .slice Y.N.p Y.N.n Y.N.c, .bool Y.D.b, .slice Y.D.p Y.D.n Y.D.c]] w (Gv (.f (x * y)) w) := by
  obtain ⟨w1, hww1, ew1, B1, zw1⟩ := alloc_at w (w.heap.size) (by omega) #[.bool X.N.b, .slice X.N.p X.N.n X.N.c, .bool X.D.b, .slice X.D.p X.D.n X.D.c] 40
  obtain ⟨w2, hww2, ew2, B2, zw2⟩ := alloc_at w1 (w.heap.size + 1) (by omega) #[.bool Y.N.b, .slice Y.N.p Y.N.n Y.N.c, .bool Y.D.b, .slice Y.D.p Y.D.n Y.D.c] 40
  obtain ⟨w3, hww3, ew3, B3, zw3⟩ := alloc_at w2 (w.heap.size + 1 + 1) (by omega) #[.bool false, .slice none 0 0, .bool false, .slice none 0 0] 40
  have xw1_w3 := eg ew2 ew3
  replace B1 := B1.ext xw1_w3
  have b1_w3 := B1.c4
  replace B2 := B2.ext ew3
  have b2_w3 := B2.c4
  have xw_w3 := eg (eg ew1 ew2) ew3
  replace hX := hX.ext xw_w3
  replace hY := hY.ext xw_w3
  go_enter Tryz.func33, Tryz.ntmps33
  go_wp2_with fail
  clear hww1 hww2 hww3
  replace zw1 := le2 zw1
  replace zw2 := le2 zw2
  replace zw3 := le2 zw3
  refine (fMul X Y _ _ _ (hX) (hY) (bx) (by_) (bz)).mono (Gv.onFeo fun Z10 w4 hZ10 oZ10 ew4 zw4 => ?_)
  replace oZ10 := oZ10.mono xw_w3.size
  obtain ⟨w5, hww5, ew5, B4, zw5⟩ := alloc_at w4 (w4.heap.size) (by omega) #[.bool Z10.N.b, .slice Z10.N.p Z10.N.n Z10.N.c, .bool Z10.D.b, .slice Z10.D.p Z10.D.n Z10.D.c] 40
  have b4_w5 := B4.c4
  have xw3_w5 := eg ew4 ew5
  replace B3 := B3.ext xw3_w5
  have b3_w5 := B3.c4
  have fb3_w5 := B3.f4
  replace hZ10 := hZ10.ext ew5
  replace oZ10 := oZ10.ext ew5
  have xw_w5 := eg (eg xw_w3 ew4) ew5
  obtain ⟨w6, hww6, kw6, Nw6, zw6⟩ := B3.put4 (.bool Z10.N.b) (.slice Z10.N.p Z10.N.n Z10.N.c) (.bool Z10.D.b) (.slice Z10.D.p Z10.D.n Z10.D.c)
  have nuw6 : NoU #[.bool false, .slice none 0 0, .bool false, .slice none 0 0] := by simp [NoU]
  replace hZ10 := FR.kb hZ10 B3 nuw6 kw6
  replace oZ10 := OF.kb oZ10 B3 (by decide) kw6
  have xw_w6 := Ext.kb xw_w5 kw6 (by omega)
  replace B3 := Nw6
  clear Nw6 kw6
  have b3_w6 := B3.c4
  go_wp2_with fail
  clear hww5 hww6
  clear b1_w3 b2_w3 b4_w5 b3_w5 fb3_w5
  replace zw5 := le2 zw5
  replace zw6 := le2 zw6
  refine bodyPost_ret (v := .agg #[.bool Z10.N.b, .slice Z10.N.p Z10.N.n Z10.N.c, .bool Z10.D.b, .slice Z10.D.p Z10.D.n Z10.D.c]) (by simp [results, Tryz.results33, go_sem, b3_w6]) rfl ?_
  exact Gv.of_f (X := Z10) (hZ10) (oZ10) xw_w6

set_option maxRecDepth 100000 in
theorem nsum (X : Fr) (Y : Fr) (x : Rat) (y : Rat) (w : World) (hX : FR w X x) (hY : FR w Y y) (bx : Sz x) (by_ : Sz y) (bz : Sz (x + y)) :
    Calls Tryz.prog 31 #[.agg #[.bool X.N.b, .slice X.N.p X.N.n X.N.c, .bool X.D.b, .slice X.D.p X.D.n X.D.c], .agg #[.bool Y.N.b, .slice Y.N.p Y.N.n Y.N.c, .bool Y.D.b, .slice Y.D.p Y.D.n Y.D.c]] w (Gv (.f (x + y)) w) := by
  obtain ⟨w1, hww1, ew1, B1, zw1⟩ := alloc_at w (w.heap.size) (by omega) #[.bool X.N.b, .slice X.N.p X.N.n X.N.c, .bool X.D.b, .slice X.D.p X.D.n X.D.c] 40
  obtain ⟨w2, hww2, ew2, B2, zw2⟩ := alloc_at w1 (w.heap.size + 1) (by omega) #[.bool Y.N.b, .slice Y.N.p Y.N.n Y.N.c, .bool Y.D.b, .slice Y.D.p Y.D.n Y.D.c] 40
  obtain ⟨w3, hww3, ew3, B3, zw3⟩ := alloc_at w2 (w.heap.size + 1 + 1) (by omega) #[.bool false, .slice none 0 0, .bool false, .slice none 0 0] 40
  have xw1_w3 := eg ew2 ew3
  replace B1 := B1.ext xw1_w3
  have b1_w3 := B1.c4
  replace B2 := B2.ext ew3
  have b2_w3 := B2.c4
  have xw_w3 := eg (eg ew1 ew2) ew3
  replace hX := hX.ext xw_w3
  replace hY := hY.ext xw_w3
  go_enter Tryz.func31, Tryz.ntmps31
  go_wp2_with fail
  clear hww1 hww2 hww3
  replace zw1 := le2 zw1
  replace zw2 := le2 zw2
  replace zw3 := le2 zw3
  refine (fAdd X Y _ _ _ (hX) (hY) (bx) (by_) (bz)).mono (Gv.onFeo fun Z10 w4 hZ10 oZ10 ew4 zw4 => ?_)
  replace oZ10 := oZ10.mono xw_w3.size
  obtain ⟨w5, hww5, ew5, B4, zw5⟩ := alloc_at w4 (w4.heap.size) (by omega) #[.bool Z10.N.b, .slice Z10.N.p Z10.N.n Z10.N.c, .bool Z10.D.b, .slice Z10.D.p Z10.D.n Z10.D.c] 40
  have b4_w5 := B4.c4
  have xw3_w5 := eg ew4 ew5
  replace B3 := B3.ext xw3_w5
  have b3_w5 := B3.c4
  have fb3_w5 := B3.f4
  replace hZ10 := hZ10.ext ew5
  replace oZ10 := oZ10.ext ew5
  have xw_w5 := eg (eg xw_w3 ew4) ew5
  obtain ⟨w6, hww6, kw6, Nw6, zw6⟩ := B3.put4 (.bool Z10.N.b) (.slice Z10.N.p Z10.N.n Z10.N.c) (.bool Z10.D.b) (.slice Z10.D.p Z10.D.n Z10.D.c)
  have nuw6 : NoU #[.bool false, .slice none 0 0, .bool false, .slice none 0 0] := by simp [NoU]
  replace hZ10 := FR.kb hZ10 B3 nuw6 kw6
  replace oZ10 := OF.kb oZ10 B3 (by decide) kw6
  have xw_w6 := Ext.kb xw_w5 kw6 (by omega)
  replace B3 := Nw6
  clear Nw6 kw6
  have b3_w6 := B3.c4
  go_wp2_with fail
  clear hww5 hww6
  clear b1_w3 b2_w3 b4_w5 b3_w5 fb3_w5
  replace zw5 := le2 zw5
  replace zw6 := le2 zw6
  refine bodyPost_ret (v := .agg #[.bool Z10.N.b, .slice Z10.N.p Z10.N.n Z10.N.c, .bool Z10.D.b, .slice Z10.D.p Z10.D.n Z10.D.c]) (by simp [results, Tryz.results31, go_sem, b3_w6]) rfl ?_
  exact Gv.of_f (X := Z10) (hZ10) (oZ10) xw_w6

set_option maxRecDepth 100000 in
theorem nnot (X : Fr) (x : Rat) (w : World) (hX : FR w X x) (bx : Sz x) (bz : Sz (1 - x)) :
    Calls Tryz.prog 32 #[.agg #[.bool X.N.b, .slice X.N.p X.N.n X.N.c, .bool X.D.b, .slice X.D.p X.D.n X.D.c]] w (Gv (.f (1 - x)) w) := by
  obtain ⟨w1, hww1, ew1, B1, zw1⟩ := alloc_at w (w.heap.size) (by omega) #[.bool X.N.b, .slice X.N.p X.N.n X.N.c, .bool X.D.b, .slice X.D.p X.D.n X.D.c] 40
  obtain ⟨w2, hww2, ew2, B2, zw2⟩ := alloc_at w1 (w.heap.size + 1) (by omega) #[.bool false, .slice none 0 0, .bool false, .slice none 0 0] 40
  replace B1 := B1.ext ew2
  have b1_w2 := B1.c4
  have xw_w2 := eg ew1 ew2
  replace hX := hX.ext xw_w2
  go_enter Tryz.func32, Tryz.ntmps32
  go_wp2_with fail
  clear hww1 hww2
  replace zw1 := le2 zw1
  replace zw2 := le2 zw2
  refine regionS ⟨7, 6, 2, 40, 4, lvT⟩ 8 (fun kk => match kk with | 0 => some (.f (1)) | 2 => some (.fe (1 + -x) 0) | 6 => some (.boxS 40 4) | _ => none) (by as_aux_lemma => kernel_rfl) (head_of (by as_aux_lemma => kernel_rfl)) (by decide) ?hT1 rfl (pred_of (by as_aux_lemma => kernel_rfl)) (pred_of (by as_aux_lemma => kernel_rfl)) ?_
  case hT1 =>
    intro k t h
    split at h <;> first | (cases h; first | exact st_f _ | exact st_fe _ _ | exact st_bs _ _ | exact st_v _ | exact st_w _ | exact st_we _ _ | exact st_f0 _ | exact st_w0 _ | exact st_fn _ _ | exact st_ro _) | cases h
  refine Walk.tellS rfl rfl (.inl (by simp)) rfl (fun w1 hI hL K hK => ?_) ?_
  · go_simp
    exact (fFromInt_1 w1).mono (tell hK)
  rintro _ ⟨Z6, rfl⟩
  simp only [Act.put, List.setIfInBounds_toArray, List.set_cons_zero, List.set_cons_succ]
  refine Walk.one (x := ?_) rfl rfl (fun w1 hI hL K hK => ?_) ?_
  rotate_left
  · obtain ⟨hc, hf⟩ := bcell hI
    go_simp
    repeat (first | (go_ints; try go_simp) | (simp only [↓IntWalk.iteOmega]; try go_simp))
    exact hK
  simp only [Act.put, List.setIfInBounds_toArray, List.set_cons_zero, List.set_cons_succ]
  refine Walk.tellS rfl rfl (.inl (by simp)) rfl (fun w1 hI hL K hK => ?_) ?_
  · go_simp
    exact (fSub Z6 X _ _ w1 ((Tl.getF (knS (i := 0) (v := .agg #[.bool Z6.N.b, .slice Z6.N.p Z6.N.n Z6.N.c, .bool Z6.D.b, .slice Z6.D.p Z6.D.n Z6.D.c]) rfl rfl (by simp) (pred_of (by as_aux_lemma => kernel_rfl)) hL)).1) ((hX).ext hI) (sz_one) (bx) (sz_sub bz)).mono (tell hK)
  rintro _ ⟨Z8, rfl⟩
  simp only [Act.put, List.setIfInBounds_toArray, List.set_cons_zero, List.set_cons_succ]
  iterate 3
    refine Walk.one (x := ?_) rfl rfl (fun w1 hI hL K hK => ?_) ?_
    rotate_left
    · obtain ⟨hc, hf⟩ := bcell hI
      go_simp
      repeat (first | (go_ints; try go_simp) | (simp only [↓IntWalk.iteOmega]; try go_simp))
      exact hK
    simp only [Act.put, List.setIfInBounds_toArray, List.set_cons_zero, List.set_cons_succ]
  refine Walk.tellS rfl rfl (.inl (by simp)) rfl (fun w1 hI hL K hK => ?_) ?_
  · go_simp
    exact tellBS rfl (by simp [NoU]) hK
  rintro _ ⟨g3, rfl⟩
  simp only [Act.put, List.setIfInBounds_toArray, List.set_cons_zero, List.set_cons_succ]
  refine Walk.storeS (g := g3) (vc := .tuple #[.agg #[.bool Z8.N.b, .slice Z8.N.p Z8.N.n Z8.N.c, .bool Z8.D.b, .slice Z8.D.p Z8.D.n Z8.D.c], .int .i64 0]) rfl rfl rfl rfl rfl (by simp) (pred_of (by as_aux_lemma => kernel_rfl)) (by simp) (by simp) (by simp) (fun c hc => splice4 (.bool Z8.N.b) (.slice Z8.N.p Z8.N.n Z8.N.c) (.bool Z8.D.b) (.slice Z8.D.p Z8.D.n Z8.D.c) c hc) (by simp [NoU, lvT]) (fun w1 c hI hC hc hL K hK => ?_) ?_
  · obtain ⟨u0, c0⟩ := hC.some (k := 0) (by have hc2 : c.size = 4 := hc; omega)
    obtain ⟨u1, c1⟩ := hC.some (k := 1) (by have hc2 : c.size = 4 := hc; omega)
    obtain ⟨u2, c2⟩ := hC.some (k := 2) (by have hc2 : c.size = 4 := hc; omega)
    obtain ⟨u3, c3⟩ := hC.some (k := 3) (by have hc2 : c.size = 4 := hc; omega)
    have f0 := hC.frozen 0
    have f1 := hC.frozen 1
    have f2 := hC.frozen 2
    have f3 := hC.frozen 3
    go_simp
    exact hK
  intro vs
  simp only [Act.put, List.setIfInBounds_toArray, List.set_cons_zero, List.set_cons_succ]
  refine Walk.nilS (g := g3) (vc := .tuple #[.agg #[.bool Z8.N.b, .slice Z8.N.p Z8.N.n Z8.N.c, .bool Z8.D.b, .slice Z8.D.p Z8.D.n Z8.D.c], .int .i64 0]) (vs := vs) (by simp) (by simp) (by simp) (by decide) (by decide) fun w3 ew3 kzL kzC kzX => ?_
  have zw3 := ew3.size
  obtain ⟨hZ8, oZ8⟩ := Tl.getFe (kzS (i := 2) (v := .tuple #[.agg #[.bool Z8.N.b, .slice Z8.N.p Z8.N.n Z8.N.c, .bool Z8.D.b, .slice Z8.D.p Z8.D.n Z8.D.c], .int .i64 0]) rfl rfl (by simp) kzL)
  replace oZ8 := oZ8.mono xw_w2.size
  obtain ⟨B3, yB3⟩ := kzC
  replace B3 : Cells w3 (g3) 40 #[.bool Z8.N.b, .slice Z8.N.p Z8.N.n Z8.N.c, .bool Z8.D.b, .slice Z8.D.p Z8.D.n Z8.D.c] := B3
  have lB3 := B3.lt
  clear kzL kzX
  simp only [List.drop_succ_cons, List.drop_zero, List.drop_nil]
  have b3_w3 := B3.c4
  replace B2 := B2.ext ew3
  have b2_w3 := B2.c4
  have fb2_w3 := B2.f4
  have xw_w3 := eg xw_w2 ew3
  obtain ⟨w4, hww4, kw4, Nw4, zw4⟩ := B2.put4 (.bool Z8.N.b) (.slice Z8.N.p Z8.N.n Z8.N.c) (.bool Z8.D.b) (.slice Z8.D.p Z8.D.n Z8.D.c)
  have nuw4 : NoU #[.bool false, .slice none 0 0, .bool false, .slice none 0 0] := by simp [NoU]
  replace hZ8 := FR.kb hZ8 B2 nuw4 kw4
  replace oZ8 := OF.kb oZ8 B2 (by decide) kw4
  have xw_w4 := Ext.kb xw_w3 kw4 (by omega)
  replace B2 := Nw4
  clear Nw4 kw4
  have b2_w4 := B2.c4
  go_wp2_with fail
  clear hww4
  clear b1_w2 b3_w3 b2_w3 fb2_w3
  replace zw4 := le2 zw4
  refine bodyPost_ret (v := .agg #[.bool Z8.N.b, .slice Z8.N.p Z8.N.n Z8.N.c, .bool Z8.D.b, .slice Z8.D.p Z8.D.n Z8.D.c]) (by simp [results, Tryz.results32, go_sem, b2_w4]) rfl ?_
  exact Gv.of_f (X := Z8) (FR.cast hZ8 (add_neg' 1 x)) oZ8 xw_w4

set_option maxRecDepth 100000 in
theorem nequal (X : Fr) (Y : Fr) (x : Rat) (y : Rat) (w : World) (hX : FR w X x) (hY : FR w Y y) (bx : Sz x) (by_ : Sz y) :
    Calls Tryz.prog 30 #[.agg #[.bool X.N.b, .slice X.N.p X.N.n X.N.c, .bool X.D.b, .slice X.D.p X.D.n X.D.c], .agg #[.bool Y.N.b, .slice Y.N.p Y.N.n Y.N.c, .bool Y.D.b, .slice Y.D.p Y.D.n Y.D.c]] w (Gv (.v (.bool (eqQ x y))) w) := by
  obtain ⟨w1, hww1, ew1, B1, zw1⟩ := alloc_at w (w.heap.size) (by omega) #[.bool X.N.b, .slice X.N.p X.N.n X.N.c, .bool X.D.b, .slice X.D.p X.D.n X.D.c] 40
  obtain ⟨w2, hww2, ew2, B2, zw2⟩ := alloc_at w1 (w.heap.size + 1) (by omega) #[.bool Y.N.b, .slice Y.N.p Y.N.n Y.N.c, .bool Y.D.b, .slice Y.D.p Y.D.n Y.D.c] 40
  replace B1 := B1.ext ew2
  have b1_w2 := B1.c4
  have xw_w2 := eg ew1 ew2
  replace hX := hX.ext xw_w2
  go_enter Tryz.func30, Tryz.ntmps30
  go_wp2_with fail
  clear hww1 hww2
  replace zw1 := le2 zw1
  replace zw2 := le2 zw2
  refine (fValid_q X _ _ (hX) bx).mono (Gv.onV fun w3 ew3 zw3 => ?_)
  replace B2 := B2.ext ew3
  have b2_w3 := B2.c4
  have xw_w3 := eg xw_w2 ew3
  replace hY := hY.ext xw_w3
  go_wp2_with fail
  clear b1_w2
  refine (fValid_q Y _ _ (hY) by_).mono (Gv.onV fun w4 ew4 zw4 => ?_)
  have xw2_w4 := eg ew3 ew4
  replace B1 := B1.ext xw2_w4
  have b1_w4 := B1.c4
  replace B2 := B2.ext ew4
  have b2_w4 := B2.c4
  replace hX := hX.ext xw2_w4
  replace hY := hY.ext ew4
  have xw_w4 := eg xw_w3 ew4
  go_wp2_with fail
  clear b2_w3
  refine (rSameQ X Y _ _ _ (hX) (hY)).mono (Gv.onV fun w5 ew5 zw5 => ?_)
  have xw_w5 := eg xw_w4 ew5
  go_wp2_with fail
  clear b1_w4 b2_w4
  refine bodyPost_ret (v := .bool (eqQ x y)) (by simp [results, Tryz.results30, go_sem]) rfl ?_
  exact Gv.of_v xw_w5

set_option maxRecDepth 100000 in
theorem nchance1 (XNp : Option Addr) (XNn : Nat) (XNc : Nat) (XDb : Bool) (XDp : Option Addr) (XDn : Nat) (XDc : Nat) (x : Rat) (w : World) (hX : FR w ⟨⟨false, XNp, XNn, XNc⟩, ⟨XDb, XDp, XDn, XDc⟩⟩ x) (bx : Sz x) (hc : decide (cmpQ x 1 ≤ 0) = true) :
    Calls Tryz.prog 29 #[.agg #[.bool false, .slice XNp XNn XNc, .bool XDb, .slice XDp XDn XDc]] w (Gv (.v (.bool true)) w) := by
  obtain ⟨w1, hww1, ew1, B1, zw1⟩ := alloc_at w (w.heap.size) (by omega) #[.bool false, .slice XNp XNn XNc, .bool XDb, .slice XDp XDn XDc] 40
  have b1_w1 := B1.c4
  replace hX := hX.ext ew1
  go_enter Tryz.func29, Tryz.ntmps29
  go_wp2_with fail
  clear hww1
  replace zw1 := le2 zw1
  refine regionT 14 (fun kk => match kk with | 1 => some (.v (.bool true)) | 10 => some (.f (1)) | 11 => some (.v (.int .i64 (cmpQ x 1))) | _ => none) (by as_aux_lemma => kernel_rfl) (head_of (by as_aux_lemma => kernel_rfl)) ?_
  refine Walk.one (x := ?_) rfl rfl (fun w1 hI hL K hK => ?_) ?_
  rotate_left
  · obtain ⟨hc, hf⟩ := bcell hI
    go_simp
    repeat (first | (go_ints; try go_simp) | (simp only [↓IntWalk.iteOmega]; try go_simp))
    exact hK
  simp only [Act.put, List.setIfInBounds_toArray, List.set_cons_zero, List.set_cons_succ]
  refine Walk.tell rfl rfl (fun w1 hI hL K hK => ?_) ?_
  · go_simp
    exact (fValid_q ⟨⟨false, XNp, XNn, XNc⟩, ⟨XDb, XDp, XDn, XDc⟩⟩ x w1 ((hX).ext hI) bx).mono (tell hK)
  rintro _ rfl
  simp only [Act.put, List.setIfInBounds_toArray, List.set_cons_zero, List.set_cons_succ]
  refine Walk.one (x := ?_) rfl rfl (fun w1 hI hL K hK => ?_) ?_
  rotate_left
  · obtain ⟨hc, hf⟩ := bcell hI
    go_simp
    repeat (first | (go_ints; try go_simp) | (simp only [↓IntWalk.iteOmega]; try go_simp))
    exact hK
  simp only [Act.put, List.setIfInBounds_toArray, List.set_cons_zero, List.set_cons_succ]
  refine Walk.oneG (x := ?_) rfl (by as_aux_lemma => kernel_rfl) (fun w1 hI hL K hK => ?_) ?_
  rotate_left
  · obtain ⟨hc, hf⟩ := bcell hI
    go_simp
    repeat (first | (go_ints; try go_simp) | (simp only [↓IntWalk.iteOmega]; try go_simp))
    exact hK
  simp only [Act.put, List.setIfInBounds_toArray, List.set_cons_zero, List.set_cons_succ]
  refine Walk.oneG (x := ?_) rfl (by as_aux_lemma => kernel_rfl) (fun w1 hI hL K hK => ?_) ?_
  rotate_left
  · obtain ⟨hc, hf⟩ := bcell hI
    go_simp
    repeat (first | (go_ints; try go_simp) | (simp only [↓IntWalk.iteOmega]; try go_simp))
    exact hK
  simp only [Act.put, List.setIfInBounds_toArray, List.set_cons_zero, List.set_cons_succ]
  refine Walk.oneG (x := ?_) rfl (by as_aux_lemma => kernel_rfl) (fun w1 hI hL K hK => ?_) ?_
  rotate_left
  · obtain ⟨hc, hf⟩ := bcell hI
    go_simp
    repeat (first | (go_ints; try go_simp) | (simp only [↓IntWalk.iteOmega]; try go_simp))
    exact hK
  simp only [Act.put, List.setIfInBounds_toArray, List.set_cons_zero, List.set_cons_succ]
  refine Walk.oneG (x := ?_) rfl (by as_aux_lemma => kernel_rfl) (fun w1 hI hL K hK => ?_) ?_
  rotate_left
  · obtain ⟨hc, hf⟩ := bcell hI
    go_simp
    repeat (first | (go_ints; try go_simp) | (simp only [↓IntWalk.iteOmega]; try go_simp))
    exact hK
  simp only [Act.put, List.setIfInBounds_toArray, List.set_cons_zero, List.set_cons_succ]
  iterate 2
    refine Walk.one (x := ?_) rfl rfl (fun w1 hI hL K hK => ?_) ?_
    rotate_left
    · obtain ⟨hc, hf⟩ := bcell hI
      go_simp
      repeat (first | (go_ints; try go_simp) | (simp only [↓IntWalk.iteOmega]; try go_simp))
      exact hK
    simp only [Act.put, List.setIfInBounds_toArray, List.set_cons_zero, List.set_cons_succ]
  refine Walk.oneG (x := ?_) rfl (by as_aux_lemma => kernel_rfl) (fun w1 hI hL K hK => ?_) ?_
  rotate_left
  · obtain ⟨hc, hf⟩ := bcell hI
    go_simp
    repeat (first | (go_ints; try go_simp) | (simp only [↓IntWalk.iteOmega]; try go_simp))
    exact hK
  simp only [Act.put, List.setIfInBounds_toArray, List.set_cons_zero, List.set_cons_succ]
  refine Walk.tellG rfl (by as_aux_lemma => kernel_rfl) (fun w1 hI hL K hK => ?_) ?_
  · go_simp
    exact (fFromInt_1 w1).mono (tell hK)
  rintro _ ⟨Z13, rfl⟩
  simp only [Act.put, List.setIfInBounds_toArray, List.set_cons_zero, List.set_cons_succ]
  refine Walk.tellG rfl (by as_aux_lemma => kernel_rfl) (fun w1 hI hL K hK => ?_) ?_
  · go_simp
    exact (fCmp ⟨⟨false, XNp, XNn, XNc⟩, ⟨XDb, XDp, XDn, XDc⟩⟩ Z13 x 1 w1 ((hX).ext hI) ((Tl.getF (kn (i := 10) (v := .agg #[.bool Z13.N.b, .slice Z13.N.p Z13.N.n Z13.N.c, .bool Z13.D.b, .slice Z13.D.p Z13.D.n Z13.D.c]) rfl (by simp) (pred_of (by as_aux_lemma => kernel_rfl)) hL)).1) bx sz_one).mono (tell hK)
  rintro _ rfl
  simp only [Act.put, List.setIfInBounds_toArray, List.set_cons_zero, List.set_cons_succ]
  refine Walk.oneG (x := ?_) rfl (by as_aux_lemma => kernel_rfl) (fun w1 hI hL K hK => ?_) ?_
  rotate_left
  · obtain ⟨hc, hf⟩ := bcell hI
    go_simp
    repeat (first | (go_ints; try go_simp) | (simp only [↓IntWalk.iteOmega]; try go_simp))
    exact hK
  simp only [Act.put, List.setIfInBounds_toArray, List.set_cons_zero, List.set_cons_succ]
  refine Walk.one (x := ?_) rfl rfl (fun w1 hI hL K hK => ?_) ?_
  rotate_left
  · obtain ⟨hc, hf⟩ := bcell hI
    go_simp
    repeat (first | (go_ints; try go_simp) | (simp only [↓IntWalk.iteOmega]; try go_simp))
    exact hK
  simp only [Act.put, List.setIfInBounds_toArray, List.set_cons_zero, List.set_cons_succ]
  refine Walk.nilF fun w2 ew2 kzL kzX => ?_
  have zw2 := ew2.size
  clear kzL kzX
  simp only [List.drop_succ_cons, List.drop_zero, List.drop_nil]
  have xw_w2 := eg ew1 ew2
  go_wp2_with fail
  clear b1_w1
  refine bodyPost_ret (v := .bool true) (by simp [results, Tryz.results29, go_sem]) rfl ?_
  exact Gv.of_v xw_w2

theorem nchance (X : Fr) (x : Rat) (w : World) (hX : FR w X x) (bx : Sz x) (h0 : 0 ≤ x) (h1 : x ≤ 1) : Calls Tryz.prog 29 #[.agg #[.bool X.N.b, .slice X.N.p X.N.n X.N.c, .bool X.D.b, .slice X.D.p X.D.n X.D.c]] w (Gv (.v (.bool true)) w) := by
  have hn := hX.1.neg
  have hp := Rat.num_nonneg.2 h0
  obtain ⟨⟨nb, np, nn, nc⟩, ⟨db, dp, dn, dc⟩⟩ := X
  have hb : nb = false := by
    have : nb = decide (x.num < 0) := hn
    rw [this]; simp; omega
  subst hb
  refine nchance1 np nn nc db dp dn dc x w hX bx ?_
  rw [decide_eq_true_eq]
  unfold cmpQ
  rw [cmpZ_le]
  rw [Rat.le_iff] at h1
  exact h1
end Go.Proofs.YtndgaecfeaedeaaGreat
