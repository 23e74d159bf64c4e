/- Walks of package life: Expect. If no rate is less, no probability of being alive is greater. No condition: plain laws of numbers. Walks of the document's answer on lives: Right, Quote. Walks of the document's answer on lives: Lives. -/
import Derived.Test.YtndgaecfeaedeaaGreatG10
import Derived.Test.YtndgaecfeaedeaaGreatG18
import Derived.Test.YtndgaecfeaedeaaGreatG20
import Derived.Test.YtndgaecfeaedeaaGreatG21
set_option linter.unusedSimpArgs false
set_option linter.unusedVariables false
namespace Go.Proofs.YtndgaecfeaedeaaGreat
open Go.RowKit Lex Mth
attribute [local go_sem] run_indexAt_at add_zero_map Oper.semAt_some at_zero at_add at_mk1 at_mk2 at_mk3

/-- The expected number of complete years. -/
def lex (T : Tb) (R : Nat → Nat → Rat) (e y : Int) : Rat := es (fun k => rt T R e (y + (k : Nat))) (yN T e y + 1)
/-- What the loop has gathered: the sum in the box g, the probability in the box g'. -/
def EI (g g' : Nat) (q q' : Rat) (B : Nat) (w4 W : World) : Prop := ∃ O O' : Fr, Cells W g 40 #[.bool O.N.b, .slice O.N.p O.N.n O.N.c, .bool O.D.b, .slice O.D.p O.D.n O.D.c] ∧ FR W O q ∧ OF B W O ∧ (∀ b ∈ Bl O.val, ¬ LoopBlocks w4 1 b) ∧ Cells W g' 40 #[.bool O'.N.b, .slice O'.N.p O'.N.n O'.N.c, .bool O'.D.b, .slice O'.D.p O'.D.n O'.D.c] ∧ FR W O' q' ∧ OF B W O' ∧ (∀ b ∈ Bl O'.val, ¬ LoopBlocks w4 1 b) ∧ Keeps (fun b => (b = g ∨ b = g') ∨ LoopBlocks w4 1 b) w4 W
theorem EI.keeps {g g' : Nat} {q q' : Rat} {B : Nat} {w4 A C : World} (h : EI g g' q q' B w4 A) (k : Keeps (LoopBlocks w4 1) A C) (hg : ¬ LoopBlocks w4 1 g) (hg' : ¬ LoopBlocks w4 1 g') : EI g g' q q' B w4 C := by
 obtain ⟨O, O', h1, h2, h3, h4, k1, k2, k3, k4, h7⟩ := h
 obtain ⟨a, b⟩ := FR.keepsO h2 h3 k h4
 obtain ⟨a', b'⟩ := FR.keepsO k2 k3 k k4
 exact ⟨O, O', h1.keeps k hg, a, b, h4, k1.keeps k hg', a', b', k4, h7.trans (k.mono fun b _ h => .inr h)⟩

set_option maxRecDepth 100000 in
set_option maxHeartbeats 2000000 in
theorem lExpect (T : Tb) (R : Nat → Nat → Rat) (e y : Int) (w : World) (hT : TQ w T R) (hok : okL T e y = true) :
    Calls Tryz.prog 19 #[.agg #[.int .i64 T.first, .int .i64 T.sel, .slice T.P T.N T.C], .agg #[.int .i64 e, .int .i64 y]] w (Gv (.fe (lex T R e y) 0) w) := by
 obtain ⟨h1, h2, h3, h4⟩ : T.first ≤ e ∧ e ≤ T.first + (T.N : Int) - 1 ∧ 0 ≤ y ∧ y ≤ 500 := by
  unfold okL at hok
  simp only [Bool.and_eq_true, decide_eq_true_eq] at hok
  exact ⟨hok.1.1.1.2, hok.1.1.2, hok.1.2, by omega⟩
 have rs := rs_rt hT h1 h2 h3
 have hA := yN_le hT h1 h3
 have Hok := Lib.hid hok
 clear hok
 refine (callsIn_wide (n := 2)).1 ?_
 refine callsIn_of_wp_marks Tryz.func19 rfl trivial ?_ rfl
 simp only [Tryz.ntmps19, List.size_toArray, List.length_cons, List.length_nil, Nat.reduceAdd, Nat.reduceSub, Array.replicate_succ, Array.replicate_zero, List.push_toArray, List.append_toArray, List.nil_append, List.cons_append]
 obtain ⟨w1, hw1⟩ : ∃ W, ((w.alloc (.cells #[.int .i64 T.first, .int .i64 T.sel, .slice T.P T.N T.C] 24)).alloc (.cells #[.int .i64 e, .int .i64 y] 26)).alloc (.cells #[.bool false, .slice none 0 0, .bool false, .slice none 0 0] 40) = W := ⟨_, rfl⟩
 have e1 : Ext w w1 := by rw [← hw1]; exact eg (eg (ea _ _) (ea _ _)) (ea _ _)
 have A1 : Cells w1 w.heap.size 24 #[.int .i64 T.first, .int .i64 T.sel, .slice T.P T.N T.C] := by rw [← hw1]; exact ((Cells.newAt _ _ rfl).alloc _).alloc _
 have AL : Cells w1 (w.heap.size + 1) 26 #[.int .i64 e, .int .i64 y] := by rw [← hw1]; exact (Cells.newAt _ _ (by simp)).alloc _
 have A3 : Cells w1 (w.heap.size + 1 + 1) 40 #[.bool false, .slice none 0 0, .bool false, .slice none 0 0] := by rw [← hw1]; exact Cells.newAt _ _ (by simp)
 have a0 := A1.cell (k := 0) rfl
 have a1 := A1.cell (k := 1) rfl
 have a2 := A1.cell (k := 2) rfl
 have a3 := AL.cell (k := 0) rfl
 have a4 := AL.cell (k := 1) rfl
 have l30 := A3.lt
 gi_wp2_with fail
 clear hw1 a0 a1 a2 a3 a4
 refine Go_wide (lRight T e y w1 (hT.tw.ext e1) (okL_ey Hok.out) Hok.out) ?_
 intro ee w1b gg
 obtain ⟨rfl, e1b⟩ := Gv.v gg
 replace A1 := A1.ext e1b
 replace AL := AL.ext e1b
 replace A3 := A3.ext e1b
 gi_wp2_with fail
 refine Go_wide (fFromInt_0 w1b) ?_
 intro ee w2 gg
 obtain ⟨O, rfl, hO, oO, e2⟩ := Gv.f gg
 gi_wp2_with fail
 refine Go_wide (fFromInt_1 w2) ?_
 intro ee w2c gg
 obtain ⟨O', rfl, hO', oO', e2c⟩ := Gv.f gg
 obtain ⟨w3, hw3⟩ : ∃ W, (w2c.alloc (.cells #[.bool O.N.b, .slice O.N.p O.N.n O.N.c, .bool O.D.b, .slice O.D.p O.D.n O.D.c] 40)).alloc (.cells #[.bool O'.N.b, .slice O'.N.p O'.N.n O'.N.c, .bool O'.D.b, .slice O'.D.p O'.D.n O'.D.c] 40) = W := ⟨_, rfl⟩
 have e3 : Ext w2c w3 := by rw [← hw3]; exact eg (ea _ _) (ea _ _)
 have A4 : Cells w3 w2c.heap.size 40 #[.bool O.N.b, .slice O.N.p O.N.n O.N.c, .bool O.D.b, .slice O.D.p O.D.n O.D.c] := by rw [← hw3]; exact (Cells.newAt _ _ rfl).alloc _
 have A5 : Cells w3 (w2c.heap.size + 1) 40 #[.bool O'.N.b, .slice O'.N.p O'.N.n O'.N.c, .bool O'.D.b, .slice O'.D.p O'.D.n O'.D.c] := by rw [← hw3]; exact Cells.newAt _ _ (by simp)
 have l43 := A5.lt
 have e23 := eg (eg e2 e2c) e3
 replace A1 := A1.ext e23
 replace AL := AL.ext e23
 replace A3 := A3.ext e23
 replace hO := hO.ext (eg e2c e3)
 replace oO := oO.ext (eg e2c e3)
 replace hO' := hO'.ext e3
 replace oO' := oO'.ext e3
 have eW3 := eg (eg e1 e1b) e23
 have a0 := A1.cell (k := 0) rfl
 have a1 := A1.cell (k := 1) rfl
 have a2 := A1.cell (k := 2) rfl
 have a3 := AL.cell (k := 0) rfl
 have a4 := AL.cell (k := 1) rfl
 gi_wp2_with fail
 clear hw3 a0 a1 a2 a3 a4
 refine Go_wide (lyears T e y w3) ?_
 rintro ee w4 ⟨Bs, rfl, hBs, hBge, e4⟩
 replace A3 := A3.ext e4
 replace A4 := A4.ext e4
 replace A5 := A5.ext e4
 replace hO := hO.ext e4
 replace oO := oO.ext e4
 replace hO' := hO'.ext e4
 replace oO' := oO'.ext e4
 have eW4 := eg eW3 e4
 have l3 := A3.lt
 have l4 := A4.lt
 have l5 := A5.lt
 have lBs := hBs.lt
 have s1 := e1.size
 have s1b := e1b.size
 have s2 := e2.size
 have s2c := e2c.size
 have hob := oO.bl
 have hob' := oO'.bl
 have hLg : ¬ LoopBlocks w4 1 w2c.heap.size := fun h => by have := h.1; omega
 have hLg' : ¬ LoopBlocks w4 1 (w2c.heap.size + 1) := fun h => by have := h.1; omega
 gi_wp2_with fail
 refine wp_range (gf := 97) rfl (enters_of Tryz.func97 (by kernel_rfl) rfl)
  (years_gives T R e y w hT h1 h2 h3 h4 Bs (fun b => b = w2c.heap.size ∨ b = w2c.heap.size + 1) w4 eW4 hBs (by omega) (fun b hb => by have := eW3.size; omega))
  (Below.refl _ _) (fun _ k vs W hV => by obtain ⟨Q, rfl, _⟩ := hV; rfl) (fun b hb h => by have h1 := h.1; omega)
  (fun k W => EI w2c.heap.size (w2c.heap.size + 1) (es (fun k => rt T R e (y + (k : Nat))) k) (lal T R e y k) w.heap.size w4 W)
  (fun _ _ => False)
  (fun k A C h hk => h.keeps hk hLg hLg')
  (fun c A C h hk => h)
  ⟨O, O', A4, hO, oO.mono (by omega), fun b hb h => by have := (hob b hb).2; have := h.1; omega, A5, hO', oO'.mono (by omega), fun b hb h => by have := (hob' b hb).2; have := h.1; omega, Keeps.refl _ _⟩ (fun _ _ _ => trivial) ?round ?done ?stop
 case round =>
  rintro l k vs W ⟨O, O', hC, hO, oO, hap, hC', hO', oO', hap', hk⟩ hkN ⟨Q, rfl, hQ, oQ, hQs⟩ hWs K hK
  obtain ⟨V1, hV1⟩ : ∃ V, W.alloc (.cells #[.bool Q.N.b, .slice Q.N.p Q.N.n Q.N.c, .bool Q.D.b, .slice Q.D.p Q.D.n Q.D.c] 40) = V := ⟨_, rfl⟩
  have eV : Ext W V1 := by rw [← hV1]; exact ea _ _
  have CQ : Cells V1 W.heap.size 40 #[.bool Q.N.b, .slice Q.N.p Q.N.n Q.N.c, .bool Q.D.b, .slice Q.D.p Q.D.n Q.D.c] := by rw [← hV1]; exact Cells.newAt _ _ rfl
  have lC := hC.lt
  have lC' := hC'.lt
  gi_wp2
  refine hK _ _ (Keeps.of_ext eV) ?_
  clear hK hV1
  intro W2 hk2 hs2
  have hs3 := Nat.le_of_eq hs2
  have hs4 := Nat.le_of_eq hs2.symm
  clear hs2
  have hQb : ∀ b ∈ Bl Q.val, ¬ LoopBlocks w4 1 b := fun b hb h => by have := (oQ.bl b hb).1; have := h.2; omega
  obtain ⟨hO2, oO2⟩ := FR.keepsO (hO.ext eV) (oO.ext eV) hk2 hap
  obtain ⟨hO2', oO2'⟩ := FR.keepsO (hO'.ext eV) (oO'.ext eV) hk2 hap'
  obtain ⟨hQ2, oQ2⟩ := FR.keepsO (hQ.ext eV) (oQ.ext eV) hk2 hQb
  have hC2 := (hC.ext eV).keeps hk2 hLg
  have hC2' := (hC'.ext eV).keeps hk2 hLg'
  have CQ2 := CQ.keeps hk2 (fun h => by have := h.2; omega)
  have hkW : Keeps (fun b => (b = w2c.heap.size ∨ b = w2c.heap.size + 1) ∨ LoopBlocks w4 1 b) w4 W2 := (hk.trans (Keeps.of_ext eV)).trans (hk2.mono fun b _ h => .inr h)
  have c0 := hC2'.cell (k := 0) rfl
  have c1 := hC2'.cell (k := 1) rfl
  have c2 := hC2'.cell (k := 2) rfl
  have c3 := hC2'.cell (k := 3) rfl
  have q0 := CQ2.cell (k := 0) rfl
  have q1 := CQ2.cell (k := 1) rfl
  have q2 := CQ2.cell (k := 2) rfl
  have q3 := CQ2.cell (k := 3) rfl
  have lC2 := hC2'.lt
  have lQ2 := CQ2.lt
  have hal : lal T R e y k * (1 - rt T R e (y + (k : Nat))) = lal T R e y (k + 1) := rfl
  have hes : es (fun k => rt T R e (y + (k : Nat))) k + lal T R e y (k + 1) = es (fun k => rt T R e (y + (k : Nat))) (k + 1) := rfl
  have Hal := Lib.hid hal
  have Hes := Lib.hid hes
  have HS1 := Lib.hid (al_sz rs hA k)
  have HS2 := Lib.hid (al_sz rs hA (k + 1))
  have HE1 := Lib.hid (es_sz rs hA k (by omega))
  have HE2 := Lib.hid (es_sz rs hA (k + 1) (by omega))
  have HS3 : Hid (Sz (1 - rt T R e (y + (k : Nat)))) := not_sz (rs.sm k) (by have := (rt T R e (y + (k : Nat))).den_nz; omega) (by have : siz (rt T R e (y + (k : Nat))).den ≤ 1 := siz_one.2 (rs.den k); omega)
  clear hal hes
  gi_wp2_with fail
  refine regionInT 4 (fun i => match i with | 2 => some (.f (1 - rt T R e (y + (k : Nat)))) | 3 => some (.f (lal T R e y (k + 1))) | _ => none) (.inr ⟨_, rfl⟩) (by kernel_rfl) (by kernel_rfl) (by kernel_rfl) ?_
  iterate 2
   refine Walk.one (x := ?_) rfl rfl (fun w1 hI hL K hK => ?_) ?_
   rotate_left
   ·obtain ⟨hc, hf⟩ := bcell hI
    go_simp
    repeat (first | (go_ints; try go_simp) | (simp only [↓IntWalk.iteOmega]; try go_simp))
    exact hK
   simp only [Pq1]
  refine Walk.tell rfl rfl (fun w1 hI hL K hK => ?_) ?_
  ·go_simp
   exact (lnot Q _ w1 (hQ2.ext hI) hQs HS3.out).mono (tell hK)
  rintro _ ⟨Z18, rfl⟩
  simp only [Pq1]
  refine Walk.tell rfl rfl (fun w1 hI hL K hK => ?_) ?_
  ·have z := (Tl.getF (kn (i := 2) (v := .agg #[.bool Z18.N.b, .slice Z18.N.p Z18.N.n Z18.N.c, .bool Z18.D.b, .slice Z18.D.p Z18.D.n Z18.D.c]) rfl (by simp) (by kernel_rfl) hL)).1
   clear hL
   go_simp
   rw [← Hal.out] at hK
   exact (ltimes O' Z18 _ _ w1 (hO2'.ext hI) z HS1.out HS3.out (by have := HS2.out; rwa [show al _ (k + 1) = _ from Hal.out.symm] at this)).mono (tell hK)
  rintro _ ⟨Z19, rfl⟩
  simp only [Pq1]
  refine Walk.nilF fun W5 e5 kzL kzX => ?_
  obtain ⟨hZ, oZ⟩ := Tl.getF (kz (i := 3) (v := .agg #[.bool Z19.N.b, .slice Z19.N.p Z19.N.n Z19.N.c, .bool Z19.D.b, .slice Z19.D.p Z19.D.n Z19.D.c]) rfl (by simp) kzL)
  clear kzL kzX
  have hC5 := hC2'.ext e5
  have hG5 := hC2.ext e5
  have f0 := hC5.frozen 0
  have f1 := hC5.frozen 1
  have f2 := hC5.frozen 2
  have f3 := hC5.frozen 3
  have c0 := hC5.cell (k := 0) rfl
  have c1 := hC5.cell (k := 1) rfl
  have c2 := hC5.cell (k := 2) rfl
  have c3 := hC5.cell (k := 3) rfl
  simp only [List.drop_succ_cons, List.drop_zero]
  obtain ⟨W6, hW6⟩ : ∃ V, ((((W5).setCell ⟨w2c.heap.size + 1, 0, none⟩ (.bool Z19.N.b)).setCell ⟨w2c.heap.size + 1, 1, none⟩ (.slice Z19.N.p Z19.N.n Z19.N.c)).setCell ⟨w2c.heap.size + 1, 2, none⟩ (.bool Z19.D.b)).setCell ⟨w2c.heap.size + 1, 3, none⟩ (.slice Z19.D.p Z19.D.n Z19.D.c) = V := ⟨_, rfl⟩
  have hC6 : Cells W6 (w2c.heap.size + 1) 40 #[.bool Z19.N.b, .slice Z19.N.p Z19.N.n Z19.N.c, .bool Z19.D.b, .slice Z19.D.p Z19.D.n Z19.D.c] := by rw [← hW6]; exact Cells.sets [.bool Z19.N.b, .slice Z19.N.p Z19.N.n Z19.N.c, .bool Z19.D.b, .slice Z19.D.p Z19.D.n Z19.D.c] hC5 0
  have hG6 : Cells W6 w2c.heap.size 40 #[.bool O.N.b, .slice O.N.p O.N.n O.N.c, .bool O.D.b, .slice O.D.p O.D.n O.D.c] := by rw [← hW6]; exact Cells.off hG5 (b' := w2c.heap.size + 1) (by omega) 0 [.bool Z19.N.b, .slice Z19.N.p Z19.N.n Z19.N.c, .bool Z19.D.b, .slice Z19.D.p Z19.D.n Z19.D.c]
  have hZ6 : FR W6 Z19 (lal T R e y (k + 1)) := by rw [← hW6]; exact FR.sets hZ hC5 (by simp [NoU]) 0 [.bool Z19.N.b, .slice Z19.N.p Z19.N.n Z19.N.c, .bool Z19.D.b, .slice Z19.D.p Z19.D.n Z19.D.c]
  have oZ6 : OF W2.heap.size W6 Z19 := by rw [← hW6]; exact OF.sets oZ hC5 (by decide) 0 [.bool Z19.N.b, .slice Z19.N.p Z19.N.n Z19.N.c, .bool Z19.D.b, .slice Z19.D.p Z19.D.n Z19.D.c]
  have hO6 : FR W6 O (es (fun k => rt T R e (y + (k : Nat))) k) := by rw [← hW6]; exact FR.sets (hO2.ext e5) hC5 (by simp [NoU]) 0 [.bool Z19.N.b, .slice Z19.N.p Z19.N.n Z19.N.c, .bool Z19.D.b, .slice Z19.D.p Z19.D.n Z19.D.c]
  have k6 : Keeps (fun b => b = w2c.heap.size + 1) W5 W6 := by rw [← hW6]; exact sets_keeps (w2c.heap.size + 1) [.bool Z19.N.b, .slice Z19.N.p Z19.N.n Z19.N.c, .bool Z19.D.b, .slice Z19.D.p Z19.D.n Z19.D.c] W5 0
  have g0 := hG6.cell (k := 0) rfl
  have g1 := hG6.cell (k := 1) rfl
  have g2 := hG6.cell (k := 2) rfl
  have g3 := hG6.cell (k := 3) rfl
  have z0 := hC6.cell (k := 0) rfl
  have z1 := hC6.cell (k := 1) rfl
  have z2 := hC6.cell (k := 2) rfl
  have z3 := hC6.cell (k := 3) rfl
  gi_wp2_with fail
  clear hW6

  refine Go_round (lplus O Z19 _ _ W6 hO6 hZ6 HE1.out HS2.out (by rw [Hes.out]; exact HE2.out)) ?_
  intro ee W7 gg
  obtain ⟨Z29, rfl, hY, oY, e7⟩ := Gv.f gg
  have hG7 := hG6.ext e7
  have hC7 := hC6.ext e7
  have f0 := hG7.frozen 0
  have f1 := hG7.frozen 1
  have f2 := hG7.frozen 2
  have f3 := hG7.frozen 3
  have c0 := hG7.cell (k := 0) rfl
  have c1 := hG7.cell (k := 1) rfl
  have c2 := hG7.cell (k := 2) rfl
  have c3 := hG7.cell (k := 3) rfl
  obtain ⟨W8, hW8⟩ : ∃ V, ((((W7).setCell ⟨w2c.heap.size, 0, none⟩ (.bool Z29.N.b)).setCell ⟨w2c.heap.size, 1, none⟩ (.slice Z29.N.p Z29.N.n Z29.N.c)).setCell ⟨w2c.heap.size, 2, none⟩ (.bool Z29.D.b)).setCell ⟨w2c.heap.size, 3, none⟩ (.slice Z29.D.p Z29.D.n Z29.D.c) = V := ⟨_, rfl⟩
  have hG8 : Cells W8 w2c.heap.size 40 #[.bool Z29.N.b, .slice Z29.N.p Z29.N.n Z29.N.c, .bool Z29.D.b, .slice Z29.D.p Z29.D.n Z29.D.c] := by rw [← hW8]; exact Cells.sets [.bool Z29.N.b, .slice Z29.N.p Z29.N.n Z29.N.c, .bool Z29.D.b, .slice Z29.D.p Z29.D.n Z29.D.c] hG7 0
  have hC8 : Cells W8 (w2c.heap.size + 1) 40 #[.bool Z19.N.b, .slice Z19.N.p Z19.N.n Z19.N.c, .bool Z19.D.b, .slice Z19.D.p Z19.D.n Z19.D.c] := by rw [← hW8]; exact Cells.off hC7 (b' := w2c.heap.size) (by omega) 0 [.bool Z29.N.b, .slice Z29.N.p Z29.N.n Z29.N.c, .bool Z29.D.b, .slice Z29.D.p Z29.D.n Z29.D.c]
  have hY8 : FR W8 Z29 (es (fun k => rt T R e (y + (k : Nat))) k + lal T R e y (k + 1)) := by rw [← hW8]; exact FR.sets hY hG7 (by simp [NoU]) 0 [.bool Z29.N.b, .slice Z29.N.p Z29.N.n Z29.N.c, .bool Z29.D.b, .slice Z29.D.p Z29.D.n Z29.D.c]
  have oY8 : OF W6.heap.size W8 Z29 := by rw [← hW8]; exact OF.sets oY hG7 (by decide) 0 [.bool Z29.N.b, .slice Z29.N.p Z29.N.n Z29.N.c, .bool Z29.D.b, .slice Z29.D.p Z29.D.n Z29.D.c]
  have hZ8 : FR W8 Z19 (lal T R e y (k + 1)) := by rw [← hW8]; exact FR.sets (hZ6.ext e7) hG7 (by simp [NoU]) 0 [.bool Z29.N.b, .slice Z29.N.p Z29.N.n Z29.N.c, .bool Z29.D.b, .slice Z29.D.p Z29.D.n Z29.D.c]
  have oZ8 : OF W2.heap.size W8 Z19 := by rw [← hW8]; exact OF.sets (oZ6.ext e7) hG7 (by decide) 0 [.bool Z29.N.b, .slice Z29.N.p Z29.N.n Z29.N.c, .bool Z29.D.b, .slice Z29.D.p Z29.D.n Z29.D.c]
  have k8 : Keeps (fun b => b = w2c.heap.size) W7 W8 := by rw [← hW8]; exact sets_keeps w2c.heap.size [.bool Z29.N.b, .slice Z29.N.p Z29.N.n Z29.N.c, .bool Z29.D.b, .slice Z29.D.p Z29.D.n Z29.D.c] W7 0
  have kAll : Keeps (fun b => b = w2c.heap.size ∨ b = w2c.heap.size + 1) W2 W8 := (((Keeps.of_ext e5).trans (k6.mono fun b _ h => .inr h)).trans (Keeps.of_ext e7)).trans (k8.mono fun b _ h => .inl h)
  have s4 := eW4.size
  have s5 := hkW.size
  have s6 := eV.size
  have s7 := e5.size
  have s8 := k6.size
  gi_wp2_with fail
  clear hW8
  exact ⟨kAll, Z29, Z19, hG8, hY8, oY8.mono (by omega), fun b hb h => by have := (oY.bl b hb).1; have := h.2; omega, hC8, hZ8, oZ8.mono (by omega), fun b hb h => by have := (oZ.bl b hb).1; have := h.2; omega, hkW.trans (kAll.mono fun b _ h => .inl h)⟩
 case done =>
  rintro W ⟨O5, O6, hC5, hO5, oO5, hap5, _, _, _, _, hK5⟩ hD
  have c0 := hC5.cell (k := 0) rfl
  have c1 := hC5.cell (k := 1) rfl
  have c2 := hC5.cell (k := 2) rfl
  have c3 := hC5.cell (k := 3) rfl
  have A35 := A3.keeps hK5 (by rintro (h | h); omega; have := h.1; omega)
  have f0 := A35.frozen 0
  have f1 := A35.frozen 1
  have f2 := A35.frozen 2
  have f3 := A35.frozen 3
  have b0 := A35.cell (k := 0) rfl
  have b1 := A35.cell (k := 1) rfl
  have b2 := A35.cell (k := 2) rfl
  have b3 := A35.cell (k := 3) rfl
  obtain ⟨W6, hW6⟩ : ∃ V, ((((W).setCell ⟨w.heap.size + 1 + 1, 0, none⟩ (.bool O5.N.b)).setCell ⟨w.heap.size + 1 + 1, 1, none⟩ (.slice O5.N.p O5.N.n O5.N.c)).setCell ⟨w.heap.size + 1 + 1, 2, none⟩ (.bool O5.D.b)).setCell ⟨w.heap.size + 1 + 1, 3, none⟩ (.slice O5.D.p O5.D.n O5.D.c) = V := ⟨_, rfl⟩
  have C6 : Cells W6 (w.heap.size + 1 + 1) 40 #[.bool O5.N.b, .slice O5.N.p O5.N.n O5.N.c, .bool O5.D.b, .slice O5.D.p O5.D.n O5.D.c] := by rw [← hW6]; exact Cells.sets [.bool O5.N.b, .slice O5.N.p O5.N.n O5.N.c, .bool O5.D.b, .slice O5.D.p O5.D.n O5.D.c] A35 0
  have hO6 : FR W6 O5 (lex T R e y) := by rw [← hW6]; exact FR.sets hO5 A35 (by simp [NoU]) 0 [.bool O5.N.b, .slice O5.N.p O5.N.n O5.N.c, .bool O5.D.b, .slice O5.D.p O5.D.n O5.D.c]
  have oO6 : OF w.heap.size W6 O5 := by rw [← hW6]; exact OF.sets oO5 A35 (by decide) 0 [.bool O5.N.b, .slice O5.N.p O5.N.n O5.N.c, .bool O5.D.b, .slice O5.D.p O5.D.n O5.D.c]
  have k6 : Keeps (fun b => b = w.heap.size + 1 + 1) W W6 := by rw [← hW6]; exact sets_keeps _ [.bool O5.N.b, .slice O5.N.p O5.N.n O5.N.c, .bool O5.D.b, .slice O5.D.p O5.D.n O5.D.c] W 0
  have hD6 : W6.heap[w4.heap.size]? = some (.deferred (some [])) := k6.heap hD (by omega)
  have kk : Keeps (fun b => b = w4.heap.size) W6 (W6.putObj w4.heap.size (.deferred none)) := Keeps.mark (M := fun b => b = w4.heap.size) (Keeps.refl _ _) rfl
  obtain ⟨hO7, oO7⟩ := FR.keepsO hO6 oO6 kk (fun b hb h => hap5 b hb ⟨by omega, by omega⟩)
  have C7 := C6.keeps kk (by omega)
  have s4 := eW4.size
  gi_wp2_with fail
  clear hW6
  have d0 := C7.cell (k := 0) rfl
  have d1 := C7.cell (k := 1) rfl
  have d2 := C7.cell (k := 2) rfl
  have d3 := C7.cell (k := 3) rfl
  refine leave_marked (v := .tuple #[.agg #[.bool O5.N.b, .slice O5.N.p O5.N.n O5.N.c, .bool O5.D.b, .slice O5.D.p O5.D.n O5.D.c], .int .i64 0]) hD6 (by simp [results, Tryz.results19, go_sem, d0, d1, d2, d3]) (Gv.of_fe (X := O5) hO7 oO7 ?_)
  exact Keeps.go (M := fun b => w.heap.size ≤ b) eW4 (((hK5.mono (by rintro b _ (h | h); omega; have := h.1; omega)).trans (k6.mono fun b _ h => by omega)).trans (kk.mono fun b _ h => by omega)) (fun _ h => h)
 case stop =>
  intro c W h
  exact h.elim
end Go.Proofs.YtndgaecfeaedeaaGreat
namespace Go.Proofs.YtndgaecfeaedeaaGreat
open Mth

/-- A table none of whose rates is less than the other's. -/
structure Worse (T T' : Tb) (R R' : Nat → Nat → Rat) : Prop where
 first : T'.first = T.first
 sel : T'.sel = T.sel
 N : T'.N = T.N
 le : ∀ k, k < T.N → ∀ j : Nat, (j : Int) ≤ T.sel → R k j ≤ R' k j
/-- The rate r + (1 - r) * n / d. -/
theorem up_ge {q p : Rat} (hq : q ≤ 1) (hp : 0 ≤ p) : q ≤ q + (1 - q) * p := by
 have := Rat.mul_nonneg (a := 1 - q) (b := p) (by grind) hp
 grind
theorem up_le {q p : Rat} (hq : q ≤ 1) (hp : p ≤ 1) : q + (1 - q) * p ≤ 1 := by
 have := Rat.mul_le_mul_of_nonneg_left (a := p) (b := 1) (c := 1 - q) hp (by grind)
 grind
end Go.Proofs.YtndgaecfeaedeaaGreat
namespace Go.Proofs.YtndgaecfeaedeaaGreat
open Go.RowKit Lex Mth
attribute [local go_sem] run_indexAt_at add_zero_map Oper.semAt_some at_zero at_add at_mk1 at_mk2 at_mk3

theorem al_zero {r : Nat → Rat} {k : Nat} (h : al r k = 0) : ∀ n, k ≤ n → al r n = 0
 | 0, hn => by obtain rfl : k = 0 := by omega
               exact h
 | n + 1, hn => by
  rcases Nat.lt_or_eq_of_le hn with h1 | rfl
  ·rw [al, al_zero h n (by omega), Rat.zero_mul]
  ·exact h
theorem es_end {r : Nat → Rat} {A : Nat} (h : RS r A) : ∀ n, A ≤ n → es r n = es r A
 | 0, hn => by obtain rfl : A = 0 := by omega
               rfl
 | n + 1, hn => by
  rcases Nat.lt_or_eq_of_le hn with h1 | rfl
  ·rw [es, es_end h n (by omega), al_end h (n + 1) (by omega), Rat.add_zero]
  ·rfl
theorem yN_leB {T : Tb} {e y : Int} (hb : boundsOk T) (h1 : T.first ≤ e) (h3 : 0 ≤ y) : yN T e y ≤ 111 := by unfold boundsOk at hb; unfold yN; omega
theorem yN_le2 {T : Tb} {e y : Int} (h1 : T.first ≤ e) (h3 : 0 ≤ y) : yN T e y ≤ T.N := by unfold yN; omega
theorem lal_szH {w : World} {T : Tb} {R : Nat → Nat → Rat} (hT : TQ w T R) {e y : Int} (h1 : T.first ≤ e) (h2 : e ≤ T.first + (T.N : Int) - 1) (h3 : 0 ≤ y) (n : Nat) : Sz (lal T R e y n) := al_sz (rs_rt hT h1 h2 h3) (yN_leB hT.b h1 h3) n
theorem rt_szN {w : World} {T : Tb} {R : Nat → Nat → Rat} (hT : TQ w T R) {e y : Int} (h1 : T.first ≤ e) (h2 : e ≤ T.first + (T.N : Int) - 1) (h3 : 0 ≤ y) : Sz (1 - rt T R e y) := by
 obtain ⟨s1, s2, s3, s4⟩ := sz_rt hT h1 h2 h3
 exact not_sz (D := (rt T R e y).den) ⟨Nat.dvd_refl _, s3, by rw [natCast_one]; exact s4⟩ (Nat.pos_of_ne_zero (rt T R e y).den_nz) (by have : siz (rt T R e y).den ≤ 1 := siz_one.2 s2; omega)
theorem lal_nz {w : World} {T : Tb} {R : Nat → Nat → Rat} (hT : TQ w T R) {e y : Int} (h1 : T.first ≤ e) (h2 : e ≤ T.first + (T.N : Int) - 1) (h3 : 0 ≤ y) {n : Nat} (h : ¬ lal T R e y n = 0) : n ≤ 111 := by
 have := yN_leB hT.b h1 h3
 rcases Nat.lt_or_ge (yN T e y) n with hn | hn
 ·exact absurd (al_end (rs_rt hT h1 h2 h3) n hn) h
 ·omega
theorem lex_all {w : World} {T : Tb} {R : Nat → Nat → Rat} (hT : TQ w T R) {e y : Int} (h1 : T.first ≤ e) (h2 : e ≤ T.first + (T.N : Int) - 1) (h3 : 0 ≤ y) : es (fun k => rt T R e (y + (k : Nat))) (T.N + 1) = lex T R e y := by
 have hr := rs_rt hT h1 h2 h3
 have := yN_le2 (T := T) h1 h3
 show _ = es _ _
 rw [es_end hr (T.N + 1) (by omega), es_end hr (yN T e y + 1) (by omega)]
theorem okL_not {T : Tb} {e y : Int} (h : okT T = false ∨ e < T.first ∨ T.first + (T.N : Int) ≤ e ∨ y < 0 ∨ 300 < y) : okL T e y = false := by
 rw [Bool.eq_false_iff]
 intro ok
 unfold okL at ok
 simp only [Bool.and_eq_true, decide_eq_true_eq] at ok
 rcases h with h | h | h | h | h
 ·rw [h] at ok; exact absurd ok.1.1.1.1 (by simp)
 ·omega
 ·omega
 ·omega
 ·omega
theorem okL_yes {T : Tb} {e y : Int} (h : okT T = true) (h1 : T.first ≤ e) (h2 : e < T.first + (T.N : Int)) (h3 : 0 ≤ y) (h4 : y ≤ 300) : okL T e y = true := by
 unfold okL
 rw [h]
 simp only [Bool.true_and, Bool.and_eq_true, decide_eq_true_eq]
 omega
theorem FR.to {w : World} {X : Fr} {q q' : Rat} (h : FR w X q) (e : Hid (q = q')) : FR w X q' := e.out ▸ h

set_option maxRecDepth 100000 in
theorem tNot (X : Fr) (x : Rat) (w : World) (hX : FR w X x) (bx : Sz x) :
    Calls Tryz.prog 95 #[.agg #[.bool X.N.b, .slice X.N.p X.N.n X.N.c, .bool X.D.b, .slice X.D.p X.D.n X.D.c]] w (Gv (.f0 (1 - x)) w) := by
 obtain ⟨w1, hww1, ew1, B1, zw1⟩ := alloc_at w (w.heap.size) (by omega) #[.bool X.N.b, .slice X.N.p X.N.n X.N.c, .bool X.D.b, .slice X.D.p X.D.n X.D.c] 40
 obtain ⟨w2, hww2, ew2, B2, zw2⟩ := alloc_at w1 (w.heap.size + 1) (by omega) #[.bool false, .slice none 0 0, .bool false, .slice none 0 0] 40
 replace B1 := B1.ext ew2
 have b1_w2 := B1.c4
 have xw_w2 := eg ew1 ew2
 replace hX := hX.ext xw_w2
 go_enter Tryz.func95, Tryz.ntmps95
 go_wp2_with fail
 clear hww1 hww2
 replace zw1 := le2 zw1
 replace zw2 := le2 zw2
 refine regionT 3 (fun kk => match kk with | 0 => some (.f (1)) | 2 => some (.f0 (1 - x)) | _ => none) (by as_aux_lemma => kernel_rfl) (head_of (by as_aux_lemma => kernel_rfl)) ?_
 refine Walk.tell rfl rfl (fun w1 hI hL K hK => ?_) ?_
 ·go_simp
  exact (tOne  w1).mono (tell hK)
 rintro _ ⟨Z3, rfl⟩
 simp only [Pq1]
 refine Walk.one (x := ?_) rfl rfl (fun w1 hI hL K hK => ?_) ?_
 rotate_left
 ·obtain ⟨hc, hf⟩ := bcell hI
  go_simp
  repeat (first | (go_ints; try go_simp) | (simp only [↓IntWalk.iteOmega]; try go_simp))
  exact hK
 simp only [Pq1]
 refine Walk.tell rfl rfl (fun w1 hI hL K hK => ?_) ?_
 ·go_simp
  exact (rMinus Z3 X _ _ w1 ((Tl.getF (kn (i := 0) (v := .agg #[.bool Z3.N.b, .slice Z3.N.p Z3.N.n Z3.N.c, .bool Z3.D.b, .slice Z3.D.p Z3.D.n Z3.D.c]) rfl (by simp) (pred_of (by as_aux_lemma => kernel_rfl)) hL)).1) ((hX).ext hI) (sz_one) (bx)).mono (tell hK)
 rintro _ ⟨Z5, rfl⟩
 simp only [Pq1]
 refine Walk.nilF fun w3 ew3 kzL kzX => ?_
 have zw3 := ew3.size
 have hZ5 := Tl.getF0 (kz (i := 2) (v := .agg #[.bool Z5.N.b, .slice Z5.N.p Z5.N.n Z5.N.c, .bool Z5.D.b, .slice Z5.D.p Z5.D.n Z5.D.c]) rfl (by simp) kzL)
 clear kzL kzX
 simp only [List.drop_succ_cons, List.drop_zero, List.drop_nil]
 replace B2 := B2.ext ew3
 have b2_w3 := B2.c4
 have fb2_w3 := B2.f4
 have xw_w3 := eg xw_w2 ew3
 obtain ⟨w4, hww4, kw4, Nw4, zw4⟩ := B2.put4 (.bool Z5.N.b) (.slice Z5.N.p Z5.N.n Z5.N.c) (.bool Z5.D.b) (.slice Z5.D.p Z5.D.n Z5.D.c)
 have nuw4 : NoU #[.bool false, .slice none 0 0, .bool false, .slice none 0 0] := by simp [NoU]
 replace hZ5 := FR.kb hZ5 B2 nuw4 kw4
 have xw_w4 := Ext.kb xw_w3 kw4 (by omega)
 replace B2 := Nw4
 clear Nw4 kw4
 have b2_w4 := B2.c4
 go_wp2_with fail
 clear hww4
 clear b1_w2 b2_w3 fb2_w3
 replace zw4 := le2 zw4
 refine bodyPost_ret (v := .agg #[.bool Z5.N.b, .slice Z5.N.p Z5.N.n Z5.N.c, .bool Z5.D.b, .slice Z5.D.p Z5.D.n Z5.D.c]) (by simp [results, Tryz.results95, go_sem, b2_w4]) rfl ?_
 exact Gv.of_f0 (X := Z5) (hZ5) xw_w4


theorem tValid_b (T : Tb) (w : World) (h : TW w T) {b : Bool} (hb : okT T = b) : Calls Tryz.prog 11 #[.agg #[.int .i64 T.first, .int .i64 T.sel, .slice T.P T.N T.C]] w (Gv (.v (.bool b)) w) := hb ▸ tValid T w h
theorem right_cases (T : Tb) (e y : Int) : okT T = false ∨ (okT T = true ∧ boundsOk T ∧ e < T.first) ∨ (okT T = true ∧ boundsOk T ∧ T.first ≤ e ∧ T.first + (T.N : Int) ≤ e) ∨ (okT T = true ∧ boundsOk T ∧ T.first ≤ e ∧ e < T.first + (T.N : Int) ∧ y < 0) ∨ (okT T = true ∧ boundsOk T ∧ T.first ≤ e ∧ e < T.first + (T.N : Int) ∧ 0 ≤ y ∧ 300 < y) ∨ (okT T = true ∧ boundsOk T ∧ T.first ≤ e ∧ e < T.first + (T.N : Int) ∧ 0 ≤ y ∧ y ≤ 300) := by
 cases h : okT T
 ·exact .inl rfl
 ·have hb := (okT_iff.1 h).1
  by_cases h1 : T.first ≤ e
  ·by_cases h2 : e < T.first + (T.N : Int)
   ·by_cases h3 : 0 ≤ y
    ·by_cases h4 : y ≤ 300
     ·exact .inr (.inr (.inr (.inr (.inr ⟨rfl, hb, h1, h2, h3, h4⟩))))
     ·exact .inr (.inr (.inr (.inr (.inl ⟨rfl, hb, h1, h2, h3, by omega⟩))))
    ·exact .inr (.inr (.inr (.inl ⟨rfl, hb, h1, h2, by omega⟩)))
   ·exact .inr (.inr (.inl ⟨rfl, hb, h1, by omega⟩))
  ·exact .inr (.inl ⟨rfl, hb, by omega⟩)

set_option maxRecDepth 100000 in
theorem tRight_ (T : Tb) (e y : Int) (w : World) (hT : TW w T) (ey : -9223372036854775808 ≤ e ∧ e ≤ 9223372036854775807 ∧ -9223372036854775808 ≤ y ∧ y ≤ 9223372036854775807) :
    Calls Tryz.prog 51 #[.agg #[.int .i64 T.first, .int .i64 T.sel, .slice T.P T.N T.C], .agg #[.int .i64 e, .int .i64 y]] w (Gv (.v (.bool (okL T e y))) w) := by
 obtain ⟨w1, hww1, ew1, B1, zw1⟩ := alloc_at w (w.heap.size) (by omega) #[.int .i64 T.first, .int .i64 T.sel, .slice T.P T.N T.C] 31
 obtain ⟨w2, hww2, ew2, B2, zw2⟩ := alloc_at w1 (w.heap.size + 1) (by omega) #[.int .i64 e, .int .i64 y] 63
 go_enter Tryz.func51, Tryz.ntmps51
 rcases right_cases T e y with ok | ⟨ok, hb, h1⟩ | ⟨ok, hb, h1, h2⟩ | ⟨ok, hb, h1, h2, h3⟩ | ⟨ok, hb, h1, h2, h3, h4⟩ | ⟨ok, hb, h1, h2, h3, h4⟩
 ·skip
  replace B1 := B1.ext ew2
  have b1_w2 := B1.c3
  have xw_w2 := eg ew1 ew2
  have hno := Lib.hid (okL_not (T := T) (e := e) (y := y) (.inl ok))
  have Hok := Lib.hid ok
  clear ok
  go_wp2_with fail
  clear hww1 hww2
  replace zw1 := le2 zw1
  replace zw2 := le2 zw2
  refine (tValid_b T _ (hT.ext xw_w2) Hok.out).mono (Gv.onV fun w3 ew3 zw3 => ?_)
  have xw_w3 := eg xw_w2 ew3
  go_wp2_with fail
  clear b1_w2
  refine bodyPost_ret (v := .bool false) (by simp [results, Tryz.results51, go_sem]) rfl ?_
  rw [hno.out]
  exact Gv.of_v xw_w3
 ·skip
  replace B1 := B1.ext ew2
  have b1_w2 := B1.c3
  have xw_w2 := eg ew1 ew2
  have hno := Lib.hid (okL_not (T := T) (e := e) (y := y) (.inr (.inl h1)))
  have Hok := Lib.hid ok
  clear ok
  obtain ⟨b1, b2, b3, b4, b5, b6⟩ := id hb
  go_wp2_with fail
  clear hww1 hww2
  replace zw1 := le2 zw1
  replace zw2 := le2 zw2
  refine (tValid_b T _ (hT.ext xw_w2) Hok.out).mono (Gv.onV fun w4 ew4 zw4 => ?_)
  replace B2 := B2.ext ew4
  have b2_w4 := B2.c2
  replace B1 := B1.ext ew4
  have b1_w4 := B1.c3
  have xw_w4 := eg xw_w2 ew4
  go_wp2_with fail
  clear b1_w2
  refine bodyPost_ret (v := .bool false) (by simp [results, Tryz.results51, go_sem]) rfl ?_
  rw [hno.out]
  exact Gv.of_v xw_w4
 ·skip
  replace B1 := B1.ext ew2
  have b1_w2 := B1.c3
  have xw_w2 := eg ew1 ew2
  have hno := Lib.hid (okL_not (T := T) (e := e) (y := y) (.inr (.inr (.inl h2))))
  have Hok := Lib.hid ok
  clear ok
  obtain ⟨b1, b2, b3, b4, b5, b6⟩ := id hb
  go_wp2_with fail
  clear hww1 hww2
  replace zw1 := le2 zw1
  replace zw2 := le2 zw2
  refine (tValid_b T _ (hT.ext xw_w2) Hok.out).mono (Gv.onV fun w5 ew5 zw5 => ?_)
  replace B2 := B2.ext ew5
  have b2_w5 := B2.c2
  replace B1 := B1.ext ew5
  have b1_w5 := B1.c3
  have xw_w5 := eg xw_w2 ew5
  go_wp2_with fail
  clear b1_w2
  refine bodyPost_ret (v := .bool false) (by simp [results, Tryz.results51, go_sem]) rfl ?_
  rw [hno.out]
  exact Gv.of_v xw_w5
 ·skip
  replace B1 := B1.ext ew2
  have b1_w2 := B1.c3
  have xw_w2 := eg ew1 ew2
  have hno := Lib.hid (okL_not (T := T) (e := e) (y := y) (.inr (.inr (.inr (.inl h3)))))
  have Hok := Lib.hid ok
  clear ok
  obtain ⟨b1, b2, b3, b4, b5, b6⟩ := id hb
  go_wp2_with fail
  clear hww1 hww2
  replace zw1 := le2 zw1
  replace zw2 := le2 zw2
  refine (tValid_b T _ (hT.ext xw_w2) Hok.out).mono (Gv.onV fun w6 ew6 zw6 => ?_)
  replace B2 := B2.ext ew6
  have b2_w6 := B2.c2
  replace B1 := B1.ext ew6
  have b1_w6 := B1.c3
  have xw_w6 := eg xw_w2 ew6
  go_wp2_with fail
  clear b1_w2
  refine bodyPost_ret (v := .bool false) (by simp [results, Tryz.results51, go_sem]) rfl ?_
  rw [hno.out]
  exact Gv.of_v xw_w6
 ·skip
  replace B1 := B1.ext ew2
  have b1_w2 := B1.c3
  have xw_w2 := eg ew1 ew2
  have hno := Lib.hid (okL_not (T := T) (e := e) (y := y) (.inr (.inr (.inr (.inr h4)))))
  have Hok := Lib.hid ok
  clear ok
  obtain ⟨b1, b2, b3, b4, b5, b6⟩ := id hb
  have hd : decide (y ≤ 300) = false := by simp; omega
  go_wp2_with fail
  clear hww1 hww2
  replace zw1 := le2 zw1
  replace zw2 := le2 zw2
  refine (tValid_b T _ (hT.ext xw_w2) Hok.out).mono (Gv.onV fun w7 ew7 zw7 => ?_)
  replace B2 := B2.ext ew7
  have b2_w7 := B2.c2
  replace B1 := B1.ext ew7
  have b1_w7 := B1.c3
  have xw_w7 := eg xw_w2 ew7
  go_wp2_with fail
  clear b1_w2
  refine bodyPost_ret (v := .bool false) (by simp [results, Tryz.results51, go_sem]) rfl ?_
  rw [hno.out]
  exact Gv.of_v xw_w7
 ·skip
  replace B1 := B1.ext ew2
  have b1_w2 := B1.c3
  have xw_w2 := eg ew1 ew2
  have hno := Lib.hid (okL_yes (T := T) (e := e) (y := y) ok h1 h2 h3 h4)
  have Hok := Lib.hid ok
  clear ok
  obtain ⟨b1, b2, b3, b4, b5, b6⟩ := id hb
  go_wp2_with fail
  clear hww1 hww2
  replace zw1 := le2 zw1
  replace zw2 := le2 zw2
  refine (tValid_b T _ (hT.ext xw_w2) Hok.out).mono (Gv.onV fun w8 ew8 zw8 => ?_)
  replace B2 := B2.ext ew8
  have b2_w8 := B2.c2
  replace B1 := B1.ext ew8
  have b1_w8 := B1.c3
  have xw_w8 := eg xw_w2 ew8
  go_wp2_with fail
  clear b1_w2
  refine bodyPost_ret (v := .bool true) (by simp [results, Tryz.results51, go_sem]) rfl ?_
  rw [hno.out]
  exact Gv.of_v xw_w8

theorem tRight (T : Tb) (e y : Int) (w : World) (hT : TW w T) (ey : -9223372036854775808 ≤ e ∧ e ≤ 9223372036854775807 ∧ -9223372036854775808 ≤ y ∧ y ≤ 9223372036854775807) {b : Bool} (hb : okL T e y = b) : Calls Tryz.prog 51 #[.agg #[.int .i64 T.first, .int .i64 T.sel, .slice T.P T.N T.C], .agg #[.int .i64 e, .int .i64 y]] w (Gv (.v (.bool b)) w) := hb ▸ tRight_ T e y w hT ey

set_option maxRecDepth 100000 in
theorem tQuote (T : Tb) (R : Nat → Nat → Rat) (e y : Int) (w : World) (hT : TQ w T R) (h1 : T.first ≤ e) (h2 : e ≤ T.first + (T.N : Int) - 1) (h3 : 0 ≤ y) (h4 : y ≤ 1000) :
    Calls Tryz.prog 88 #[.agg #[.int .i64 T.first, .int .i64 T.sel, .slice T.P T.N T.C], .agg #[.int .i64 e, .int .i64 y]] w (Gv (.f0 (rt T R e y)) w) := by
 obtain ⟨b1, b2, b3, b4, b5, b6⟩ := id hT.b
 obtain ⟨w1, hww1, ew1, B1, zw1⟩ := alloc_at w (w.heap.size) (by omega) #[.int .i64 T.first, .int .i64 T.sel, .slice T.P T.N T.C] 31
 obtain ⟨w2, hww2, ew2, B2, zw2⟩ := alloc_at w1 (w.heap.size + 1) (by omega) #[.int .i64 e, .int .i64 y] 63
 obtain ⟨w3, hww3, ew3, B3, zw3⟩ := alloc_at w2 (w.heap.size + 1 + 1) (by omega) #[.bool false, .slice none 0 0, .bool false, .slice none 0 0] 40
 replace B2 := B2.ext ew3
 have b2_w3 := B2.c2
 have xw1_w3 := eg ew2 ew3
 replace B1 := B1.ext xw1_w3
 have b1_w3 := B1.c3
 go_enter Tryz.func88, Tryz.ntmps88
 rcases (by omega : T.first + (T.N : Int) ≤ e + y ∨ (¬ T.first + (T.N : Int) ≤ e + y ∧ y < T.sel) ∨ (¬ T.first + (T.N : Int) ≤ e + y ∧ ¬ y < T.sel)) with h5 | ⟨h5, h6⟩ | ⟨h5, h6⟩
 ·skip
  have xw_w3 := eg (eg ew1 ew2) ew3
  have hrt : 1 = rt T R e y := by unfold rt; rw [if_pos h5]
  have Hrt := Lib.hid hrt
  clear hrt
  go_wp2_with fail
  clear hww1 hww2 hww3
  replace zw1 := le2 zw1
  replace zw2 := le2 zw2
  replace zw3 := le2 zw3
  refine (tOne  _).mono (Gv.onF fun Z19 w4 hZ19 ew4 zw4 => ?_)
  replace B3 := B3.ext ew4
  have b3_w4 := B3.c4
  have fb3_w4 := B3.f4
  have xw_w4 := eg xw_w3 ew4
  obtain ⟨w5, hww5, kw5, Nw5, zw5⟩ := B3.put4 (.bool Z19.N.b) (.slice Z19.N.p Z19.N.n Z19.N.c) (.bool Z19.D.b) (.slice Z19.D.p Z19.D.n Z19.D.c)
  have nuw5 : NoU #[.bool false, .slice none 0 0, .bool false, .slice none 0 0] := by simp [NoU]
  replace hZ19 := FR.kb hZ19 B3 nuw5 kw5
  have xw_w5 := Ext.kb xw_w4 kw5 (by omega)
  replace B3 := Nw5
  clear Nw5 kw5
  have b3_w5 := B3.c4
  go_wp2_with fail
  clear hww5
  clear b2_w3 b1_w3 b3_w4 fb3_w4
  replace zw5 := le2 zw5
  refine bodyPost_ret (v := .agg #[.bool Z19.N.b, .slice Z19.N.p Z19.N.n Z19.N.c, .bool Z19.D.b, .slice Z19.D.p Z19.D.n Z19.D.c]) (by simp [results, Tryz.results88, go_sem, b3_w5]) rfl ?_
  exact Gv.of_f0 (X := Z19) (FR.to hZ19 Hrt) xw_w5
 ·skip
  have xw_w3 := eg (eg ew1 ew2) ew3
  obtain ⟨Q, hQ, faQ, hsl, hh1, hh2, hjl⟩ := hT.look (k := (e - T.first).toNat) (j := y.toNat) (by omega) (by omega)
  have hrt : R ((e - T.first).toNat) (y.toNat) = rt T R e y := by unfold rt; rw [if_neg h5, if_pos h6]
  have Hrt := Lib.hid hrt
  clear hrt
  have hjl2 : y < (T.rn ((e - T.first).toNat) : Int) := by omega
  skip
  go_wp2_with fail
  clear hww1 hww2 hww3
  replace zw1 := le2 zw1
  replace zw2 := le2 zw2
  replace zw3 := le2 zw3
  refine regionT 13 (fun _ => none) (by as_aux_lemma => kernel_rfl) (head_of (by as_aux_lemma => kernel_rfl)) ?_
  iterate 8
   refine Walk.one (x := ?_) rfl rfl (fun w1 hI hL K hK => ?_) ?_
   rotate_left
   ·obtain ⟨hc, hf⟩ := bcell hI
    go_simp
    repeat (first | (go_ints; try go_simp) | (simp only [↓IntWalk.iteOmega]; try go_simp))
    exact hK
   simp only [Pq1]
  refine Walk.one (x := ?_) rfl rfl (fun w1 hI hL K hK => ?_) ?_
  rotate_left
  ·have x0 := cell_ext (eg xw_w3 hI) hsl
   go_simp
   repeat (first | (go_ints; try go_simp) | (simp only [↓IntWalk.iteOmega]; try go_simp))
   exact hK
  simp only [Pq1]
  iterate 3
   refine Walk.one (x := ?_) rfl rfl (fun w1 hI hL K hK => ?_) ?_
   rotate_left
   ·obtain ⟨hc, hf⟩ := bcell hI
    go_simp
    repeat (first | (go_ints; try go_simp) | (simp only [↓IntWalk.iteOmega]; try go_simp))
    exact hK
   simp only [Pq1]
  refine Walk.one (x := ?_) rfl rfl (fun w1 hI hL K hK => ?_) ?_
  rotate_left
  ·have x1 := faQ.ext (eg xw_w3 hI)
   have y0 := x1.c0
   have y1 := x1.c1
   have y2 := x1.c2
   have y3 := x1.c3
   go_simp
   repeat (first | (go_ints; try go_simp) | (simp only [↓IntWalk.iteOmega]; try go_simp))
   exact hK
  simp only [Pq1]
  refine Walk.nilF fun w6 ew6 kzL kzX => ?_
  have zw6 := ew6.size
  clear kzL kzX
  simp only [List.drop_succ_cons, List.drop_zero, List.drop_nil]
  replace B3 := B3.ext ew6
  have b3_w6 := B3.c4
  have fb3_w6 := B3.f4
  have xw_w6 := eg xw_w3 ew6
  replace hQ := hQ.ext xw_w6
  obtain ⟨w7, hww7, kw7, Nw7, zw7⟩ := B3.put4 (.bool Q.N.b) (.slice Q.N.p Q.N.n Q.N.c) (.bool Q.D.b) (.slice Q.D.p Q.D.n Q.D.c)
  have nuw7 : NoU #[.bool false, .slice none 0 0, .bool false, .slice none 0 0] := by simp [NoU]
  replace hQ := FR.kb hQ B3 nuw7 kw7
  have xw_w7 := Ext.kb xw_w6 kw7 (by omega)
  replace B3 := Nw7
  clear Nw7 kw7
  have b3_w7 := B3.c4
  go_wp2_with fail
  clear hww7
  clear b2_w3 b1_w3 b3_w6 fb3_w6
  replace zw7 := le2 zw7
  refine bodyPost_ret (v := .agg #[.bool Q.N.b, .slice Q.N.p Q.N.n Q.N.c, .bool Q.D.b, .slice Q.D.p Q.D.n Q.D.c]) (by simp [results, Tryz.results88, go_sem, b3_w7]) rfl ?_
  exact Gv.of_f0 (X := Q) (FR.to hQ Hrt) xw_w7
 ·skip
  have xw_w3 := eg (eg ew1 ew2) ew3
  obtain ⟨Q, hQ, faQ, hsl, hh1, hh2, hjl⟩ := hT.look (k := (e + y - T.first).toNat) (j := T.sel.toNat) (by omega) (by omega)
  have hrt : R ((e + y - T.first).toNat) (T.sel.toNat) = rt T R e y := by unfold rt; rw [if_neg h5, if_neg h6]
  have Hrt := Lib.hid hrt
  clear hrt
  have hjl2 : T.sel < (T.rn ((e + y - T.first).toNat) : Int) := by omega
  skip
  go_wp2_with fail
  clear hww1 hww2 hww3
  replace zw1 := le2 zw1
  replace zw2 := le2 zw2
  replace zw3 := le2 zw3
  refine regionT 9 (fun _ => none) (by as_aux_lemma => kernel_rfl) (head_of (by as_aux_lemma => kernel_rfl)) ?_
  iterate 4
   refine Walk.one (x := ?_) rfl rfl (fun w1 hI hL K hK => ?_) ?_
   rotate_left
   ·obtain ⟨hc, hf⟩ := bcell hI
    go_simp
    repeat (first | (go_ints; try go_simp) | (simp only [↓IntWalk.iteOmega]; try go_simp))
    exact hK
   simp only [Pq1]
  refine Walk.one (x := ?_) rfl rfl (fun w1 hI hL K hK => ?_) ?_
  rotate_left
  ·have x0 := cell_ext (eg xw_w3 hI) hsl
   go_simp
   repeat (first | (go_ints; try go_simp) | (simp only [↓IntWalk.iteOmega]; try go_simp))
   exact hK
  simp only [Pq1]
  iterate 3
   refine Walk.one (x := ?_) rfl rfl (fun w1 hI hL K hK => ?_) ?_
   rotate_left
   ·obtain ⟨hc, hf⟩ := bcell hI
    go_simp
    repeat (first | (go_ints; try go_simp) | (simp only [↓IntWalk.iteOmega]; try go_simp))
    exact hK
   simp only [Pq1]
  refine Walk.one (x := ?_) rfl rfl (fun w1 hI hL K hK => ?_) ?_
  rotate_left
  ·have x1 := faQ.ext (eg xw_w3 hI)
   have y0 := x1.c0
   have y1 := x1.c1
   have y2 := x1.c2
   have y3 := x1.c3
   go_simp
   repeat (first | (go_ints; try go_simp) | (simp only [↓IntWalk.iteOmega]; try go_simp))
   exact hK
  simp only [Pq1]
  refine Walk.nilF fun w8 ew8 kzL kzX => ?_
  have zw8 := ew8.size
  clear kzL kzX
  simp only [List.drop_succ_cons, List.drop_zero, List.drop_nil]
  replace B3 := B3.ext ew8
  have b3_w8 := B3.c4
  have fb3_w8 := B3.f4
  have xw_w8 := eg xw_w3 ew8
  replace hQ := hQ.ext xw_w8
  obtain ⟨w9, hww9, kw9, Nw9, zw9⟩ := B3.put4 (.bool Q.N.b) (.slice Q.N.p Q.N.n Q.N.c) (.bool Q.D.b) (.slice Q.D.p Q.D.n Q.D.c)
  have nuw9 : NoU #[.bool false, .slice none 0 0, .bool false, .slice none 0 0] := by simp [NoU]
  replace hQ := FR.kb hQ B3 nuw9 kw9
  have xw_w9 := Ext.kb xw_w8 kw9 (by omega)
  replace B3 := Nw9
  clear Nw9 kw9
  have b3_w9 := B3.c4
  go_wp2_with fail
  clear hww9
  clear b2_w3 b1_w3 b3_w8 fb3_w8
  replace zw9 := le2 zw9
  refine bodyPost_ret (v := .agg #[.bool Q.N.b, .slice Q.N.p Q.N.n Q.N.c, .bool Q.D.b, .slice Q.D.p Q.D.n Q.D.c]) (by simp [results, Tryz.results88, go_sem, b3_w9]) rfl ?_
  exact Gv.of_f0 (X := Q) (FR.to hQ Hrt) xw_w9
end Go.Proofs.YtndgaecfeaedeaaGreat
namespace Go.Proofs.YtndgaecfeaedeaaGreat
open Go.RowKit Lex Mth
attribute [local go_sem] run_indexAt_at add_zero_map Oper.semAt_some at_zero at_add at_mk1 at_mk2 at_mk3

set_option maxRecDepth 100000 in
set_option maxHeartbeats 2000000 in
theorem tLives (T : Tb) (R : Nat → Nat → Rat) (e y : Int) (n : Int) (w : World) (hT : TQ w T R) (h1 : T.first ≤ e) (h2 : e ≤ T.first + (T.N : Int) - 1) (h3 : 0 ≤ y) (h4 : y ≤ 500) (hn : 0 ≤ n) (hn2 : n ≤ 9223372036854775807) :
    Calls Tryz.prog 89 #[.agg #[.int .i64 T.first, .int .i64 T.sel, .slice T.P T.N T.C], .agg #[.int .i64 e, .int .i64 y], .int .i64 n] w (Gv (.f0 (lal T R e y n.toNat)) w) := by
 obtain ⟨w1, hww1, ew1, B1, zw1⟩ := alloc_at w (w.heap.size) (by omega) #[.int .i64 T.first, .int .i64 T.sel, .slice T.P T.N T.C] 31
 obtain ⟨w2, hww2, ew2, B2, zw2⟩ := alloc_at w1 (w.heap.size + 1) (by omega) #[.int .i64 e, .int .i64 y] 63
 obtain ⟨w3, hww3, ew3, B3, zw3⟩ := alloc_at w2 (w.heap.size + 1 + 1) (by omega) #[.bool false, .slice none 0 0, .bool false, .slice none 0 0] 40
 have xw_w3 := eg (eg ew1 ew2) ew3
 go_enter Tryz.func89, Tryz.ntmps89
 go_wp2_with fail
 clear hww1 hww2 hww3
 replace zw1 := le2 zw1
 replace zw2 := le2 zw2
 replace zw3 := le2 zw3
 refine (tOne  _).mono (Gv.onF fun Z9 w4 hZ9 ew4 zw4 => ?_)
 obtain ⟨w5, hww5, ew5, B4, zw5⟩ := alloc_at w4 (w4.heap.size) (by omega) #[.bool Z9.N.b, .slice Z9.N.p Z9.N.n Z9.N.c, .bool Z9.D.b, .slice Z9.D.p Z9.D.n Z9.D.c] 40
 have xw1_w5 := eg (eg (eg ew2 ew3) ew4) ew5
 replace B1 := B1.ext xw1_w5
 have xw2_w5 := eg (eg ew3 ew4) ew5
 replace B2 := B2.ext xw2_w5
 have xw3_w5 := eg ew4 ew5
 replace B3 := B3.ext xw3_w5
 have xw_w5 := eg (eg xw_w3 ew4) ew5
 replace hZ9 := hZ9.ext ew5
 go_wp2_with fail
 clear hww5
 replace zw5 := le2 zw5
 go_loopw [8] (fun v8 r3 => ∃ (k : Nat) (P : Fr), v8 = .int .i64 (k : Nat) ∧ (k : Int) ≤ n ∧ Cells r3 (w.heap.size) 31 #[.int .i64 T.first, .int .i64 T.sel, .slice T.P T.N T.C] ∧ Cells r3 (w.heap.size + 1) 63 #[.int .i64 e, .int .i64 y] ∧ Cells r3 (w.heap.size + 1 + 1) 40 #[.bool false, .slice none 0 0, .bool false, .slice none 0 0] ∧ Cells r3 (w4.heap.size) 40 #[.bool P.N.b, .slice P.N.p P.N.n P.N.c, .bool P.D.b, .slice P.D.p P.D.n P.D.c] ∧ FR r3 P (lal T R e y k) ∧ Ext w r3) (fun v8 _ => (n - intOf v8).toNat)
 case atStart => exact ⟨0, Z9, rfl, by omega, B1, B2, B3, B4, hZ9, xw_w5⟩
 case round =>
  obtain ⟨r3, hqr3⟩ : ∃ r, r = wr := ⟨_, rfl⟩
  subst hqr3
  clear B1 B2 B3 hZ9 B4
  obtain ⟨k, P, rfl, hk, B1, B2, B3, B4, hP, xw_r3⟩ := hrel
  have zr3 := xw_r3.size
  have lB1_r3 := B1.lt
  have lB2_r3 := B2.lt
  have lB3_r3 := B3.lt
  have lB4_r3 := B4.lt
  rcases (by by_cases hk : (k : Int) < n; (by_cases hp : lal T R e y k = 0; exact .inr (.inl ⟨hk, hp⟩); exact .inl ⟨hk, hp⟩); exact .inr (.inr hk) : ((k : Int) < n ∧ ¬ lal T R e y k = 0) ∨ ((k : Int) < n ∧ lal T R e y k = 0) ∨ ¬ (k : Int) < n) with ⟨hkn, hp⟩ | ⟨hkn, hp⟩ | hkn
  ·skip
   have b4_r3 := B4.c4
   have hk1 := lal_nz hT h1 h2 h3 hp
   have Hp := Lib.hid hp
   clear hp
   have hS1 := Lib.hid (lal_szH hT h1 h2 h3 k)
   have hS2 := Lib.hid (rt_szN (y := y + (k : Nat)) hT h1 h2 (by omega))
   have hS3 := Lib.hid (sz_rt (y := y + (k : Nat)) hT h1 h2 (by omega)).1
   go_wp2_with fail
   refine (rZero P _ _ (hP) (b := false) (by have := Hp.out; simpa using this)).mono (Gv.onV fun w6 ew6 zw6 => ?_)
   replace B4 := B4.ext ew6
   have b4_w6 := B4.c4
   replace B1 := B1.ext ew6
   have b1_w6 := B1.c3
   replace B2 := B2.ext ew6
   have b2_w6 := B2.c2
   have xw_w6 := eg xw_r3 ew6
   replace hP := hP.ext ew6
   go_wp2_with fail
   clear b4_r3
   refine regionT 12 (fun kk => match kk with | 9 => some (.f0 (rt T R e (y + (k : Nat)))) | 10 => some (.f0 (1 - (rt T R e (y + (k : Nat))))) | 11 => some (.f0 ((lal T R e y k) * (1 - (rt T R e (y + (k : Nat)))))) | _ => none) (by as_aux_lemma => kernel_rfl) (head_of (by as_aux_lemma => kernel_rfl)) ?_
   iterate 9
    refine Walk.one (x := ?_) rfl rfl (fun w1 hI hL K hK => ?_) ?_
    rotate_left
    ·obtain ⟨hc, hf⟩ := bcell hI
     go_simp
     repeat (first | (go_ints; try go_simp) | (simp only [↓IntWalk.iteOmega]; try go_simp))
     exact hK
    simp only [Pq1]
   refine Walk.tell rfl rfl (fun w1 hI hL K hK => ?_) ?_
   ·go_simp
    exact (tQuote T R e (y + (k : Nat)) w1 (hT.ext (eg xw_w6 hI)) h1 h2 (by omega) (by omega)).mono (tell hK)
   rintro _ ⟨Z29, rfl⟩
   simp only [Pq1]
   refine Walk.tell rfl rfl (fun w1 hI hL K hK => ?_) ?_
   ·go_simp
    exact (tNot Z29 _ w1 ((Tl.getF0 (kn (i := 9) (v := .agg #[.bool Z29.N.b, .slice Z29.N.p Z29.N.n Z29.N.c, .bool Z29.D.b, .slice Z29.D.p Z29.D.n Z29.D.c]) rfl (by simp) (pred_of (by as_aux_lemma => kernel_rfl)) hL))) (hS3.out)).mono (tell hK)
   rintro _ ⟨Z30, rfl⟩
   simp only [Pq1]
   refine Walk.tell rfl rfl (fun w1 hI hL K hK => ?_) ?_
   ·go_simp
    exact (rTimesQ P Z30 _ _ w1 ((hP).ext hI) ((Tl.getF0 (kn (i := 10) (v := .agg #[.bool Z30.N.b, .slice Z30.N.p Z30.N.n Z30.N.c, .bool Z30.D.b, .slice Z30.D.p Z30.D.n Z30.D.c]) rfl (by simp) (pred_of (by as_aux_lemma => kernel_rfl)) hL))) (hS1.out) (hS2.out)).mono (tell hK)
   rintro _ ⟨Z31, rfl⟩
   simp only [Pq1]
   refine Walk.nilF fun w7 ew7 kzL kzX => ?_
   have zw7 := ew7.size
   have hZ31 := Tl.getF0 (kz (i := 11) (v := .agg #[.bool Z31.N.b, .slice Z31.N.p Z31.N.n Z31.N.c, .bool Z31.D.b, .slice Z31.D.p Z31.D.n Z31.D.c]) rfl (by simp) kzL)
   clear kzL kzX
   simp only [List.drop_succ_cons, List.drop_zero, List.drop_nil]
   replace B4 := B4.ext ew7
   have b4_w7 := B4.c4
   have fb4_w7 := B4.f4
   replace B1 := B1.ext ew7
   replace B2 := B2.ext ew7
   have xr3_w7 := eg ew6 ew7
   replace B3 := B3.ext xr3_w7
   replace hP := hP.ext ew7
   have xw_w7 := eg xw_w6 ew7
   obtain ⟨w8, hww8, kw8, Nw8, zw8⟩ := B4.put4 (.bool Z31.N.b) (.slice Z31.N.p Z31.N.n Z31.N.c) (.bool Z31.D.b) (.slice Z31.D.p Z31.D.n Z31.D.c)
   have nuw8 : NoU #[.bool P.N.b, .slice P.N.p P.N.n P.N.c, .bool P.D.b, .slice P.D.p P.D.n P.D.c] := by simp [NoU]
   replace B1 := B1.kb kw8 (by omega)
   replace B2 := B2.kb kw8 (by omega)
   replace B3 := B3.kb kw8 (by omega)
   replace hP := FR.kb hP B4 nuw8 kw8
   replace hZ31 := FR.kb hZ31 B4 nuw8 kw8
   have xw_w8 := Ext.kb xw_w7 kw8 (by omega)
   replace B4 := Nw8
   clear Nw8 kw8
   go_wp2_with fail
   clear hww8
   clear b4_w6 b1_w6 b2_w6 b4_w7 fb4_w7
   replace zw8 := le2 zw8
   go_roundw
   case rel => exact ⟨k + 1, Z31, rfl, by omega, B1, B2, B3, B4, hZ31, xw_w8⟩
   case measure => simp [intOf] <;> omega
  ·skip
   have b4_r3 := B4.c4
   have hl : lal T R e y k = lal T R e y n.toNat := by rw [hp]; exact (al_zero hp n.toNat (by omega)).symm
   have Hl := Lib.hid hl
   have Hp := Lib.hid hp
   clear hl hp
   go_wp2_with fail
   refine (rZero P _ _ (hP) (b := true) (by have := Hp.out; simpa using this)).mono (Gv.onV fun w9 ew9 zw9 => ?_)
   replace B4 := B4.ext ew9
   have b4_w9 := B4.c4
   replace B3 := B3.ext ew9
   have b3_w9 := B3.c4
   have fb3_w9 := B3.f4
   replace hP := hP.ext ew9
   have xw_w9 := eg xw_r3 ew9
   obtain ⟨w10, hww10, kw10, Nw10, zw10⟩ := B3.put4 (.bool P.N.b) (.slice P.N.p P.N.n P.N.c) (.bool P.D.b) (.slice P.D.p P.D.n P.D.c)
   have nuw10 : NoU #[.bool false, .slice none 0 0, .bool false, .slice none 0 0] := by simp [NoU]
   replace B4 := B4.kb kw10 (by omega)
   replace hP := FR.kb hP B3 nuw10 kw10
   have xw_w10 := Ext.kb xw_w9 kw10 (by omega)
   replace B3 := Nw10
   clear Nw10 kw10
   have b3_w10 := B3.c4
   go_wp2_with fail
   clear hww10
   clear b4_r3 b4_w9 b3_w9 fb3_w9
   replace zw10 := le2 zw10
   refine bodyPost_ret (v := .agg #[.bool P.N.b, .slice P.N.p P.N.n P.N.c, .bool P.D.b, .slice P.D.p P.D.n P.D.c]) (by simp [results, Tryz.results89, go_sem, b3_w10]) rfl ?_
   exact Gv.of_f0 (X := P) (FR.to hP Hl) xw_w10
  ·skip
   have b4_r3 := B4.c4
   have b3_r3 := B3.c4
   have fb3_r3 := B3.f4
   have hkn2 : (k : Int) = n := by omega
   have hl : lal T R e y k = lal T R e y n.toNat := by rw [← hkn2, Int.toNat_natCast]
   have Hl := Lib.hid hl
   clear hl hkn2
   obtain ⟨w11, hww11, kw11, Nw11, zw11⟩ := B3.put4 (.bool P.N.b) (.slice P.N.p P.N.n P.N.c) (.bool P.D.b) (.slice P.D.p P.D.n P.D.c)
   have nuw11 : NoU #[.bool false, .slice none 0 0, .bool false, .slice none 0 0] := by simp [NoU]
   replace hP := FR.kb hP B3 nuw11 kw11
   have xw_w11 := Ext.kb xw_r3 kw11 (by omega)
   replace B3 := Nw11
   clear Nw11 kw11
   have b3_w11 := B3.c4
   go_wp2_with fail
   clear hww11
   clear b4_r3 b3_r3 fb3_r3
   replace zw11 := le2 zw11
   refine bodyPost_ret (v := .agg #[.bool P.N.b, .slice P.N.p P.N.n P.N.c, .bool P.D.b, .slice P.D.p P.D.n P.D.c]) (by simp [results, Tryz.results89, go_sem, b3_w11]) rfl ?_
   exact Gv.of_f0 (X := P) (FR.to hP Hl) xw_w11
end Go.Proofs.YtndgaecfeaedeaaGreat
