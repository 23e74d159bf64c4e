/- Walks of package life: Dies. Walks of package life: Expect. -/
import Derived.Test.YtndgaecfeaedeaaGreatG22
namespace Go.Proofs.YtndgaecfeaedeaaGreat
set_option linter.unusedSimpArgs false
set_option linter.unusedVariables false
open Go.RowKit Lex Mth
attribute [local go_sem] run_indexAt_at add_zero_map Oper.semAt_some at_zero at_add at_mk1 at_mk2 at_mk3

/-- The probability of dying in a later year. -/
def ldq (T : Tb) (R : Nat → Nat → Rat) (e y : Int) (n : Nat) : Rat := lal T R e y n * rt T R e (y + (n : Nat))
/-- What a loop over the years has gathered, in the box g; two boxes are as they were. -/
def DI (g r s : Nat) (q : Rat) (B : Nat) (w4 W : World) : Prop := ∃ O : Fr, Cells W g 40 #[.bool O.N.b, .slice O.N.p O.N.n O.N.c, .bool O.D.b, .slice O.D.p O.D.n O.D.c] ∧ FR W O q ∧ OF B W O ∧ (∀ b ∈ Bl O.val, ¬ LoopBlocks w4 1 b) ∧ Cells W r 40 #[.bool false, .slice none 0 0, .bool false, .slice none 0 0] ∧ Cells W s 41 #[.int .i64 0] ∧ Keeps (fun b => (b = g ∨ b = r ∨ b = s) ∨ LoopBlocks w4 1 b) w4 W
def DX (g r s : Nat) (q : Rat) (B : Nat) (w4 W : World) : Prop := ∃ O : Fr, Cells W r 40 #[.bool O.N.b, .slice O.N.p O.N.n O.N.c, .bool O.D.b, .slice O.D.p O.D.n O.D.c] ∧ FR W O q ∧ OF B W O ∧ (∀ b ∈ Bl O.val, ¬ LoopBlocks w4 1 b) ∧ Cells W s 41 #[.int .i64 0] ∧ Keeps (fun b => (b = g ∨ b = r ∨ b = s) ∨ LoopBlocks w4 1 b) w4 W
theorem DI.keeps {g r s : Nat} {q : Rat} {B : Nat} {w4 A C : World} (h : DI g r s q B w4 A) (k : Keeps (LoopBlocks w4 1) A C) (hg : ¬ LoopBlocks w4 1 g) (hr : ¬ LoopBlocks w4 1 r) (hs : ¬ LoopBlocks w4 1 s) : DI g r s q B w4 C := by
  obtain ⟨O, h1, h2, h3, h4, h5, h6, h7⟩ := h
  obtain ⟨a, b⟩ := FR.keepsO h2 h3 k h4
  exact ⟨O, h1.keeps k hg, a, b, h4, h5.keeps k hr, h6.keeps k hs, h7.trans (k.mono fun b _ h => .inr h)⟩
theorem DX.keeps {g r s : Nat} {q : Rat} {B : Nat} {w4 A C : World} (h : DX g r s q B w4 A) (k : Keeps (LoopBlocks w4 1) A C) (hr : ¬ LoopBlocks w4 1 r) (hs : ¬ LoopBlocks w4 1 s) : DX g r s q B w4 C := by
  obtain ⟨O, h1, h2, h3, h4, h6, h7⟩ := h
  obtain ⟨a, b⟩ := FR.keepsO h2 h3 k h4
  exact ⟨O, h1.keeps k hr, a, b, h4, h6.keeps k hs, h7.trans (k.mono fun b _ h => .inr h)⟩

set_option maxRecDepth 100000 in
set_option maxHeartbeats 2000000 in
theorem lDies (T : Tb) (R : Nat → Nat → Rat) (e y n : Int) (w : World) (hT : TQ w T R) (hok : okL T e y = true) (hn : 0 ≤ n) :
    Calls Tryz.prog 18 #[.agg #[.int .i64 T.first, .int .i64 T.sel, .slice T.P T.N T.C], .agg #[.int .i64 e, .int .i64 y], .int .i64 n] w (Gv (.fe (ldq T R e y n.toNat) 0) w) := by
  obtain ⟨n, rfl⟩ : ∃ m : Nat, n = (m : Int) := ⟨n.toNat, by omega⟩
  rw [Int.toNat_natCast]
  clear hn
  obtain ⟨h1, h2, h3, h4⟩ : T.first ≤ e ∧ e ≤ T.first + (T.N : Int) - 1 ∧ 0 ≤ y ∧ y ≤ 500 := by
    unfold okL at hok
    simp only [Bool.and_eq_true, decide_eq_true_eq] at hok
    exact ⟨hok.1.1.1.2, hok.1.1.2, hok.1.2, by omega⟩
  have rs := rs_rt hT h1 h2 h3
  have hA := yN_le hT h1 h3
  have Hok := Lib.hid hok
  clear hok
  refine (callsIn_wide (n := 2)).1 ?_
  refine callsIn_of_wp_marks Tryz.func18 rfl trivial ?_ rfl
  simp only [Tryz.ntmps18, List.size_toArray, List.length_cons, List.length_nil, Nat.reduceAdd, Nat.reduceSub, Array.replicate_succ, Array.replicate_zero, List.push_toArray, List.append_toArray, List.nil_append, List.cons_append]
  obtain ⟨w1, hw1⟩ : ∃ W, ((((w.alloc (.cells #[.int .i64 T.first, .int .i64 T.sel, .slice T.P T.N T.C] 24)).alloc (.cells #[.int .i64 e, .int .i64 y] 26)).alloc (.cells #[.int .i64 (n : Nat)] 3)).alloc (.cells #[.bool false, .slice none 0 0, .bool false, .slice none 0 0] 40)).alloc (.cells #[.int .i64 0] 41) = W := ⟨_, rfl⟩
  have e1 : Ext w w1 := by rw [← hw1]; exact eg (eg (eg (eg (ea _ _) (ea _ _)) (ea _ _)) (ea _ _)) (ea _ _)
  have A1 : Cells w1 w.heap.size 24 #[.int .i64 T.first, .int .i64 T.sel, .slice T.P T.N T.C] := by rw [← hw1]; exact ((((Cells.newAt _ _ rfl).alloc _).alloc _).alloc _).alloc _
  have AL : Cells w1 (w.heap.size + 1) 26 #[.int .i64 e, .int .i64 y] := by rw [← hw1]; exact (((Cells.newAt _ _ (by simp)).alloc _).alloc _).alloc _
  have A2 : Cells w1 (w.heap.size + 1 + 1) 3 #[.int .i64 (n : Nat)] := by rw [← hw1]; exact ((Cells.newAt _ _ (by simp)).alloc _).alloc _
  have A3 : Cells w1 (w.heap.size + 1 + 1 + 1) 40 #[.bool false, .slice none 0 0, .bool false, .slice none 0 0] := by rw [← hw1]; exact (Cells.newAt _ _ (by simp)).alloc _
  have AE : Cells w1 (w.heap.size + 1 + 1 + 1 + 1) 41 #[.int .i64 0] := by rw [← hw1]; exact Cells.newAt _ _ (by simp)
  have a0 := A1.cell (k := 0) rfl
  have a1 := A1.cell (k := 1) rfl
  have a2 := A1.cell (k := 2) rfl
  have a3 := AL.cell (k := 0) rfl
  have a4 := AL.cell (k := 1) rfl
  have l20 := A2.lt
  have l30 := A3.lt
  have lE0 := AE.lt
  gi_wp2_with fail
  clear hw1 a0 a1 a2 a3 a4
  refine Go_wide (lRight T e y w1 (hT.tw.ext e1) (okL_ey Hok.out) Hok.out) ?_
  intro ee w1b gg
  obtain ⟨rfl, e1b⟩ := Gv.v gg
  replace A1 := A1.ext e1b
  replace AL := AL.ext e1b
  replace A2 := A2.ext e1b
  replace A3 := A3.ext e1b
  replace AE := AE.ext e1b
  have n0 := A2.cell (k := 0) rfl
  have hnn : decide ((n : Int) < 0) = false := by simp
  gi_wp2_with fail
  clear n0
  refine Go_wide (fFromInt_1 w1b) ?_
  intro ee w2 gg
  obtain ⟨O, rfl, hO, oO, e2⟩ := Gv.f gg
  obtain ⟨w3, hw3⟩ : ∃ W, w2.alloc (.cells #[.bool O.N.b, .slice O.N.p O.N.n O.N.c, .bool O.D.b, .slice O.D.p O.D.n O.D.c] 40) = W := ⟨_, rfl⟩
  have e3 : Ext w2 w3 := by rw [← hw3]; exact ea _ _
  have A4 : Cells w3 w2.heap.size 40 #[.bool O.N.b, .slice O.N.p O.N.n O.N.c, .bool O.D.b, .slice O.D.p O.D.n O.D.c] := by rw [← hw3]; exact Cells.newAt _ _ rfl
  have l43 := A4.lt
  have e23 := eg e2 e3
  replace A1 := A1.ext e23
  replace AL := AL.ext e23
  replace A2 := A2.ext e23
  replace A3 := A3.ext e23
  replace AE := AE.ext e23
  replace hO := hO.ext e3
  replace oO := oO.ext e3
  have eW3 := eg (eg e1 e1b) e23
  have a0 := A1.cell (k := 0) rfl
  have a1 := A1.cell (k := 1) rfl
  have a2 := A1.cell (k := 2) rfl
  have a3 := AL.cell (k := 0) rfl
  have a4 := AL.cell (k := 1) rfl
  gi_wp2_with fail
  clear hw3 a0 a1 a2 a3 a4
  refine Go_wide (lyears T e y w3) ?_
  rintro ee w4 ⟨Bs, rfl, hBs, hBge, e4⟩
  replace A2 := A2.ext e4
  replace A3 := A3.ext e4
  replace AE := AE.ext e4
  replace A4 := A4.ext e4
  replace hO := hO.ext e4
  replace oO := oO.ext e4
  have eW4 := eg eW3 e4
  have l2 := A2.lt
  have l3 := A3.lt
  have lE := AE.lt
  have l4 := A4.lt
  have lBs := hBs.lt
  have s1 := e1.size
  have s1b := e1b.size
  have s2 := e2.size
  have hob := oO.bl
  have hLg : ¬ LoopBlocks w4 1 w2.heap.size := fun h => by have := h.1; omega
  have hLr : ¬ LoopBlocks w4 1 (w.heap.size + 1 + 1 + 1) := fun h => by have := h.1; omega
  have hLe : ¬ LoopBlocks w4 1 (w.heap.size + 1 + 1 + 1 + 1) := fun h => by have := h.1; omega
  gi_wp2_with fail
  refine wp_range (gf := 97) rfl (enters_of Tryz.func97 (by kernel_rfl) rfl)
    (years_gives T R e y w hT h1 h2 h3 h4 Bs (fun b => b = w2.heap.size ∨ b = w.heap.size + 1 + 1 + 1 ∨ b = w.heap.size + 1 + 1 + 1 + 1) w4 eW4 hBs (by omega) (fun b hb => by have := eW3.size; omega))
    (Below.refl _ _) (fun _ k vs W hV => by obtain ⟨Q, rfl, _⟩ := hV; rfl) (fun b hb h => by have h1 := h.1; omega)
    (fun k W => DI w2.heap.size (w.heap.size + 1 + 1 + 1) (w.heap.size + 1 + 1 + 1 + 1) (lal T R e y k) w.heap.size w4 W ∧ k ≤ n)
    (fun c W => c = .ret ∧ DX w2.heap.size (w.heap.size + 1 + 1 + 1) (w.heap.size + 1 + 1 + 1 + 1) (ldq T R e y n) w.heap.size w4 W)
    (fun k A C h hk => ⟨h.1.keeps hk hLg hLr hLe, h.2⟩)
    (fun c A C h hk => ⟨h.1, h.2.keeps hk hLr hLe⟩)
    ⟨⟨O, A4, hO, oO.mono (by omega), fun b hb h => by have := (hob b hb).2; have := h.1; omega, A3, AE, Keeps.refl _ _⟩, Nat.zero_le _⟩ (fun _ _ _ => trivial) ?round ?done ?stop
  case round =>
    rintro l k vs W ⟨⟨O, hC, hO, oO, hap, hR3, hE5, hk⟩, hkn⟩ hkN ⟨Q, rfl, hQ, oQ, hQs⟩ hWs K hK
    obtain ⟨V1, hV1⟩ : ∃ V, W.alloc (.cells #[.bool Q.N.b, .slice Q.N.p Q.N.n Q.N.c, .bool Q.D.b, .slice Q.D.p Q.D.n Q.D.c] 40) = V := ⟨_, rfl⟩
    have eV : Ext W V1 := by rw [← hV1]; exact ea _ _
    have CQ : Cells V1 W.heap.size 40 #[.bool Q.N.b, .slice Q.N.p Q.N.n Q.N.c, .bool Q.D.b, .slice Q.D.p Q.D.n Q.D.c] := by rw [← hV1]; exact Cells.newAt _ _ rfl
    have lC := hC.lt
    gi_wp2
    refine hK _ _ (Keeps.of_ext eV) ?_
    clear hK hV1
    intro W2 hk2 hs2
    have hs3 := Nat.le_of_eq hs2
    have hs4 := Nat.le_of_eq hs2.symm
    clear hs2
    have hQb : ∀ b ∈ Bl Q.val, ¬ LoopBlocks w4 1 b := fun b hb h => by have := (oQ.bl b hb).1; have := h.2; omega
    obtain ⟨hO2, oO2⟩ := FR.keepsO (hO.ext eV) (oO.ext eV) hk2 hap
    obtain ⟨hQ2, oQ2⟩ := FR.keepsO (hQ.ext eV) (oQ.ext eV) hk2 hQb
    have hC2 := (hC.ext eV).keeps hk2 hLg
    have CQ2 := CQ.keeps hk2 (fun h => by have := h.2; omega)
    have hR32 := (hR3.ext eV).keeps hk2 hLr
    have hE52 := (hE5.ext eV).keeps hk2 hLe
    have hkW : Keeps (fun b => (b = w2.heap.size ∨ b = w.heap.size + 1 + 1 + 1 ∨ b = w.heap.size + 1 + 1 + 1 + 1) ∨ LoopBlocks w4 1 b) w4 W2 := (hk.trans (Keeps.of_ext eV)).trans (hk2.mono fun b _ h => .inr h)
    have A22 := A2.keeps hkW (by rintro (h | h); omega; have := h.1; omega)
    have n0 := A22.cell (k := 0) rfl
    have c0 := hC2.cell (k := 0) rfl
    have c1 := hC2.cell (k := 1) rfl
    have c2 := hC2.cell (k := 2) rfl
    have c3 := hC2.cell (k := 3) rfl
    have f0 := hC2.frozen 0
    have f1 := hC2.frozen 1
    have f2 := hC2.frozen 2
    have f3 := hC2.frozen 3
    have q0 := CQ2.cell (k := 0) rfl
    have q1 := CQ2.cell (k := 1) rfl
    have q2 := CQ2.cell (k := 2) rfl
    have q3 := CQ2.cell (k := 3) rfl
    have lC2 := hC2.lt
    have lQ2 := CQ2.lt
    by_cases hkn2 : k = n
    · subst hkn2
      have ht : ((k : Int) == (k : Int)) = true := by simp
      have HS1 := Lib.hid (al_sz rs hA k)
      have HS2 : Hid (Sz (ldq T R e y k)) := (dies_sm rs k).sz (Nat.pos_of_ne_zero (DD_ne _ _)) (by have := DD_siz rs (yN T e y); have : siz 1 ≤ 1 := siz_one.2 (by omega); omega)
      gi_wp2_with fail
      refine Go_round (ltimes O Q _ _ W2 hO2 hQ2 HS1.out hQs HS2.out) ?_
      intro ee W5 gg
      obtain ⟨Z19, rfl, hZ, oZ, e5⟩ := Gv.f gg
      have hR5 := hR32.ext e5
      have hE55 := hE52.ext e5
      have f0 := hR5.frozen 0
      have f1 := hR5.frozen 1
      have f2 := hR5.frozen 2
      have f3 := hR5.frozen 3
      have c0 := hR5.cell (k := 0) rfl
      have c1 := hR5.cell (k := 1) rfl
      have c2 := hR5.cell (k := 2) rfl
      have c3 := hR5.cell (k := 3) rfl
      obtain ⟨W6, hW6⟩ : ∃ V, ((((W5).setCell ⟨w.heap.size + 1 + 1 + 1, 0, none⟩ (.bool Z19.N.b)).setCell ⟨w.heap.size + 1 + 1 + 1, 1, none⟩ (.slice Z19.N.p Z19.N.n Z19.N.c)).setCell ⟨w.heap.size + 1 + 1 + 1, 2, none⟩ (.bool Z19.D.b)).setCell ⟨w.heap.size + 1 + 1 + 1, 3, none⟩ (.slice Z19.D.p Z19.D.n Z19.D.c) = V := ⟨_, rfl⟩
      have hC6 : Cells W6 (w.heap.size + 1 + 1 + 1) 40 #[.bool Z19.N.b, .slice Z19.N.p Z19.N.n Z19.N.c, .bool Z19.D.b, .slice Z19.D.p Z19.D.n Z19.D.c] := by rw [← hW6]; exact Cells.sets [.bool Z19.N.b, .slice Z19.N.p Z19.N.n Z19.N.c, .bool Z19.D.b, .slice Z19.D.p Z19.D.n Z19.D.c] hR5 0
      have hZ6 : FR W6 Z19 (ldq T R e y k) := by rw [← hW6]; exact FR.sets hZ hR5 (by simp [NoU]) 0 [.bool Z19.N.b, .slice Z19.N.p Z19.N.n Z19.N.c, .bool Z19.D.b, .slice Z19.D.p Z19.D.n Z19.D.c]
      have oZ6 : OF W2.heap.size W6 Z19 := by rw [← hW6]; exact OF.sets oZ hR5 (by decide) 0 [.bool Z19.N.b, .slice Z19.N.p Z19.N.n Z19.N.c, .bool Z19.D.b, .slice Z19.D.p Z19.D.n Z19.D.c]
      have hE6 : Cells W6 (w.heap.size + 1 + 1 + 1 + 1) 41 #[.int .i64 0] := by rw [← hW6]; exact Cells.off hE55 (b' := w.heap.size + 1 + 1 + 1) (by omega) 0 [.bool Z19.N.b, .slice Z19.N.p Z19.N.n Z19.N.c, .bool Z19.D.b, .slice Z19.D.p Z19.D.n Z19.D.c]
      have k6 : Keeps (fun b => b = w.heap.size + 1 + 1 + 1) W5 W6 := by rw [← hW6]; exact sets_keeps (w.heap.size + 1 + 1 + 1) [.bool Z19.N.b, .slice Z19.N.p Z19.N.n Z19.N.c, .bool Z19.D.b, .slice Z19.D.p Z19.D.n Z19.D.c] W5 0
      have x0 := hE6.cell (k := 0) rfl
      have x1 := hE6.frozen 0
      obtain ⟨W7, hW7⟩ : ∃ V, W6.setCell ⟨w.heap.size + 1 + 1 + 1 + 1, 0, none⟩ (.int .i64 0) = V := ⟨_, rfl⟩
      have k7 : Keeps (fun b => b = w.heap.size + 1 + 1 + 1 + 1) W6 W7 := by rw [← hW7]; exact (Keeps.refl _ _).setCell (M := fun b => b = w.heap.size + 1 + 1 + 1 + 1) (p := ⟨w.heap.size + 1 + 1 + 1 + 1, 0, none⟩) rfl _
      have hE7 : Cells W7 (w.heap.size + 1 + 1 + 1 + 1) 41 #[.int .i64 0] := by rw [← hW7]; exact Cells.setOne hE6 0 _
      have hC7 := hC6.keeps k7 (by omega)
      have hZ7 : FR W7 Z19 (ldq T R e y k) := by rw [← hW7]; exact FR.sets hZ6 hE6 (by simp [NoU]) 0 [.int .i64 0]
      have oZ7 : OF W2.heap.size W7 Z19 := by rw [← hW7]; exact OF.sets oZ6 hE6 (by decide) 0 [.int .i64 0]
      have k57 : Keeps (fun b => b = w2.heap.size ∨ b = w.heap.size + 1 + 1 + 1 ∨ b = w.heap.size + 1 + 1 + 1 + 1) W2 W7 := ((Keeps.of_ext e5).trans (k6.mono fun b _ h => .inr (.inl h))).trans (k7.mono fun b _ h => .inr (.inr h))
      gi_wp2_with fail
      clear hW6 hW7
      exact ⟨k57, rfl, Z19, hC7, hZ7, oZ7.mono (by have := eW4.size; have := hkW.size; omega), fun b hb h => by have := (oZ.bl b hb).1; have := h.2; have := eV.size; omega, hE7, hkW.trans (k57.mono fun b _ h => .inl h)⟩
    · have ht : ((k : Int) == (n : Int)) = false := by simp; omega
      have hk1 : k + 1 ≤ n := by omega
      have hal : lal T R e y k * (1 - rt T R e (y + (k : Nat))) = lal T R e y (k + 1) := rfl
      have Hal := Lib.hid hal
      have HS1 := Lib.hid (al_sz rs hA k)
      have HS2 := Lib.hid (al_sz rs hA (k + 1))
      have HS3 : Hid (Sz (1 - rt T R e (y + (k : Nat)))) := not_sz (rs.sm k) (by have := (rt T R e (y + (k : Nat))).den_nz; omega) (by have : siz (rt T R e (y + (k : Nat))).den ≤ 1 := siz_one.2 (rs.den k); omega)
      clear hal hkn2
      gi_wp2_with fail
      refine regionInT 4 (fun i => match i with | 2 => some (.f (1 - rt T R e (y + (k : Nat)))) | 3 => some (.f (lal T R e y (k + 1))) | _ => none) (.inr ⟨_, rfl⟩) (by kernel_rfl) (by kernel_rfl) (by kernel_rfl) ?_
      iterate 2
        refine Walk.one (x := ?_) rfl rfl (fun w1 hI hL K hK => ?_) ?_
        rotate_left
        · obtain ⟨hc, hf⟩ := bcell hI
          go_simp
          repeat (first | (go_ints; try go_simp) | (simp only [↓IntWalk.iteOmega]; try go_simp))
          exact hK
        simp only [Act.put, List.setIfInBounds_toArray, List.set_cons_zero, List.set_cons_succ]
      refine Walk.tell rfl rfl (fun w1 hI hL K hK => ?_) ?_
      · go_simp
        exact (lnot Q _ w1 (hQ2.ext hI) hQs HS3.out).mono (tell hK)
      rintro _ ⟨Z18, rfl⟩
      simp only [Act.put, List.setIfInBounds_toArray, List.set_cons_zero, List.set_cons_succ]
      refine Walk.tell rfl rfl (fun w1 hI hL K hK => ?_) ?_
      · have z := (Tl.getF (kn (i := 2) (v := .agg #[.bool Z18.N.b, .slice Z18.N.p Z18.N.n Z18.N.c, .bool Z18.D.b, .slice Z18.D.p Z18.D.n Z18.D.c]) rfl (by simp) (by kernel_rfl) hL)).1
        clear hL
        go_simp
        rw [← Hal.out] at hK
        exact (ltimes O Z18 _ _ w1 (hO2.ext hI) z HS1.out HS3.out (by have := HS2.out; rwa [show al _ (k + 1) = _ from Hal.out.symm] at this)).mono (tell hK)
      rintro _ ⟨Z19, rfl⟩
      simp only [Act.put, List.setIfInBounds_toArray, List.set_cons_zero, List.set_cons_succ]
      refine Walk.nilF fun W5 e5 kzL kzX => ?_
      obtain ⟨hZ, oZ⟩ := Tl.getF (kz (i := 3) (v := .agg #[.bool Z19.N.b, .slice Z19.N.p Z19.N.n Z19.N.c, .bool Z19.D.b, .slice Z19.D.p Z19.D.n Z19.D.c]) rfl (by simp) kzL)
      clear kzL kzX
      have hC5 := hC2.ext e5
      have f0 := hC5.frozen 0
      have f1 := hC5.frozen 1
      have f2 := hC5.frozen 2
      have f3 := hC5.frozen 3
      have c0 := hC5.cell (k := 0) rfl
      have c1 := hC5.cell (k := 1) rfl
      have c2 := hC5.cell (k := 2) rfl
      have c3 := hC5.cell (k := 3) rfl
      simp only [List.drop_succ_cons, List.drop_zero]
      obtain ⟨W6, hW6⟩ : ∃ V, (((W5.setCell ⟨w2.heap.size, 0, none⟩ (.bool Z19.N.b)).setCell ⟨w2.heap.size, 1, none⟩ (.slice Z19.N.p Z19.N.n Z19.N.c)).setCell ⟨w2.heap.size, 2, none⟩ (.bool Z19.D.b)).setCell ⟨w2.heap.size, 3, none⟩ (.slice Z19.D.p Z19.D.n Z19.D.c) = V := ⟨_, rfl⟩
      have hC6 : Cells W6 w2.heap.size 40 #[.bool Z19.N.b, .slice Z19.N.p Z19.N.n Z19.N.c, .bool Z19.D.b, .slice Z19.D.p Z19.D.n Z19.D.c] := by rw [← hW6]; exact Cells.sets [.bool Z19.N.b, .slice Z19.N.p Z19.N.n Z19.N.c, .bool Z19.D.b, .slice Z19.D.p Z19.D.n Z19.D.c] hC5 0
      have hZ6 : FR W6 Z19 (lal T R e y (k + 1)) := by rw [← hW6]; exact FR.sets hZ hC5 (by simp [NoU]) 0 [.bool Z19.N.b, .slice Z19.N.p Z19.N.n Z19.N.c, .bool Z19.D.b, .slice Z19.D.p Z19.D.n Z19.D.c]
      have oZ6 : OF W2.heap.size W6 Z19 := by rw [← hW6]; exact OF.sets oZ hC5 (by decide) 0 [.bool Z19.N.b, .slice Z19.N.p Z19.N.n Z19.N.c, .bool Z19.D.b, .slice Z19.D.p Z19.D.n Z19.D.c]
      have k6 : Keeps (fun b => b = w2.heap.size) W5 W6 := by rw [← hW6]; exact sets_keeps w2.heap.size [.bool Z19.N.b, .slice Z19.N.p Z19.N.n Z19.N.c, .bool Z19.D.b, .slice Z19.D.p Z19.D.n Z19.D.c] W5 0
      gi_wp2_with fail
      clear hW6
      exact ⟨(Keeps.of_ext e5).trans (k6.mono fun b _ h => .inl h), ⟨Z19, hC6, hZ6, oZ6.mono (by have := eW4.size; have := hkW.size; omega), fun b hb h => by have := (oZ.bl b hb).1; have := h.2; have := eV.size; omega, (hR32.ext e5).keeps k6 (by omega), (hE52.ext e5).keeps k6 (by omega), (hkW.trans (Keeps.of_ext e5)).trans (k6.mono fun b _ h => .inl (.inl h))⟩, hk1⟩
  case done =>
    rintro W ⟨hOI, hkn⟩ hD
    have hq : lal T R e y (yN T e y + 1) = ldq T R e y n := by
      show al _ _ = al _ _ * _
      rw [al_end rs _ (by omega), al_end rs _ (by omega), Rat.zero_mul]
    obtain ⟨O5, hC5, hO5, oO5, hap5, hR5, hE5, hK5⟩ := hOI
    rw [hq] at hO5
    have c0 := hC5.cell (k := 0) rfl
    have c1 := hC5.cell (k := 1) rfl
    have c2 := hC5.cell (k := 2) rfl
    have c3 := hC5.cell (k := 3) rfl
    have f0 := hR5.frozen 0
    have f1 := hR5.frozen 1
    have f2 := hR5.frozen 2
    have f3 := hR5.frozen 3
    have b0 := hR5.cell (k := 0) rfl
    have b1 := hR5.cell (k := 1) rfl
    have b2 := hR5.cell (k := 2) rfl
    have b3 := hR5.cell (k := 3) rfl
    obtain ⟨W6, hW6⟩ : ∃ V, ((((W).setCell ⟨w.heap.size + 1 + 1 + 1, 0, none⟩ (.bool O5.N.b)).setCell ⟨w.heap.size + 1 + 1 + 1, 1, none⟩ (.slice O5.N.p O5.N.n O5.N.c)).setCell ⟨w.heap.size + 1 + 1 + 1, 2, none⟩ (.bool O5.D.b)).setCell ⟨w.heap.size + 1 + 1 + 1, 3, none⟩ (.slice O5.D.p O5.D.n O5.D.c) = V := ⟨_, rfl⟩
    have C6 : Cells W6 (w.heap.size + 1 + 1 + 1) 40 #[.bool O5.N.b, .slice O5.N.p O5.N.n O5.N.c, .bool O5.D.b, .slice O5.D.p O5.D.n O5.D.c] := by rw [← hW6]; exact Cells.sets [.bool O5.N.b, .slice O5.N.p O5.N.n O5.N.c, .bool O5.D.b, .slice O5.D.p O5.D.n O5.D.c] hR5 0
    have hO6 : FR W6 O5 (ldq T R e y n) := by rw [← hW6]; exact FR.sets hO5 hR5 (by simp [NoU]) 0 [.bool O5.N.b, .slice O5.N.p O5.N.n O5.N.c, .bool O5.D.b, .slice O5.D.p O5.D.n O5.D.c]
    have oO6 : OF w.heap.size W6 O5 := by rw [← hW6]; exact OF.sets oO5 hR5 (by decide) 0 [.bool O5.N.b, .slice O5.N.p O5.N.n O5.N.c, .bool O5.D.b, .slice O5.D.p O5.D.n O5.D.c]
    have E6 : Cells W6 (w.heap.size + 1 + 1 + 1 + 1) 41 #[.int .i64 0] := by rw [← hW6]; exact Cells.off hE5 (b' := w.heap.size + 1 + 1 + 1) (by omega) 0 [.bool O5.N.b, .slice O5.N.p O5.N.n O5.N.c, .bool O5.D.b, .slice O5.D.p O5.D.n O5.D.c]
    have k6 : Keeps (fun b => b = w.heap.size + 1 + 1 + 1) W W6 := by rw [← hW6]; exact sets_keeps _ [.bool O5.N.b, .slice O5.N.p O5.N.n O5.N.c, .bool O5.D.b, .slice O5.D.p O5.D.n O5.D.c] W 0
    have x0 := E6.cell (k := 0) rfl
    have x1 := E6.frozen 0
    obtain ⟨W7, hW7⟩ : ∃ V, W6.setCell ⟨w.heap.size + 1 + 1 + 1 + 1, 0, none⟩ (.int .i64 0) = V := ⟨_, rfl⟩
    have k7 : Keeps (fun b => b = w.heap.size + 1 + 1 + 1 + 1) W6 W7 := by rw [← hW7]; exact (Keeps.refl _ _).setCell (M := fun b => b = w.heap.size + 1 + 1 + 1 + 1) (p := ⟨w.heap.size + 1 + 1 + 1 + 1, 0, none⟩) rfl _
    have E7 : Cells W7 (w.heap.size + 1 + 1 + 1 + 1) 41 #[.int .i64 0] := by rw [← hW7]; exact Cells.setOne E6 0 _
    have C7 := C6.keeps k7 (by omega)
    have hO7 : FR W7 O5 (ldq T R e y n) := by rw [← hW7]; exact FR.sets hO6 E6 (by simp [NoU]) 0 [.int .i64 0]
    have oO7 : OF w.heap.size W7 O5 := by rw [← hW7]; exact OF.sets oO6 E6 (by decide) 0 [.int .i64 0]
    have hK7 : Keeps (fun b => (b = w2.heap.size ∨ b = w.heap.size + 1 + 1 + 1 ∨ b = w.heap.size + 1 + 1 + 1 + 1) ∨ LoopBlocks w4 1 b) w4 W7 := (hK5.trans (k6.mono fun b _ h => .inl (.inr (.inl h)))).trans (k7.mono fun b _ h => .inl (.inr (.inr h)))
    have hD7 : W7.heap[w4.heap.size]? = some (.deferred (some [])) := k7.heap (k6.heap hD (by omega)) (by omega)
    have kk : Keeps (fun b => b = w4.heap.size) W7 (W7.putObj w4.heap.size (.deferred none)) := Keeps.mark (M := fun b => b = w4.heap.size) (Keeps.refl _ _) rfl
    obtain ⟨hO8, oO8⟩ := FR.keepsO hO7 oO7 kk (fun b hb h => hap5 b hb ⟨by omega, by omega⟩)
    have C8 := C7.keeps kk (by omega)
    have E8 := E7.keeps kk (by omega)
    have s4 := eW4.size
    gi_wp2_with fail
    clear hW6 hW7
    have d0 := C8.cell (k := 0) rfl
    have d1 := C8.cell (k := 1) rfl
    have d2 := C8.cell (k := 2) rfl
    have d3 := C8.cell (k := 3) rfl
    have d4 := E8.cell (k := 0) rfl
    refine leave_marked (v := .tuple #[.agg #[.bool O5.N.b, .slice O5.N.p O5.N.n O5.N.c, .bool O5.D.b, .slice O5.D.p O5.D.n O5.D.c], .int .i64 0]) hD7 (by simp [results, Tryz.results18, go_sem, d0, d1, d2, d3, d4]) (Gv.of_fe (X := O5) hO8 oO8 ?_)
    exact Keeps.go (M := fun b => w.heap.size ≤ b) eW4 ((hK7.mono (by rintro b _ (h | h); omega; have := h.1; omega)).trans (kk.mono fun b _ h => by omega)) (fun _ h => h)
  case stop =>
    rintro c W7 ⟨rfl, hOI⟩ hD7
    obtain ⟨O5, C7, hO7, oO7, hap5, E7, hK7⟩ := hOI
    have kk : Keeps (fun b => b = w4.heap.size) W7 (W7.putObj w4.heap.size (.deferred none)) := Keeps.mark (M := fun b => b = w4.heap.size) (Keeps.refl _ _) rfl
    obtain ⟨hO8, oO8⟩ := FR.keepsO hO7 oO7 kk (fun b hb h => hap5 b hb ⟨by omega, by omega⟩)
    have C8 := C7.keeps kk (by omega)
    have E8 := E7.keeps kk (by omega)
    have s4 := eW4.size
    gi_wp2_with fail
    skip
    have d0 := C8.cell (k := 0) rfl
    have d1 := C8.cell (k := 1) rfl
    have d2 := C8.cell (k := 2) rfl
    have d3 := C8.cell (k := 3) rfl
    have d4 := E8.cell (k := 0) rfl
    refine leave_marked (v := .tuple #[.agg #[.bool O5.N.b, .slice O5.N.p O5.N.n O5.N.c, .bool O5.D.b, .slice O5.D.p O5.D.n O5.D.c], .int .i64 0]) hD7 (by simp [results, Tryz.results18, go_sem, d0, d1, d2, d3, d4]) (Gv.of_fe (X := O5) hO8 oO8 ?_)
    exact Keeps.go (M := fun b => w.heap.size ≤ b) eW4 ((hK7.mono (by rintro b _ (h | h); omega; have := h.1; omega)).trans (kk.mono fun b _ h => by omega)) (fun _ h => h)
end Go.Proofs.YtndgaecfeaedeaaGreat

namespace Go.Proofs.YtndgaecfeaedeaaGreat
set_option linter.unusedSimpArgs false
set_option linter.unusedVariables false
open Go.RowKit Lex Mth
attribute [local go_sem] run_indexAt_at add_zero_map Oper.semAt_some at_zero at_add at_mk1 at_mk2 at_mk3

/-- The expected number of complete years. -/
def lex (T : Tb) (R : Nat → Nat → Rat) (e y : Int) : Rat := es (fun k => rt T R e (y + (k : Nat))) (yN T e y + 1)
/-- What the loop has gathered: the sum in the box g, the probability in the box g'. -/
def EI (g g' : Nat) (q q' : Rat) (B : Nat) (w4 W : World) : Prop := ∃ O O' : Fr, Cells W g 40 #[.bool O.N.b, .slice O.N.p O.N.n O.N.c, .bool O.D.b, .slice O.D.p O.D.n O.D.c] ∧ FR W O q ∧ OF B W O ∧ (∀ b ∈ Bl O.val, ¬ LoopBlocks w4 1 b) ∧ Cells W g' 40 #[.bool O'.N.b, .slice O'.N.p O'.N.n O'.N.c, .bool O'.D.b, .slice O'.D.p O'.D.n O'.D.c] ∧ FR W O' q' ∧ OF B W O' ∧ (∀ b ∈ Bl O'.val, ¬ LoopBlocks w4 1 b) ∧ Keeps (fun b => (b = g ∨ b = g') ∨ LoopBlocks w4 1 b) w4 W
theorem EI.keeps {g g' : Nat} {q q' : Rat} {B : Nat} {w4 A C : World} (h : EI g g' q q' B w4 A) (k : Keeps (LoopBlocks w4 1) A C) (hg : ¬ LoopBlocks w4 1 g) (hg' : ¬ LoopBlocks w4 1 g') : EI g g' q q' B w4 C := by
  obtain ⟨O, O', h1, h2, h3, h4, k1, k2, k3, k4, h7⟩ := h
  obtain ⟨a, b⟩ := FR.keepsO h2 h3 k h4
  obtain ⟨a', b'⟩ := FR.keepsO k2 k3 k k4
  exact ⟨O, O', h1.keeps k hg, a, b, h4, k1.keeps k hg', a', b', k4, h7.trans (k.mono fun b _ h => .inr h)⟩

set_option maxRecDepth 100000 in
set_option maxHeartbeats 2000000 in
theorem lExpect (T : Tb) (R : Nat → Nat → Rat) (e y : Int) (w : World) (hT : TQ w T R) (hok : okL T e y = true) :
    Calls Tryz.prog 19 #[.agg #[.int .i64 T.first, .int .i64 T.sel, .slice T.P T.N T.C], .agg #[.int .i64 e, .int .i64 y]] w (Gv (.fe (lex T R e y) 0) w) := by
  obtain ⟨h1, h2, h3, h4⟩ : T.first ≤ e ∧ e ≤ T.first + (T.N : Int) - 1 ∧ 0 ≤ y ∧ y ≤ 500 := by
    unfold okL at hok
    simp only [Bool.and_eq_true, decide_eq_true_eq] at hok
    exact ⟨hok.1.1.1.2, hok.1.1.2, hok.1.2, by omega⟩
  have rs := rs_rt hT h1 h2 h3
  have hA := yN_le hT h1 h3
  have Hok := Lib.hid hok
  clear hok
  refine (callsIn_wide (n := 2)).1 ?_
  refine callsIn_of_wp_marks Tryz.func19 rfl trivial ?_ rfl
  simp only [Tryz.ntmps19, List.size_toArray, List.length_cons, List.length_nil, Nat.reduceAdd, Nat.reduceSub, Array.replicate_succ, Array.replicate_zero, List.push_toArray, List.append_toArray, List.nil_append, List.cons_append]
  obtain ⟨w1, hw1⟩ : ∃ W, ((w.alloc (.cells #[.int .i64 T.first, .int .i64 T.sel, .slice T.P T.N T.C] 24)).alloc (.cells #[.int .i64 e, .int .i64 y] 26)).alloc (.cells #[.bool false, .slice none 0 0, .bool false, .slice none 0 0] 40) = W := ⟨_, rfl⟩
  have e1 : Ext w w1 := by rw [← hw1]; exact eg (eg (ea _ _) (ea _ _)) (ea _ _)
  have A1 : Cells w1 w.heap.size 24 #[.int .i64 T.first, .int .i64 T.sel, .slice T.P T.N T.C] := by rw [← hw1]; exact ((Cells.newAt _ _ rfl).alloc _).alloc _
  have AL : Cells w1 (w.heap.size + 1) 26 #[.int .i64 e, .int .i64 y] := by rw [← hw1]; exact (Cells.newAt _ _ (by simp)).alloc _
  have A3 : Cells w1 (w.heap.size + 1 + 1) 40 #[.bool false, .slice none 0 0, .bool false, .slice none 0 0] := by rw [← hw1]; exact Cells.newAt _ _ (by simp)
  have a0 := A1.cell (k := 0) rfl
  have a1 := A1.cell (k := 1) rfl
  have a2 := A1.cell (k := 2) rfl
  have a3 := AL.cell (k := 0) rfl
  have a4 := AL.cell (k := 1) rfl
  have l30 := A3.lt
  gi_wp2_with fail
  clear hw1 a0 a1 a2 a3 a4
  refine Go_wide (lRight T e y w1 (hT.tw.ext e1) (okL_ey Hok.out) Hok.out) ?_
  intro ee w1b gg
  obtain ⟨rfl, e1b⟩ := Gv.v gg
  replace A1 := A1.ext e1b
  replace AL := AL.ext e1b
  replace A3 := A3.ext e1b
  gi_wp2_with fail
  refine Go_wide (fFromInt_0 w1b) ?_
  intro ee w2 gg
  obtain ⟨O, rfl, hO, oO, e2⟩ := Gv.f gg
  gi_wp2_with fail
  refine Go_wide (fFromInt_1 w2) ?_
  intro ee w2c gg
  obtain ⟨O', rfl, hO', oO', e2c⟩ := Gv.f gg
  obtain ⟨w3, hw3⟩ : ∃ W, (w2c.alloc (.cells #[.bool O.N.b, .slice O.N.p O.N.n O.N.c, .bool O.D.b, .slice O.D.p O.D.n O.D.c] 40)).alloc (.cells #[.bool O'.N.b, .slice O'.N.p O'.N.n O'.N.c, .bool O'.D.b, .slice O'.D.p O'.D.n O'.D.c] 40) = W := ⟨_, rfl⟩
  have e3 : Ext w2c w3 := by rw [← hw3]; exact eg (ea _ _) (ea _ _)
  have A4 : Cells w3 w2c.heap.size 40 #[.bool O.N.b, .slice O.N.p O.N.n O.N.c, .bool O.D.b, .slice O.D.p O.D.n O.D.c] := by rw [← hw3]; exact (Cells.newAt _ _ rfl).alloc _
  have A5 : Cells w3 (w2c.heap.size + 1) 40 #[.bool O'.N.b, .slice O'.N.p O'.N.n O'.N.c, .bool O'.D.b, .slice O'.D.p O'.D.n O'.D.c] := by rw [← hw3]; exact Cells.newAt _ _ (by simp)
  have l43 := A5.lt
  have e23 := eg (eg e2 e2c) e3
  replace A1 := A1.ext e23
  replace AL := AL.ext e23
  replace A3 := A3.ext e23
  replace hO := hO.ext (eg e2c e3)
  replace oO := oO.ext (eg e2c e3)
  replace hO' := hO'.ext e3
  replace oO' := oO'.ext e3
  have eW3 := eg (eg e1 e1b) e23
  have a0 := A1.cell (k := 0) rfl
  have a1 := A1.cell (k := 1) rfl
  have a2 := A1.cell (k := 2) rfl
  have a3 := AL.cell (k := 0) rfl
  have a4 := AL.cell (k := 1) rfl
  gi_wp2_with fail
  clear hw3 a0 a1 a2 a3 a4
  refine Go_wide (lyears T e y w3) ?_
  rintro ee w4 ⟨Bs, rfl, hBs, hBge, e4⟩
  replace A3 := A3.ext e4
  replace A4 := A4.ext e4
  replace A5 := A5.ext e4
  replace hO := hO.ext e4
  replace oO := oO.ext e4
  replace hO' := hO'.ext e4
  replace oO' := oO'.ext e4
  have eW4 := eg eW3 e4
  have l3 := A3.lt
  have l4 := A4.lt
  have l5 := A5.lt
  have lBs := hBs.lt
  have s1 := e1.size
  have s1b := e1b.size
  have s2 := e2.size
  have s2c := e2c.size
  have hob := oO.bl
  have hob' := oO'.bl
  have hLg : ¬ LoopBlocks w4 1 w2c.heap.size := fun h => by have := h.1; omega
  have hLg' : ¬ LoopBlocks w4 1 (w2c.heap.size + 1) := fun h => by have := h.1; omega
  gi_wp2_with fail
  refine wp_range (gf := 97) rfl (enters_of Tryz.func97 (by kernel_rfl) rfl)
    (years_gives T R e y w hT h1 h2 h3 h4 Bs (fun b => b = w2c.heap.size ∨ b = w2c.heap.size + 1) w4 eW4 hBs (by omega) (fun b hb => by have := eW3.size; omega))
    (Below.refl _ _) (fun _ k vs W hV => by obtain ⟨Q, rfl, _⟩ := hV; rfl) (fun b hb h => by have h1 := h.1; omega)
    (fun k W => EI w2c.heap.size (w2c.heap.size + 1) (es (fun k => rt T R e (y + (k : Nat))) k) (lal T R e y k) w.heap.size w4 W)
    (fun _ _ => False)
    (fun k A C h hk => h.keeps hk hLg hLg')
    (fun c A C h hk => h)
    ⟨O, O', A4, hO, oO.mono (by omega), fun b hb h => by have := (hob b hb).2; have := h.1; omega, A5, hO', oO'.mono (by omega), fun b hb h => by have := (hob' b hb).2; have := h.1; omega, Keeps.refl _ _⟩ (fun _ _ _ => trivial) ?round ?done ?stop
  case round =>
    rintro l k vs W ⟨O, O', hC, hO, oO, hap, hC', hO', oO', hap', hk⟩ hkN ⟨Q, rfl, hQ, oQ, hQs⟩ hWs K hK
    obtain ⟨V1, hV1⟩ : ∃ V, W.alloc (.cells #[.bool Q.N.b, .slice Q.N.p Q.N.n Q.N.c, .bool Q.D.b, .slice Q.D.p Q.D.n Q.D.c] 40) = V := ⟨_, rfl⟩
    have eV : Ext W V1 := by rw [← hV1]; exact ea _ _
    have CQ : Cells V1 W.heap.size 40 #[.bool Q.N.b, .slice Q.N.p Q.N.n Q.N.c, .bool Q.D.b, .slice Q.D.p Q.D.n Q.D.c] := by rw [← hV1]; exact Cells.newAt _ _ rfl
    have lC := hC.lt
    have lC' := hC'.lt
    gi_wp2
    refine hK _ _ (Keeps.of_ext eV) ?_
    clear hK hV1
    intro W2 hk2 hs2
    have hs3 := Nat.le_of_eq hs2
    have hs4 := Nat.le_of_eq hs2.symm
    clear hs2
    have hQb : ∀ b ∈ Bl Q.val, ¬ LoopBlocks w4 1 b := fun b hb h => by have := (oQ.bl b hb).1; have := h.2; omega
    obtain ⟨hO2, oO2⟩ := FR.keepsO (hO.ext eV) (oO.ext eV) hk2 hap
    obtain ⟨hO2', oO2'⟩ := FR.keepsO (hO'.ext eV) (oO'.ext eV) hk2 hap'
    obtain ⟨hQ2, oQ2⟩ := FR.keepsO (hQ.ext eV) (oQ.ext eV) hk2 hQb
    have hC2 := (hC.ext eV).keeps hk2 hLg
    have hC2' := (hC'.ext eV).keeps hk2 hLg'
    have CQ2 := CQ.keeps hk2 (fun h => by have := h.2; omega)
    have hkW : Keeps (fun b => (b = w2c.heap.size ∨ b = w2c.heap.size + 1) ∨ LoopBlocks w4 1 b) w4 W2 := (hk.trans (Keeps.of_ext eV)).trans (hk2.mono fun b _ h => .inr h)
    have c0 := hC2'.cell (k := 0) rfl
    have c1 := hC2'.cell (k := 1) rfl
    have c2 := hC2'.cell (k := 2) rfl
    have c3 := hC2'.cell (k := 3) rfl
    have q0 := CQ2.cell (k := 0) rfl
    have q1 := CQ2.cell (k := 1) rfl
    have q2 := CQ2.cell (k := 2) rfl
    have q3 := CQ2.cell (k := 3) rfl
    have lC2 := hC2'.lt
    have lQ2 := CQ2.lt
    have hal : lal T R e y k * (1 - rt T R e (y + (k : Nat))) = lal T R e y (k + 1) := rfl
    have hes : es (fun k => rt T R e (y + (k : Nat))) k + lal T R e y (k + 1) = es (fun k => rt T R e (y + (k : Nat))) (k + 1) := rfl
    have Hal := Lib.hid hal
    have Hes := Lib.hid hes
    have HS1 := Lib.hid (al_sz rs hA k)
    have HS2 := Lib.hid (al_sz rs hA (k + 1))
    have HE1 := Lib.hid (es_sz rs hA k (by omega))
    have HE2 := Lib.hid (es_sz rs hA (k + 1) (by omega))
    have HS3 : Hid (Sz (1 - rt T R e (y + (k : Nat)))) := not_sz (rs.sm k) (by have := (rt T R e (y + (k : Nat))).den_nz; omega) (by have : siz (rt T R e (y + (k : Nat))).den ≤ 1 := siz_one.2 (rs.den k); omega)
    clear hal hes
    gi_wp2_with fail
    refine regionInT 4 (fun i => match i with | 2 => some (.f (1 - rt T R e (y + (k : Nat)))) | 3 => some (.f (lal T R e y (k + 1))) | _ => none) (.inr ⟨_, rfl⟩) (by kernel_rfl) (by kernel_rfl) (by kernel_rfl) ?_
    iterate 2
      refine Walk.one (x := ?_) rfl rfl (fun w1 hI hL K hK => ?_) ?_
      rotate_left
      · obtain ⟨hc, hf⟩ := bcell hI
        go_simp
        repeat (first | (go_ints; try go_simp) | (simp only [↓IntWalk.iteOmega]; try go_simp))
        exact hK
      simp only [Act.put, List.setIfInBounds_toArray, List.set_cons_zero, List.set_cons_succ]
    refine Walk.tell rfl rfl (fun w1 hI hL K hK => ?_) ?_
    · go_simp
      exact (lnot Q _ w1 (hQ2.ext hI) hQs HS3.out).mono (tell hK)
    rintro _ ⟨Z18, rfl⟩
    simp only [Act.put, List.setIfInBounds_toArray, List.set_cons_zero, List.set_cons_succ]
    refine Walk.tell rfl rfl (fun w1 hI hL K hK => ?_) ?_
    · have z := (Tl.getF (kn (i := 2) (v := .agg #[.bool Z18.N.b, .slice Z18.N.p Z18.N.n Z18.N.c, .bool Z18.D.b, .slice Z18.D.p Z18.D.n Z18.D.c]) rfl (by simp) (by kernel_rfl) hL)).1
      clear hL
      go_simp
      rw [← Hal.out] at hK
      exact (ltimes O' Z18 _ _ w1 (hO2'.ext hI) z HS1.out HS3.out (by have := HS2.out; rwa [show al _ (k + 1) = _ from Hal.out.symm] at this)).mono (tell hK)
    rintro _ ⟨Z19, rfl⟩
    simp only [Act.put, List.setIfInBounds_toArray, List.set_cons_zero, List.set_cons_succ]
    refine Walk.nilF fun W5 e5 kzL kzX => ?_
    obtain ⟨hZ, oZ⟩ := Tl.getF (kz (i := 3) (v := .agg #[.bool Z19.N.b, .slice Z19.N.p Z19.N.n Z19.N.c, .bool Z19.D.b, .slice Z19.D.p Z19.D.n Z19.D.c]) rfl (by simp) kzL)
    clear kzL kzX
    have hC5 := hC2'.ext e5
    have hG5 := hC2.ext e5
    have f0 := hC5.frozen 0
    have f1 := hC5.frozen 1
    have f2 := hC5.frozen 2
    have f3 := hC5.frozen 3
    have c0 := hC5.cell (k := 0) rfl
    have c1 := hC5.cell (k := 1) rfl
    have c2 := hC5.cell (k := 2) rfl
    have c3 := hC5.cell (k := 3) rfl
    simp only [List.drop_succ_cons, List.drop_zero]
    obtain ⟨W6, hW6⟩ : ∃ V, ((((W5).setCell ⟨w2c.heap.size + 1, 0, none⟩ (.bool Z19.N.b)).setCell ⟨w2c.heap.size + 1, 1, none⟩ (.slice Z19.N.p Z19.N.n Z19.N.c)).setCell ⟨w2c.heap.size + 1, 2, none⟩ (.bool Z19.D.b)).setCell ⟨w2c.heap.size + 1, 3, none⟩ (.slice Z19.D.p Z19.D.n Z19.D.c) = V := ⟨_, rfl⟩
    have hC6 : Cells W6 (w2c.heap.size + 1) 40 #[.bool Z19.N.b, .slice Z19.N.p Z19.N.n Z19.N.c, .bool Z19.D.b, .slice Z19.D.p Z19.D.n Z19.D.c] := by rw [← hW6]; exact Cells.sets [.bool Z19.N.b, .slice Z19.N.p Z19.N.n Z19.N.c, .bool Z19.D.b, .slice Z19.D.p Z19.D.n Z19.D.c] hC5 0
    have hG6 : Cells W6 w2c.heap.size 40 #[.bool O.N.b, .slice O.N.p O.N.n O.N.c, .bool O.D.b, .slice O.D.p O.D.n O.D.c] := by rw [← hW6]; exact Cells.off hG5 (b' := w2c.heap.size + 1) (by omega) 0 [.bool Z19.N.b, .slice Z19.N.p Z19.N.n Z19.N.c, .bool Z19.D.b, .slice Z19.D.p Z19.D.n Z19.D.c]
    have hZ6 : FR W6 Z19 (lal T R e y (k + 1)) := by rw [← hW6]; exact FR.sets hZ hC5 (by simp [NoU]) 0 [.bool Z19.N.b, .slice Z19.N.p Z19.N.n Z19.N.c, .bool Z19.D.b, .slice Z19.D.p Z19.D.n Z19.D.c]
    have oZ6 : OF W2.heap.size W6 Z19 := by rw [← hW6]; exact OF.sets oZ hC5 (by decide) 0 [.bool Z19.N.b, .slice Z19.N.p Z19.N.n Z19.N.c, .bool Z19.D.b, .slice Z19.D.p Z19.D.n Z19.D.c]
    have hO6 : FR W6 O (es (fun k => rt T R e (y + (k : Nat))) k) := by rw [← hW6]; exact FR.sets (hO2.ext e5) hC5 (by simp [NoU]) 0 [.bool Z19.N.b, .slice Z19.N.p Z19.N.n Z19.N.c, .bool Z19.D.b, .slice Z19.D.p Z19.D.n Z19.D.c]
    have k6 : Keeps (fun b => b = w2c.heap.size + 1) W5 W6 := by rw [← hW6]; exact sets_keeps (w2c.heap.size + 1) [.bool Z19.N.b, .slice Z19.N.p Z19.N.n Z19.N.c, .bool Z19.D.b, .slice Z19.D.p Z19.D.n Z19.D.c] W5 0
    have g0 := hG6.cell (k := 0) rfl
    have g1 := hG6.cell (k := 1) rfl
    have g2 := hG6.cell (k := 2) rfl
    have g3 := hG6.cell (k := 3) rfl
    have z0 := hC6.cell (k := 0) rfl
    have z1 := hC6.cell (k := 1) rfl
    have z2 := hC6.cell (k := 2) rfl
    have z3 := hC6.cell (k := 3) rfl
    gi_wp2_with fail
    clear hW6

    refine Go_round (lplus O Z19 _ _ W6 hO6 hZ6 HE1.out HS2.out (by rw [Hes.out]; exact HE2.out)) ?_
    intro ee W7 gg
    obtain ⟨Z29, rfl, hY, oY, e7⟩ := Gv.f gg
    have hG7 := hG6.ext e7
    have hC7 := hC6.ext e7
    have f0 := hG7.frozen 0
    have f1 := hG7.frozen 1
    have f2 := hG7.frozen 2
    have f3 := hG7.frozen 3
    have c0 := hG7.cell (k := 0) rfl
    have c1 := hG7.cell (k := 1) rfl
    have c2 := hG7.cell (k := 2) rfl
    have c3 := hG7.cell (k := 3) rfl
    obtain ⟨W8, hW8⟩ : ∃ V, ((((W7).setCell ⟨w2c.heap.size, 0, none⟩ (.bool Z29.N.b)).setCell ⟨w2c.heap.size, 1, none⟩ (.slice Z29.N.p Z29.N.n Z29.N.c)).setCell ⟨w2c.heap.size, 2, none⟩ (.bool Z29.D.b)).setCell ⟨w2c.heap.size, 3, none⟩ (.slice Z29.D.p Z29.D.n Z29.D.c) = V := ⟨_, rfl⟩
    have hG8 : Cells W8 w2c.heap.size 40 #[.bool Z29.N.b, .slice Z29.N.p Z29.N.n Z29.N.c, .bool Z29.D.b, .slice Z29.D.p Z29.D.n Z29.D.c] := by rw [← hW8]; exact Cells.sets [.bool Z29.N.b, .slice Z29.N.p Z29.N.n Z29.N.c, .bool Z29.D.b, .slice Z29.D.p Z29.D.n Z29.D.c] hG7 0
    have hC8 : Cells W8 (w2c.heap.size + 1) 40 #[.bool Z19.N.b, .slice Z19.N.p Z19.N.n Z19.N.c, .bool Z19.D.b, .slice Z19.D.p Z19.D.n Z19.D.c] := by rw [← hW8]; exact Cells.off hC7 (b' := w2c.heap.size) (by omega) 0 [.bool Z29.N.b, .slice Z29.N.p Z29.N.n Z29.N.c, .bool Z29.D.b, .slice Z29.D.p Z29.D.n Z29.D.c]
    have hY8 : FR W8 Z29 (es (fun k => rt T R e (y + (k : Nat))) k + lal T R e y (k + 1)) := by rw [← hW8]; exact FR.sets hY hG7 (by simp [NoU]) 0 [.bool Z29.N.b, .slice Z29.N.p Z29.N.n Z29.N.c, .bool Z29.D.b, .slice Z29.D.p Z29.D.n Z29.D.c]
    have oY8 : OF W6.heap.size W8 Z29 := by rw [← hW8]; exact OF.sets oY hG7 (by decide) 0 [.bool Z29.N.b, .slice Z29.N.p Z29.N.n Z29.N.c, .bool Z29.D.b, .slice Z29.D.p Z29.D.n Z29.D.c]
    have hZ8 : FR W8 Z19 (lal T R e y (k + 1)) := by rw [← hW8]; exact FR.sets (hZ6.ext e7) hG7 (by simp [NoU]) 0 [.bool Z29.N.b, .slice Z29.N.p Z29.N.n Z29.N.c, .bool Z29.D.b, .slice Z29.D.p Z29.D.n Z29.D.c]
    have oZ8 : OF W2.heap.size W8 Z19 := by rw [← hW8]; exact OF.sets (oZ6.ext e7) hG7 (by decide) 0 [.bool Z29.N.b, .slice Z29.N.p Z29.N.n Z29.N.c, .bool Z29.D.b, .slice Z29.D.p Z29.D.n Z29.D.c]
    have k8 : Keeps (fun b => b = w2c.heap.size) W7 W8 := by rw [← hW8]; exact sets_keeps w2c.heap.size [.bool Z29.N.b, .slice Z29.N.p Z29.N.n Z29.N.c, .bool Z29.D.b, .slice Z29.D.p Z29.D.n Z29.D.c] W7 0
    have kAll : Keeps (fun b => b = w2c.heap.size ∨ b = w2c.heap.size + 1) W2 W8 := (((Keeps.of_ext e5).trans (k6.mono fun b _ h => .inr h)).trans (Keeps.of_ext e7)).trans (k8.mono fun b _ h => .inl h)
    have s4 := eW4.size
    have s5 := hkW.size
    have s6 := eV.size
    have s7 := e5.size
    have s8 := k6.size
    gi_wp2_with fail
    clear hW8
    exact ⟨kAll, Z29, Z19, hG8, hY8, oY8.mono (by omega), fun b hb h => by have := (oY.bl b hb).1; have := h.2; omega, hC8, hZ8, oZ8.mono (by omega), fun b hb h => by have := (oZ.bl b hb).1; have := h.2; omega, hkW.trans (kAll.mono fun b _ h => .inl h)⟩
  case done =>
    rintro W ⟨O5, O6, hC5, hO5, oO5, hap5, _, _, _, _, hK5⟩ hD
    have c0 := hC5.cell (k := 0) rfl
    have c1 := hC5.cell (k := 1) rfl
    have c2 := hC5.cell (k := 2) rfl
    have c3 := hC5.cell (k := 3) rfl
    have A35 := A3.keeps hK5 (by rintro (h | h); omega; have := h.1; omega)
    have f0 := A35.frozen 0
    have f1 := A35.frozen 1
    have f2 := A35.frozen 2
    have f3 := A35.frozen 3
    have b0 := A35.cell (k := 0) rfl
    have b1 := A35.cell (k := 1) rfl
    have b2 := A35.cell (k := 2) rfl
    have b3 := A35.cell (k := 3) rfl
    obtain ⟨W6, hW6⟩ : ∃ V, ((((W).setCell ⟨w.heap.size + 1 + 1, 0, none⟩ (.bool O5.N.b)).setCell ⟨w.heap.size + 1 + 1, 1, none⟩ (.slice O5.N.p O5.N.n O5.N.c)).setCell ⟨w.heap.size + 1 + 1, 2, none⟩ (.bool O5.D.b)).setCell ⟨w.heap.size + 1 + 1, 3, none⟩ (.slice O5.D.p O5.D.n O5.D.c) = V := ⟨_, rfl⟩
    have C6 : Cells W6 (w.heap.size + 1 + 1) 40 #[.bool O5.N.b, .slice O5.N.p O5.N.n O5.N.c, .bool O5.D.b, .slice O5.D.p O5.D.n O5.D.c] := by rw [← hW6]; exact Cells.sets [.bool O5.N.b, .slice O5.N.p O5.N.n O5.N.c, .bool O5.D.b, .slice O5.D.p O5.D.n O5.D.c] A35 0
    have hO6 : FR W6 O5 (lex T R e y) := by rw [← hW6]; exact FR.sets hO5 A35 (by simp [NoU]) 0 [.bool O5.N.b, .slice O5.N.p O5.N.n O5.N.c, .bool O5.D.b, .slice O5.D.p O5.D.n O5.D.c]
    have oO6 : OF w.heap.size W6 O5 := by rw [← hW6]; exact OF.sets oO5 A35 (by decide) 0 [.bool O5.N.b, .slice O5.N.p O5.N.n O5.N.c, .bool O5.D.b, .slice O5.D.p O5.D.n O5.D.c]
    have k6 : Keeps (fun b => b = w.heap.size + 1 + 1) W W6 := by rw [← hW6]; exact sets_keeps _ [.bool O5.N.b, .slice O5.N.p O5.N.n O5.N.c, .bool O5.D.b, .slice O5.D.p O5.D.n O5.D.c] W 0
    have hD6 : W6.heap[w4.heap.size]? = some (.deferred (some [])) := k6.heap hD (by omega)
    have kk : Keeps (fun b => b = w4.heap.size) W6 (W6.putObj w4.heap.size (.deferred none)) := Keeps.mark (M := fun b => b = w4.heap.size) (Keeps.refl _ _) rfl
    obtain ⟨hO7, oO7⟩ := FR.keepsO hO6 oO6 kk (fun b hb h => hap5 b hb ⟨by omega, by omega⟩)
    have C7 := C6.keeps kk (by omega)
    have s4 := eW4.size
    gi_wp2_with fail
    clear hW6
    have d0 := C7.cell (k := 0) rfl
    have d1 := C7.cell (k := 1) rfl
    have d2 := C7.cell (k := 2) rfl
    have d3 := C7.cell (k := 3) rfl
    refine leave_marked (v := .tuple #[.agg #[.bool O5.N.b, .slice O5.N.p O5.N.n O5.N.c, .bool O5.D.b, .slice O5.D.p O5.D.n O5.D.c], .int .i64 0]) hD6 (by simp [results, Tryz.results19, go_sem, d0, d1, d2, d3]) (Gv.of_fe (X := O5) hO7 oO7 ?_)
    exact Keeps.go (M := fun b => w.heap.size ≤ b) eW4 (((hK5.mono (by rintro b _ (h | h); omega; have := h.1; omega)).trans (k6.mono fun b _ h => by omega)).trans (kk.mono fun b _ h => by omega)) (fun _ h => h)
  case stop =>
    intro c W h
    exact h.elim
end Go.Proofs.YtndgaecfeaedeaaGreat
