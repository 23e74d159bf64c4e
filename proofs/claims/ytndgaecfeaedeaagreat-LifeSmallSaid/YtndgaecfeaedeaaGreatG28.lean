/- The walk of LifeSmall. -/
import Derived.Test.YtndgaecfeaedeaaGreatG26
import Derived.Test.YtndgaecfeaedeaaGreatG27
set_option linter.unusedSimpArgs false
set_option linter.unusedVariables false
namespace Go.Proofs.YtndgaecfeaedeaaGreat
open Go.RowKit Lex Mth
attribute [local go_sem] run_indexAt_at add_zero_map Oper.semAt_some at_zero at_add at_mk1 at_mk2 at_mk3

theorem Qa (l : List Value) (i : Nat) (x : Value) : l.toArray.setIfInBounds i x = (l.set i x).toArray := List.setIfInBounds_toArray l i x
theorem Qb (a b : Value) (l : List Value) : (b :: l).set 0 a = a :: l := rfl
theorem Qc (a b : Value) (l : List Value) (n : Nat) : (b :: l).set (n + 1) a = b :: l.set n a := rfl
set_option maxRecDepth 100000 in
set_option maxHeartbeats 16000000 in
theorem nSmall (w : World) :
    Calls Tryz.prog 5 #[] w (Gv (.v (.bool true)) w) := by
 obtain ⟨i0, qi, qz0, qz1, qz2⟩ := info_parts Tryz.infoRw
 obtain ⟨w1, hww1, ew1, B1, zw1⟩ := alloc_at w (w.heap.size) (by omega) #[.int .i64 (-9223372036854775808), .int .i64 (-1), .int .i64 0, .int .i64 1, .int .i64 2, .int .i64 3, .int .i64 4, .int .i64 5, .int .i64 300, .int .i64 9223372036854775807] 3
 go_enter Tryz.func5, Tryz.ntmps5
 go_wp2_with fail
 clear hww1
 replace zw1 := le2 zw1
 go_loopw [2] (fun v2 r3 => ∃ (i : Nat), v2 = .int .i64 (i : Nat) ∧ i ≤ 36 ∧ Cells r3 (w.heap.size) 3 #[.int .i64 (-9223372036854775808), .int .i64 (-1), .int .i64 0, .int .i64 1, .int .i64 2, .int .i64 3, .int .i64 4, .int .i64 5, .int .i64 300, .int .i64 9223372036854775807] ∧ Ext w r3) (fun v2 _ => (36 - intOf v2).toNat)
 case atStart => exact ⟨0, rfl, by omega, B1, ew1⟩
 case round =>
  obtain ⟨r3, hqr3⟩ : ∃ r, r = wr := ⟨_, rfl⟩
  subst hqr3
  clear B1
  obtain ⟨i, rfl, hi, B1, xw_r3⟩ := hrel
  have zr3 := xw_r3.size
  have lB1_r3 := B1.lt
  by_cases hi2 : i < 36
  ·skip
   obtain ⟨a, ha⟩ : ∃ a : Nat, a = i % 6 := ⟨_, rfl⟩
   obtain ⟨b, hb⟩ : ∃ b : Nat, b = i / 6 := ⟨_, rfl⟩
   obtain ⟨c, hc⟩ : ∃ c : Nat, c = i % 3 := ⟨_, rfl⟩
   obtain ⟨d, hd⟩ : ∃ d : Nat, d = i % 2 := ⟨_, rfl⟩
   have qa : ((i : Nat) : Int).tmod 6 = (a : Int) := by rw [ha]; rfl
   have qb : ((i : Nat) : Int).tdiv 6 = (b : Int) := by rw [hb]; rfl
   have qc : ((i : Nat) : Int).tmod 3 = (c : Int) := by rw [hc]; rfl
   have qd : ((i : Nat) : Int).tmod 2 = (d : Int) := by rw [hd]; rfl
   have a6 : a < 6 := by omega
   have b6 : b < 6 := by omega
   have c3 : c < 3 := by omega
   have d2 : d < 2 := by omega
   clear ha hb hc hd
   obtain ⟨w2, hww2, ew2, B2, zw2⟩ := alloc_at r3 (r3.heap.size) (by omega) #[.int .i64 0, .int .i64 0] 26
   obtain ⟨w3, hww3, ew3, B3, zw3⟩ := alloc_at w2 (r3.heap.size + 1) (by omega) #[.int .i64 0, .int .i64 0] 26
   replace B2 := B2.ext ew3
   have b2_w3 := B2.c2
   have fb2_w3 := B2.f2
   have xr3_w3 := eg ew2 ew3
   replace B1 := B1.ext xr3_w3
   have xw_w3 := eg (eg xw_r3 ew2) ew3
   obtain ⟨w4, hww4, kw4, Nw4, zw4⟩ := B2.put2 (.int .i64 (59 + (a : Int))) (.int .i64 ((b : Int) - 1))
   replace B1 := B1.kb kw4 (by omega)
   replace B3 := B3.kb kw4 (by omega)
   have xw_w4 := Ext.kb xw_w3 kw4 (by omega)
   replace B2 := Nw4
   clear Nw4 kw4
   have b3_w4 := B3.c2
   have fb3_w4 := B3.f2
   obtain ⟨w5, hww5, kw5, Nw5, zw5⟩ := B3.put2 (.int .i64 (60 + (c : Int))) (.int .i64 (d : Int))
   replace B1 := B1.kb kw5 (by omega)
   replace B2 := B2.kb kw5 (by omega)
   have xw_w5 := Ext.kb xw_w4 kw5 (by omega)
   replace B3 := Nw5
   clear Nw5 kw5
   go_wp2_with fail
   clear hww2 hww3 hww4 hww5
   clear b2_w3 fb2_w3 b3_w4 fb3_w4
   replace zw2 := le2 zw2
   replace zw3 := le2 zw3
   replace zw4 := le2 zw4
   replace zw5 := le2 zw5
   clear qa qb qc qd
   go_loopw [5] (fun v5 r7 => ∃ (j : Nat), v5 = .int .i64 (j : Nat) ∧ j ≤ 10 ∧ Cells r7 (w.heap.size) 3 #[.int .i64 (-9223372036854775808), .int .i64 (-1), .int .i64 0, .int .i64 1, .int .i64 2, .int .i64 3, .int .i64 4, .int .i64 5, .int .i64 300, .int .i64 9223372036854775807] ∧ Cells r7 (r3.heap.size) 26 #[.int .i64 (59 + (a : Int)), .int .i64 ((b : Int) - 1)] ∧ Cells r7 (r3.heap.size + 1) 26 #[.int .i64 (60 + (c : Int)), .int .i64 (d : Int)] ∧ Ext w r7) (fun v5 _ => (10 - intOf v5).toNat)
   case atStart => exact ⟨0, rfl, by omega, B1, B2, B3, xw_w5⟩
   case round =>
    obtain ⟨r7, hqr7⟩ : ∃ r, r = wr := ⟨_, rfl⟩
    subst hqr7
    clear B1 B2 B3
    obtain ⟨j, rfl, hj, B1, B2, B3, xw_r7⟩ := hrel
    have zr7 := xw_r7.size
    have lB1_r7 := B1.lt
    have lB2_r7 := B2.lt
    have lB3_r7 := B3.lt
    by_cases hj2 : j < 10
    ·skip
     have b2_r7 := B2.c2
     have b3_r7 := B3.c2
     go_wp2_with fail
     have hz := zs_cell B1 hj2
     refine regionT 30 (fun kk => match kk with | 0 => some (.tab) | 6 => some (.v (.bool true)) | 9 => some (.tab) | 16 => some (.v (.bool true)) | 20 => some (.tab) | 27 => some (.v (.bool true)) | _ => none) (by as_aux_lemma => kernel_rfl) (head_of (by as_aux_lemma => kernel_rfl)) ?_
     refine Walk.tell rfl rfl (fun w1 hI hL K hK => ?_) ?_
     ·go_simp
      exact (nsmall_t w1).mono (tell hK)
     rintro _ ⟨Z36f, Z36s, Z36p, Z36n, Z36c, rfl⟩
     simp only [Act.put, Qa, Qb, Qc]
     iterate 4
      refine Walk.one (x := ?_) rfl rfl (fun w1 hI hL K hK => ?_) ?_
      rotate_left
      ·obtain ⟨hc, hf⟩ := bcell hI
       go_simp
       repeat (first | (go_ints; try go_simp) | (simp only [↓IntWalk.iteOmega]; try go_simp))
       exact hK
      simp only [Act.put, Qa, Qb, Qc]
     refine Walk.one (x := ?_) rfl rfl (fun w1 hI hL K hK => ?_) ?_
     rotate_left
     ·have x0 := cell_ext hI hz
      go_simp
      repeat (first | (go_ints; try go_simp) | (simp only [↓IntWalk.iteOmega]; try go_simp))
      exact hK
     simp only [Act.put, Qa, Qb, Qc]
     refine Walk.tell rfl rfl (fun w1 hI hL K hK => ?_) ?_
     ·go_simp
      exact (nOne_v ((Tl.getTab (kn (i := 0) (v := .agg #[.int .i64 Z36f, .int .i64 Z36s, .slice Z36p Z36n Z36c]) rfl (by simp) (pred_of (by as_aux_lemma => kernel_rfl)) hL))) (59 + (a : Int)) ((b : Int) - 1) (zs j) (by omega) (zs_i64 j)).mono (tell hK)
     rintro _ rfl
     simp only [Act.put, Qa, Qb, Qc]
     iterate 2
      refine Walk.one (x := ?_) rfl rfl (fun w1 hI hL K hK => ?_) ?_
      rotate_left
      ·obtain ⟨hc, hf⟩ := bcell hI
       go_simp
       repeat (first | (go_ints; try go_simp) | (simp only [↓IntWalk.iteOmega]; try go_simp))
       exact hK
      simp only [Act.put, Qa, Qb, Qc]
     refine Walk.tellG rfl (by as_aux_lemma => kernel_rfl) (fun w1 hI hL K hK => ?_) ?_
     ·go_simp
      exact (nsmall_t w1).mono (tell hK)
     rintro _ ⟨Z45f, Z45s, Z45p, Z45n, Z45c, rfl⟩
     simp only [Act.put, Qa, Qb, Qc]
     refine Walk.oneG (x := ?_) rfl (by as_aux_lemma => kernel_rfl) (fun w1 hI hL K hK => ?_) ?_
     rotate_left
     ·obtain ⟨hc, hf⟩ := bcell hI
      go_simp
      repeat (first | (go_ints; try go_simp) | (simp only [↓IntWalk.iteOmega]; try go_simp))
      exact hK
     simp only [Act.put, Qa, Qb, Qc]
     refine Walk.oneG (x := ?_) rfl (by as_aux_lemma => kernel_rfl) (fun w1 hI hL K hK => ?_) ?_
     rotate_left
     ·obtain ⟨hc, hf⟩ := bcell hI
      go_simp
      repeat (first | (go_ints; try go_simp) | (simp only [↓IntWalk.iteOmega]; try go_simp))
      exact hK
     simp only [Act.put, Qa, Qb, Qc]
     refine Walk.oneG (x := ?_) rfl (by as_aux_lemma => kernel_rfl) (fun w1 hI hL K hK => ?_) ?_
     rotate_left
     ·obtain ⟨hc, hf⟩ := bcell hI
      go_simp
      repeat (first | (go_ints; try go_simp) | (simp only [↓IntWalk.iteOmega]; try go_simp))
      exact hK
     simp only [Act.put, Qa, Qb, Qc]
     refine Walk.oneG (x := ?_) rfl (by as_aux_lemma => kernel_rfl) (fun w1 hI hL K hK => ?_) ?_
     rotate_left
     ·obtain ⟨hc, hf⟩ := bcell hI
      go_simp
      repeat (first | (go_ints; try go_simp) | (simp only [↓IntWalk.iteOmega]; try go_simp))
      exact hK
     simp only [Act.put, Qa, Qb, Qc]
     refine Walk.oneG (x := ?_) rfl (by as_aux_lemma => kernel_rfl) (fun w1 hI hL K hK => ?_) ?_
     rotate_left
     ·obtain ⟨hc, hf⟩ := bcell hI
      go_simp
      repeat (first | (go_ints; try go_simp) | (simp only [↓IntWalk.iteOmega]; try go_simp))
      exact hK
     simp only [Act.put, Qa, Qb, Qc]
     refine Walk.oneG (x := ?_) rfl (by as_aux_lemma => kernel_rfl) (fun w1 hI hL K hK => ?_) ?_
     rotate_left
     ·obtain ⟨hc, hf⟩ := bcell hI
      have x0 := cell_ext hI hz
      go_simp
      repeat (first | (go_ints; try go_simp) | (simp only [↓IntWalk.iteOmega]; try go_simp))
      exact hK
     simp only [Act.put, Qa, Qb, Qc]
     refine Walk.tellG rfl (by as_aux_lemma => kernel_rfl) (fun w1 hI hL K hK => ?_) ?_
     ·go_simp
      exact (nTwo_v ((Tl.getTab (kn (i := 9) (v := .agg #[.int .i64 Z45f, .int .i64 Z45s, .slice Z45p Z45n Z45c]) rfl (by simp) (pred_of (by as_aux_lemma => kernel_rfl)) hL))) (59 + (a : Int)) ((b : Int) - 1) (60 + (c : Int)) ((d : Int)) (zs j) (by omega) (by omega) (zs_i64 j)).mono (tell hK)
     rintro _ rfl
     simp only [Act.put, Qa, Qb, Qc]
     refine Walk.oneG (x := ?_) rfl (by as_aux_lemma => kernel_rfl) (fun w1 hI hL K hK => ?_) ?_
     rotate_left
     ·obtain ⟨hc, hf⟩ := bcell hI
      go_simp
      repeat (first | (go_ints; try go_simp) | (simp only [↓IntWalk.iteOmega]; try go_simp))
      exact hK
     simp only [Act.put, Qa, Qb, Qc]
     iterate 2
      refine Walk.one (x := ?_) rfl rfl (fun w1 hI hL K hK => ?_) ?_
      rotate_left
      ·obtain ⟨hc, hf⟩ := bcell hI
       go_simp
       repeat (first | (go_ints; try go_simp) | (simp only [↓IntWalk.iteOmega]; try go_simp))
       exact hK
      simp only [Act.put, Qa, Qb, Qc]
     refine Walk.tellG rfl (by as_aux_lemma => kernel_rfl) (fun w1 hI hL K hK => ?_) ?_
     ·go_simp
      exact (nsmall_t w1).mono (tell hK)
     rintro _ ⟨Z56f, Z56s, Z56p, Z56n, Z56c, rfl⟩
     simp only [Act.put, Qa, Qb, Qc]
     refine Walk.oneG (x := ?_) rfl (by as_aux_lemma => kernel_rfl) (fun w1 hI hL K hK => ?_) ?_
     rotate_left
     ·obtain ⟨hc, hf⟩ := bcell hI
      go_simp
      repeat (first | (go_ints; try go_simp) | (simp only [↓IntWalk.iteOmega]; try go_simp))
      exact hK
     simp only [Act.put, Qa, Qb, Qc]
     refine Walk.oneG (x := ?_) rfl (by as_aux_lemma => kernel_rfl) (fun w1 hI hL K hK => ?_) ?_
     rotate_left
     ·obtain ⟨hc, hf⟩ := bcell hI
      go_simp
      repeat (first | (go_ints; try go_simp) | (simp only [↓IntWalk.iteOmega]; try go_simp))
      exact hK
     simp only [Act.put, Qa, Qb, Qc]
     refine Walk.oneG (x := ?_) rfl (by as_aux_lemma => kernel_rfl) (fun w1 hI hL K hK => ?_) ?_
     rotate_left
     ·obtain ⟨hc, hf⟩ := bcell hI
      go_simp
      repeat (first | (go_ints; try go_simp) | (simp only [↓IntWalk.iteOmega]; try go_simp))
      exact hK
     simp only [Act.put, Qa, Qb, Qc]
     refine Walk.oneG (x := ?_) rfl (by as_aux_lemma => kernel_rfl) (fun w1 hI hL K hK => ?_) ?_
     rotate_left
     ·obtain ⟨hc, hf⟩ := bcell hI
      go_simp
      repeat (first | (go_ints; try go_simp) | (simp only [↓IntWalk.iteOmega]; try go_simp))
      exact hK
     simp only [Act.put, Qa, Qb, Qc]
     refine Walk.oneG (x := ?_) rfl (by as_aux_lemma => kernel_rfl) (fun w1 hI hL K hK => ?_) ?_
     rotate_left
     ·obtain ⟨hc, hf⟩ := bcell hI
      go_simp
      repeat (first | (go_ints; try go_simp) | (simp only [↓IntWalk.iteOmega]; try go_simp))
      exact hK
     simp only [Act.put, Qa, Qb, Qc]
     refine Walk.oneG (x := ?_) rfl (by as_aux_lemma => kernel_rfl) (fun w1 hI hL K hK => ?_) ?_
     rotate_left
     ·obtain ⟨hc, hf⟩ := bcell hI
      have x0 := cell_ext hI hz
      go_simp
      repeat (first | (go_ints; try go_simp) | (simp only [↓IntWalk.iteOmega]; try go_simp))
      exact hK
     simp only [Act.put, Qa, Qb, Qc]
     refine Walk.tellG rfl (by as_aux_lemma => kernel_rfl) (fun w1 hI hL K hK => ?_) ?_
     ·go_simp
      exact (nTwo_v ((Tl.getTab (kn (i := 20) (v := .agg #[.int .i64 Z56f, .int .i64 Z56s, .slice Z56p Z56n Z56c]) rfl (by simp) (pred_of (by as_aux_lemma => kernel_rfl)) hL))) (60 + (c : Int)) ((d : Int)) (59 + (a : Int)) ((b : Int) - 1) (zs j) (by omega) (by omega) (zs_i64 j)).mono (tell hK)
     rintro _ rfl
     simp only [Act.put, Qa, Qb, Qc]
     refine Walk.oneG (x := ?_) rfl (by as_aux_lemma => kernel_rfl) (fun w1 hI hL K hK => ?_) ?_
     rotate_left
     ·obtain ⟨hc, hf⟩ := bcell hI
      go_simp
      repeat (first | (go_ints; try go_simp) | (simp only [↓IntWalk.iteOmega]; try go_simp))
      exact hK
     simp only [Act.put, Qa, Qb, Qc]
     refine Walk.one (x := ?_) rfl rfl (fun w1 hI hL K hK => ?_) ?_
     rotate_left
     ·obtain ⟨hc, hf⟩ := bcell hI
      go_simp
      repeat (first | (go_ints; try go_simp) | (simp only [↓IntWalk.iteOmega]; try go_simp))
      exact hK
     simp only [Act.put, Qa, Qb, Qc]
     refine Walk.nilF fun w6 ew6 kzL kzX => ?_
     have zw6 := ew6.size
     clear kzL kzX
     simp only [List.drop_succ_cons, List.drop_zero, List.drop_nil]
     replace B1 := B1.ext ew6
     replace B2 := B2.ext ew6
     replace B3 := B3.ext ew6
     have xw_w6 := eg xw_r7 ew6
     go_wp2_with fail
     clear b2_r7 b3_r7
     go_roundw
     case rel => exact ⟨j + 1, rfl, by omega, B1, B2, B3, xw_w6⟩
     case measure => simp [intOf] <;> omega
    ·skip
     go_wp2_with fail
     go_roundw
     case rel => exact ⟨i + 1, rfl, by omega, B1, xw_r7⟩
     case measure => simp [intOf] <;> omega
  ·skip
   go_wp2_with fail
   go_loopw [6] (fun v6 r12 => ∃ (I : Int), v6 = .int .i64 I ∧ 0 ≤ I ∧ I ≤ 16 ∧ Ext w r12) (fun v6 _ => (16 - intOf v6).toNat)
   case atStart => exact ⟨0, rfl, by decide, by decide, xw_r3⟩
   case round =>
    obtain ⟨r12, hqr12⟩ : ∃ r, r = wr := ⟨_, rfl⟩
    subst hqr12
    clear B1
    obtain ⟨I, rfl, hI0, hI1, xw_r12⟩ := hrel
    have zr12 := xw_r12.size
    by_cases hI2 : I < 16
    ·skip
     go_wp2_with fail
     refine (nsmall _).mono ?_
     intro ee w7 gg
     obtain ⟨T, R, rfl, hT, sm, ew7⟩ := gg
     have zw7 := ew7.size
     have xw_w7 := eg xw_r12 ew7
     have hN := sm.N
     have N1 : 3 ≤ T.N := by omega
     have N2 : T.N ≤ 3 := by omega
     have F0 := sm.first
     have F1 : 60 ≤ T.first := by omega
     have F2 : T.first ≤ 60 := by omega
     have S0 := sm.sel
     have S1 : 1 ≤ T.sel := by omega
     have S2 : T.sel ≤ 1 := by omega
     have rn2 : ∀ k, k < T.N → T.rn k = 2 := fun k hk => by have := hT.rn k hk; omega
     have r1 : T.rn 1 = 2 := rn2 1 (by omega)
     have r10 : 2 ≤ T.rn 1 := by omega
     have r11 : T.rn 1 ≤ 2 := by omega
     have r2 : T.rn 2 = 2 := rn2 2 (by omega)
     have r20 : 2 ≤ T.rn 2 := by omega
     have r21 : T.rn 2 ≤ 2 := by omega
     have r0 : T.rn 0 = 2 := rn2 0 (by omega)
     have r00 : 2 ≤ T.rn 0 := by omega
     have r01 : T.rn 0 ≤ 2 := by omega
     have Rn := Lib.hid rn2
     clear hN F0 S0 sm rn2 r0 r1 r2
     go_wp2_with fail
     refine (nCopied T _ hT.tw (by omega) (fun k hk => by have := Rn.out k hk; omega)).mono ?_
     intro ee w8 gg
     obtain ⟨pZ, cZ, vsZ, rfl, hlenZ, hCZ, hOZ, ew8⟩ := gg
     have zw8 := ew8.size
     obtain ⟨g, rb, rc, rfl, hNc, hQ0⟩ := OQ.of_copy hT hlenZ hCZ hOZ
     have hR := (hQ0.mono xw_w7.size).raw
     clear hQ0 hlenZ hCZ hOZ
     have l0 := hR.le (k := 0) (by omega)
     have l1 := hR.le (k := 1) (by omega)
     have l2 := hR.le (k := 2) (by omega)
     obtain ⟨w9, hww9, ew9, B4, zw9⟩ := alloc_at w8 (w8.heap.size) (by omega) #[.int .i64 T.first, .int .i64 T.sel, .slice (some ⟨g, 0, none⟩) T.N cZ] 24
     rcases cases16 hI0 hI2 with rfl | rfl | rfl | rfl | rfl | rfl | rfl | rfl | rfl | rfl | rfl | rfl | rfl | rfl | rfl | rfl
     ·skip
      skip
      obtain ⟨w10, hww10, ew10, B5, zw10⟩ := alloc_at w9 (w8.heap.size + 1) (by omega) #[.int .i64 (-1), .int .i64 0, .int .i64 150, .int .i64 151] 3
      have b5_w10 := B5.c4
      replace B4 := B4.ext ew10
      have b4_w10 := B4.c3
      have fb4_w10 := B4.f3
      have xw8_w10 := eg ew9 ew10
      replace hR := hR.ext xw8_w10
      have xw_w10 := eg (eg (eg xw_w7 ew8) ew9) ew10
      obtain ⟨w11, hww11⟩ : ∃ W, (w10).setCell ⟨w8.heap.size, 0, none⟩ (.int .i64 (-1)) = W := ⟨_, rfl⟩
      have kw11 : Keeps (fun x => x = w8.heap.size) w10 w11 := by rw [← hww11]; exact sets_keeps (w8.heap.size) [.int .i64 (-1)] w10 0
      have Nw11 : Cells w11 (w8.heap.size) 24 #[.int .i64 (-1), .int .i64 T.sel, .slice (some ⟨g, 0, none⟩) T.N cZ] := by rw [← hww11]; exact Cells.sets [.int .i64 (-1)] B4 0
      have zw11 : w11.heap.size = w10.heap.size := by rw [← hww11]; exact size_sets (w8.heap.size) [.int .i64 (-1)] w10 0
      have nuw11 : NoU #[.int .i64 T.first, .int .i64 T.sel, .slice (some ⟨g, 0, none⟩) T.N cZ] := by simp [NoU]
      replace hR := OR.kb hR B4 nuw11 kw11
      have xw_w11 := Ext.kb xw_w10 kw11 (by omega)
      replace B4 := Nw11
      clear Nw11 kw11
      have b4_w11 := B4.c3
      go_wp2_with fail
      clear hww9 hww10 hww11
      clear b5_w10 b4_w10 fb4_w10
      replace zw9 := le2 zw9
      replace zw10 := le2 zw10
      replace zw11 := le2 zw11
      obtain ⟨T2, hv2, hT2⟩ : ∃ T2 : Tb, T2.val = .agg #[.int .i64 (-1), .int .i64 T.sel, .slice (some ⟨g, 0, none⟩) T.N cZ] ∧ TW w11 T2 := let ⟨T2, a1, a2, _⟩ := OR.tw hR (c := cZ) (show T.N ≤ cZ from hNc) (show T.N ≤ _ by omega) (fun k hk => by have := Rn.out k hk; omega) (first :=  (-1)) (sel :=  T.sel) (by omega) (by omega); ⟨T2, a1, a2⟩
      have Hv2 := Lib.hid hv2
      clear hv2
      have hb2 : (okT T2 != okT T2) = false := by simp
      skip
      refine regionT 14 (fun kk => match kk with | 1 => some (.v (.bool (okT T2))) | 3 => some (.v (.agg #[.int .i64 (-1), .int .i64 T.sel, .slice (some ⟨g, 0, none⟩) T.N cZ])) | 4 => some (.v (.bool (okT T2))) | 11 => some (.v (.bool true)) | _ => none) (by as_aux_lemma => kernel_rfl) (head_of (by as_aux_lemma => kernel_rfl)) ?_
      refine Walk.one (x := ?_) rfl rfl (fun w1 hI hL K hK => ?_) ?_
      rotate_left
      ·obtain ⟨hc, hf⟩ := bcell hI
       go_simp
       repeat (first | (go_ints; try go_simp) | (simp only [↓IntWalk.iteOmega]; try go_simp))
       exact hK
      simp only [Act.put, Qa, Qb, Qc]
      refine Walk.tell rfl rfl (fun w1 hI hL K hK => ?_) ?_
      ·go_simp
       exact (lValid_v Hv2.out (hT2.ext hI)).mono (tell hK)
      rintro _ rfl
      simp only [Act.put, Qa, Qb, Qc]
      refine Walk.one (x := ?_) rfl rfl (fun w1 hI hL K hK => ?_) ?_
      rotate_left
      ·obtain ⟨hc, hf⟩ := bcell hI
       go_simp
       repeat (first | (go_ints; try go_simp) | (simp only [↓IntWalk.iteOmega]; try go_simp))
       exact hK
      simp only [Act.put, Qa, Qb, Qc]
      refine Walk.tell rfl rfl (fun w1 hI hL K hK => ?_) ?_
      ·go_simp
       exact (nplain_v w1 Hv2.out).mono (tell hK)
      rintro _ rfl
      simp only [Act.put, Qa, Qb, Qc]
      refine Walk.tell rfl rfl (fun w1 hI hL K hK => ?_) ?_
      ·go_simp
       exact (tValid_v Hv2.out (hT2.ext hI)).mono (tell hK)
      rintro _ rfl
      simp only [Act.put, Qa, Qb, Qc]
      iterate 2
       refine Walk.one (x := ?_) rfl rfl (fun w1 hI hL K hK => ?_) ?_
       rotate_left
       ·obtain ⟨hc, hf⟩ := bcell hI
        go_simp
        repeat (first | (go_ints; try go_simp) | (simp only [↓IntWalk.iteOmega]; try go_simp))
        exact hK
       simp only [Act.put, Qa, Qb, Qc]
      refine Walk.oneG (x := ?_) rfl (by as_aux_lemma => kernel_rfl) (fun w1 hI hL K hK => ?_) ?_
      rotate_left
      ·obtain ⟨hc, hf⟩ := bcell hI
       go_simp
       repeat (first | (go_ints; try go_simp) | (simp only [↓IntWalk.iteOmega]; try go_simp))
       exact hK
      simp only [Act.put, Qa, Qb, Qc]
      refine Walk.oneG (x := ?_) rfl (by as_aux_lemma => kernel_rfl) (fun w1 hI hL K hK => ?_) ?_
      rotate_left
      ·obtain ⟨hc, hf⟩ := bcell hI
       go_simp
       repeat (first | (go_ints; try go_simp) | (simp only [↓IntWalk.iteOmega]; try go_simp))
       exact hK
      simp only [Act.put, Qa, Qb, Qc]
      refine Walk.oneG (x := ?_) rfl (by as_aux_lemma => kernel_rfl) (fun w1 hI hL K hK => ?_) ?_
      rotate_left
      ·obtain ⟨hc, hf⟩ := bcell hI
       go_simp
       repeat (first | (go_ints; try go_simp) | (simp only [↓IntWalk.iteOmega]; try go_simp))
       exact hK
      simp only [Act.put, Qa, Qb, Qc]
      refine Walk.oneG (x := ?_) rfl (by as_aux_lemma => kernel_rfl) (fun w1 hI hL K hK => ?_) ?_
      rotate_left
      ·obtain ⟨hc, hf⟩ := bcell hI
       go_simp
       repeat (first | (go_ints; try go_simp) | (simp only [↓IntWalk.iteOmega]; try go_simp))
       exact hK
      simp only [Act.put, Qa, Qb, Qc]
      refine Walk.tellG rfl (by as_aux_lemma => kernel_rfl) (fun w1 hI hL K hK => ?_) ?_
      ·go_simp
       exact (nOne_w Hv2.out (hT2.ext hI) ( (-1)) 0 1 (by omega) (by omega)).mono (tell hK)
      rintro _ rfl
      simp only [Act.put, Qa, Qb, Qc]
      refine Walk.oneG (x := ?_) rfl (by as_aux_lemma => kernel_rfl) (fun w1 hI hL K hK => ?_) ?_
      rotate_left
      ·obtain ⟨hc, hf⟩ := bcell hI
       go_simp
       repeat (first | (go_ints; try go_simp) | (simp only [↓IntWalk.iteOmega]; try go_simp))
       exact hK
      simp only [Act.put, Qa, Qb, Qc]
      refine Walk.one (x := ?_) rfl rfl (fun w1 hI hL K hK => ?_) ?_
      rotate_left
      ·obtain ⟨hc, hf⟩ := bcell hI
       go_simp
       repeat (first | (go_ints; try go_simp) | (simp only [↓IntWalk.iteOmega]; try go_simp))
       exact hK
      simp only [Act.put, Qa, Qb, Qc]
      refine Walk.nilF fun w12 ew12 kzL kzX => ?_
      have zw12 := ew12.size
      clear kzL kzX
      simp only [List.drop_succ_cons, List.drop_zero, List.drop_nil]
      have xw_w12 := eg xw_w11 ew12
      go_wp2_with fail
      clear b4_w11
      go_roundw
      case rel => exact ⟨0 + 1, rfl, by decide, by decide, xw_w12⟩
      case measure => simp [intOf] <;> omega
     ·skip
      skip
      obtain ⟨w13, hww13, ew13, B6, zw13⟩ := alloc_at w9 (w8.heap.size + 1) (by omega) #[.int .i64 (-1), .int .i64 0, .int .i64 150, .int .i64 151] 3
      have b6_w13 := B6.c4
      replace B4 := B4.ext ew13
      have b4_w13 := B4.c3
      have fb4_w13 := B4.f3
      have xw8_w13 := eg ew9 ew13
      replace hR := hR.ext xw8_w13
      have xw_w13 := eg (eg (eg xw_w7 ew8) ew9) ew13
      obtain ⟨w14, hww14⟩ : ∃ W, (w13).setCell ⟨w8.heap.size, 0, none⟩ (.int .i64 0) = W := ⟨_, rfl⟩
      have kw14 : Keeps (fun x => x = w8.heap.size) w13 w14 := by rw [← hww14]; exact sets_keeps (w8.heap.size) [.int .i64 0] w13 0
      have Nw14 : Cells w14 (w8.heap.size) 24 #[.int .i64 0, .int .i64 T.sel, .slice (some ⟨g, 0, none⟩) T.N cZ] := by rw [← hww14]; exact Cells.sets [.int .i64 0] B4 0
      have zw14 : w14.heap.size = w13.heap.size := by rw [← hww14]; exact size_sets (w8.heap.size) [.int .i64 0] w13 0
      have nuw14 : NoU #[.int .i64 T.first, .int .i64 T.sel, .slice (some ⟨g, 0, none⟩) T.N cZ] := by simp [NoU]
      replace hR := OR.kb hR B4 nuw14 kw14
      have xw_w14 := Ext.kb xw_w13 kw14 (by omega)
      replace B4 := Nw14
      clear Nw14 kw14
      have b4_w14 := B4.c3
      go_wp2_with fail
      clear hww9 hww13 hww14
      clear b6_w13 b4_w13 fb4_w13
      replace zw9 := le2 zw9
      replace zw13 := le2 zw13
      replace zw14 := le2 zw14
      obtain ⟨T2, hv2, hT2⟩ : ∃ T2 : Tb, T2.val = .agg #[.int .i64 0, .int .i64 T.sel, .slice (some ⟨g, 0, none⟩) T.N cZ] ∧ TW w14 T2 := let ⟨T2, a1, a2, _⟩ := OR.tw hR (c := cZ) (show T.N ≤ cZ from hNc) (show T.N ≤ _ by omega) (fun k hk => by have := Rn.out k hk; omega) (first :=  0) (sel :=  T.sel) (by omega) (by omega); ⟨T2, a1, a2⟩
      have Hv2 := Lib.hid hv2
      clear hv2
      have hb2 : (okT T2 != okT T2) = false := by simp
      skip
      refine regionT 14 (fun kk => match kk with | 1 => some (.v (.bool (okT T2))) | 3 => some (.v (.agg #[.int .i64 0, .int .i64 T.sel, .slice (some ⟨g, 0, none⟩) T.N cZ])) | 4 => some (.v (.bool (okT T2))) | 11 => some (.v (.bool true)) | _ => none) (by as_aux_lemma => kernel_rfl) (head_of (by as_aux_lemma => kernel_rfl)) ?_
      refine Walk.one (x := ?_) rfl rfl (fun w1 hI hL K hK => ?_) ?_
      rotate_left
      ·obtain ⟨hc, hf⟩ := bcell hI
       go_simp
       repeat (first | (go_ints; try go_simp) | (simp only [↓IntWalk.iteOmega]; try go_simp))
       exact hK
      simp only [Act.put, Qa, Qb, Qc]
      refine Walk.tell rfl rfl (fun w1 hI hL K hK => ?_) ?_
      ·go_simp
       exact (lValid_v Hv2.out (hT2.ext hI)).mono (tell hK)
      rintro _ rfl
      simp only [Act.put, Qa, Qb, Qc]
      refine Walk.one (x := ?_) rfl rfl (fun w1 hI hL K hK => ?_) ?_
      rotate_left
      ·obtain ⟨hc, hf⟩ := bcell hI
       go_simp
       repeat (first | (go_ints; try go_simp) | (simp only [↓IntWalk.iteOmega]; try go_simp))
       exact hK
      simp only [Act.put, Qa, Qb, Qc]
      refine Walk.tell rfl rfl (fun w1 hI hL K hK => ?_) ?_
      ·go_simp
       exact (nplain_v w1 Hv2.out).mono (tell hK)
      rintro _ rfl
      simp only [Act.put, Qa, Qb, Qc]
      refine Walk.tell rfl rfl (fun w1 hI hL K hK => ?_) ?_
      ·go_simp
       exact (tValid_v Hv2.out (hT2.ext hI)).mono (tell hK)
      rintro _ rfl
      simp only [Act.put, Qa, Qb, Qc]
      iterate 2
       refine Walk.one (x := ?_) rfl rfl (fun w1 hI hL K hK => ?_) ?_
       rotate_left
       ·obtain ⟨hc, hf⟩ := bcell hI
        go_simp
        repeat (first | (go_ints; try go_simp) | (simp only [↓IntWalk.iteOmega]; try go_simp))
        exact hK
       simp only [Act.put, Qa, Qb, Qc]
      refine Walk.oneG (x := ?_) rfl (by as_aux_lemma => kernel_rfl) (fun w1 hI hL K hK => ?_) ?_
      rotate_left
      ·obtain ⟨hc, hf⟩ := bcell hI
       go_simp
       repeat (first | (go_ints; try go_simp) | (simp only [↓IntWalk.iteOmega]; try go_simp))
       exact hK
      simp only [Act.put, Qa, Qb, Qc]
      refine Walk.oneG (x := ?_) rfl (by as_aux_lemma => kernel_rfl) (fun w1 hI hL K hK => ?_) ?_
      rotate_left
      ·obtain ⟨hc, hf⟩ := bcell hI
       go_simp
       repeat (first | (go_ints; try go_simp) | (simp only [↓IntWalk.iteOmega]; try go_simp))
       exact hK
      simp only [Act.put, Qa, Qb, Qc]
      refine Walk.oneG (x := ?_) rfl (by as_aux_lemma => kernel_rfl) (fun w1 hI hL K hK => ?_) ?_
      rotate_left
      ·obtain ⟨hc, hf⟩ := bcell hI
       go_simp
       repeat (first | (go_ints; try go_simp) | (simp only [↓IntWalk.iteOmega]; try go_simp))
       exact hK
      simp only [Act.put, Qa, Qb, Qc]
      refine Walk.oneG (x := ?_) rfl (by as_aux_lemma => kernel_rfl) (fun w1 hI hL K hK => ?_) ?_
      rotate_left
      ·obtain ⟨hc, hf⟩ := bcell hI
       go_simp
       repeat (first | (go_ints; try go_simp) | (simp only [↓IntWalk.iteOmega]; try go_simp))
       exact hK
      simp only [Act.put, Qa, Qb, Qc]
      refine Walk.tellG rfl (by as_aux_lemma => kernel_rfl) (fun w1 hI hL K hK => ?_) ?_
      ·go_simp
       exact (nOne_w Hv2.out (hT2.ext hI) ( 0) 0 1 (by omega) (by omega)).mono (tell hK)
      rintro _ rfl
      simp only [Act.put, Qa, Qb, Qc]
      refine Walk.oneG (x := ?_) rfl (by as_aux_lemma => kernel_rfl) (fun w1 hI hL K hK => ?_) ?_
      rotate_left
      ·obtain ⟨hc, hf⟩ := bcell hI
       go_simp
       repeat (first | (go_ints; try go_simp) | (simp only [↓IntWalk.iteOmega]; try go_simp))
       exact hK
      simp only [Act.put, Qa, Qb, Qc]
      refine Walk.one (x := ?_) rfl rfl (fun w1 hI hL K hK => ?_) ?_
      rotate_left
      ·obtain ⟨hc, hf⟩ := bcell hI
       go_simp
       repeat (first | (go_ints; try go_simp) | (simp only [↓IntWalk.iteOmega]; try go_simp))
       exact hK
      simp only [Act.put, Qa, Qb, Qc]
      refine Walk.nilF fun w15 ew15 kzL kzX => ?_
      have zw15 := ew15.size
      clear kzL kzX
      simp only [List.drop_succ_cons, List.drop_zero, List.drop_nil]
      have xw_w15 := eg xw_w14 ew15
      go_wp2_with fail
      clear b4_w14
      go_roundw
      case rel => exact ⟨1 + 1, rfl, by decide, by decide, xw_w15⟩
      case measure => simp [intOf] <;> omega
     ·skip
      skip
      obtain ⟨w16, hww16, ew16, B7, zw16⟩ := alloc_at w9 (w8.heap.size + 1) (by omega) #[.int .i64 (-1), .int .i64 0, .int .i64 150, .int .i64 151] 3
      have b7_w16 := B7.c4
      replace B4 := B4.ext ew16
      have b4_w16 := B4.c3
      have fb4_w16 := B4.f3
      have xw8_w16 := eg ew9 ew16
      replace hR := hR.ext xw8_w16
      have xw_w16 := eg (eg (eg xw_w7 ew8) ew9) ew16
      obtain ⟨w17, hww17⟩ : ∃ W, (w16).setCell ⟨w8.heap.size, 0, none⟩ (.int .i64 150) = W := ⟨_, rfl⟩
      have kw17 : Keeps (fun x => x = w8.heap.size) w16 w17 := by rw [← hww17]; exact sets_keeps (w8.heap.size) [.int .i64 150] w16 0
      have Nw17 : Cells w17 (w8.heap.size) 24 #[.int .i64 150, .int .i64 T.sel, .slice (some ⟨g, 0, none⟩) T.N cZ] := by rw [← hww17]; exact Cells.sets [.int .i64 150] B4 0
      have zw17 : w17.heap.size = w16.heap.size := by rw [← hww17]; exact size_sets (w8.heap.size) [.int .i64 150] w16 0
      have nuw17 : NoU #[.int .i64 T.first, .int .i64 T.sel, .slice (some ⟨g, 0, none⟩) T.N cZ] := by simp [NoU]
      replace hR := OR.kb hR B4 nuw17 kw17
      have xw_w17 := Ext.kb xw_w16 kw17 (by omega)
      replace B4 := Nw17
      clear Nw17 kw17
      have b4_w17 := B4.c3
      go_wp2_with fail
      clear hww9 hww16 hww17
      clear b7_w16 b4_w16 fb4_w16
      replace zw9 := le2 zw9
      replace zw16 := le2 zw16
      replace zw17 := le2 zw17
      obtain ⟨T2, hv2, hT2⟩ : ∃ T2 : Tb, T2.val = .agg #[.int .i64 150, .int .i64 T.sel, .slice (some ⟨g, 0, none⟩) T.N cZ] ∧ TW w17 T2 := let ⟨T2, a1, a2, _⟩ := OR.tw hR (c := cZ) (show T.N ≤ cZ from hNc) (show T.N ≤ _ by omega) (fun k hk => by have := Rn.out k hk; omega) (first :=  150) (sel :=  T.sel) (by omega) (by omega); ⟨T2, a1, a2⟩
      have Hv2 := Lib.hid hv2
      clear hv2
      have hb2 : (okT T2 != okT T2) = false := by simp
      skip
      refine regionT 14 (fun kk => match kk with | 1 => some (.v (.bool (okT T2))) | 3 => some (.v (.agg #[.int .i64 150, .int .i64 T.sel, .slice (some ⟨g, 0, none⟩) T.N cZ])) | 4 => some (.v (.bool (okT T2))) | 11 => some (.v (.bool true)) | _ => none) (by as_aux_lemma => kernel_rfl) (head_of (by as_aux_lemma => kernel_rfl)) ?_
      refine Walk.one (x := ?_) rfl rfl (fun w1 hI hL K hK => ?_) ?_
      rotate_left
      ·obtain ⟨hc, hf⟩ := bcell hI
       go_simp
       repeat (first | (go_ints; try go_simp) | (simp only [↓IntWalk.iteOmega]; try go_simp))
       exact hK
      simp only [Act.put, Qa, Qb, Qc]
      refine Walk.tell rfl rfl (fun w1 hI hL K hK => ?_) ?_
      ·go_simp
       exact (lValid_v Hv2.out (hT2.ext hI)).mono (tell hK)
      rintro _ rfl
      simp only [Act.put, Qa, Qb, Qc]
      refine Walk.one (x := ?_) rfl rfl (fun w1 hI hL K hK => ?_) ?_
      rotate_left
      ·obtain ⟨hc, hf⟩ := bcell hI
       go_simp
       repeat (first | (go_ints; try go_simp) | (simp only [↓IntWalk.iteOmega]; try go_simp))
       exact hK
      simp only [Act.put, Qa, Qb, Qc]
      refine Walk.tell rfl rfl (fun w1 hI hL K hK => ?_) ?_
      ·go_simp
       exact (nplain_v w1 Hv2.out).mono (tell hK)
      rintro _ rfl
      simp only [Act.put, Qa, Qb, Qc]
      refine Walk.tell rfl rfl (fun w1 hI hL K hK => ?_) ?_
      ·go_simp
       exact (tValid_v Hv2.out (hT2.ext hI)).mono (tell hK)
      rintro _ rfl
      simp only [Act.put, Qa, Qb, Qc]
      iterate 2
       refine Walk.one (x := ?_) rfl rfl (fun w1 hI hL K hK => ?_) ?_
       rotate_left
       ·obtain ⟨hc, hf⟩ := bcell hI
        go_simp
        repeat (first | (go_ints; try go_simp) | (simp only [↓IntWalk.iteOmega]; try go_simp))
        exact hK
       simp only [Act.put, Qa, Qb, Qc]
      refine Walk.oneG (x := ?_) rfl (by as_aux_lemma => kernel_rfl) (fun w1 hI hL K hK => ?_) ?_
      rotate_left
      ·obtain ⟨hc, hf⟩ := bcell hI
       go_simp
       repeat (first | (go_ints; try go_simp) | (simp only [↓IntWalk.iteOmega]; try go_simp))
       exact hK
      simp only [Act.put, Qa, Qb, Qc]
      refine Walk.oneG (x := ?_) rfl (by as_aux_lemma => kernel_rfl) (fun w1 hI hL K hK => ?_) ?_
      rotate_left
      ·obtain ⟨hc, hf⟩ := bcell hI
       go_simp
       repeat (first | (go_ints; try go_simp) | (simp only [↓IntWalk.iteOmega]; try go_simp))
       exact hK
      simp only [Act.put, Qa, Qb, Qc]
      refine Walk.oneG (x := ?_) rfl (by as_aux_lemma => kernel_rfl) (fun w1 hI hL K hK => ?_) ?_
      rotate_left
      ·obtain ⟨hc, hf⟩ := bcell hI
       go_simp
       repeat (first | (go_ints; try go_simp) | (simp only [↓IntWalk.iteOmega]; try go_simp))
       exact hK
      simp only [Act.put, Qa, Qb, Qc]
      refine Walk.oneG (x := ?_) rfl (by as_aux_lemma => kernel_rfl) (fun w1 hI hL K hK => ?_) ?_
      rotate_left
      ·obtain ⟨hc, hf⟩ := bcell hI
       go_simp
       repeat (first | (go_ints; try go_simp) | (simp only [↓IntWalk.iteOmega]; try go_simp))
       exact hK
      simp only [Act.put, Qa, Qb, Qc]
      refine Walk.tellG rfl (by as_aux_lemma => kernel_rfl) (fun w1 hI hL K hK => ?_) ?_
      ·go_simp
       exact (nOne_w Hv2.out (hT2.ext hI) ( 150) 0 1 (by omega) (by omega)).mono (tell hK)
      rintro _ rfl
      simp only [Act.put, Qa, Qb, Qc]
      refine Walk.oneG (x := ?_) rfl (by as_aux_lemma => kernel_rfl) (fun w1 hI hL K hK => ?_) ?_
      rotate_left
      ·obtain ⟨hc, hf⟩ := bcell hI
       go_simp
       repeat (first | (go_ints; try go_simp) | (simp only [↓IntWalk.iteOmega]; try go_simp))
       exact hK
      simp only [Act.put, Qa, Qb, Qc]
      refine Walk.one (x := ?_) rfl rfl (fun w1 hI hL K hK => ?_) ?_
      rotate_left
      ·obtain ⟨hc, hf⟩ := bcell hI
       go_simp
       repeat (first | (go_ints; try go_simp) | (simp only [↓IntWalk.iteOmega]; try go_simp))
       exact hK
      simp only [Act.put, Qa, Qb, Qc]
      refine Walk.nilF fun w18 ew18 kzL kzX => ?_
      have zw18 := ew18.size
      clear kzL kzX
      simp only [List.drop_succ_cons, List.drop_zero, List.drop_nil]
      have xw_w18 := eg xw_w17 ew18
      go_wp2_with fail
      clear b4_w17
      go_roundw
      case rel => exact ⟨2 + 1, rfl, by decide, by decide, xw_w18⟩
      case measure => simp [intOf] <;> omega
     ·skip
      skip
      obtain ⟨w19, hww19, ew19, B8, zw19⟩ := alloc_at w9 (w8.heap.size + 1) (by omega) #[.int .i64 (-1), .int .i64 0, .int .i64 150, .int .i64 151] 3
      have b8_w19 := B8.c4
      replace B4 := B4.ext ew19
      have b4_w19 := B4.c3
      have fb4_w19 := B4.f3
      have xw8_w19 := eg ew9 ew19
      replace hR := hR.ext xw8_w19
      have xw_w19 := eg (eg (eg xw_w7 ew8) ew9) ew19
      obtain ⟨w20, hww20⟩ : ∃ W, (w19).setCell ⟨w8.heap.size, 0, none⟩ (.int .i64 151) = W := ⟨_, rfl⟩
      have kw20 : Keeps (fun x => x = w8.heap.size) w19 w20 := by rw [← hww20]; exact sets_keeps (w8.heap.size) [.int .i64 151] w19 0
      have Nw20 : Cells w20 (w8.heap.size) 24 #[.int .i64 151, .int .i64 T.sel, .slice (some ⟨g, 0, none⟩) T.N cZ] := by rw [← hww20]; exact Cells.sets [.int .i64 151] B4 0
      have zw20 : w20.heap.size = w19.heap.size := by rw [← hww20]; exact size_sets (w8.heap.size) [.int .i64 151] w19 0
      have nuw20 : NoU #[.int .i64 T.first, .int .i64 T.sel, .slice (some ⟨g, 0, none⟩) T.N cZ] := by simp [NoU]
      replace hR := OR.kb hR B4 nuw20 kw20
      have xw_w20 := Ext.kb xw_w19 kw20 (by omega)
      replace B4 := Nw20
      clear Nw20 kw20
      have b4_w20 := B4.c3
      go_wp2_with fail
      clear hww9 hww19 hww20
      clear b8_w19 b4_w19 fb4_w19
      replace zw9 := le2 zw9
      replace zw19 := le2 zw19
      replace zw20 := le2 zw20
      obtain ⟨T2, hv2, hT2⟩ : ∃ T2 : Tb, T2.val = .agg #[.int .i64 151, .int .i64 T.sel, .slice (some ⟨g, 0, none⟩) T.N cZ] ∧ TW w20 T2 := let ⟨T2, a1, a2, _⟩ := OR.tw hR (c := cZ) (show T.N ≤ cZ from hNc) (show T.N ≤ _ by omega) (fun k hk => by have := Rn.out k hk; omega) (first :=  151) (sel :=  T.sel) (by omega) (by omega); ⟨T2, a1, a2⟩
      have Hv2 := Lib.hid hv2
      clear hv2
      have hb2 : (okT T2 != okT T2) = false := by simp
      skip
      refine regionT 14 (fun kk => match kk with | 1 => some (.v (.bool (okT T2))) | 3 => some (.v (.agg #[.int .i64 151, .int .i64 T.sel, .slice (some ⟨g, 0, none⟩) T.N cZ])) | 4 => some (.v (.bool (okT T2))) | 11 => some (.v (.bool true)) | _ => none) (by as_aux_lemma => kernel_rfl) (head_of (by as_aux_lemma => kernel_rfl)) ?_
      refine Walk.one (x := ?_) rfl rfl (fun w1 hI hL K hK => ?_) ?_
      rotate_left
      ·obtain ⟨hc, hf⟩ := bcell hI
       go_simp
       repeat (first | (go_ints; try go_simp) | (simp only [↓IntWalk.iteOmega]; try go_simp))
       exact hK
      simp only [Act.put, Qa, Qb, Qc]
      refine Walk.tell rfl rfl (fun w1 hI hL K hK => ?_) ?_
      ·go_simp
       exact (lValid_v Hv2.out (hT2.ext hI)).mono (tell hK)
      rintro _ rfl
      simp only [Act.put, Qa, Qb, Qc]
      refine Walk.one (x := ?_) rfl rfl (fun w1 hI hL K hK => ?_) ?_
      rotate_left
      ·obtain ⟨hc, hf⟩ := bcell hI
       go_simp
       repeat (first | (go_ints; try go_simp) | (simp only [↓IntWalk.iteOmega]; try go_simp))
       exact hK
      simp only [Act.put, Qa, Qb, Qc]
      refine Walk.tell rfl rfl (fun w1 hI hL K hK => ?_) ?_
      ·go_simp
       exact (nplain_v w1 Hv2.out).mono (tell hK)
      rintro _ rfl
      simp only [Act.put, Qa, Qb, Qc]
      refine Walk.tell rfl rfl (fun w1 hI hL K hK => ?_) ?_
      ·go_simp
       exact (tValid_v Hv2.out (hT2.ext hI)).mono (tell hK)
      rintro _ rfl
      simp only [Act.put, Qa, Qb, Qc]
      iterate 2
       refine Walk.one (x := ?_) rfl rfl (fun w1 hI hL K hK => ?_) ?_
       rotate_left
       ·obtain ⟨hc, hf⟩ := bcell hI
        go_simp
        repeat (first | (go_ints; try go_simp) | (simp only [↓IntWalk.iteOmega]; try go_simp))
        exact hK
       simp only [Act.put, Qa, Qb, Qc]
      refine Walk.oneG (x := ?_) rfl (by as_aux_lemma => kernel_rfl) (fun w1 hI hL K hK => ?_) ?_
      rotate_left
      ·obtain ⟨hc, hf⟩ := bcell hI
       go_simp
       repeat (first | (go_ints; try go_simp) | (simp only [↓IntWalk.iteOmega]; try go_simp))
       exact hK
      simp only [Act.put, Qa, Qb, Qc]
      refine Walk.oneG (x := ?_) rfl (by as_aux_lemma => kernel_rfl) (fun w1 hI hL K hK => ?_) ?_
      rotate_left
      ·obtain ⟨hc, hf⟩ := bcell hI
       go_simp
       repeat (first | (go_ints; try go_simp) | (simp only [↓IntWalk.iteOmega]; try go_simp))
       exact hK
      simp only [Act.put, Qa, Qb, Qc]
      refine Walk.oneG (x := ?_) rfl (by as_aux_lemma => kernel_rfl) (fun w1 hI hL K hK => ?_) ?_
      rotate_left
      ·obtain ⟨hc, hf⟩ := bcell hI
       go_simp
       repeat (first | (go_ints; try go_simp) | (simp only [↓IntWalk.iteOmega]; try go_simp))
       exact hK
      simp only [Act.put, Qa, Qb, Qc]
      refine Walk.oneG (x := ?_) rfl (by as_aux_lemma => kernel_rfl) (fun w1 hI hL K hK => ?_) ?_
      rotate_left
      ·obtain ⟨hc, hf⟩ := bcell hI
       go_simp
       repeat (first | (go_ints; try go_simp) | (simp only [↓IntWalk.iteOmega]; try go_simp))
       exact hK
      simp only [Act.put, Qa, Qb, Qc]
      refine Walk.tellG rfl (by as_aux_lemma => kernel_rfl) (fun w1 hI hL K hK => ?_) ?_
      ·go_simp
       exact (nOne_w Hv2.out (hT2.ext hI) ( 151) 0 1 (by omega) (by omega)).mono (tell hK)
      rintro _ rfl
      simp only [Act.put, Qa, Qb, Qc]
      refine Walk.oneG (x := ?_) rfl (by as_aux_lemma => kernel_rfl) (fun w1 hI hL K hK => ?_) ?_
      rotate_left
      ·obtain ⟨hc, hf⟩ := bcell hI
       go_simp
       repeat (first | (go_ints; try go_simp) | (simp only [↓IntWalk.iteOmega]; try go_simp))
       exact hK
      simp only [Act.put, Qa, Qb, Qc]
      refine Walk.one (x := ?_) rfl rfl (fun w1 hI hL K hK => ?_) ?_
      rotate_left
      ·obtain ⟨hc, hf⟩ := bcell hI
       go_simp
       repeat (first | (go_ints; try go_simp) | (simp only [↓IntWalk.iteOmega]; try go_simp))
       exact hK
      simp only [Act.put, Qa, Qb, Qc]
      refine Walk.nilF fun w21 ew21 kzL kzX => ?_
      have zw21 := ew21.size
      clear kzL kzX
      simp only [List.drop_succ_cons, List.drop_zero, List.drop_nil]
      have xw_w21 := eg xw_w20 ew21
      go_wp2_with fail
      clear b4_w20
      go_roundw
      case rel => exact ⟨3 + 1, rfl, by decide, by decide, xw_w21⟩
      case measure => simp [intOf] <;> omega
     ·skip
      skip
      obtain ⟨w22, hww22, ew22, B9, zw22⟩ := alloc_at w9 (w8.heap.size + 1) (by omega) #[.int .i64 0, .int .i64 2, .int .i64 (-1)] 3
      have b9_w22 := B9.c3
      replace B4 := B4.ext ew22
      have b4_w22 := B4.c3
      have fb4_w22 := B4.f3
      have xw8_w22 := eg ew9 ew22
      replace hR := hR.ext xw8_w22
      have xw_w22 := eg (eg (eg xw_w7 ew8) ew9) ew22
      obtain ⟨w23, hww23⟩ : ∃ W, (w22).setCell ⟨w8.heap.size, 1, none⟩ (.int .i64 0) = W := ⟨_, rfl⟩
      have kw23 : Keeps (fun x => x = w8.heap.size) w22 w23 := by rw [← hww23]; exact sets_keeps (w8.heap.size) [.int .i64 0] w22 1
      have Nw23 : Cells w23 (w8.heap.size) 24 #[.int .i64 T.first, .int .i64 0, .slice (some ⟨g, 0, none⟩) T.N cZ] := by rw [← hww23]; exact Cells.sets [.int .i64 0] B4 1
      have zw23 : w23.heap.size = w22.heap.size := by rw [← hww23]; exact size_sets (w8.heap.size) [.int .i64 0] w22 1
      have nuw23 : NoU #[.int .i64 T.first, .int .i64 T.sel, .slice (some ⟨g, 0, none⟩) T.N cZ] := by simp [NoU]
      replace hR := OR.kb hR B4 nuw23 kw23
      have xw_w23 := Ext.kb xw_w22 kw23 (by omega)
      replace B4 := Nw23
      clear Nw23 kw23
      have b4_w23 := B4.c3
      go_wp2_with fail
      clear hww9 hww22 hww23
      clear b9_w22 b4_w22 fb4_w22
      replace zw9 := le2 zw9
      replace zw22 := le2 zw22
      replace zw23 := le2 zw23
      obtain ⟨T2, hv2, hT2⟩ : ∃ T2 : Tb, T2.val = .agg #[.int .i64 T.first, .int .i64 0, .slice (some ⟨g, 0, none⟩) T.N cZ] ∧ TW w23 T2 := let ⟨T2, a1, a2, _⟩ := OR.tw hR (c := cZ) (show T.N ≤ cZ from hNc) (show T.N ≤ _ by omega) (fun k hk => by have := Rn.out k hk; omega) (first :=  T.first) (sel :=  0) (by omega) (by omega); ⟨T2, a1, a2⟩
      have Hv2 := Lib.hid hv2
      clear hv2
      have hb2 : (okT T2 != okT T2) = false := by simp
      skip
      refine regionT 14 (fun kk => match kk with | 1 => some (.v (.bool (okT T2))) | 3 => some (.v (.agg #[.int .i64 T.first, .int .i64 0, .slice (some ⟨g, 0, none⟩) T.N cZ])) | 4 => some (.v (.bool (okT T2))) | 11 => some (.v (.bool true)) | _ => none) (by as_aux_lemma => kernel_rfl) (head_of (by as_aux_lemma => kernel_rfl)) ?_
      refine Walk.one (x := ?_) rfl rfl (fun w1 hI hL K hK => ?_) ?_
      rotate_left
      ·obtain ⟨hc, hf⟩ := bcell hI
       go_simp
       repeat (first | (go_ints; try go_simp) | (simp only [↓IntWalk.iteOmega]; try go_simp))
       exact hK
      simp only [Act.put, Qa, Qb, Qc]
      refine Walk.tell rfl rfl (fun w1 hI hL K hK => ?_) ?_
      ·go_simp
       exact (lValid_v Hv2.out (hT2.ext hI)).mono (tell hK)
      rintro _ rfl
      simp only [Act.put, Qa, Qb, Qc]
      refine Walk.one (x := ?_) rfl rfl (fun w1 hI hL K hK => ?_) ?_
      rotate_left
      ·obtain ⟨hc, hf⟩ := bcell hI
       go_simp
       repeat (first | (go_ints; try go_simp) | (simp only [↓IntWalk.iteOmega]; try go_simp))
       exact hK
      simp only [Act.put, Qa, Qb, Qc]
      refine Walk.tell rfl rfl (fun w1 hI hL K hK => ?_) ?_
      ·go_simp
       exact (nplain_v w1 Hv2.out).mono (tell hK)
      rintro _ rfl
      simp only [Act.put, Qa, Qb, Qc]
      refine Walk.tell rfl rfl (fun w1 hI hL K hK => ?_) ?_
      ·go_simp
       exact (tValid_v Hv2.out (hT2.ext hI)).mono (tell hK)
      rintro _ rfl
      simp only [Act.put, Qa, Qb, Qc]
      iterate 2
       refine Walk.one (x := ?_) rfl rfl (fun w1 hI hL K hK => ?_) ?_
       rotate_left
       ·obtain ⟨hc, hf⟩ := bcell hI
        go_simp
        repeat (first | (go_ints; try go_simp) | (simp only [↓IntWalk.iteOmega]; try go_simp))
        exact hK
       simp only [Act.put, Qa, Qb, Qc]
      refine Walk.oneG (x := ?_) rfl (by as_aux_lemma => kernel_rfl) (fun w1 hI hL K hK => ?_) ?_
      rotate_left
      ·obtain ⟨hc, hf⟩ := bcell hI
       go_simp
       repeat (first | (go_ints; try go_simp) | (simp only [↓IntWalk.iteOmega]; try go_simp))
       exact hK
      simp only [Act.put, Qa, Qb, Qc]
      refine Walk.oneG (x := ?_) rfl (by as_aux_lemma => kernel_rfl) (fun w1 hI hL K hK => ?_) ?_
      rotate_left
      ·obtain ⟨hc, hf⟩ := bcell hI
       go_simp
       repeat (first | (go_ints; try go_simp) | (simp only [↓IntWalk.iteOmega]; try go_simp))
       exact hK
      simp only [Act.put, Qa, Qb, Qc]
      refine Walk.oneG (x := ?_) rfl (by as_aux_lemma => kernel_rfl) (fun w1 hI hL K hK => ?_) ?_
      rotate_left
      ·obtain ⟨hc, hf⟩ := bcell hI
       go_simp
       repeat (first | (go_ints; try go_simp) | (simp only [↓IntWalk.iteOmega]; try go_simp))
       exact hK
      simp only [Act.put, Qa, Qb, Qc]
      refine Walk.oneG (x := ?_) rfl (by as_aux_lemma => kernel_rfl) (fun w1 hI hL K hK => ?_) ?_
      rotate_left
      ·obtain ⟨hc, hf⟩ := bcell hI
       go_simp
       repeat (first | (go_ints; try go_simp) | (simp only [↓IntWalk.iteOmega]; try go_simp))
       exact hK
      simp only [Act.put, Qa, Qb, Qc]
      refine Walk.tellG rfl (by as_aux_lemma => kernel_rfl) (fun w1 hI hL K hK => ?_) ?_
      ·go_simp
       exact (nOne_w Hv2.out (hT2.ext hI) ( T.first) 0 1 (by omega) (by omega)).mono (tell hK)
      rintro _ rfl
      simp only [Act.put, Qa, Qb, Qc]
      refine Walk.oneG (x := ?_) rfl (by as_aux_lemma => kernel_rfl) (fun w1 hI hL K hK => ?_) ?_
      rotate_left
      ·obtain ⟨hc, hf⟩ := bcell hI
       go_simp
       repeat (first | (go_ints; try go_simp) | (simp only [↓IntWalk.iteOmega]; try go_simp))
       exact hK
      simp only [Act.put, Qa, Qb, Qc]
      refine Walk.one (x := ?_) rfl rfl (fun w1 hI hL K hK => ?_) ?_
      rotate_left
      ·obtain ⟨hc, hf⟩ := bcell hI
       go_simp
       repeat (first | (go_ints; try go_simp) | (simp only [↓IntWalk.iteOmega]; try go_simp))
       exact hK
      simp only [Act.put, Qa, Qb, Qc]
      refine Walk.nilF fun w24 ew24 kzL kzX => ?_
      have zw24 := ew24.size
      clear kzL kzX
      simp only [List.drop_succ_cons, List.drop_zero, List.drop_nil]
      have xw_w24 := eg xw_w23 ew24
      go_wp2_with fail
      clear b4_w23
      go_roundw
      case rel => exact ⟨4 + 1, rfl, by decide, by decide, xw_w24⟩
      case measure => simp [intOf] <;> omega
     ·skip
      skip
      obtain ⟨w25, hww25, ew25, B10, zw25⟩ := alloc_at w9 (w8.heap.size + 1) (by omega) #[.int .i64 0, .int .i64 2, .int .i64 (-1)] 3
      have b10_w25 := B10.c3
      replace B4 := B4.ext ew25
      have b4_w25 := B4.c3
      have fb4_w25 := B4.f3
      have xw8_w25 := eg ew9 ew25
      replace hR := hR.ext xw8_w25
      have xw_w25 := eg (eg (eg xw_w7 ew8) ew9) ew25
      obtain ⟨w26, hww26⟩ : ∃ W, (w25).setCell ⟨w8.heap.size, 1, none⟩ (.int .i64 2) = W := ⟨_, rfl⟩
      have kw26 : Keeps (fun x => x = w8.heap.size) w25 w26 := by rw [← hww26]; exact sets_keeps (w8.heap.size) [.int .i64 2] w25 1
      have Nw26 : Cells w26 (w8.heap.size) 24 #[.int .i64 T.first, .int .i64 2, .slice (some ⟨g, 0, none⟩) T.N cZ] := by rw [← hww26]; exact Cells.sets [.int .i64 2] B4 1
      have zw26 : w26.heap.size = w25.heap.size := by rw [← hww26]; exact size_sets (w8.heap.size) [.int .i64 2] w25 1
      have nuw26 : NoU #[.int .i64 T.first, .int .i64 T.sel, .slice (some ⟨g, 0, none⟩) T.N cZ] := by simp [NoU]
      replace hR := OR.kb hR B4 nuw26 kw26
      have xw_w26 := Ext.kb xw_w25 kw26 (by omega)
      replace B4 := Nw26
      clear Nw26 kw26
      have b4_w26 := B4.c3
      go_wp2_with fail
      clear hww9 hww25 hww26
      clear b10_w25 b4_w25 fb4_w25
      replace zw9 := le2 zw9
      replace zw25 := le2 zw25
      replace zw26 := le2 zw26
      obtain ⟨T2, hv2, hT2⟩ : ∃ T2 : Tb, T2.val = .agg #[.int .i64 T.first, .int .i64 2, .slice (some ⟨g, 0, none⟩) T.N cZ] ∧ TW w26 T2 := let ⟨T2, a1, a2, _⟩ := OR.tw hR (c := cZ) (show T.N ≤ cZ from hNc) (show T.N ≤ _ by omega) (fun k hk => by have := Rn.out k hk; omega) (first :=  T.first) (sel :=  2) (by omega) (by omega); ⟨T2, a1, a2⟩
      have Hv2 := Lib.hid hv2
      clear hv2
      have hb2 : (okT T2 != okT T2) = false := by simp
      skip
      refine regionT 14 (fun kk => match kk with | 1 => some (.v (.bool (okT T2))) | 3 => some (.v (.agg #[.int .i64 T.first, .int .i64 2, .slice (some ⟨g, 0, none⟩) T.N cZ])) | 4 => some (.v (.bool (okT T2))) | 11 => some (.v (.bool true)) | _ => none) (by as_aux_lemma => kernel_rfl) (head_of (by as_aux_lemma => kernel_rfl)) ?_
      refine Walk.one (x := ?_) rfl rfl (fun w1 hI hL K hK => ?_) ?_
      rotate_left
      ·obtain ⟨hc, hf⟩ := bcell hI
       go_simp
       repeat (first | (go_ints; try go_simp) | (simp only [↓IntWalk.iteOmega]; try go_simp))
       exact hK
      simp only [Act.put, Qa, Qb, Qc]
      refine Walk.tell rfl rfl (fun w1 hI hL K hK => ?_) ?_
      ·go_simp
       exact (lValid_v Hv2.out (hT2.ext hI)).mono (tell hK)
      rintro _ rfl
      simp only [Act.put, Qa, Qb, Qc]
      refine Walk.one (x := ?_) rfl rfl (fun w1 hI hL K hK => ?_) ?_
      rotate_left
      ·obtain ⟨hc, hf⟩ := bcell hI
       go_simp
       repeat (first | (go_ints; try go_simp) | (simp only [↓IntWalk.iteOmega]; try go_simp))
       exact hK
      simp only [Act.put, Qa, Qb, Qc]
      refine Walk.tell rfl rfl (fun w1 hI hL K hK => ?_) ?_
      ·go_simp
       exact (nplain_v w1 Hv2.out).mono (tell hK)
      rintro _ rfl
      simp only [Act.put, Qa, Qb, Qc]
      refine Walk.tell rfl rfl (fun w1 hI hL K hK => ?_) ?_
      ·go_simp
       exact (tValid_v Hv2.out (hT2.ext hI)).mono (tell hK)
      rintro _ rfl
      simp only [Act.put, Qa, Qb, Qc]
      iterate 2
       refine Walk.one (x := ?_) rfl rfl (fun w1 hI hL K hK => ?_) ?_
       rotate_left
       ·obtain ⟨hc, hf⟩ := bcell hI
        go_simp
        repeat (first | (go_ints; try go_simp) | (simp only [↓IntWalk.iteOmega]; try go_simp))
        exact hK
       simp only [Act.put, Qa, Qb, Qc]
      refine Walk.oneG (x := ?_) rfl (by as_aux_lemma => kernel_rfl) (fun w1 hI hL K hK => ?_) ?_
      rotate_left
      ·obtain ⟨hc, hf⟩ := bcell hI
       go_simp
       repeat (first | (go_ints; try go_simp) | (simp only [↓IntWalk.iteOmega]; try go_simp))
       exact hK
      simp only [Act.put, Qa, Qb, Qc]
      refine Walk.oneG (x := ?_) rfl (by as_aux_lemma => kernel_rfl) (fun w1 hI hL K hK => ?_) ?_
      rotate_left
      ·obtain ⟨hc, hf⟩ := bcell hI
       go_simp
       repeat (first | (go_ints; try go_simp) | (simp only [↓IntWalk.iteOmega]; try go_simp))
       exact hK
      simp only [Act.put, Qa, Qb, Qc]
      refine Walk.oneG (x := ?_) rfl (by as_aux_lemma => kernel_rfl) (fun w1 hI hL K hK => ?_) ?_
      rotate_left
      ·obtain ⟨hc, hf⟩ := bcell hI
       go_simp
       repeat (first | (go_ints; try go_simp) | (simp only [↓IntWalk.iteOmega]; try go_simp))
       exact hK
      simp only [Act.put, Qa, Qb, Qc]
      refine Walk.oneG (x := ?_) rfl (by as_aux_lemma => kernel_rfl) (fun w1 hI hL K hK => ?_) ?_
      rotate_left
      ·obtain ⟨hc, hf⟩ := bcell hI
       go_simp
       repeat (first | (go_ints; try go_simp) | (simp only [↓IntWalk.iteOmega]; try go_simp))
       exact hK
      simp only [Act.put, Qa, Qb, Qc]
      refine Walk.tellG rfl (by as_aux_lemma => kernel_rfl) (fun w1 hI hL K hK => ?_) ?_
      ·go_simp
       exact (nOne_w Hv2.out (hT2.ext hI) ( T.first) 0 1 (by omega) (by omega)).mono (tell hK)
      rintro _ rfl
      simp only [Act.put, Qa, Qb, Qc]
      refine Walk.oneG (x := ?_) rfl (by as_aux_lemma => kernel_rfl) (fun w1 hI hL K hK => ?_) ?_
      rotate_left
      ·obtain ⟨hc, hf⟩ := bcell hI
       go_simp
       repeat (first | (go_ints; try go_simp) | (simp only [↓IntWalk.iteOmega]; try go_simp))
       exact hK
      simp only [Act.put, Qa, Qb, Qc]
      refine Walk.one (x := ?_) rfl rfl (fun w1 hI hL K hK => ?_) ?_
      rotate_left
      ·obtain ⟨hc, hf⟩ := bcell hI
       go_simp
       repeat (first | (go_ints; try go_simp) | (simp only [↓IntWalk.iteOmega]; try go_simp))
       exact hK
      simp only [Act.put, Qa, Qb, Qc]
      refine Walk.nilF fun w27 ew27 kzL kzX => ?_
      have zw27 := ew27.size
      clear kzL kzX
      simp only [List.drop_succ_cons, List.drop_zero, List.drop_nil]
      have xw_w27 := eg xw_w26 ew27
      go_wp2_with fail
      clear b4_w26
      go_roundw
      case rel => exact ⟨5 + 1, rfl, by decide, by decide, xw_w27⟩
      case measure => simp [intOf] <;> omega
     ·skip
      skip
      obtain ⟨w28, hww28, ew28, B11, zw28⟩ := alloc_at w9 (w8.heap.size + 1) (by omega) #[.int .i64 0, .int .i64 2, .int .i64 (-1)] 3
      have b11_w28 := B11.c3
      replace B4 := B4.ext ew28
      have b4_w28 := B4.c3
      have fb4_w28 := B4.f3
      have xw8_w28 := eg ew9 ew28
      replace hR := hR.ext xw8_w28
      have xw_w28 := eg (eg (eg xw_w7 ew8) ew9) ew28
      obtain ⟨w29, hww29⟩ : ∃ W, (w28).setCell ⟨w8.heap.size, 1, none⟩ (.int .i64 (-1)) = W := ⟨_, rfl⟩
      have kw29 : Keeps (fun x => x = w8.heap.size) w28 w29 := by rw [← hww29]; exact sets_keeps (w8.heap.size) [.int .i64 (-1)] w28 1
      have Nw29 : Cells w29 (w8.heap.size) 24 #[.int .i64 T.first, .int .i64 (-1), .slice (some ⟨g, 0, none⟩) T.N cZ] := by rw [← hww29]; exact Cells.sets [.int .i64 (-1)] B4 1
      have zw29 : w29.heap.size = w28.heap.size := by rw [← hww29]; exact size_sets (w8.heap.size) [.int .i64 (-1)] w28 1
      have nuw29 : NoU #[.int .i64 T.first, .int .i64 T.sel, .slice (some ⟨g, 0, none⟩) T.N cZ] := by simp [NoU]
      replace hR := OR.kb hR B4 nuw29 kw29
      have xw_w29 := Ext.kb xw_w28 kw29 (by omega)
      replace B4 := Nw29
      clear Nw29 kw29
      have b4_w29 := B4.c3
      go_wp2_with fail
      clear hww9 hww28 hww29
      clear b11_w28 b4_w28 fb4_w28
      replace zw9 := le2 zw9
      replace zw28 := le2 zw28
      replace zw29 := le2 zw29
      obtain ⟨T2, hv2, hT2⟩ : ∃ T2 : Tb, T2.val = .agg #[.int .i64 T.first, .int .i64 (-1), .slice (some ⟨g, 0, none⟩) T.N cZ] ∧ TW w29 T2 := let ⟨T2, a1, a2, _⟩ := OR.tw hR (c := cZ) (show T.N ≤ cZ from hNc) (show T.N ≤ _ by omega) (fun k hk => by have := Rn.out k hk; omega) (first :=  T.first) (sel :=  (-1)) (by omega) (by omega); ⟨T2, a1, a2⟩
      have Hv2 := Lib.hid hv2
      clear hv2
      have hb2 : (okT T2 != okT T2) = false := by simp
      skip
      refine regionT 14 (fun kk => match kk with | 1 => some (.v (.bool (okT T2))) | 3 => some (.v (.agg #[.int .i64 T.first, .int .i64 (-1), .slice (some ⟨g, 0, none⟩) T.N cZ])) | 4 => some (.v (.bool (okT T2))) | 11 => some (.v (.bool true)) | _ => none) (by as_aux_lemma => kernel_rfl) (head_of (by as_aux_lemma => kernel_rfl)) ?_
      refine Walk.one (x := ?_) rfl rfl (fun w1 hI hL K hK => ?_) ?_
      rotate_left
      ·obtain ⟨hc, hf⟩ := bcell hI
       go_simp
       repeat (first | (go_ints; try go_simp) | (simp only [↓IntWalk.iteOmega]; try go_simp))
       exact hK
      simp only [Act.put, Qa, Qb, Qc]
      refine Walk.tell rfl rfl (fun w1 hI hL K hK => ?_) ?_
      ·go_simp
       exact (lValid_v Hv2.out (hT2.ext hI)).mono (tell hK)
      rintro _ rfl
      simp only [Act.put, Qa, Qb, Qc]
      refine Walk.one (x := ?_) rfl rfl (fun w1 hI hL K hK => ?_) ?_
      rotate_left
      ·obtain ⟨hc, hf⟩ := bcell hI
       go_simp
       repeat (first | (go_ints; try go_simp) | (simp only [↓IntWalk.iteOmega]; try go_simp))
       exact hK
      simp only [Act.put, Qa, Qb, Qc]
      refine Walk.tell rfl rfl (fun w1 hI hL K hK => ?_) ?_
      ·go_simp
       exact (nplain_v w1 Hv2.out).mono (tell hK)
      rintro _ rfl
      simp only [Act.put, Qa, Qb, Qc]
      refine Walk.tell rfl rfl (fun w1 hI hL K hK => ?_) ?_
      ·go_simp
       exact (tValid_v Hv2.out (hT2.ext hI)).mono (tell hK)
      rintro _ rfl
      simp only [Act.put, Qa, Qb, Qc]
      iterate 2
       refine Walk.one (x := ?_) rfl rfl (fun w1 hI hL K hK => ?_) ?_
       rotate_left
       ·obtain ⟨hc, hf⟩ := bcell hI
        go_simp
        repeat (first | (go_ints; try go_simp) | (simp only [↓IntWalk.iteOmega]; try go_simp))
        exact hK
       simp only [Act.put, Qa, Qb, Qc]
      refine Walk.oneG (x := ?_) rfl (by as_aux_lemma => kernel_rfl) (fun w1 hI hL K hK => ?_) ?_
      rotate_left
      ·obtain ⟨hc, hf⟩ := bcell hI
       go_simp
       repeat (first | (go_ints; try go_simp) | (simp only [↓IntWalk.iteOmega]; try go_simp))
       exact hK
      simp only [Act.put, Qa, Qb, Qc]
      refine Walk.oneG (x := ?_) rfl (by as_aux_lemma => kernel_rfl) (fun w1 hI hL K hK => ?_) ?_
      rotate_left
      ·obtain ⟨hc, hf⟩ := bcell hI
       go_simp
       repeat (first | (go_ints; try go_simp) | (simp only [↓IntWalk.iteOmega]; try go_simp))
       exact hK
      simp only [Act.put, Qa, Qb, Qc]
      refine Walk.oneG (x := ?_) rfl (by as_aux_lemma => kernel_rfl) (fun w1 hI hL K hK => ?_) ?_
      rotate_left
      ·obtain ⟨hc, hf⟩ := bcell hI
       go_simp
       repeat (first | (go_ints; try go_simp) | (simp only [↓IntWalk.iteOmega]; try go_simp))
       exact hK
      simp only [Act.put, Qa, Qb, Qc]
      refine Walk.oneG (x := ?_) rfl (by as_aux_lemma => kernel_rfl) (fun w1 hI hL K hK => ?_) ?_
      rotate_left
      ·obtain ⟨hc, hf⟩ := bcell hI
       go_simp
       repeat (first | (go_ints; try go_simp) | (simp only [↓IntWalk.iteOmega]; try go_simp))
       exact hK
      simp only [Act.put, Qa, Qb, Qc]
      refine Walk.tellG rfl (by as_aux_lemma => kernel_rfl) (fun w1 hI hL K hK => ?_) ?_
      ·go_simp
       exact (nOne_w Hv2.out (hT2.ext hI) ( T.first) 0 1 (by omega) (by omega)).mono (tell hK)
      rintro _ rfl
      simp only [Act.put, Qa, Qb, Qc]
      refine Walk.oneG (x := ?_) rfl (by as_aux_lemma => kernel_rfl) (fun w1 hI hL K hK => ?_) ?_
      rotate_left
      ·obtain ⟨hc, hf⟩ := bcell hI
       go_simp
       repeat (first | (go_ints; try go_simp) | (simp only [↓IntWalk.iteOmega]; try go_simp))
       exact hK
      simp only [Act.put, Qa, Qb, Qc]
      refine Walk.one (x := ?_) rfl rfl (fun w1 hI hL K hK => ?_) ?_
      rotate_left
      ·obtain ⟨hc, hf⟩ := bcell hI
       go_simp
       repeat (first | (go_ints; try go_simp) | (simp only [↓IntWalk.iteOmega]; try go_simp))
       exact hK
      simp only [Act.put, Qa, Qb, Qc]
      refine Walk.nilF fun w30 ew30 kzL kzX => ?_
      have zw30 := ew30.size
      clear kzL kzX
      simp only [List.drop_succ_cons, List.drop_zero, List.drop_nil]
      have xw_w30 := eg xw_w29 ew30
      go_wp2_with fail
      clear b4_w29
      go_roundw
      case rel => exact ⟨6 + 1, rfl, by decide, by decide, xw_w30⟩
      case measure => simp [intOf] <;> omega
     ·skip
      replace hR := hR.ext ew9
      have b4_w9 := B4.c3
      have xw_w9 := eg (eg xw_w7 ew8) ew9
      skip
      go_wp2_with fail
      clear hww9
      replace zw9 := le2 zw9
      have hsl := OR.sl hR (k := 1) (by omega)
      refine regionT 8 (fun _ => none) (by as_aux_lemma => kernel_rfl) (head_of (by as_aux_lemma => kernel_rfl)) ?_
      iterate 5
       refine Walk.one (x := ?_) rfl rfl (fun w1 hI hL K hK => ?_) ?_
       rotate_left
       ·obtain ⟨hc, hf⟩ := bcell hI
        go_simp
        repeat (first | (go_ints; try go_simp) | (simp only [↓IntWalk.iteOmega]; try go_simp))
        exact hK
       simp only [Act.put, Qa, Qb, Qc]
      refine Walk.one (x := ?_) rfl rfl (fun w1 hI hL K hK => ?_) ?_
      rotate_left
      ·have x0 := cell_ext hI hsl
       go_simp
       repeat (first | (go_ints; try go_simp) | (simp only [↓IntWalk.iteOmega]; try go_simp))
       exact hK
      simp only [Act.put, Qa, Qb, Qc]
      iterate 2
       refine Walk.one (x := ?_) rfl rfl (fun w1 hI hL K hK => ?_) ?_
       rotate_left
       ·obtain ⟨hc, hf⟩ := bcell hI
        go_simp
        repeat (first | (go_ints; try go_simp) | (simp only [↓IntWalk.iteOmega]; try go_simp))
        exact hK
       simp only [Act.put, Qa, Qb, Qc]
      refine Walk.nilF fun w31 ew31 kzL kzX => ?_
      have zw31 := ew31.size
      clear kzL kzX
      simp only [List.drop_succ_cons, List.drop_zero, List.drop_nil]
      replace hR := hR.ext ew31
      replace B4 := B4.ext ew31
      have xw_w31 := eg xw_w9 ew31
      have y0 := OR.sl hR (k := 1) (by omega)
      have f0 := hR.gfree 1
      obtain ⟨w32, hww32⟩ : ∃ W, (w31).setCell ⟨g, 1, none⟩ (.slice (some ⟨rb 1, 0, none⟩) 1 (rc 1)) = W := ⟨_, rfl⟩
      have kw32 : Keeps (fun x => x = g) w31 w32 := by rw [← hww32]; exact sets_keeps (g) [.slice (some ⟨rb 1, 0, none⟩) 1 (rc 1)] w31 1
      have zw32 : w32.heap.size = w31.heap.size := by rw [← hww32]; exact size_sets (g) [.slice (some ⟨rb 1, 0, none⟩) 1 (rc 1)] w31 1
      have Qw32 := OR.cut hR (i := 1) (m := 1) (by omega) (by omega)
      rw [hww32] at Qw32
      replace B4 := hR.kg kw32 B4 (by decide)
      have x_w32 := Ext.kb xw_w31 kw32 (OR.gB hR)
      replace hR := Qw32
      clear kw32
      have b4_w32 := B4.c3
      go_wp2_with fail
      clear hww32
      clear b4_w9
      replace zw32 := le2 zw32
      obtain ⟨T2, hv2, hT2⟩ : ∃ T2 : Tb, T2.val = .agg #[.int .i64 T.first, .int .i64 T.sel, .slice (some ⟨g, 0, none⟩) T.N cZ] ∧ TW w32 T2 := let ⟨T2, a1, a2, _⟩ := OR.tw hR (c := cZ) (show T.N ≤ cZ from hNc) (show T.N ≤ _ by omega) (fun k hk => by show (if k = 1 then 1 else T.rn k) ≤ _; have := Rn.out k hk; split <;> omega) (first :=  T.first) (sel :=  T.sel) (by omega) (by omega); ⟨T2, a1, a2⟩
      have Hv2 := Lib.hid hv2
      clear hv2
      have hb2 : (okT T2 != okT T2) = false := by simp
      skip
      refine regionT 14 (fun kk => match kk with | 1 => some (.v (.bool (okT T2))) | 3 => some (.v (.agg #[.int .i64 T.first, .int .i64 T.sel, .slice (some ⟨g, 0, none⟩) T.N cZ])) | 4 => some (.v (.bool (okT T2))) | 11 => some (.v (.bool true)) | _ => none) (by as_aux_lemma => kernel_rfl) (head_of (by as_aux_lemma => kernel_rfl)) ?_
      refine Walk.one (x := ?_) rfl rfl (fun w1 hI hL K hK => ?_) ?_
      rotate_left
      ·obtain ⟨hc, hf⟩ := bcell hI
       go_simp
       repeat (first | (go_ints; try go_simp) | (simp only [↓IntWalk.iteOmega]; try go_simp))
       exact hK
      simp only [Act.put, Qa, Qb, Qc]
      refine Walk.tell rfl rfl (fun w1 hI hL K hK => ?_) ?_
      ·go_simp
       exact (lValid_v Hv2.out (hT2.ext hI)).mono (tell hK)
      rintro _ rfl
      simp only [Act.put, Qa, Qb, Qc]
      refine Walk.one (x := ?_) rfl rfl (fun w1 hI hL K hK => ?_) ?_
      rotate_left
      ·obtain ⟨hc, hf⟩ := bcell hI
       go_simp
       repeat (first | (go_ints; try go_simp) | (simp only [↓IntWalk.iteOmega]; try go_simp))
       exact hK
      simp only [Act.put, Qa, Qb, Qc]
      refine Walk.tell rfl rfl (fun w1 hI hL K hK => ?_) ?_
      ·go_simp
       exact (nplain_v w1 Hv2.out).mono (tell hK)
      rintro _ rfl
      simp only [Act.put, Qa, Qb, Qc]
      refine Walk.tell rfl rfl (fun w1 hI hL K hK => ?_) ?_
      ·go_simp
       exact (tValid_v Hv2.out (hT2.ext hI)).mono (tell hK)
      rintro _ rfl
      simp only [Act.put, Qa, Qb, Qc]
      iterate 2
       refine Walk.one (x := ?_) rfl rfl (fun w1 hI hL K hK => ?_) ?_
       rotate_left
       ·obtain ⟨hc, hf⟩ := bcell hI
        go_simp
        repeat (first | (go_ints; try go_simp) | (simp only [↓IntWalk.iteOmega]; try go_simp))
        exact hK
       simp only [Act.put, Qa, Qb, Qc]
      refine Walk.oneG (x := ?_) rfl (by as_aux_lemma => kernel_rfl) (fun w1 hI hL K hK => ?_) ?_
      rotate_left
      ·obtain ⟨hc, hf⟩ := bcell hI
       go_simp
       repeat (first | (go_ints; try go_simp) | (simp only [↓IntWalk.iteOmega]; try go_simp))
       exact hK
      simp only [Act.put, Qa, Qb, Qc]
      refine Walk.oneG (x := ?_) rfl (by as_aux_lemma => kernel_rfl) (fun w1 hI hL K hK => ?_) ?_
      rotate_left
      ·obtain ⟨hc, hf⟩ := bcell hI
       go_simp
       repeat (first | (go_ints; try go_simp) | (simp only [↓IntWalk.iteOmega]; try go_simp))
       exact hK
      simp only [Act.put, Qa, Qb, Qc]
      refine Walk.oneG (x := ?_) rfl (by as_aux_lemma => kernel_rfl) (fun w1 hI hL K hK => ?_) ?_
      rotate_left
      ·obtain ⟨hc, hf⟩ := bcell hI
       go_simp
       repeat (first | (go_ints; try go_simp) | (simp only [↓IntWalk.iteOmega]; try go_simp))
       exact hK
      simp only [Act.put, Qa, Qb, Qc]
      refine Walk.oneG (x := ?_) rfl (by as_aux_lemma => kernel_rfl) (fun w1 hI hL K hK => ?_) ?_
      rotate_left
      ·obtain ⟨hc, hf⟩ := bcell hI
       go_simp
       repeat (first | (go_ints; try go_simp) | (simp only [↓IntWalk.iteOmega]; try go_simp))
       exact hK
      simp only [Act.put, Qa, Qb, Qc]
      refine Walk.tellG rfl (by as_aux_lemma => kernel_rfl) (fun w1 hI hL K hK => ?_) ?_
      ·go_simp
       exact (nOne_w Hv2.out (hT2.ext hI) ( T.first) 0 1 (by omega) (by omega)).mono (tell hK)
      rintro _ rfl
      simp only [Act.put, Qa, Qb, Qc]
      refine Walk.oneG (x := ?_) rfl (by as_aux_lemma => kernel_rfl) (fun w1 hI hL K hK => ?_) ?_
      rotate_left
      ·obtain ⟨hc, hf⟩ := bcell hI
       go_simp
       repeat (first | (go_ints; try go_simp) | (simp only [↓IntWalk.iteOmega]; try go_simp))
       exact hK
      simp only [Act.put, Qa, Qb, Qc]
      refine Walk.one (x := ?_) rfl rfl (fun w1 hI hL K hK => ?_) ?_
      rotate_left
      ·obtain ⟨hc, hf⟩ := bcell hI
       go_simp
       repeat (first | (go_ints; try go_simp) | (simp only [↓IntWalk.iteOmega]; try go_simp))
       exact hK
      simp only [Act.put, Qa, Qb, Qc]
      refine Walk.nilF fun w33 ew33 kzL kzX => ?_
      have zw33 := ew33.size
      clear kzL kzX
      simp only [List.drop_succ_cons, List.drop_zero, List.drop_nil]
      have xw_w33 := eg x_w32 ew33
      go_wp2_with fail
      clear b4_w32
      go_roundw
      case rel => exact ⟨7 + 1, rfl, by decide, by decide, xw_w33⟩
      case measure => simp [intOf] <;> omega
     ·skip
      replace hR := hR.ext ew9
      have b4_w9 := B4.c3
      have xw_w9 := eg (eg xw_w7 ew8) ew9
      skip
      go_wp2_with fail
      clear hww9
      replace zw9 := le2 zw9
      have hsl := OR.sl hR (k := 2) (by omega)
      refine regionT 6 (fun kk => match kk with | 4 => some (.f (Rat.divInt ((9)) ((10)))) | _ => none) (by as_aux_lemma => kernel_rfl) (head_of (by as_aux_lemma => kernel_rfl)) ?_
      iterate 3
       refine Walk.one (x := ?_) rfl rfl (fun w1 hI hL K hK => ?_) ?_
       rotate_left
       ·obtain ⟨hc, hf⟩ := bcell hI
        go_simp
        repeat (first | (go_ints; try go_simp) | (simp only [↓IntWalk.iteOmega]; try go_simp))
        exact hK
       simp only [Act.put, Qa, Qb, Qc]
      refine Walk.one (x := ?_) rfl rfl (fun w1 hI hL K hK => ?_) ?_
      rotate_left
      ·have x0 := cell_ext hI hsl
       go_simp
       repeat (first | (go_ints; try go_simp) | (simp only [↓IntWalk.iteOmega]; try go_simp))
       exact hK
      simp only [Act.put, Qa, Qb, Qc]
      refine Walk.tell rfl rfl (fun w1 hI hL K hK => ?_) ?_
      ·go_simp
       exact (nquickO (9) (10) w1 (by decide) (by decide) (by decide)).mono (tell hK)
      rintro _ ⟨Z109, rfl⟩
      simp only [Act.put, Qa, Qb, Qc]
      refine Walk.one (x := ?_) rfl rfl (fun w1 hI hL K hK => ?_) ?_
      rotate_left
      ·obtain ⟨hc, hf⟩ := bcell hI
       go_simp
       repeat (first | (go_ints; try go_simp) | (simp only [↓IntWalk.iteOmega]; try go_simp))
       exact hK
      simp only [Act.put, Qa, Qb, Qc]
      refine Walk.nilF fun w34 ew34 kzL kzX => ?_
      have zw34 := ew34.size
      obtain ⟨hZ109, oZ109⟩ := Tl.getF (kz (i := 4) (v := .agg #[.bool Z109.N.b, .slice Z109.N.p Z109.N.n Z109.N.c, .bool Z109.D.b, .slice Z109.D.p Z109.D.n Z109.D.c]) rfl (by simp) kzL)
      replace oZ109 := oZ109.mono xw_w9.size
      clear kzL kzX
      simp only [List.drop_succ_cons, List.drop_zero, List.drop_nil]
      replace hR := hR.ext ew34
      replace B4 := B4.ext ew34
      have xw_w34 := eg xw_w9 ew34
      obtain ⟨Y, y0, y1, y2, y3⟩ : ∃ Y : Fr, w34.cell? ⟨rb 2, 4, none⟩ = some (.bool Y.N.b) ∧ w34.cell? ⟨rb 2, 5, none⟩ = some (.slice Y.N.p Y.N.n Y.N.c) ∧ w34.cell? ⟨rb 2, 6, none⟩ = some (.bool Y.D.b) ∧ w34.cell? ⟨rb 2, 7, none⟩ = some (.slice Y.D.p Y.D.n Y.D.c) := OR.cell hR (k := 2) (j := 1) (by omega) (by omega)
      have f0 := hR.free (k := 2) (by omega) 4
      have f1 := hR.free (k := 2) (by omega) 5
      have f2 := hR.free (k := 2) (by omega) 6
      have f3 := hR.free (k := 2) (by omega) 7
      obtain ⟨w35, hww35⟩ : ∃ W, ((((w34).setCell ⟨rb 2, 4, none⟩ (.bool Z109.N.b)).setCell ⟨rb 2, 5, none⟩ (.slice Z109.N.p Z109.N.n Z109.N.c)).setCell ⟨rb 2, 6, none⟩ (.bool Z109.D.b)).setCell ⟨rb 2, 7, none⟩ (.slice Z109.D.p Z109.D.n Z109.D.c) = W := ⟨_, rfl⟩
      have kw35 : Keeps (fun x => x = rb 2) w34 w35 := by rw [← hww35]; exact sets_keeps (rb 2) [.bool Z109.N.b, .slice Z109.N.p Z109.N.n Z109.N.c, .bool Z109.D.b, .slice Z109.D.p Z109.D.n Z109.D.c] w34 4
      have zw35 : w35.heap.size = w34.heap.size := by rw [← hww35]; exact size_sets (rb 2) [.bool Z109.N.b, .slice Z109.N.p Z109.N.n Z109.N.c, .bool Z109.D.b, .slice Z109.D.p Z109.D.n Z109.D.c] w34 4
      have Qw35 := OR.put hR (i := 2) (j := 1) (by omega) (by omega) (X := Z109) ⟨(hZ109).1.u16.2, (hZ109).2.u16.2⟩ oZ109
      rw [show Go.Proofs.YtndgaecfeaedeaaGreat.sets w34 (rb 2) (1 * 4) (frV Z109) = w35 from hww35] at Qw35
      replace B4 := hR.kr (k := 2) (by omega) kw35 B4 (by decide)
      have x_w35 := Ext.kb xw_w34 kw35 (OR.rB hR (k := 2) (by omega))
      replace hR := Qw35
      clear kw35
      have b4_w35 := B4.c3
      go_wp2_with fail
      clear hww35
      clear b4_w9
      replace zw35 := le2 zw35
      obtain ⟨T2, hv2, hT2⟩ : ∃ T2 : Tb, T2.val = .agg #[.int .i64 T.first, .int .i64 T.sel, .slice (some ⟨g, 0, none⟩) T.N cZ] ∧ TW w35 T2 := let ⟨T2, a1, a2, _⟩ := OR.tw hR (c := cZ) (show T.N ≤ cZ from hNc) (show T.N ≤ _ by omega) (fun k hk => by have := Rn.out k hk; omega) (first :=  T.first) (sel :=  T.sel) (by omega) (by omega); ⟨T2, a1, a2⟩
      have Hv2 := Lib.hid hv2
      clear hv2
      have hb2 : (okT T2 != okT T2) = false := by simp
      skip
      refine regionT 14 (fun kk => match kk with | 1 => some (.v (.bool (okT T2))) | 3 => some (.v (.agg #[.int .i64 T.first, .int .i64 T.sel, .slice (some ⟨g, 0, none⟩) T.N cZ])) | 4 => some (.v (.bool (okT T2))) | 11 => some (.v (.bool true)) | _ => none) (by as_aux_lemma => kernel_rfl) (head_of (by as_aux_lemma => kernel_rfl)) ?_
      refine Walk.one (x := ?_) rfl rfl (fun w1 hI hL K hK => ?_) ?_
      rotate_left
      ·obtain ⟨hc, hf⟩ := bcell hI
       go_simp
       repeat (first | (go_ints; try go_simp) | (simp only [↓IntWalk.iteOmega]; try go_simp))
       exact hK
      simp only [Act.put, Qa, Qb, Qc]
      refine Walk.tell rfl rfl (fun w1 hI hL K hK => ?_) ?_
      ·go_simp
       exact (lValid_v Hv2.out (hT2.ext hI)).mono (tell hK)
      rintro _ rfl
      simp only [Act.put, Qa, Qb, Qc]
      refine Walk.one (x := ?_) rfl rfl (fun w1 hI hL K hK => ?_) ?_
      rotate_left
      ·obtain ⟨hc, hf⟩ := bcell hI
       go_simp
       repeat (first | (go_ints; try go_simp) | (simp only [↓IntWalk.iteOmega]; try go_simp))
       exact hK
      simp only [Act.put, Qa, Qb, Qc]
      refine Walk.tell rfl rfl (fun w1 hI hL K hK => ?_) ?_
      ·go_simp
       exact (nplain_v w1 Hv2.out).mono (tell hK)
      rintro _ rfl
      simp only [Act.put, Qa, Qb, Qc]
      refine Walk.tell rfl rfl (fun w1 hI hL K hK => ?_) ?_
      ·go_simp
       exact (tValid_v Hv2.out (hT2.ext hI)).mono (tell hK)
      rintro _ rfl
      simp only [Act.put, Qa, Qb, Qc]
      iterate 2
       refine Walk.one (x := ?_) rfl rfl (fun w1 hI hL K hK => ?_) ?_
       rotate_left
       ·obtain ⟨hc, hf⟩ := bcell hI
        go_simp
        repeat (first | (go_ints; try go_simp) | (simp only [↓IntWalk.iteOmega]; try go_simp))
        exact hK
       simp only [Act.put, Qa, Qb, Qc]
      refine Walk.oneG (x := ?_) rfl (by as_aux_lemma => kernel_rfl) (fun w1 hI hL K hK => ?_) ?_
      rotate_left
      ·obtain ⟨hc, hf⟩ := bcell hI
       go_simp
       repeat (first | (go_ints; try go_simp) | (simp only [↓IntWalk.iteOmega]; try go_simp))
       exact hK
      simp only [Act.put, Qa, Qb, Qc]
      refine Walk.oneG (x := ?_) rfl (by as_aux_lemma => kernel_rfl) (fun w1 hI hL K hK => ?_) ?_
      rotate_left
      ·obtain ⟨hc, hf⟩ := bcell hI
       go_simp
       repeat (first | (go_ints; try go_simp) | (simp only [↓IntWalk.iteOmega]; try go_simp))
       exact hK
      simp only [Act.put, Qa, Qb, Qc]
      refine Walk.oneG (x := ?_) rfl (by as_aux_lemma => kernel_rfl) (fun w1 hI hL K hK => ?_) ?_
      rotate_left
      ·obtain ⟨hc, hf⟩ := bcell hI
       go_simp
       repeat (first | (go_ints; try go_simp) | (simp only [↓IntWalk.iteOmega]; try go_simp))
       exact hK
      simp only [Act.put, Qa, Qb, Qc]
      refine Walk.oneG (x := ?_) rfl (by as_aux_lemma => kernel_rfl) (fun w1 hI hL K hK => ?_) ?_
      rotate_left
      ·obtain ⟨hc, hf⟩ := bcell hI
       go_simp
       repeat (first | (go_ints; try go_simp) | (simp only [↓IntWalk.iteOmega]; try go_simp))
       exact hK
      simp only [Act.put, Qa, Qb, Qc]
      refine Walk.tellG rfl (by as_aux_lemma => kernel_rfl) (fun w1 hI hL K hK => ?_) ?_
      ·go_simp
       exact (nOne_w Hv2.out (hT2.ext hI) ( T.first) 0 1 (by omega) (by omega)).mono (tell hK)
      rintro _ rfl
      simp only [Act.put, Qa, Qb, Qc]
      refine Walk.oneG (x := ?_) rfl (by as_aux_lemma => kernel_rfl) (fun w1 hI hL K hK => ?_) ?_
      rotate_left
      ·obtain ⟨hc, hf⟩ := bcell hI
       go_simp
       repeat (first | (go_ints; try go_simp) | (simp only [↓IntWalk.iteOmega]; try go_simp))
       exact hK
      simp only [Act.put, Qa, Qb, Qc]
      refine Walk.one (x := ?_) rfl rfl (fun w1 hI hL K hK => ?_) ?_
      rotate_left
      ·obtain ⟨hc, hf⟩ := bcell hI
       go_simp
       repeat (first | (go_ints; try go_simp) | (simp only [↓IntWalk.iteOmega]; try go_simp))
       exact hK
      simp only [Act.put, Qa, Qb, Qc]
      refine Walk.nilF fun w36 ew36 kzL kzX => ?_
      have zw36 := ew36.size
      clear kzL kzX
      simp only [List.drop_succ_cons, List.drop_zero, List.drop_nil]
      have xw_w36 := eg x_w35 ew36
      go_wp2_with fail
      clear b4_w35
      go_roundw
      case rel => exact ⟨8 + 1, rfl, by decide, by decide, xw_w36⟩
      case measure => simp [intOf] <;> omega
     ·skip
      replace hR := hR.ext ew9
      have b4_w9 := B4.c3
      have xw_w9 := eg (eg xw_w7 ew8) ew9
      skip
      go_wp2_with fail
      clear hww9
      replace zw9 := le2 zw9
      have hsl := OR.sl hR (k := 0) (by omega)
      refine regionT 17 (fun kk => match kk with | 6 => some (.f (Rat.divInt (((-1))) ((2)))) | 7 => some (.f (Rat.divInt ((3)) ((2)))) | 8 => some (.f (Rat.divInt ((1)) ((65536)))) | 10 => some (.f (Rat.divInt ((65535)) ((65535)))) | 11 => some (.fs w9.heap.size 5) | 15 => some (.uf w9.heap.size) | _ => none) (by as_aux_lemma => kernel_rfl) (head_of (by as_aux_lemma => kernel_rfl)) ?_
      iterate 3
       refine Walk.one (x := ?_) rfl rfl (fun w1 hI hL K hK => ?_) ?_
       rotate_left
       ·obtain ⟨hc, hf⟩ := bcell hI
        go_simp
        repeat (first | (go_ints; try go_simp) | (simp only [↓IntWalk.iteOmega]; try go_simp))
        exact hK
       simp only [Act.put, Qa, Qb, Qc]
      refine Walk.one (x := ?_) rfl rfl (fun w1 hI hL K hK => ?_) ?_
      rotate_left
      ·have x0 := cell_ext hI hsl
       go_simp
       repeat (first | (go_ints; try go_simp) | (simp only [↓IntWalk.iteOmega]; try go_simp))
       exact hK
      simp only [Act.put, Qa, Qb, Qc]
      iterate 2
       refine Walk.one (x := ?_) rfl rfl (fun w1 hI hL K hK => ?_) ?_
       rotate_left
       ·obtain ⟨hc, hf⟩ := bcell hI
        go_simp
        repeat (first | (go_ints; try go_simp) | (simp only [↓IntWalk.iteOmega]; try go_simp))
        exact hK
       simp only [Act.put, Qa, Qb, Qc]
      refine Walk.tell rfl rfl (fun w1 hI hL K hK => ?_) ?_
      ·go_simp
       exact (nquickO ((-1)) (2) w1 (by decide) (by decide) (by decide)).mono (tell hK)
      rintro _ ⟨Z123, rfl⟩
      simp only [Act.put, Qa, Qb, Qc]
      refine Walk.tell rfl rfl (fun w1 hI hL K hK => ?_) ?_
      ·go_simp
       exact (nquickO (3) (2) w1 (by decide) (by decide) (by decide)).mono (tell hK)
      rintro _ ⟨Z124, rfl⟩
      simp only [Act.put, Qa, Qb, Qc]
      refine Walk.tell rfl rfl (fun w1 hI hL K hK => ?_) ?_
      ·go_simp
       exact (nquickO (1) (65536) w1 (by decide) (by decide) (by decide)).mono (tell hK)
      rintro _ ⟨Z125, rfl⟩
      simp only [Act.put, Qa, Qb, Qc]
      refine Walk.one (x := ?_) rfl rfl (fun w1 hI hL K hK => ?_) ?_
      rotate_left
      ·obtain ⟨hc, hf⟩ := bcell hI
       go_simp
       repeat (first | (go_ints; try go_simp) | (simp only [↓IntWalk.iteOmega]; try go_simp))
       exact hK
      simp only [Act.put, Qa, Qb, Qc]
      refine Walk.tell rfl rfl (fun w1 hI hL K hK => ?_) ?_
      ·go_simp
       exact (nquickO (65535) (65535) w1 (by decide) (by decide) (by decide)).mono (tell hK)
      rintro _ ⟨Z127, rfl⟩
      simp only [Act.put, Qa, Qb, Qc]
      refine Walk.tell rfl rfl (fun w1 hI hL K hK => ?_) ?_
      ·skip
       go_simp
       exact tellF5 (Okf.of (Tl.getF (kn (i := 6) (v := .agg #[.bool Z123.N.b, .slice Z123.N.p Z123.N.n Z123.N.c, .bool Z123.D.b, .slice Z123.D.p Z123.D.n Z123.D.c]) rfl (by simp) (pred_of (by as_aux_lemma => kernel_rfl)) hL))) (Okf.of (Tl.getF (kn (i := 7) (v := .agg #[.bool Z124.N.b, .slice Z124.N.p Z124.N.n Z124.N.c, .bool Z124.D.b, .slice Z124.D.p Z124.D.n Z124.D.c]) rfl (by simp) (pred_of (by as_aux_lemma => kernel_rfl)) hL))) (Okf.of (Tl.getF (kn (i := 8) (v := .agg #[.bool Z125.N.b, .slice Z125.N.p Z125.N.n Z125.N.c, .bool Z125.D.b, .slice Z125.D.p Z125.D.n Z125.D.c]) rfl (by simp) (pred_of (by as_aux_lemma => kernel_rfl)) hL))) (Okf.zero _ _) (Okf.of (Tl.getF (kn (i := 10) (v := .agg #[.bool Z127.N.b, .slice Z127.N.p Z127.N.n Z127.N.c, .bool Z127.D.b, .slice Z127.D.p Z127.D.n Z127.D.c]) rfl (by simp) (pred_of (by as_aux_lemma => kernel_rfl)) hL))) hK
      rintro _ ⟨g128, rfl⟩
      simp only [Act.put, Qa, Qb, Qc]
      iterate 3
       refine Walk.one (x := ?_) rfl rfl (fun w1 hI hL K hK => ?_) ?_
       rotate_left
       ·obtain ⟨hc, hf⟩ := bcell hI
        go_simp
        repeat (first | (go_ints; try go_simp) | (simp only [↓IntWalk.iteOmega]; try go_simp))
        exact hK
       simp only [Act.put, Qa, Qb, Qc]
      refine Walk.tell rfl rfl (fun w1 hI hL K hK => ?_) ?_
      ·skip
       obtain ⟨X, hX⟩ := Tl.getFs (kn (i := 11) (v := .slice (some ⟨g128, 0, none⟩) 5 5) rfl (by simp) (pred_of (by as_aux_lemma => kernel_rfl)) hL)
       obtain ⟨hc, hok⟩ := hX 0 (by decide)
       have HO := Lib.hid hok
       clear hok hX
       have y0 : w1.cell? ⟨g128, 0, none⟩ = some (.bool (X 0).N.b) := hc.c0
       have y1 : w1.cell? ⟨g128, 1, none⟩ = some (.slice (X 0).N.p (X 0).N.n (X 0).N.c) := hc.c1
       have y2 : w1.cell? ⟨g128, 2, none⟩ = some (.bool (X 0).D.b) := hc.c2
       have y3 : w1.cell? ⟨g128, 3, none⟩ = some (.slice (X 0).D.p (X 0).D.n (X 0).D.c) := hc.c3
       clear hc
       go_simp
       exact tellUf HO.out hK
      rintro _ ⟨Z132, rfl⟩
      simp only [Act.put, Qa, Qb, Qc]
      refine Walk.one (x := ?_) rfl rfl (fun w1 hI hL K hK => ?_) ?_
      rotate_left
      ·obtain ⟨hc, hf⟩ := bcell hI
       go_simp
       repeat (first | (go_ints; try go_simp) | (simp only [↓IntWalk.iteOmega]; try go_simp))
       exact hK
      simp only [Act.put, Qa, Qb, Qc]
      refine Walk.nilF fun w37 ew37 kzL kzX => ?_
      have zw37 := ew37.size
      have oZ132 := Tl.getUf (kz (i := 15) (v := .agg #[.bool Z132.N.b, .slice Z132.N.p Z132.N.n Z132.N.c, .bool Z132.D.b, .slice Z132.D.p Z132.D.n Z132.D.c]) rfl (by simp) kzL)
      clear kzL kzX
      simp only [List.drop_succ_cons, List.drop_zero, List.drop_nil]
      replace hR := hR.ext ew37
      replace B4 := B4.ext ew37
      have xw_w37 := eg xw_w9 ew37
      obtain ⟨lX, mX, hX, oX⟩ := oZ132
      replace oX := oX.mono xw_w9.size
      obtain ⟨Y, y0, y1, y2, y3⟩ : ∃ Y : Fr, w37.cell? ⟨rb 0, 4, none⟩ = some (.bool Y.N.b) ∧ w37.cell? ⟨rb 0, 5, none⟩ = some (.slice Y.N.p Y.N.n Y.N.c) ∧ w37.cell? ⟨rb 0, 6, none⟩ = some (.bool Y.D.b) ∧ w37.cell? ⟨rb 0, 7, none⟩ = some (.slice Y.D.p Y.D.n Y.D.c) := OR.cell hR (k := 0) (j := 1) (by omega) (by omega)
      have f0 := hR.free (k := 0) (by omega) 4
      have f1 := hR.free (k := 0) (by omega) 5
      have f2 := hR.free (k := 0) (by omega) 6
      have f3 := hR.free (k := 0) (by omega) 7
      obtain ⟨w38, hww38⟩ : ∃ W, ((((w37).setCell ⟨rb 0, 4, none⟩ (.bool Z132.N.b)).setCell ⟨rb 0, 5, none⟩ (.slice Z132.N.p Z132.N.n Z132.N.c)).setCell ⟨rb 0, 6, none⟩ (.bool Z132.D.b)).setCell ⟨rb 0, 7, none⟩ (.slice Z132.D.p Z132.D.n Z132.D.c) = W := ⟨_, rfl⟩
      have kw38 : Keeps (fun x => x = rb 0) w37 w38 := by rw [← hww38]; exact sets_keeps (rb 0) [.bool Z132.N.b, .slice Z132.N.p Z132.N.n Z132.N.c, .bool Z132.D.b, .slice Z132.D.p Z132.D.n Z132.D.c] w37 4
      have zw38 : w38.heap.size = w37.heap.size := by rw [← hww38]; exact size_sets (rb 0) [.bool Z132.N.b, .slice Z132.N.p Z132.N.n Z132.N.c, .bool Z132.D.b, .slice Z132.D.p Z132.D.n Z132.D.c] w37 4
      have Qw38 := OR.put hR (i := 0) (j := 1) (by omega) (by omega) (X := Z132) hX oX
      rw [show Go.Proofs.YtndgaecfeaedeaaGreat.sets w37 (rb 0) (1 * 4) (frV Z132) = w38 from hww38] at Qw38
      replace B4 := hR.kr (k := 0) (by omega) kw38 B4 (by decide)
      have x_w38 := Ext.kb xw_w37 kw38 (OR.rB hR (k := 0) (by omega))
      replace hR := Qw38
      clear kw38
      have b4_w38 := B4.c3
      go_wp2_with fail
      clear hww38
      clear b4_w9
      replace zw38 := le2 zw38
      obtain ⟨T2, hv2, hT2⟩ : ∃ T2 : Tb, T2.val = .agg #[.int .i64 T.first, .int .i64 T.sel, .slice (some ⟨g, 0, none⟩) T.N cZ] ∧ TW w38 T2 := let ⟨T2, a1, a2, _⟩ := OR.tw hR (c := cZ) (show T.N ≤ cZ from hNc) (show T.N ≤ _ by omega) (fun k hk => by have := Rn.out k hk; omega) (first :=  T.first) (sel :=  T.sel) (by omega) (by omega); ⟨T2, a1, a2⟩
      have Hv2 := Lib.hid hv2
      clear hv2
      have hb2 : (okT T2 != okT T2) = false := by simp
      skip
      refine regionT 14 (fun kk => match kk with | 1 => some (.v (.bool (okT T2))) | 3 => some (.v (.agg #[.int .i64 T.first, .int .i64 T.sel, .slice (some ⟨g, 0, none⟩) T.N cZ])) | 4 => some (.v (.bool (okT T2))) | 11 => some (.v (.bool true)) | _ => none) (by as_aux_lemma => kernel_rfl) (head_of (by as_aux_lemma => kernel_rfl)) ?_
      refine Walk.one (x := ?_) rfl rfl (fun w1 hI hL K hK => ?_) ?_
      rotate_left
      ·obtain ⟨hc, hf⟩ := bcell hI
       go_simp
       repeat (first | (go_ints; try go_simp) | (simp only [↓IntWalk.iteOmega]; try go_simp))
       exact hK
      simp only [Act.put, Qa, Qb, Qc]
      refine Walk.tell rfl rfl (fun w1 hI hL K hK => ?_) ?_
      ·go_simp
       exact (lValid_v Hv2.out (hT2.ext hI)).mono (tell hK)
      rintro _ rfl
      simp only [Act.put, Qa, Qb, Qc]
      refine Walk.one (x := ?_) rfl rfl (fun w1 hI hL K hK => ?_) ?_
      rotate_left
      ·obtain ⟨hc, hf⟩ := bcell hI
       go_simp
       repeat (first | (go_ints; try go_simp) | (simp only [↓IntWalk.iteOmega]; try go_simp))
       exact hK
      simp only [Act.put, Qa, Qb, Qc]
      refine Walk.tell rfl rfl (fun w1 hI hL K hK => ?_) ?_
      ·go_simp
       exact (nplain_v w1 Hv2.out).mono (tell hK)
      rintro _ rfl
      simp only [Act.put, Qa, Qb, Qc]
      refine Walk.tell rfl rfl (fun w1 hI hL K hK => ?_) ?_
      ·go_simp
       exact (tValid_v Hv2.out (hT2.ext hI)).mono (tell hK)
      rintro _ rfl
      simp only [Act.put, Qa, Qb, Qc]
      iterate 2
       refine Walk.one (x := ?_) rfl rfl (fun w1 hI hL K hK => ?_) ?_
       rotate_left
       ·obtain ⟨hc, hf⟩ := bcell hI
        go_simp
        repeat (first | (go_ints; try go_simp) | (simp only [↓IntWalk.iteOmega]; try go_simp))
        exact hK
       simp only [Act.put, Qa, Qb, Qc]
      refine Walk.oneG (x := ?_) rfl (by as_aux_lemma => kernel_rfl) (fun w1 hI hL K hK => ?_) ?_
      rotate_left
      ·obtain ⟨hc, hf⟩ := bcell hI
       go_simp
       repeat (first | (go_ints; try go_simp) | (simp only [↓IntWalk.iteOmega]; try go_simp))
       exact hK
      simp only [Act.put, Qa, Qb, Qc]
      refine Walk.oneG (x := ?_) rfl (by as_aux_lemma => kernel_rfl) (fun w1 hI hL K hK => ?_) ?_
      rotate_left
      ·obtain ⟨hc, hf⟩ := bcell hI
       go_simp
       repeat (first | (go_ints; try go_simp) | (simp only [↓IntWalk.iteOmega]; try go_simp))
       exact hK
      simp only [Act.put, Qa, Qb, Qc]
      refine Walk.oneG (x := ?_) rfl (by as_aux_lemma => kernel_rfl) (fun w1 hI hL K hK => ?_) ?_
      rotate_left
      ·obtain ⟨hc, hf⟩ := bcell hI
       go_simp
       repeat (first | (go_ints; try go_simp) | (simp only [↓IntWalk.iteOmega]; try go_simp))
       exact hK
      simp only [Act.put, Qa, Qb, Qc]
      refine Walk.oneG (x := ?_) rfl (by as_aux_lemma => kernel_rfl) (fun w1 hI hL K hK => ?_) ?_
      rotate_left
      ·obtain ⟨hc, hf⟩ := bcell hI
       go_simp
       repeat (first | (go_ints; try go_simp) | (simp only [↓IntWalk.iteOmega]; try go_simp))
       exact hK
      simp only [Act.put, Qa, Qb, Qc]
      refine Walk.tellG rfl (by as_aux_lemma => kernel_rfl) (fun w1 hI hL K hK => ?_) ?_
      ·go_simp
       exact (nOne_w Hv2.out (hT2.ext hI) ( T.first) 0 1 (by omega) (by omega)).mono (tell hK)
      rintro _ rfl
      simp only [Act.put, Qa, Qb, Qc]
      refine Walk.oneG (x := ?_) rfl (by as_aux_lemma => kernel_rfl) (fun w1 hI hL K hK => ?_) ?_
      rotate_left
      ·obtain ⟨hc, hf⟩ := bcell hI
       go_simp
       repeat (first | (go_ints; try go_simp) | (simp only [↓IntWalk.iteOmega]; try go_simp))
       exact hK
      simp only [Act.put, Qa, Qb, Qc]
      refine Walk.one (x := ?_) rfl rfl (fun w1 hI hL K hK => ?_) ?_
      rotate_left
      ·obtain ⟨hc, hf⟩ := bcell hI
       go_simp
       repeat (first | (go_ints; try go_simp) | (simp only [↓IntWalk.iteOmega]; try go_simp))
       exact hK
      simp only [Act.put, Qa, Qb, Qc]
      refine Walk.nilF fun w39 ew39 kzL kzX => ?_
      have zw39 := ew39.size
      clear kzL kzX
      simp only [List.drop_succ_cons, List.drop_zero, List.drop_nil]
      have xw_w39 := eg x_w38 ew39
      go_wp2_with fail
      clear b4_w38
      go_roundw
      case rel => exact ⟨9 + 1, rfl, by decide, by decide, xw_w39⟩
      case measure => simp [intOf] <;> omega
     ·skip
      replace hR := hR.ext ew9
      have b4_w9 := B4.c3
      have xw_w9 := eg (eg xw_w7 ew8) ew9
      skip
      go_wp2_with fail
      clear hww9
      replace zw9 := le2 zw9
      have hsl := OR.sl hR (k := 0) (by omega)
      refine regionT 17 (fun kk => match kk with | 6 => some (.f (Rat.divInt (((-1))) ((2)))) | 7 => some (.f (Rat.divInt ((3)) ((2)))) | 8 => some (.f (Rat.divInt ((1)) ((65536)))) | 10 => some (.f (Rat.divInt ((65535)) ((65535)))) | 11 => some (.fs w9.heap.size 5) | 15 => some (.uf w9.heap.size) | _ => none) (by as_aux_lemma => kernel_rfl) (head_of (by as_aux_lemma => kernel_rfl)) ?_
      iterate 3
       refine Walk.one (x := ?_) rfl rfl (fun w1 hI hL K hK => ?_) ?_
       rotate_left
       ·obtain ⟨hc, hf⟩ := bcell hI
        go_simp
        repeat (first | (go_ints; try go_simp) | (simp only [↓IntWalk.iteOmega]; try go_simp))
        exact hK
       simp only [Act.put, Qa, Qb, Qc]
      refine Walk.one (x := ?_) rfl rfl (fun w1 hI hL K hK => ?_) ?_
      rotate_left
      ·have x0 := cell_ext hI hsl
       go_simp
       repeat (first | (go_ints; try go_simp) | (simp only [↓IntWalk.iteOmega]; try go_simp))
       exact hK
      simp only [Act.put, Qa, Qb, Qc]
      iterate 2
       refine Walk.one (x := ?_) rfl rfl (fun w1 hI hL K hK => ?_) ?_
       rotate_left
       ·obtain ⟨hc, hf⟩ := bcell hI
        go_simp
        repeat (first | (go_ints; try go_simp) | (simp only [↓IntWalk.iteOmega]; try go_simp))
        exact hK
       simp only [Act.put, Qa, Qb, Qc]
      refine Walk.tell rfl rfl (fun w1 hI hL K hK => ?_) ?_
      ·go_simp
       exact (nquickO ((-1)) (2) w1 (by decide) (by decide) (by decide)).mono (tell hK)
      rintro _ ⟨Z123, rfl⟩
      simp only [Act.put, Qa, Qb, Qc]
      refine Walk.tell rfl rfl (fun w1 hI hL K hK => ?_) ?_
      ·go_simp
       exact (nquickO (3) (2) w1 (by decide) (by decide) (by decide)).mono (tell hK)
      rintro _ ⟨Z124, rfl⟩
      simp only [Act.put, Qa, Qb, Qc]
      refine Walk.tell rfl rfl (fun w1 hI hL K hK => ?_) ?_
      ·go_simp
       exact (nquickO (1) (65536) w1 (by decide) (by decide) (by decide)).mono (tell hK)
      rintro _ ⟨Z125, rfl⟩
      simp only [Act.put, Qa, Qb, Qc]
      refine Walk.one (x := ?_) rfl rfl (fun w1 hI hL K hK => ?_) ?_
      rotate_left
      ·obtain ⟨hc, hf⟩ := bcell hI
       go_simp
       repeat (first | (go_ints; try go_simp) | (simp only [↓IntWalk.iteOmega]; try go_simp))
       exact hK
      simp only [Act.put, Qa, Qb, Qc]
      refine Walk.tell rfl rfl (fun w1 hI hL K hK => ?_) ?_
      ·go_simp
       exact (nquickO (65535) (65535) w1 (by decide) (by decide) (by decide)).mono (tell hK)
      rintro _ ⟨Z127, rfl⟩
      simp only [Act.put, Qa, Qb, Qc]
      refine Walk.tell rfl rfl (fun w1 hI hL K hK => ?_) ?_
      ·skip
       go_simp
       exact tellF5 (Okf.of (Tl.getF (kn (i := 6) (v := .agg #[.bool Z123.N.b, .slice Z123.N.p Z123.N.n Z123.N.c, .bool Z123.D.b, .slice Z123.D.p Z123.D.n Z123.D.c]) rfl (by simp) (pred_of (by as_aux_lemma => kernel_rfl)) hL))) (Okf.of (Tl.getF (kn (i := 7) (v := .agg #[.bool Z124.N.b, .slice Z124.N.p Z124.N.n Z124.N.c, .bool Z124.D.b, .slice Z124.D.p Z124.D.n Z124.D.c]) rfl (by simp) (pred_of (by as_aux_lemma => kernel_rfl)) hL))) (Okf.of (Tl.getF (kn (i := 8) (v := .agg #[.bool Z125.N.b, .slice Z125.N.p Z125.N.n Z125.N.c, .bool Z125.D.b, .slice Z125.D.p Z125.D.n Z125.D.c]) rfl (by simp) (pred_of (by as_aux_lemma => kernel_rfl)) hL))) (Okf.zero _ _) (Okf.of (Tl.getF (kn (i := 10) (v := .agg #[.bool Z127.N.b, .slice Z127.N.p Z127.N.n Z127.N.c, .bool Z127.D.b, .slice Z127.D.p Z127.D.n Z127.D.c]) rfl (by simp) (pred_of (by as_aux_lemma => kernel_rfl)) hL))) hK
      rintro _ ⟨g128, rfl⟩
      simp only [Act.put, Qa, Qb, Qc]
      iterate 3
       refine Walk.one (x := ?_) rfl rfl (fun w1 hI hL K hK => ?_) ?_
       rotate_left
       ·obtain ⟨hc, hf⟩ := bcell hI
        go_simp
        repeat (first | (go_ints; try go_simp) | (simp only [↓IntWalk.iteOmega]; try go_simp))
        exact hK
       simp only [Act.put, Qa, Qb, Qc]
      refine Walk.tell rfl rfl (fun w1 hI hL K hK => ?_) ?_
      ·skip
       obtain ⟨X, hX⟩ := Tl.getFs (kn (i := 11) (v := .slice (some ⟨g128, 0, none⟩) 5 5) rfl (by simp) (pred_of (by as_aux_lemma => kernel_rfl)) hL)
       obtain ⟨hc, hok⟩ := hX 1 (by decide)
       have HO := Lib.hid hok
       clear hok hX
       have y0 : w1.cell? ⟨g128, 4, none⟩ = some (.bool (X 1).N.b) := hc.c0
       have y1 : w1.cell? ⟨g128, 5, none⟩ = some (.slice (X 1).N.p (X 1).N.n (X 1).N.c) := hc.c1
       have y2 : w1.cell? ⟨g128, 6, none⟩ = some (.bool (X 1).D.b) := hc.c2
       have y3 : w1.cell? ⟨g128, 7, none⟩ = some (.slice (X 1).D.p (X 1).D.n (X 1).D.c) := hc.c3
       clear hc
       go_simp
       exact tellUf HO.out hK
      rintro _ ⟨Z132, rfl⟩
      simp only [Act.put, Qa, Qb, Qc]
      refine Walk.one (x := ?_) rfl rfl (fun w1 hI hL K hK => ?_) ?_
      rotate_left
      ·obtain ⟨hc, hf⟩ := bcell hI
       go_simp
       repeat (first | (go_ints; try go_simp) | (simp only [↓IntWalk.iteOmega]; try go_simp))
       exact hK
      simp only [Act.put, Qa, Qb, Qc]
      refine Walk.nilF fun w40 ew40 kzL kzX => ?_
      have zw40 := ew40.size
      have oZ132 := Tl.getUf (kz (i := 15) (v := .agg #[.bool Z132.N.b, .slice Z132.N.p Z132.N.n Z132.N.c, .bool Z132.D.b, .slice Z132.D.p Z132.D.n Z132.D.c]) rfl (by simp) kzL)
      clear kzL kzX
      simp only [List.drop_succ_cons, List.drop_zero, List.drop_nil]
      replace hR := hR.ext ew40
      replace B4 := B4.ext ew40
      have xw_w40 := eg xw_w9 ew40
      obtain ⟨lX, mX, hX, oX⟩ := oZ132
      replace oX := oX.mono xw_w9.size
      obtain ⟨Y, y0, y1, y2, y3⟩ : ∃ Y : Fr, w40.cell? ⟨rb 0, 0, none⟩ = some (.bool Y.N.b) ∧ w40.cell? ⟨rb 0, 1, none⟩ = some (.slice Y.N.p Y.N.n Y.N.c) ∧ w40.cell? ⟨rb 0, 2, none⟩ = some (.bool Y.D.b) ∧ w40.cell? ⟨rb 0, 3, none⟩ = some (.slice Y.D.p Y.D.n Y.D.c) := OR.cell hR (k := 0) (j := 0) (by omega) (by omega)
      have f0 := hR.free (k := 0) (by omega) 0
      have f1 := hR.free (k := 0) (by omega) 1
      have f2 := hR.free (k := 0) (by omega) 2
      have f3 := hR.free (k := 0) (by omega) 3
      obtain ⟨w41, hww41⟩ : ∃ W, ((((w40).setCell ⟨rb 0, 0, none⟩ (.bool Z132.N.b)).setCell ⟨rb 0, 1, none⟩ (.slice Z132.N.p Z132.N.n Z132.N.c)).setCell ⟨rb 0, 2, none⟩ (.bool Z132.D.b)).setCell ⟨rb 0, 3, none⟩ (.slice Z132.D.p Z132.D.n Z132.D.c) = W := ⟨_, rfl⟩
      have kw41 : Keeps (fun x => x = rb 0) w40 w41 := by rw [← hww41]; exact sets_keeps (rb 0) [.bool Z132.N.b, .slice Z132.N.p Z132.N.n Z132.N.c, .bool Z132.D.b, .slice Z132.D.p Z132.D.n Z132.D.c] w40 0
      have zw41 : w41.heap.size = w40.heap.size := by rw [← hww41]; exact size_sets (rb 0) [.bool Z132.N.b, .slice Z132.N.p Z132.N.n Z132.N.c, .bool Z132.D.b, .slice Z132.D.p Z132.D.n Z132.D.c] w40 0
      have Qw41 := OR.put hR (i := 0) (j := 0) (by omega) (by omega) (X := Z132) hX oX
      rw [show Go.Proofs.YtndgaecfeaedeaaGreat.sets w40 (rb 0) (0 * 4) (frV Z132) = w41 from hww41] at Qw41
      replace B4 := hR.kr (k := 0) (by omega) kw41 B4 (by decide)
      have x_w41 := Ext.kb xw_w40 kw41 (OR.rB hR (k := 0) (by omega))
      replace hR := Qw41
      clear kw41
      have b4_w41 := B4.c3
      go_wp2_with fail
      clear hww41
      clear b4_w9
      replace zw41 := le2 zw41
      obtain ⟨T2, hv2, hT2⟩ : ∃ T2 : Tb, T2.val = .agg #[.int .i64 T.first, .int .i64 T.sel, .slice (some ⟨g, 0, none⟩) T.N cZ] ∧ TW w41 T2 := let ⟨T2, a1, a2, _⟩ := OR.tw hR (c := cZ) (show T.N ≤ cZ from hNc) (show T.N ≤ _ by omega) (fun k hk => by have := Rn.out k hk; omega) (first :=  T.first) (sel :=  T.sel) (by omega) (by omega); ⟨T2, a1, a2⟩
      have Hv2 := Lib.hid hv2
      clear hv2
      have hb2 : (okT T2 != okT T2) = false := by simp
      skip
      refine regionT 14 (fun kk => match kk with | 1 => some (.v (.bool (okT T2))) | 3 => some (.v (.agg #[.int .i64 T.first, .int .i64 T.sel, .slice (some ⟨g, 0, none⟩) T.N cZ])) | 4 => some (.v (.bool (okT T2))) | 11 => some (.v (.bool true)) | _ => none) (by as_aux_lemma => kernel_rfl) (head_of (by as_aux_lemma => kernel_rfl)) ?_
      refine Walk.one (x := ?_) rfl rfl (fun w1 hI hL K hK => ?_) ?_
      rotate_left
      ·obtain ⟨hc, hf⟩ := bcell hI
       go_simp
       repeat (first | (go_ints; try go_simp) | (simp only [↓IntWalk.iteOmega]; try go_simp))
       exact hK
      simp only [Act.put, Qa, Qb, Qc]
      refine Walk.tell rfl rfl (fun w1 hI hL K hK => ?_) ?_
      ·go_simp
       exact (lValid_v Hv2.out (hT2.ext hI)).mono (tell hK)
      rintro _ rfl
      simp only [Act.put, Qa, Qb, Qc]
      refine Walk.one (x := ?_) rfl rfl (fun w1 hI hL K hK => ?_) ?_
      rotate_left
      ·obtain ⟨hc, hf⟩ := bcell hI
       go_simp
       repeat (first | (go_ints; try go_simp) | (simp only [↓IntWalk.iteOmega]; try go_simp))
       exact hK
      simp only [Act.put, Qa, Qb, Qc]
      refine Walk.tell rfl rfl (fun w1 hI hL K hK => ?_) ?_
      ·go_simp
       exact (nplain_v w1 Hv2.out).mono (tell hK)
      rintro _ rfl
      simp only [Act.put, Qa, Qb, Qc]
      refine Walk.tell rfl rfl (fun w1 hI hL K hK => ?_) ?_
      ·go_simp
       exact (tValid_v Hv2.out (hT2.ext hI)).mono (tell hK)
      rintro _ rfl
      simp only [Act.put, Qa, Qb, Qc]
      iterate 2
       refine Walk.one (x := ?_) rfl rfl (fun w1 hI hL K hK => ?_) ?_
       rotate_left
       ·obtain ⟨hc, hf⟩ := bcell hI
        go_simp
        repeat (first | (go_ints; try go_simp) | (simp only [↓IntWalk.iteOmega]; try go_simp))
        exact hK
       simp only [Act.put, Qa, Qb, Qc]
      refine Walk.oneG (x := ?_) rfl (by as_aux_lemma => kernel_rfl) (fun w1 hI hL K hK => ?_) ?_
      rotate_left
      ·obtain ⟨hc, hf⟩ := bcell hI
       go_simp
       repeat (first | (go_ints; try go_simp) | (simp only [↓IntWalk.iteOmega]; try go_simp))
       exact hK
      simp only [Act.put, Qa, Qb, Qc]
      refine Walk.oneG (x := ?_) rfl (by as_aux_lemma => kernel_rfl) (fun w1 hI hL K hK => ?_) ?_
      rotate_left
      ·obtain ⟨hc, hf⟩ := bcell hI
       go_simp
       repeat (first | (go_ints; try go_simp) | (simp only [↓IntWalk.iteOmega]; try go_simp))
       exact hK
      simp only [Act.put, Qa, Qb, Qc]
      refine Walk.oneG (x := ?_) rfl (by as_aux_lemma => kernel_rfl) (fun w1 hI hL K hK => ?_) ?_
      rotate_left
      ·obtain ⟨hc, hf⟩ := bcell hI
       go_simp
       repeat (first | (go_ints; try go_simp) | (simp only [↓IntWalk.iteOmega]; try go_simp))
       exact hK
      simp only [Act.put, Qa, Qb, Qc]
      refine Walk.oneG (x := ?_) rfl (by as_aux_lemma => kernel_rfl) (fun w1 hI hL K hK => ?_) ?_
      rotate_left
      ·obtain ⟨hc, hf⟩ := bcell hI
       go_simp
       repeat (first | (go_ints; try go_simp) | (simp only [↓IntWalk.iteOmega]; try go_simp))
       exact hK
      simp only [Act.put, Qa, Qb, Qc]
      refine Walk.tellG rfl (by as_aux_lemma => kernel_rfl) (fun w1 hI hL K hK => ?_) ?_
      ·go_simp
       exact (nOne_w Hv2.out (hT2.ext hI) ( T.first) 0 1 (by omega) (by omega)).mono (tell hK)
      rintro _ rfl
      simp only [Act.put, Qa, Qb, Qc]
      refine Walk.oneG (x := ?_) rfl (by as_aux_lemma => kernel_rfl) (fun w1 hI hL K hK => ?_) ?_
      rotate_left
      ·obtain ⟨hc, hf⟩ := bcell hI
       go_simp
       repeat (first | (go_ints; try go_simp) | (simp only [↓IntWalk.iteOmega]; try go_simp))
       exact hK
      simp only [Act.put, Qa, Qb, Qc]
      refine Walk.one (x := ?_) rfl rfl (fun w1 hI hL K hK => ?_) ?_
      rotate_left
      ·obtain ⟨hc, hf⟩ := bcell hI
       go_simp
       repeat (first | (go_ints; try go_simp) | (simp only [↓IntWalk.iteOmega]; try go_simp))
       exact hK
      simp only [Act.put, Qa, Qb, Qc]
      refine Walk.nilF fun w42 ew42 kzL kzX => ?_
      have zw42 := ew42.size
      clear kzL kzX
      simp only [List.drop_succ_cons, List.drop_zero, List.drop_nil]
      have xw_w42 := eg x_w41 ew42
      go_wp2_with fail
      clear b4_w41
      go_roundw
      case rel => exact ⟨10 + 1, rfl, by decide, by decide, xw_w42⟩
      case measure => simp [intOf] <;> omega
     ·skip
      replace hR := hR.ext ew9
      have b4_w9 := B4.c3
      have xw_w9 := eg (eg xw_w7 ew8) ew9
      skip
      go_wp2_with fail
      clear hww9
      replace zw9 := le2 zw9
      have hsl := OR.sl hR (k := 0) (by omega)
      refine regionT 17 (fun kk => match kk with | 6 => some (.f (Rat.divInt (((-1))) ((2)))) | 7 => some (.f (Rat.divInt ((3)) ((2)))) | 8 => some (.f (Rat.divInt ((1)) ((65536)))) | 10 => some (.f (Rat.divInt ((65535)) ((65535)))) | 11 => some (.fs w9.heap.size 5) | 15 => some (.uf w9.heap.size) | _ => none) (by as_aux_lemma => kernel_rfl) (head_of (by as_aux_lemma => kernel_rfl)) ?_
      iterate 3
       refine Walk.one (x := ?_) rfl rfl (fun w1 hI hL K hK => ?_) ?_
       rotate_left
       ·obtain ⟨hc, hf⟩ := bcell hI
        go_simp
        repeat (first | (go_ints; try go_simp) | (simp only [↓IntWalk.iteOmega]; try go_simp))
        exact hK
       simp only [Act.put, Qa, Qb, Qc]
      refine Walk.one (x := ?_) rfl rfl (fun w1 hI hL K hK => ?_) ?_
      rotate_left
      ·have x0 := cell_ext hI hsl
       go_simp
       repeat (first | (go_ints; try go_simp) | (simp only [↓IntWalk.iteOmega]; try go_simp))
       exact hK
      simp only [Act.put, Qa, Qb, Qc]
      iterate 2
       refine Walk.one (x := ?_) rfl rfl (fun w1 hI hL K hK => ?_) ?_
       rotate_left
       ·obtain ⟨hc, hf⟩ := bcell hI
        go_simp
        repeat (first | (go_ints; try go_simp) | (simp only [↓IntWalk.iteOmega]; try go_simp))
        exact hK
       simp only [Act.put, Qa, Qb, Qc]
      refine Walk.tell rfl rfl (fun w1 hI hL K hK => ?_) ?_
      ·go_simp
       exact (nquickO ((-1)) (2) w1 (by decide) (by decide) (by decide)).mono (tell hK)
      rintro _ ⟨Z123, rfl⟩
      simp only [Act.put, Qa, Qb, Qc]
      refine Walk.tell rfl rfl (fun w1 hI hL K hK => ?_) ?_
      ·go_simp
       exact (nquickO (3) (2) w1 (by decide) (by decide) (by decide)).mono (tell hK)
      rintro _ ⟨Z124, rfl⟩
      simp only [Act.put, Qa, Qb, Qc]
      refine Walk.tell rfl rfl (fun w1 hI hL K hK => ?_) ?_
      ·go_simp
       exact (nquickO (1) (65536) w1 (by decide) (by decide) (by decide)).mono (tell hK)
      rintro _ ⟨Z125, rfl⟩
      simp only [Act.put, Qa, Qb, Qc]
      refine Walk.one (x := ?_) rfl rfl (fun w1 hI hL K hK => ?_) ?_
      rotate_left
      ·obtain ⟨hc, hf⟩ := bcell hI
       go_simp
       repeat (first | (go_ints; try go_simp) | (simp only [↓IntWalk.iteOmega]; try go_simp))
       exact hK
      simp only [Act.put, Qa, Qb, Qc]
      refine Walk.tell rfl rfl (fun w1 hI hL K hK => ?_) ?_
      ·go_simp
       exact (nquickO (65535) (65535) w1 (by decide) (by decide) (by decide)).mono (tell hK)
      rintro _ ⟨Z127, rfl⟩
      simp only [Act.put, Qa, Qb, Qc]
      refine Walk.tell rfl rfl (fun w1 hI hL K hK => ?_) ?_
      ·skip
       go_simp
       exact tellF5 (Okf.of (Tl.getF (kn (i := 6) (v := .agg #[.bool Z123.N.b, .slice Z123.N.p Z123.N.n Z123.N.c, .bool Z123.D.b, .slice Z123.D.p Z123.D.n Z123.D.c]) rfl (by simp) (pred_of (by as_aux_lemma => kernel_rfl)) hL))) (Okf.of (Tl.getF (kn (i := 7) (v := .agg #[.bool Z124.N.b, .slice Z124.N.p Z124.N.n Z124.N.c, .bool Z124.D.b, .slice Z124.D.p Z124.D.n Z124.D.c]) rfl (by simp) (pred_of (by as_aux_lemma => kernel_rfl)) hL))) (Okf.of (Tl.getF (kn (i := 8) (v := .agg #[.bool Z125.N.b, .slice Z125.N.p Z125.N.n Z125.N.c, .bool Z125.D.b, .slice Z125.D.p Z125.D.n Z125.D.c]) rfl (by simp) (pred_of (by as_aux_lemma => kernel_rfl)) hL))) (Okf.zero _ _) (Okf.of (Tl.getF (kn (i := 10) (v := .agg #[.bool Z127.N.b, .slice Z127.N.p Z127.N.n Z127.N.c, .bool Z127.D.b, .slice Z127.D.p Z127.D.n Z127.D.c]) rfl (by simp) (pred_of (by as_aux_lemma => kernel_rfl)) hL))) hK
      rintro _ ⟨g128, rfl⟩
      simp only [Act.put, Qa, Qb, Qc]
      iterate 3
       refine Walk.one (x := ?_) rfl rfl (fun w1 hI hL K hK => ?_) ?_
       rotate_left
       ·obtain ⟨hc, hf⟩ := bcell hI
        go_simp
        repeat (first | (go_ints; try go_simp) | (simp only [↓IntWalk.iteOmega]; try go_simp))
        exact hK
       simp only [Act.put, Qa, Qb, Qc]
      refine Walk.tell rfl rfl (fun w1 hI hL K hK => ?_) ?_
      ·skip
       obtain ⟨X, hX⟩ := Tl.getFs (kn (i := 11) (v := .slice (some ⟨g128, 0, none⟩) 5 5) rfl (by simp) (pred_of (by as_aux_lemma => kernel_rfl)) hL)
       obtain ⟨hc, hok⟩ := hX 2 (by decide)
       have HO := Lib.hid hok
       clear hok hX
       have y0 : w1.cell? ⟨g128, 8, none⟩ = some (.bool (X 2).N.b) := hc.c0
       have y1 : w1.cell? ⟨g128, 9, none⟩ = some (.slice (X 2).N.p (X 2).N.n (X 2).N.c) := hc.c1
       have y2 : w1.cell? ⟨g128, 10, none⟩ = some (.bool (X 2).D.b) := hc.c2
       have y3 : w1.cell? ⟨g128, 11, none⟩ = some (.slice (X 2).D.p (X 2).D.n (X 2).D.c) := hc.c3
       clear hc
       go_simp
       exact tellUf HO.out hK
      rintro _ ⟨Z132, rfl⟩
      simp only [Act.put, Qa, Qb, Qc]
      refine Walk.one (x := ?_) rfl rfl (fun w1 hI hL K hK => ?_) ?_
      rotate_left
      ·obtain ⟨hc, hf⟩ := bcell hI
       go_simp
       repeat (first | (go_ints; try go_simp) | (simp only [↓IntWalk.iteOmega]; try go_simp))
       exact hK
      simp only [Act.put, Qa, Qb, Qc]
      refine Walk.nilF fun w43 ew43 kzL kzX => ?_
      have zw43 := ew43.size
      have oZ132 := Tl.getUf (kz (i := 15) (v := .agg #[.bool Z132.N.b, .slice Z132.N.p Z132.N.n Z132.N.c, .bool Z132.D.b, .slice Z132.D.p Z132.D.n Z132.D.c]) rfl (by simp) kzL)
      clear kzL kzX
      simp only [List.drop_succ_cons, List.drop_zero, List.drop_nil]
      replace hR := hR.ext ew43
      replace B4 := B4.ext ew43
      have xw_w43 := eg xw_w9 ew43
      obtain ⟨lX, mX, hX, oX⟩ := oZ132
      replace oX := oX.mono xw_w9.size
      obtain ⟨Y, y0, y1, y2, y3⟩ : ∃ Y : Fr, w43.cell? ⟨rb 0, 4, none⟩ = some (.bool Y.N.b) ∧ w43.cell? ⟨rb 0, 5, none⟩ = some (.slice Y.N.p Y.N.n Y.N.c) ∧ w43.cell? ⟨rb 0, 6, none⟩ = some (.bool Y.D.b) ∧ w43.cell? ⟨rb 0, 7, none⟩ = some (.slice Y.D.p Y.D.n Y.D.c) := OR.cell hR (k := 0) (j := 1) (by omega) (by omega)
      have f0 := hR.free (k := 0) (by omega) 4
      have f1 := hR.free (k := 0) (by omega) 5
      have f2 := hR.free (k := 0) (by omega) 6
      have f3 := hR.free (k := 0) (by omega) 7
      obtain ⟨w44, hww44⟩ : ∃ W, ((((w43).setCell ⟨rb 0, 4, none⟩ (.bool Z132.N.b)).setCell ⟨rb 0, 5, none⟩ (.slice Z132.N.p Z132.N.n Z132.N.c)).setCell ⟨rb 0, 6, none⟩ (.bool Z132.D.b)).setCell ⟨rb 0, 7, none⟩ (.slice Z132.D.p Z132.D.n Z132.D.c) = W := ⟨_, rfl⟩
      have kw44 : Keeps (fun x => x = rb 0) w43 w44 := by rw [← hww44]; exact sets_keeps (rb 0) [.bool Z132.N.b, .slice Z132.N.p Z132.N.n Z132.N.c, .bool Z132.D.b, .slice Z132.D.p Z132.D.n Z132.D.c] w43 4
      have zw44 : w44.heap.size = w43.heap.size := by rw [← hww44]; exact size_sets (rb 0) [.bool Z132.N.b, .slice Z132.N.p Z132.N.n Z132.N.c, .bool Z132.D.b, .slice Z132.D.p Z132.D.n Z132.D.c] w43 4
      have Qw44 := OR.put hR (i := 0) (j := 1) (by omega) (by omega) (X := Z132) hX oX
      rw [show Go.Proofs.YtndgaecfeaedeaaGreat.sets w43 (rb 0) (1 * 4) (frV Z132) = w44 from hww44] at Qw44
      replace B4 := hR.kr (k := 0) (by omega) kw44 B4 (by decide)
      have x_w44 := Ext.kb xw_w43 kw44 (OR.rB hR (k := 0) (by omega))
      replace hR := Qw44
      clear kw44
      have b4_w44 := B4.c3
      go_wp2_with fail
      clear hww44
      clear b4_w9
      replace zw44 := le2 zw44
      obtain ⟨T2, hv2, hT2⟩ : ∃ T2 : Tb, T2.val = .agg #[.int .i64 T.first, .int .i64 T.sel, .slice (some ⟨g, 0, none⟩) T.N cZ] ∧ TW w44 T2 := let ⟨T2, a1, a2, _⟩ := OR.tw hR (c := cZ) (show T.N ≤ cZ from hNc) (show T.N ≤ _ by omega) (fun k hk => by have := Rn.out k hk; omega) (first :=  T.first) (sel :=  T.sel) (by omega) (by omega); ⟨T2, a1, a2⟩
      have Hv2 := Lib.hid hv2
      clear hv2
      have hb2 : (okT T2 != okT T2) = false := by simp
      skip
      refine regionT 14 (fun kk => match kk with | 1 => some (.v (.bool (okT T2))) | 3 => some (.v (.agg #[.int .i64 T.first, .int .i64 T.sel, .slice (some ⟨g, 0, none⟩) T.N cZ])) | 4 => some (.v (.bool (okT T2))) | 11 => some (.v (.bool true)) | _ => none) (by as_aux_lemma => kernel_rfl) (head_of (by as_aux_lemma => kernel_rfl)) ?_
      refine Walk.one (x := ?_) rfl rfl (fun w1 hI hL K hK => ?_) ?_
      rotate_left
      ·obtain ⟨hc, hf⟩ := bcell hI
       go_simp
       repeat (first | (go_ints; try go_simp) | (simp only [↓IntWalk.iteOmega]; try go_simp))
       exact hK
      simp only [Act.put, Qa, Qb, Qc]
      refine Walk.tell rfl rfl (fun w1 hI hL K hK => ?_) ?_
      ·go_simp
       exact (lValid_v Hv2.out (hT2.ext hI)).mono (tell hK)
      rintro _ rfl
      simp only [Act.put, Qa, Qb, Qc]
      refine Walk.one (x := ?_) rfl rfl (fun w1 hI hL K hK => ?_) ?_
      rotate_left
      ·obtain ⟨hc, hf⟩ := bcell hI
       go_simp
       repeat (first | (go_ints; try go_simp) | (simp only [↓IntWalk.iteOmega]; try go_simp))
       exact hK
      simp only [Act.put, Qa, Qb, Qc]
      refine Walk.tell rfl rfl (fun w1 hI hL K hK => ?_) ?_
      ·go_simp
       exact (nplain_v w1 Hv2.out).mono (tell hK)
      rintro _ rfl
      simp only [Act.put, Qa, Qb, Qc]
      refine Walk.tell rfl rfl (fun w1 hI hL K hK => ?_) ?_
      ·go_simp
       exact (tValid_v Hv2.out (hT2.ext hI)).mono (tell hK)
      rintro _ rfl
      simp only [Act.put, Qa, Qb, Qc]
      iterate 2
       refine Walk.one (x := ?_) rfl rfl (fun w1 hI hL K hK => ?_) ?_
       rotate_left
       ·obtain ⟨hc, hf⟩ := bcell hI
        go_simp
        repeat (first | (go_ints; try go_simp) | (simp only [↓IntWalk.iteOmega]; try go_simp))
        exact hK
       simp only [Act.put, Qa, Qb, Qc]
      refine Walk.oneG (x := ?_) rfl (by as_aux_lemma => kernel_rfl) (fun w1 hI hL K hK => ?_) ?_
      rotate_left
      ·obtain ⟨hc, hf⟩ := bcell hI
       go_simp
       repeat (first | (go_ints; try go_simp) | (simp only [↓IntWalk.iteOmega]; try go_simp))
       exact hK
      simp only [Act.put, Qa, Qb, Qc]
      refine Walk.oneG (x := ?_) rfl (by as_aux_lemma => kernel_rfl) (fun w1 hI hL K hK => ?_) ?_
      rotate_left
      ·obtain ⟨hc, hf⟩ := bcell hI
       go_simp
       repeat (first | (go_ints; try go_simp) | (simp only [↓IntWalk.iteOmega]; try go_simp))
       exact hK
      simp only [Act.put, Qa, Qb, Qc]
      refine Walk.oneG (x := ?_) rfl (by as_aux_lemma => kernel_rfl) (fun w1 hI hL K hK => ?_) ?_
      rotate_left
      ·obtain ⟨hc, hf⟩ := bcell hI
       go_simp
       repeat (first | (go_ints; try go_simp) | (simp only [↓IntWalk.iteOmega]; try go_simp))
       exact hK
      simp only [Act.put, Qa, Qb, Qc]
      refine Walk.oneG (x := ?_) rfl (by as_aux_lemma => kernel_rfl) (fun w1 hI hL K hK => ?_) ?_
      rotate_left
      ·obtain ⟨hc, hf⟩ := bcell hI
       go_simp
       repeat (first | (go_ints; try go_simp) | (simp only [↓IntWalk.iteOmega]; try go_simp))
       exact hK
      simp only [Act.put, Qa, Qb, Qc]
      refine Walk.tellG rfl (by as_aux_lemma => kernel_rfl) (fun w1 hI hL K hK => ?_) ?_
      ·go_simp
       exact (nOne_w Hv2.out (hT2.ext hI) ( T.first) 0 1 (by omega) (by omega)).mono (tell hK)
      rintro _ rfl
      simp only [Act.put, Qa, Qb, Qc]
      refine Walk.oneG (x := ?_) rfl (by as_aux_lemma => kernel_rfl) (fun w1 hI hL K hK => ?_) ?_
      rotate_left
      ·obtain ⟨hc, hf⟩ := bcell hI
       go_simp
       repeat (first | (go_ints; try go_simp) | (simp only [↓IntWalk.iteOmega]; try go_simp))
       exact hK
      simp only [Act.put, Qa, Qb, Qc]
      refine Walk.one (x := ?_) rfl rfl (fun w1 hI hL K hK => ?_) ?_
      rotate_left
      ·obtain ⟨hc, hf⟩ := bcell hI
       go_simp
       repeat (first | (go_ints; try go_simp) | (simp only [↓IntWalk.iteOmega]; try go_simp))
       exact hK
      simp only [Act.put, Qa, Qb, Qc]
      refine Walk.nilF fun w45 ew45 kzL kzX => ?_
      have zw45 := ew45.size
      clear kzL kzX
      simp only [List.drop_succ_cons, List.drop_zero, List.drop_nil]
      have xw_w45 := eg x_w44 ew45
      go_wp2_with fail
      clear b4_w44
      go_roundw
      case rel => exact ⟨11 + 1, rfl, by decide, by decide, xw_w45⟩
      case measure => simp [intOf] <;> omega
     ·skip
      replace hR := hR.ext ew9
      have b4_w9 := B4.c3
      have xw_w9 := eg (eg xw_w7 ew8) ew9
      skip
      go_wp2_with fail
      clear hww9
      replace zw9 := le2 zw9
      have hsl := OR.sl hR (k := 0) (by omega)
      refine regionT 17 (fun kk => match kk with | 6 => some (.f (Rat.divInt (((-1))) ((2)))) | 7 => some (.f (Rat.divInt ((3)) ((2)))) | 8 => some (.f (Rat.divInt ((1)) ((65536)))) | 10 => some (.f (Rat.divInt ((65535)) ((65535)))) | 11 => some (.fs w9.heap.size 5) | 15 => some (.uf w9.heap.size) | _ => none) (by as_aux_lemma => kernel_rfl) (head_of (by as_aux_lemma => kernel_rfl)) ?_
      iterate 3
       refine Walk.one (x := ?_) rfl rfl (fun w1 hI hL K hK => ?_) ?_
       rotate_left
       ·obtain ⟨hc, hf⟩ := bcell hI
        go_simp
        repeat (first | (go_ints; try go_simp) | (simp only [↓IntWalk.iteOmega]; try go_simp))
        exact hK
       simp only [Act.put, Qa, Qb, Qc]
      refine Walk.one (x := ?_) rfl rfl (fun w1 hI hL K hK => ?_) ?_
      rotate_left
      ·have x0 := cell_ext hI hsl
       go_simp
       repeat (first | (go_ints; try go_simp) | (simp only [↓IntWalk.iteOmega]; try go_simp))
       exact hK
      simp only [Act.put, Qa, Qb, Qc]
      iterate 2
       refine Walk.one (x := ?_) rfl rfl (fun w1 hI hL K hK => ?_) ?_
       rotate_left
       ·obtain ⟨hc, hf⟩ := bcell hI
        go_simp
        repeat (first | (go_ints; try go_simp) | (simp only [↓IntWalk.iteOmega]; try go_simp))
        exact hK
       simp only [Act.put, Qa, Qb, Qc]
      refine Walk.tell rfl rfl (fun w1 hI hL K hK => ?_) ?_
      ·go_simp
       exact (nquickO ((-1)) (2) w1 (by decide) (by decide) (by decide)).mono (tell hK)
      rintro _ ⟨Z123, rfl⟩
      simp only [Act.put, Qa, Qb, Qc]
      refine Walk.tell rfl rfl (fun w1 hI hL K hK => ?_) ?_
      ·go_simp
       exact (nquickO (3) (2) w1 (by decide) (by decide) (by decide)).mono (tell hK)
      rintro _ ⟨Z124, rfl⟩
      simp only [Act.put, Qa, Qb, Qc]
      refine Walk.tell rfl rfl (fun w1 hI hL K hK => ?_) ?_
      ·go_simp
       exact (nquickO (1) (65536) w1 (by decide) (by decide) (by decide)).mono (tell hK)
      rintro _ ⟨Z125, rfl⟩
      simp only [Act.put, Qa, Qb, Qc]
      refine Walk.one (x := ?_) rfl rfl (fun w1 hI hL K hK => ?_) ?_
      rotate_left
      ·obtain ⟨hc, hf⟩ := bcell hI
       go_simp
       repeat (first | (go_ints; try go_simp) | (simp only [↓IntWalk.iteOmega]; try go_simp))
       exact hK
      simp only [Act.put, Qa, Qb, Qc]
      refine Walk.tell rfl rfl (fun w1 hI hL K hK => ?_) ?_
      ·go_simp
       exact (nquickO (65535) (65535) w1 (by decide) (by decide) (by decide)).mono (tell hK)
      rintro _ ⟨Z127, rfl⟩
      simp only [Act.put, Qa, Qb, Qc]
      refine Walk.tell rfl rfl (fun w1 hI hL K hK => ?_) ?_
      ·skip
       go_simp
       exact tellF5 (Okf.of (Tl.getF (kn (i := 6) (v := .agg #[.bool Z123.N.b, .slice Z123.N.p Z123.N.n Z123.N.c, .bool Z123.D.b, .slice Z123.D.p Z123.D.n Z123.D.c]) rfl (by simp) (pred_of (by as_aux_lemma => kernel_rfl)) hL))) (Okf.of (Tl.getF (kn (i := 7) (v := .agg #[.bool Z124.N.b, .slice Z124.N.p Z124.N.n Z124.N.c, .bool Z124.D.b, .slice Z124.D.p Z124.D.n Z124.D.c]) rfl (by simp) (pred_of (by as_aux_lemma => kernel_rfl)) hL))) (Okf.of (Tl.getF (kn (i := 8) (v := .agg #[.bool Z125.N.b, .slice Z125.N.p Z125.N.n Z125.N.c, .bool Z125.D.b, .slice Z125.D.p Z125.D.n Z125.D.c]) rfl (by simp) (pred_of (by as_aux_lemma => kernel_rfl)) hL))) (Okf.zero _ _) (Okf.of (Tl.getF (kn (i := 10) (v := .agg #[.bool Z127.N.b, .slice Z127.N.p Z127.N.n Z127.N.c, .bool Z127.D.b, .slice Z127.D.p Z127.D.n Z127.D.c]) rfl (by simp) (pred_of (by as_aux_lemma => kernel_rfl)) hL))) hK
      rintro _ ⟨g128, rfl⟩
      simp only [Act.put, Qa, Qb, Qc]
      iterate 3
       refine Walk.one (x := ?_) rfl rfl (fun w1 hI hL K hK => ?_) ?_
       rotate_left
       ·obtain ⟨hc, hf⟩ := bcell hI
        go_simp
        repeat (first | (go_ints; try go_simp) | (simp only [↓IntWalk.iteOmega]; try go_simp))
        exact hK
       simp only [Act.put, Qa, Qb, Qc]
      refine Walk.tell rfl rfl (fun w1 hI hL K hK => ?_) ?_
      ·skip
       obtain ⟨X, hX⟩ := Tl.getFs (kn (i := 11) (v := .slice (some ⟨g128, 0, none⟩) 5 5) rfl (by simp) (pred_of (by as_aux_lemma => kernel_rfl)) hL)
       obtain ⟨hc, hok⟩ := hX 3 (by decide)
       have HO := Lib.hid hok
       clear hok hX
       have y0 : w1.cell? ⟨g128, 12, none⟩ = some (.bool (X 3).N.b) := hc.c0
       have y1 : w1.cell? ⟨g128, 13, none⟩ = some (.slice (X 3).N.p (X 3).N.n (X 3).N.c) := hc.c1
       have y2 : w1.cell? ⟨g128, 14, none⟩ = some (.bool (X 3).D.b) := hc.c2
       have y3 : w1.cell? ⟨g128, 15, none⟩ = some (.slice (X 3).D.p (X 3).D.n (X 3).D.c) := hc.c3
       clear hc
       go_simp
       exact tellUf HO.out hK
      rintro _ ⟨Z132, rfl⟩
      simp only [Act.put, Qa, Qb, Qc]
      refine Walk.one (x := ?_) rfl rfl (fun w1 hI hL K hK => ?_) ?_
      rotate_left
      ·obtain ⟨hc, hf⟩ := bcell hI
       go_simp
       repeat (first | (go_ints; try go_simp) | (simp only [↓IntWalk.iteOmega]; try go_simp))
       exact hK
      simp only [Act.put, Qa, Qb, Qc]
      refine Walk.nilF fun w46 ew46 kzL kzX => ?_
      have zw46 := ew46.size
      have oZ132 := Tl.getUf (kz (i := 15) (v := .agg #[.bool Z132.N.b, .slice Z132.N.p Z132.N.n Z132.N.c, .bool Z132.D.b, .slice Z132.D.p Z132.D.n Z132.D.c]) rfl (by simp) kzL)
      clear kzL kzX
      simp only [List.drop_succ_cons, List.drop_zero, List.drop_nil]
      replace hR := hR.ext ew46
      replace B4 := B4.ext ew46
      have xw_w46 := eg xw_w9 ew46
      obtain ⟨lX, mX, hX, oX⟩ := oZ132
      replace oX := oX.mono xw_w9.size
      obtain ⟨Y, y0, y1, y2, y3⟩ : ∃ Y : Fr, w46.cell? ⟨rb 0, 0, none⟩ = some (.bool Y.N.b) ∧ w46.cell? ⟨rb 0, 1, none⟩ = some (.slice Y.N.p Y.N.n Y.N.c) ∧ w46.cell? ⟨rb 0, 2, none⟩ = some (.bool Y.D.b) ∧ w46.cell? ⟨rb 0, 3, none⟩ = some (.slice Y.D.p Y.D.n Y.D.c) := OR.cell hR (k := 0) (j := 0) (by omega) (by omega)
      have f0 := hR.free (k := 0) (by omega) 0
      have f1 := hR.free (k := 0) (by omega) 1
      have f2 := hR.free (k := 0) (by omega) 2
      have f3 := hR.free (k := 0) (by omega) 3
      obtain ⟨w47, hww47⟩ : ∃ W, ((((w46).setCell ⟨rb 0, 0, none⟩ (.bool Z132.N.b)).setCell ⟨rb 0, 1, none⟩ (.slice Z132.N.p Z132.N.n Z132.N.c)).setCell ⟨rb 0, 2, none⟩ (.bool Z132.D.b)).setCell ⟨rb 0, 3, none⟩ (.slice Z132.D.p Z132.D.n Z132.D.c) = W := ⟨_, rfl⟩
      have kw47 : Keeps (fun x => x = rb 0) w46 w47 := by rw [← hww47]; exact sets_keeps (rb 0) [.bool Z132.N.b, .slice Z132.N.p Z132.N.n Z132.N.c, .bool Z132.D.b, .slice Z132.D.p Z132.D.n Z132.D.c] w46 0
      have zw47 : w47.heap.size = w46.heap.size := by rw [← hww47]; exact size_sets (rb 0) [.bool Z132.N.b, .slice Z132.N.p Z132.N.n Z132.N.c, .bool Z132.D.b, .slice Z132.D.p Z132.D.n Z132.D.c] w46 0
      have Qw47 := OR.put hR (i := 0) (j := 0) (by omega) (by omega) (X := Z132) hX oX
      rw [show Go.Proofs.YtndgaecfeaedeaaGreat.sets w46 (rb 0) (0 * 4) (frV Z132) = w47 from hww47] at Qw47
      replace B4 := hR.kr (k := 0) (by omega) kw47 B4 (by decide)
      have x_w47 := Ext.kb xw_w46 kw47 (OR.rB hR (k := 0) (by omega))
      replace hR := Qw47
      clear kw47
      have b4_w47 := B4.c3
      go_wp2_with fail
      clear hww47
      clear b4_w9
      replace zw47 := le2 zw47
      obtain ⟨T2, hv2, hT2⟩ : ∃ T2 : Tb, T2.val = .agg #[.int .i64 T.first, .int .i64 T.sel, .slice (some ⟨g, 0, none⟩) T.N cZ] ∧ TW w47 T2 := let ⟨T2, a1, a2, _⟩ := OR.tw hR (c := cZ) (show T.N ≤ cZ from hNc) (show T.N ≤ _ by omega) (fun k hk => by have := Rn.out k hk; omega) (first :=  T.first) (sel :=  T.sel) (by omega) (by omega); ⟨T2, a1, a2⟩
      have Hv2 := Lib.hid hv2
      clear hv2
      have hb2 : (okT T2 != okT T2) = false := by simp
      skip
      refine regionT 14 (fun kk => match kk with | 1 => some (.v (.bool (okT T2))) | 3 => some (.v (.agg #[.int .i64 T.first, .int .i64 T.sel, .slice (some ⟨g, 0, none⟩) T.N cZ])) | 4 => some (.v (.bool (okT T2))) | 11 => some (.v (.bool true)) | _ => none) (by as_aux_lemma => kernel_rfl) (head_of (by as_aux_lemma => kernel_rfl)) ?_
      refine Walk.one (x := ?_) rfl rfl (fun w1 hI hL K hK => ?_) ?_
      rotate_left
      ·obtain ⟨hc, hf⟩ := bcell hI
       go_simp
       repeat (first | (go_ints; try go_simp) | (simp only [↓IntWalk.iteOmega]; try go_simp))
       exact hK
      simp only [Act.put, Qa, Qb, Qc]
      refine Walk.tell rfl rfl (fun w1 hI hL K hK => ?_) ?_
      ·go_simp
       exact (lValid_v Hv2.out (hT2.ext hI)).mono (tell hK)
      rintro _ rfl
      simp only [Act.put, Qa, Qb, Qc]
      refine Walk.one (x := ?_) rfl rfl (fun w1 hI hL K hK => ?_) ?_
      rotate_left
      ·obtain ⟨hc, hf⟩ := bcell hI
       go_simp
       repeat (first | (go_ints; try go_simp) | (simp only [↓IntWalk.iteOmega]; try go_simp))
       exact hK
      simp only [Act.put, Qa, Qb, Qc]
      refine Walk.tell rfl rfl (fun w1 hI hL K hK => ?_) ?_
      ·go_simp
       exact (nplain_v w1 Hv2.out).mono (tell hK)
      rintro _ rfl
      simp only [Act.put, Qa, Qb, Qc]
      refine Walk.tell rfl rfl (fun w1 hI hL K hK => ?_) ?_
      ·go_simp
       exact (tValid_v Hv2.out (hT2.ext hI)).mono (tell hK)
      rintro _ rfl
      simp only [Act.put, Qa, Qb, Qc]
      iterate 2
       refine Walk.one (x := ?_) rfl rfl (fun w1 hI hL K hK => ?_) ?_
       rotate_left
       ·obtain ⟨hc, hf⟩ := bcell hI
        go_simp
        repeat (first | (go_ints; try go_simp) | (simp only [↓IntWalk.iteOmega]; try go_simp))
        exact hK
       simp only [Act.put, Qa, Qb, Qc]
      refine Walk.oneG (x := ?_) rfl (by as_aux_lemma => kernel_rfl) (fun w1 hI hL K hK => ?_) ?_
      rotate_left
      ·obtain ⟨hc, hf⟩ := bcell hI
       go_simp
       repeat (first | (go_ints; try go_simp) | (simp only [↓IntWalk.iteOmega]; try go_simp))
       exact hK
      simp only [Act.put, Qa, Qb, Qc]
      refine Walk.oneG (x := ?_) rfl (by as_aux_lemma => kernel_rfl) (fun w1 hI hL K hK => ?_) ?_
      rotate_left
      ·obtain ⟨hc, hf⟩ := bcell hI
       go_simp
       repeat (first | (go_ints; try go_simp) | (simp only [↓IntWalk.iteOmega]; try go_simp))
       exact hK
      simp only [Act.put, Qa, Qb, Qc]
      refine Walk.oneG (x := ?_) rfl (by as_aux_lemma => kernel_rfl) (fun w1 hI hL K hK => ?_) ?_
      rotate_left
      ·obtain ⟨hc, hf⟩ := bcell hI
       go_simp
       repeat (first | (go_ints; try go_simp) | (simp only [↓IntWalk.iteOmega]; try go_simp))
       exact hK
      simp only [Act.put, Qa, Qb, Qc]
      refine Walk.oneG (x := ?_) rfl (by as_aux_lemma => kernel_rfl) (fun w1 hI hL K hK => ?_) ?_
      rotate_left
      ·obtain ⟨hc, hf⟩ := bcell hI
       go_simp
       repeat (first | (go_ints; try go_simp) | (simp only [↓IntWalk.iteOmega]; try go_simp))
       exact hK
      simp only [Act.put, Qa, Qb, Qc]
      refine Walk.tellG rfl (by as_aux_lemma => kernel_rfl) (fun w1 hI hL K hK => ?_) ?_
      ·go_simp
       exact (nOne_w Hv2.out (hT2.ext hI) ( T.first) 0 1 (by omega) (by omega)).mono (tell hK)
      rintro _ rfl
      simp only [Act.put, Qa, Qb, Qc]
      refine Walk.oneG (x := ?_) rfl (by as_aux_lemma => kernel_rfl) (fun w1 hI hL K hK => ?_) ?_
      rotate_left
      ·obtain ⟨hc, hf⟩ := bcell hI
       go_simp
       repeat (first | (go_ints; try go_simp) | (simp only [↓IntWalk.iteOmega]; try go_simp))
       exact hK
      simp only [Act.put, Qa, Qb, Qc]
      refine Walk.one (x := ?_) rfl rfl (fun w1 hI hL K hK => ?_) ?_
      rotate_left
      ·obtain ⟨hc, hf⟩ := bcell hI
       go_simp
       repeat (first | (go_ints; try go_simp) | (simp only [↓IntWalk.iteOmega]; try go_simp))
       exact hK
      simp only [Act.put, Qa, Qb, Qc]
      refine Walk.nilF fun w48 ew48 kzL kzX => ?_
      have zw48 := ew48.size
      clear kzL kzX
      simp only [List.drop_succ_cons, List.drop_zero, List.drop_nil]
      have xw_w48 := eg x_w47 ew48
      go_wp2_with fail
      clear b4_w47
      go_roundw
      case rel => exact ⟨12 + 1, rfl, by decide, by decide, xw_w48⟩
      case measure => simp [intOf] <;> omega
     ·skip
      replace hR := hR.ext ew9
      have b4_w9 := B4.c3
      have xw_w9 := eg (eg xw_w7 ew8) ew9
      skip
      go_wp2_with fail
      clear hww9
      replace zw9 := le2 zw9
      have hsl := OR.sl hR (k := 0) (by omega)
      refine regionT 17 (fun kk => match kk with | 6 => some (.f (Rat.divInt (((-1))) ((2)))) | 7 => some (.f (Rat.divInt ((3)) ((2)))) | 8 => some (.f (Rat.divInt ((1)) ((65536)))) | 10 => some (.f (Rat.divInt ((65535)) ((65535)))) | 11 => some (.fs w9.heap.size 5) | 15 => some (.uf w9.heap.size) | _ => none) (by as_aux_lemma => kernel_rfl) (head_of (by as_aux_lemma => kernel_rfl)) ?_
      iterate 3
       refine Walk.one (x := ?_) rfl rfl (fun w1 hI hL K hK => ?_) ?_
       rotate_left
       ·obtain ⟨hc, hf⟩ := bcell hI
        go_simp
        repeat (first | (go_ints; try go_simp) | (simp only [↓IntWalk.iteOmega]; try go_simp))
        exact hK
       simp only [Act.put, Qa, Qb, Qc]
      refine Walk.one (x := ?_) rfl rfl (fun w1 hI hL K hK => ?_) ?_
      rotate_left
      ·have x0 := cell_ext hI hsl
       go_simp
       repeat (first | (go_ints; try go_simp) | (simp only [↓IntWalk.iteOmega]; try go_simp))
       exact hK
      simp only [Act.put, Qa, Qb, Qc]
      iterate 2
       refine Walk.one (x := ?_) rfl rfl (fun w1 hI hL K hK => ?_) ?_
       rotate_left
       ·obtain ⟨hc, hf⟩ := bcell hI
        go_simp
        repeat (first | (go_ints; try go_simp) | (simp only [↓IntWalk.iteOmega]; try go_simp))
        exact hK
       simp only [Act.put, Qa, Qb, Qc]
      refine Walk.tell rfl rfl (fun w1 hI hL K hK => ?_) ?_
      ·go_simp
       exact (nquickO ((-1)) (2) w1 (by decide) (by decide) (by decide)).mono (tell hK)
      rintro _ ⟨Z123, rfl⟩
      simp only [Act.put, Qa, Qb, Qc]
      refine Walk.tell rfl rfl (fun w1 hI hL K hK => ?_) ?_
      ·go_simp
       exact (nquickO (3) (2) w1 (by decide) (by decide) (by decide)).mono (tell hK)
      rintro _ ⟨Z124, rfl⟩
      simp only [Act.put, Qa, Qb, Qc]
      refine Walk.tell rfl rfl (fun w1 hI hL K hK => ?_) ?_
      ·go_simp
       exact (nquickO (1) (65536) w1 (by decide) (by decide) (by decide)).mono (tell hK)
      rintro _ ⟨Z125, rfl⟩
      simp only [Act.put, Qa, Qb, Qc]
      refine Walk.one (x := ?_) rfl rfl (fun w1 hI hL K hK => ?_) ?_
      rotate_left
      ·obtain ⟨hc, hf⟩ := bcell hI
       go_simp
       repeat (first | (go_ints; try go_simp) | (simp only [↓IntWalk.iteOmega]; try go_simp))
       exact hK
      simp only [Act.put, Qa, Qb, Qc]
      refine Walk.tell rfl rfl (fun w1 hI hL K hK => ?_) ?_
      ·go_simp
       exact (nquickO (65535) (65535) w1 (by decide) (by decide) (by decide)).mono (tell hK)
      rintro _ ⟨Z127, rfl⟩
      simp only [Act.put, Qa, Qb, Qc]
      refine Walk.tell rfl rfl (fun w1 hI hL K hK => ?_) ?_
      ·skip
       go_simp
       exact tellF5 (Okf.of (Tl.getF (kn (i := 6) (v := .agg #[.bool Z123.N.b, .slice Z123.N.p Z123.N.n Z123.N.c, .bool Z123.D.b, .slice Z123.D.p Z123.D.n Z123.D.c]) rfl (by simp) (pred_of (by as_aux_lemma => kernel_rfl)) hL))) (Okf.of (Tl.getF (kn (i := 7) (v := .agg #[.bool Z124.N.b, .slice Z124.N.p Z124.N.n Z124.N.c, .bool Z124.D.b, .slice Z124.D.p Z124.D.n Z124.D.c]) rfl (by simp) (pred_of (by as_aux_lemma => kernel_rfl)) hL))) (Okf.of (Tl.getF (kn (i := 8) (v := .agg #[.bool Z125.N.b, .slice Z125.N.p Z125.N.n Z125.N.c, .bool Z125.D.b, .slice Z125.D.p Z125.D.n Z125.D.c]) rfl (by simp) (pred_of (by as_aux_lemma => kernel_rfl)) hL))) (Okf.zero _ _) (Okf.of (Tl.getF (kn (i := 10) (v := .agg #[.bool Z127.N.b, .slice Z127.N.p Z127.N.n Z127.N.c, .bool Z127.D.b, .slice Z127.D.p Z127.D.n Z127.D.c]) rfl (by simp) (pred_of (by as_aux_lemma => kernel_rfl)) hL))) hK
      rintro _ ⟨g128, rfl⟩
      simp only [Act.put, Qa, Qb, Qc]
      iterate 3
       refine Walk.one (x := ?_) rfl rfl (fun w1 hI hL K hK => ?_) ?_
       rotate_left
       ·obtain ⟨hc, hf⟩ := bcell hI
        go_simp
        repeat (first | (go_ints; try go_simp) | (simp only [↓IntWalk.iteOmega]; try go_simp))
        exact hK
       simp only [Act.put, Qa, Qb, Qc]
      refine Walk.tell rfl rfl (fun w1 hI hL K hK => ?_) ?_
      ·skip
       obtain ⟨X, hX⟩ := Tl.getFs (kn (i := 11) (v := .slice (some ⟨g128, 0, none⟩) 5 5) rfl (by simp) (pred_of (by as_aux_lemma => kernel_rfl)) hL)
       obtain ⟨hc, hok⟩ := hX 4 (by decide)
       have HO := Lib.hid hok
       clear hok hX
       have y0 : w1.cell? ⟨g128, 16, none⟩ = some (.bool (X 4).N.b) := hc.c0
       have y1 : w1.cell? ⟨g128, 17, none⟩ = some (.slice (X 4).N.p (X 4).N.n (X 4).N.c) := hc.c1
       have y2 : w1.cell? ⟨g128, 18, none⟩ = some (.bool (X 4).D.b) := hc.c2
       have y3 : w1.cell? ⟨g128, 19, none⟩ = some (.slice (X 4).D.p (X 4).D.n (X 4).D.c) := hc.c3
       clear hc
       go_simp
       exact tellUf HO.out hK
      rintro _ ⟨Z132, rfl⟩
      simp only [Act.put, Qa, Qb, Qc]
      refine Walk.one (x := ?_) rfl rfl (fun w1 hI hL K hK => ?_) ?_
      rotate_left
      ·obtain ⟨hc, hf⟩ := bcell hI
       go_simp
       repeat (first | (go_ints; try go_simp) | (simp only [↓IntWalk.iteOmega]; try go_simp))
       exact hK
      simp only [Act.put, Qa, Qb, Qc]
      refine Walk.nilF fun w49 ew49 kzL kzX => ?_
      have zw49 := ew49.size
      have oZ132 := Tl.getUf (kz (i := 15) (v := .agg #[.bool Z132.N.b, .slice Z132.N.p Z132.N.n Z132.N.c, .bool Z132.D.b, .slice Z132.D.p Z132.D.n Z132.D.c]) rfl (by simp) kzL)
      clear kzL kzX
      simp only [List.drop_succ_cons, List.drop_zero, List.drop_nil]
      replace hR := hR.ext ew49
      replace B4 := B4.ext ew49
      have xw_w49 := eg xw_w9 ew49
      obtain ⟨lX, mX, hX, oX⟩ := oZ132
      replace oX := oX.mono xw_w9.size
      obtain ⟨Y, y0, y1, y2, y3⟩ : ∃ Y : Fr, w49.cell? ⟨rb 0, 4, none⟩ = some (.bool Y.N.b) ∧ w49.cell? ⟨rb 0, 5, none⟩ = some (.slice Y.N.p Y.N.n Y.N.c) ∧ w49.cell? ⟨rb 0, 6, none⟩ = some (.bool Y.D.b) ∧ w49.cell? ⟨rb 0, 7, none⟩ = some (.slice Y.D.p Y.D.n Y.D.c) := OR.cell hR (k := 0) (j := 1) (by omega) (by omega)
      have f0 := hR.free (k := 0) (by omega) 4
      have f1 := hR.free (k := 0) (by omega) 5
      have f2 := hR.free (k := 0) (by omega) 6
      have f3 := hR.free (k := 0) (by omega) 7
      obtain ⟨w50, hww50⟩ : ∃ W, ((((w49).setCell ⟨rb 0, 4, none⟩ (.bool Z132.N.b)).setCell ⟨rb 0, 5, none⟩ (.slice Z132.N.p Z132.N.n Z132.N.c)).setCell ⟨rb 0, 6, none⟩ (.bool Z132.D.b)).setCell ⟨rb 0, 7, none⟩ (.slice Z132.D.p Z132.D.n Z132.D.c) = W := ⟨_, rfl⟩
      have kw50 : Keeps (fun x => x = rb 0) w49 w50 := by rw [← hww50]; exact sets_keeps (rb 0) [.bool Z132.N.b, .slice Z132.N.p Z132.N.n Z132.N.c, .bool Z132.D.b, .slice Z132.D.p Z132.D.n Z132.D.c] w49 4
      have zw50 : w50.heap.size = w49.heap.size := by rw [← hww50]; exact size_sets (rb 0) [.bool Z132.N.b, .slice Z132.N.p Z132.N.n Z132.N.c, .bool Z132.D.b, .slice Z132.D.p Z132.D.n Z132.D.c] w49 4
      have Qw50 := OR.put hR (i := 0) (j := 1) (by omega) (by omega) (X := Z132) hX oX
      rw [show Go.Proofs.YtndgaecfeaedeaaGreat.sets w49 (rb 0) (1 * 4) (frV Z132) = w50 from hww50] at Qw50
      replace B4 := hR.kr (k := 0) (by omega) kw50 B4 (by decide)
      have x_w50 := Ext.kb xw_w49 kw50 (OR.rB hR (k := 0) (by omega))
      replace hR := Qw50
      clear kw50
      have b4_w50 := B4.c3
      go_wp2_with fail
      clear hww50
      clear b4_w9
      replace zw50 := le2 zw50
      obtain ⟨T2, hv2, hT2⟩ : ∃ T2 : Tb, T2.val = .agg #[.int .i64 T.first, .int .i64 T.sel, .slice (some ⟨g, 0, none⟩) T.N cZ] ∧ TW w50 T2 := let ⟨T2, a1, a2, _⟩ := OR.tw hR (c := cZ) (show T.N ≤ cZ from hNc) (show T.N ≤ _ by omega) (fun k hk => by have := Rn.out k hk; omega) (first :=  T.first) (sel :=  T.sel) (by omega) (by omega); ⟨T2, a1, a2⟩
      have Hv2 := Lib.hid hv2
      clear hv2
      have hb2 : (okT T2 != okT T2) = false := by simp
      skip
      refine regionT 14 (fun kk => match kk with | 1 => some (.v (.bool (okT T2))) | 3 => some (.v (.agg #[.int .i64 T.first, .int .i64 T.sel, .slice (some ⟨g, 0, none⟩) T.N cZ])) | 4 => some (.v (.bool (okT T2))) | 11 => some (.v (.bool true)) | _ => none) (by as_aux_lemma => kernel_rfl) (head_of (by as_aux_lemma => kernel_rfl)) ?_
      refine Walk.one (x := ?_) rfl rfl (fun w1 hI hL K hK => ?_) ?_
      rotate_left
      ·obtain ⟨hc, hf⟩ := bcell hI
       go_simp
       repeat (first | (go_ints; try go_simp) | (simp only [↓IntWalk.iteOmega]; try go_simp))
       exact hK
      simp only [Act.put, Qa, Qb, Qc]
      refine Walk.tell rfl rfl (fun w1 hI hL K hK => ?_) ?_
      ·go_simp
       exact (lValid_v Hv2.out (hT2.ext hI)).mono (tell hK)
      rintro _ rfl
      simp only [Act.put, Qa, Qb, Qc]
      refine Walk.one (x := ?_) rfl rfl (fun w1 hI hL K hK => ?_) ?_
      rotate_left
      ·obtain ⟨hc, hf⟩ := bcell hI
       go_simp
       repeat (first | (go_ints; try go_simp) | (simp only [↓IntWalk.iteOmega]; try go_simp))
       exact hK
      simp only [Act.put, Qa, Qb, Qc]
      refine Walk.tell rfl rfl (fun w1 hI hL K hK => ?_) ?_
      ·go_simp
       exact (nplain_v w1 Hv2.out).mono (tell hK)
      rintro _ rfl
      simp only [Act.put, Qa, Qb, Qc]
      refine Walk.tell rfl rfl (fun w1 hI hL K hK => ?_) ?_
      ·go_simp
       exact (tValid_v Hv2.out (hT2.ext hI)).mono (tell hK)
      rintro _ rfl
      simp only [Act.put, Qa, Qb, Qc]
      iterate 2
       refine Walk.one (x := ?_) rfl rfl (fun w1 hI hL K hK => ?_) ?_
       rotate_left
       ·obtain ⟨hc, hf⟩ := bcell hI
        go_simp
        repeat (first | (go_ints; try go_simp) | (simp only [↓IntWalk.iteOmega]; try go_simp))
        exact hK
       simp only [Act.put, Qa, Qb, Qc]
      refine Walk.oneG (x := ?_) rfl (by as_aux_lemma => kernel_rfl) (fun w1 hI hL K hK => ?_) ?_
      rotate_left
      ·obtain ⟨hc, hf⟩ := bcell hI
       go_simp
       repeat (first | (go_ints; try go_simp) | (simp only [↓IntWalk.iteOmega]; try go_simp))
       exact hK
      simp only [Act.put, Qa, Qb, Qc]
      refine Walk.oneG (x := ?_) rfl (by as_aux_lemma => kernel_rfl) (fun w1 hI hL K hK => ?_) ?_
      rotate_left
      ·obtain ⟨hc, hf⟩ := bcell hI
       go_simp
       repeat (first | (go_ints; try go_simp) | (simp only [↓IntWalk.iteOmega]; try go_simp))
       exact hK
      simp only [Act.put, Qa, Qb, Qc]
      refine Walk.oneG (x := ?_) rfl (by as_aux_lemma => kernel_rfl) (fun w1 hI hL K hK => ?_) ?_
      rotate_left
      ·obtain ⟨hc, hf⟩ := bcell hI
       go_simp
       repeat (first | (go_ints; try go_simp) | (simp only [↓IntWalk.iteOmega]; try go_simp))
       exact hK
      simp only [Act.put, Qa, Qb, Qc]
      refine Walk.oneG (x := ?_) rfl (by as_aux_lemma => kernel_rfl) (fun w1 hI hL K hK => ?_) ?_
      rotate_left
      ·obtain ⟨hc, hf⟩ := bcell hI
       go_simp
       repeat (first | (go_ints; try go_simp) | (simp only [↓IntWalk.iteOmega]; try go_simp))
       exact hK
      simp only [Act.put, Qa, Qb, Qc]
      refine Walk.tellG rfl (by as_aux_lemma => kernel_rfl) (fun w1 hI hL K hK => ?_) ?_
      ·go_simp
       exact (nOne_w Hv2.out (hT2.ext hI) ( T.first) 0 1 (by omega) (by omega)).mono (tell hK)
      rintro _ rfl
      simp only [Act.put, Qa, Qb, Qc]
      refine Walk.oneG (x := ?_) rfl (by as_aux_lemma => kernel_rfl) (fun w1 hI hL K hK => ?_) ?_
      rotate_left
      ·obtain ⟨hc, hf⟩ := bcell hI
       go_simp
       repeat (first | (go_ints; try go_simp) | (simp only [↓IntWalk.iteOmega]; try go_simp))
       exact hK
      simp only [Act.put, Qa, Qb, Qc]
      refine Walk.one (x := ?_) rfl rfl (fun w1 hI hL K hK => ?_) ?_
      rotate_left
      ·obtain ⟨hc, hf⟩ := bcell hI
       go_simp
       repeat (first | (go_ints; try go_simp) | (simp only [↓IntWalk.iteOmega]; try go_simp))
       exact hK
      simp only [Act.put, Qa, Qb, Qc]
      refine Walk.nilF fun w51 ew51 kzL kzX => ?_
      have zw51 := ew51.size
      clear kzL kzX
      simp only [List.drop_succ_cons, List.drop_zero, List.drop_nil]
      have xw_w51 := eg x_w50 ew51
      go_wp2_with fail
      clear b4_w50
      go_roundw
      case rel => exact ⟨13 + 1, rfl, by decide, by decide, xw_w51⟩
      case measure => simp [intOf] <;> omega
     ·skip
      have b4_w9 := B4.c3
      have fb4_w9 := B4.f3
      replace hR := hR.ext ew9
      have xw_w9 := eg (eg xw_w7 ew8) ew9
      skip
      obtain ⟨w52, hww52⟩ : ∃ W, (w9).setCell ⟨w8.heap.size, 2, none⟩ (.slice none 0 0) = W := ⟨_, rfl⟩
      have kw52 : Keeps (fun x => x = w8.heap.size) w9 w52 := by rw [← hww52]; exact sets_keeps (w8.heap.size) [.slice none 0 0] w9 2
      have Nw52 : Cells w52 (w8.heap.size) 24 #[.int .i64 T.first, .int .i64 T.sel, .slice none 0 0] := by rw [← hww52]; exact Cells.sets [.slice none 0 0] B4 2
      have zw52 : w52.heap.size = w9.heap.size := by rw [← hww52]; exact size_sets (w8.heap.size) [.slice none 0 0] w9 2
      have nuw52 : NoU #[.int .i64 T.first, .int .i64 T.sel, .slice (some ⟨g, 0, none⟩) T.N cZ] := by simp [NoU]
      replace hR := OR.kb hR B4 nuw52 kw52
      have xw_w52 := Ext.kb xw_w9 kw52 (by omega)
      replace B4 := Nw52
      clear Nw52 kw52
      have b4_w52 := B4.c3
      go_wp2_with fail
      clear hww9 hww52
      clear b4_w9 fb4_w9
      replace zw9 := le2 zw9
      replace zw52 := le2 zw52
      obtain ⟨T2, hv2, hT2⟩ := TW_nil w52 ( T.first) ( T.sel) (by omega) (by omega)
      have Hv2 := Lib.hid hv2
      clear hv2
      have hb2 : (okT T2 != okT T2) = false := by simp
      skip
      refine regionT 14 (fun kk => match kk with | 1 => some (.v (.bool (okT T2))) | 3 => some (.v (.agg #[.int .i64 T.first, .int .i64 T.sel, .slice none 0 0])) | 4 => some (.v (.bool (okT T2))) | 11 => some (.v (.bool true)) | _ => none) (by as_aux_lemma => kernel_rfl) (head_of (by as_aux_lemma => kernel_rfl)) ?_
      refine Walk.one (x := ?_) rfl rfl (fun w1 hI hL K hK => ?_) ?_
      rotate_left
      ·obtain ⟨hc, hf⟩ := bcell hI
       go_simp
       repeat (first | (go_ints; try go_simp) | (simp only [↓IntWalk.iteOmega]; try go_simp))
       exact hK
      simp only [Act.put, Qa, Qb, Qc]
      refine Walk.tell rfl rfl (fun w1 hI hL K hK => ?_) ?_
      ·go_simp
       exact (lValid_v Hv2.out (hT2.ext hI)).mono (tell hK)
      rintro _ rfl
      simp only [Act.put, Qa, Qb, Qc]
      refine Walk.one (x := ?_) rfl rfl (fun w1 hI hL K hK => ?_) ?_
      rotate_left
      ·obtain ⟨hc, hf⟩ := bcell hI
       go_simp
       repeat (first | (go_ints; try go_simp) | (simp only [↓IntWalk.iteOmega]; try go_simp))
       exact hK
      simp only [Act.put, Qa, Qb, Qc]
      refine Walk.tell rfl rfl (fun w1 hI hL K hK => ?_) ?_
      ·go_simp
       exact (nplain_v w1 Hv2.out).mono (tell hK)
      rintro _ rfl
      simp only [Act.put, Qa, Qb, Qc]
      refine Walk.tell rfl rfl (fun w1 hI hL K hK => ?_) ?_
      ·go_simp
       exact (tValid_v Hv2.out (hT2.ext hI)).mono (tell hK)
      rintro _ rfl
      simp only [Act.put, Qa, Qb, Qc]
      iterate 2
       refine Walk.one (x := ?_) rfl rfl (fun w1 hI hL K hK => ?_) ?_
       rotate_left
       ·obtain ⟨hc, hf⟩ := bcell hI
        go_simp
        repeat (first | (go_ints; try go_simp) | (simp only [↓IntWalk.iteOmega]; try go_simp))
        exact hK
       simp only [Act.put, Qa, Qb, Qc]
      refine Walk.oneG (x := ?_) rfl (by as_aux_lemma => kernel_rfl) (fun w1 hI hL K hK => ?_) ?_
      rotate_left
      ·obtain ⟨hc, hf⟩ := bcell hI
       go_simp
       repeat (first | (go_ints; try go_simp) | (simp only [↓IntWalk.iteOmega]; try go_simp))
       exact hK
      simp only [Act.put, Qa, Qb, Qc]
      refine Walk.oneG (x := ?_) rfl (by as_aux_lemma => kernel_rfl) (fun w1 hI hL K hK => ?_) ?_
      rotate_left
      ·obtain ⟨hc, hf⟩ := bcell hI
       go_simp
       repeat (first | (go_ints; try go_simp) | (simp only [↓IntWalk.iteOmega]; try go_simp))
       exact hK
      simp only [Act.put, Qa, Qb, Qc]
      refine Walk.oneG (x := ?_) rfl (by as_aux_lemma => kernel_rfl) (fun w1 hI hL K hK => ?_) ?_
      rotate_left
      ·obtain ⟨hc, hf⟩ := bcell hI
       go_simp
       repeat (first | (go_ints; try go_simp) | (simp only [↓IntWalk.iteOmega]; try go_simp))
       exact hK
      simp only [Act.put, Qa, Qb, Qc]
      refine Walk.oneG (x := ?_) rfl (by as_aux_lemma => kernel_rfl) (fun w1 hI hL K hK => ?_) ?_
      rotate_left
      ·obtain ⟨hc, hf⟩ := bcell hI
       go_simp
       repeat (first | (go_ints; try go_simp) | (simp only [↓IntWalk.iteOmega]; try go_simp))
       exact hK
      simp only [Act.put, Qa, Qb, Qc]
      refine Walk.tellG rfl (by as_aux_lemma => kernel_rfl) (fun w1 hI hL K hK => ?_) ?_
      ·go_simp
       exact (nOne_w Hv2.out (hT2.ext hI) ( T.first) 0 1 (by omega) (by omega)).mono (tell hK)
      rintro _ rfl
      simp only [Act.put, Qa, Qb, Qc]
      refine Walk.oneG (x := ?_) rfl (by as_aux_lemma => kernel_rfl) (fun w1 hI hL K hK => ?_) ?_
      rotate_left
      ·obtain ⟨hc, hf⟩ := bcell hI
       go_simp
       repeat (first | (go_ints; try go_simp) | (simp only [↓IntWalk.iteOmega]; try go_simp))
       exact hK
      simp only [Act.put, Qa, Qb, Qc]
      refine Walk.one (x := ?_) rfl rfl (fun w1 hI hL K hK => ?_) ?_
      rotate_left
      ·obtain ⟨hc, hf⟩ := bcell hI
       go_simp
       repeat (first | (go_ints; try go_simp) | (simp only [↓IntWalk.iteOmega]; try go_simp))
       exact hK
      simp only [Act.put, Qa, Qb, Qc]
      refine Walk.nilF fun w53 ew53 kzL kzX => ?_
      have zw53 := ew53.size
      clear kzL kzX
      simp only [List.drop_succ_cons, List.drop_zero, List.drop_nil]
      have xw_w53 := eg xw_w52 ew53
      go_wp2_with fail
      clear b4_w52
      go_roundw
      case rel => exact ⟨14 + 1, rfl, by decide, by decide, xw_w53⟩
      case measure => simp [intOf] <;> omega
     ·skip
      replace hR := hR.ext ew9
      have b4_w9 := B4.c3
      have xw_w9 := eg (eg xw_w7 ew8) ew9
      skip
      go_wp2_with fail
      clear hww9
      replace zw9 := le2 zw9
      obtain ⟨T2, hv2, hT2⟩ : ∃ T2 : Tb, T2.val = .agg #[.int .i64 T.first, .int .i64 T.sel, .slice (some ⟨g, 0, none⟩) T.N cZ] ∧ TW w9 T2 := let ⟨T2, a1, a2, _⟩ := OR.tw hR (c := cZ) (show T.N ≤ cZ from hNc) (show T.N ≤ _ by omega) (fun k hk => by have := Rn.out k hk; omega) (first :=  T.first) (sel :=  T.sel) (by omega) (by omega); ⟨T2, a1, a2⟩
      have Hv2 := Lib.hid hv2
      clear hv2
      have hb2 : (okT T2 != okT T2) = false := by simp
      skip
      refine regionT 14 (fun kk => match kk with | 1 => some (.v (.bool (okT T2))) | 3 => some (.v (.agg #[.int .i64 T.first, .int .i64 T.sel, .slice (some ⟨g, 0, none⟩) T.N cZ])) | 4 => some (.v (.bool (okT T2))) | 11 => some (.v (.bool true)) | _ => none) (by as_aux_lemma => kernel_rfl) (head_of (by as_aux_lemma => kernel_rfl)) ?_
      refine Walk.one (x := ?_) rfl rfl (fun w1 hI hL K hK => ?_) ?_
      rotate_left
      ·obtain ⟨hc, hf⟩ := bcell hI
       go_simp
       repeat (first | (go_ints; try go_simp) | (simp only [↓IntWalk.iteOmega]; try go_simp))
       exact hK
      simp only [Act.put, Qa, Qb, Qc]
      refine Walk.tell rfl rfl (fun w1 hI hL K hK => ?_) ?_
      ·go_simp
       exact (lValid_v Hv2.out (hT2.ext hI)).mono (tell hK)
      rintro _ rfl
      simp only [Act.put, Qa, Qb, Qc]
      refine Walk.one (x := ?_) rfl rfl (fun w1 hI hL K hK => ?_) ?_
      rotate_left
      ·obtain ⟨hc, hf⟩ := bcell hI
       go_simp
       repeat (first | (go_ints; try go_simp) | (simp only [↓IntWalk.iteOmega]; try go_simp))
       exact hK
      simp only [Act.put, Qa, Qb, Qc]
      refine Walk.tell rfl rfl (fun w1 hI hL K hK => ?_) ?_
      ·go_simp
       exact (nplain_v w1 Hv2.out).mono (tell hK)
      rintro _ rfl
      simp only [Act.put, Qa, Qb, Qc]
      refine Walk.tell rfl rfl (fun w1 hI hL K hK => ?_) ?_
      ·go_simp
       exact (tValid_v Hv2.out (hT2.ext hI)).mono (tell hK)
      rintro _ rfl
      simp only [Act.put, Qa, Qb, Qc]
      iterate 2
       refine Walk.one (x := ?_) rfl rfl (fun w1 hI hL K hK => ?_) ?_
       rotate_left
       ·obtain ⟨hc, hf⟩ := bcell hI
        go_simp
        repeat (first | (go_ints; try go_simp) | (simp only [↓IntWalk.iteOmega]; try go_simp))
        exact hK
       simp only [Act.put, Qa, Qb, Qc]
      refine Walk.oneG (x := ?_) rfl (by as_aux_lemma => kernel_rfl) (fun w1 hI hL K hK => ?_) ?_
      rotate_left
      ·obtain ⟨hc, hf⟩ := bcell hI
       go_simp
       repeat (first | (go_ints; try go_simp) | (simp only [↓IntWalk.iteOmega]; try go_simp))
       exact hK
      simp only [Act.put, Qa, Qb, Qc]
      refine Walk.oneG (x := ?_) rfl (by as_aux_lemma => kernel_rfl) (fun w1 hI hL K hK => ?_) ?_
      rotate_left
      ·obtain ⟨hc, hf⟩ := bcell hI
       go_simp
       repeat (first | (go_ints; try go_simp) | (simp only [↓IntWalk.iteOmega]; try go_simp))
       exact hK
      simp only [Act.put, Qa, Qb, Qc]
      refine Walk.oneG (x := ?_) rfl (by as_aux_lemma => kernel_rfl) (fun w1 hI hL K hK => ?_) ?_
      rotate_left
      ·obtain ⟨hc, hf⟩ := bcell hI
       go_simp
       repeat (first | (go_ints; try go_simp) | (simp only [↓IntWalk.iteOmega]; try go_simp))
       exact hK
      simp only [Act.put, Qa, Qb, Qc]
      refine Walk.oneG (x := ?_) rfl (by as_aux_lemma => kernel_rfl) (fun w1 hI hL K hK => ?_) ?_
      rotate_left
      ·obtain ⟨hc, hf⟩ := bcell hI
       go_simp
       repeat (first | (go_ints; try go_simp) | (simp only [↓IntWalk.iteOmega]; try go_simp))
       exact hK
      simp only [Act.put, Qa, Qb, Qc]
      refine Walk.tellG rfl (by as_aux_lemma => kernel_rfl) (fun w1 hI hL K hK => ?_) ?_
      ·go_simp
       exact (nOne_w Hv2.out (hT2.ext hI) ( T.first) 0 1 (by omega) (by omega)).mono (tell hK)
      rintro _ rfl
      simp only [Act.put, Qa, Qb, Qc]
      refine Walk.oneG (x := ?_) rfl (by as_aux_lemma => kernel_rfl) (fun w1 hI hL K hK => ?_) ?_
      rotate_left
      ·obtain ⟨hc, hf⟩ := bcell hI
       go_simp
       repeat (first | (go_ints; try go_simp) | (simp only [↓IntWalk.iteOmega]; try go_simp))
       exact hK
      simp only [Act.put, Qa, Qb, Qc]
      refine Walk.one (x := ?_) rfl rfl (fun w1 hI hL K hK => ?_) ?_
      rotate_left
      ·obtain ⟨hc, hf⟩ := bcell hI
       go_simp
       repeat (first | (go_ints; try go_simp) | (simp only [↓IntWalk.iteOmega]; try go_simp))
       exact hK
      simp only [Act.put, Qa, Qb, Qc]
      refine Walk.nilF fun w54 ew54 kzL kzX => ?_
      have zw54 := ew54.size
      clear kzL kzX
      simp only [List.drop_succ_cons, List.drop_zero, List.drop_nil]
      have xw_w54 := eg xw_w9 ew54
      go_wp2_with fail
      clear b4_w9
      go_roundw
      case rel => exact ⟨15 + 1, rfl, by decide, by decide, xw_w54⟩
      case measure => simp [intOf] <;> omega
    ·skip
     go_wp2_with fail
     go_loopw [9, 8] (fun v9 v8 r41 => ∃ (m : Nat), v9 = .int .i64 (m : Nat) ∧ v8 = v8 ∧ m ≤ 112 ∧ O1 w.heap.size r41 m v8 ∧ Ext w r41) (fun v9 _ _ => (112 - intOf v9).toNat)
     case atStart => exact ⟨0, rfl, rfl, by omega, O1.nil _ _, xw_r12⟩
     case round =>
      obtain ⟨r41, hqr41⟩ : ∃ r, r = wr := ⟨_, rfl⟩
      subst hqr41
      obtain ⟨m, rfl, -, hm, hO, xw_r41⟩ := hrel
      have zr41 := xw_r41.size
      skip
      by_cases hm2 : m < 112
      ·skip
       obtain ⟨vs, hl, hC, hO1⟩ := hO
       have Hl := Lib.hid hl
       clear hl
       have hlt : ∀ (i : Nat) (x : Value) (a : Nat), vs[i]? = some x → x.ownBlock = some a → a < r41.heap.size := fun i x a hx ha => (hC.lt hx ha).2
       replace hO1 : OwR w.heap.size r41 m u8 vs := hO1
       skip
       go_wp2_with fail
       refine (nquickO (1) (1) _ (by decide) (by decide) (by decide)).mono (Gv.onFo fun Z156 w55 hZ156 oZ156 ew55 zw55 => ?_)
       replace oZ156 := oZ156.mono xw_r41.size
       obtain ⟨w56, hww56, ew56, B12, zw56⟩ := alloc_at w55 (w55.heap.size) (by omega) #[.bool Z156.N.b, .slice Z156.N.p Z156.N.n Z156.N.c, .bool Z156.D.b, .slice Z156.D.p Z156.D.n Z156.D.c] 40
       obtain ⟨w57, hww57, ew57, B13, zw57⟩ := alloc_at w56 (w55.heap.size + 1) (by omega) #[.slice (some ⟨w55.heap.size, 0, none⟩) 1 1] 47
       have xr41_w57 := eg (eg ew55 ew56) ew57
       replace hC := hC.ext xr41_w57
       replace hO1 := hO1.ext xr41_w57
       have xw55_w57 := eg ew56 ew57
       replace hZ156 := hZ156.ext xw55_w57
       replace oZ156 := oZ156.ext xw55_w57
       replace B12 := B12.ext ew57
       have xw_w57 := eg (eg (eg xw_r41 ew55) ew56) ew57
       have hu := T1_row (n := 112) (k := m) (m := w55.heap.size) (B := w.heap.size) B12 (hZ156) (oZ156) (by omega) (Nat.le_refl _)
       have hlt2 : ∀ (i : Nat) (x : Value) (a : Nat), vs[i]? = some x → x.ownBlock = some a → a < w55.heap.size := fun i x a hx ha => Nat.lt_of_lt_of_le (hlt i x a hx ha) (by omega)
       have hu2 := Lib.hid hu
       have hlt3 := Lib.hid hlt2
       clear hu hlt2 hlt
       have hsz := (xw_w57).size
       go_wp2_with (at_builtin; refine wpList_append_own _ rfl (.tmp 155) (.tmp 158) 22 rfl w.heap.size 47 i0 (.slice none 0 0) 1 24 Tryz.underlying22 qi qz0 qz1 qz2 rfl (by omega) _ m vs rfl hO1 ⟨w55.heap.size + 1, 0, none⟩ 1 1 [.slice (some ⟨w55.heap.size, 0, none⟩) 1 1] rfl rfl (fun j x hj => ?c1) ?c2 (by unfold maxLen; omega) (by omega) hsz ?_)
       case c1 =>
        match j, hj with
        | 0, hj =>
         simp at hj; subst hj
         have := B13.cell (k := 0) (v := .slice (some ⟨w55.heap.size, 0, none⟩) 1 1) rfl
         simpa [Addr.add] using this
       case c2 => intro u hu; simp at hu; subst hu; rfl
       clear hww56 hww57
       intro V2 w58 hown hgrow hnl
       have x_w58 : Ext w w58 := ((Keeps.of_ext (M := fun b => w.heap.size ≤ b) xw_w57).grown hgrow (fun b hb => (hO1.lt b hb).1)).ext fun b hb => hb
       have hO2 : O1 w.heap.size w58 (m + 1) V2 := O1.snoc Hl.out hC hO1 hu2.out hlt3.out hown hgrow
       clear hnl hown hgrow hO1 hC hu2 hlt3 hsz
       go_wp2_with fail
       go_roundw
       case rel => exact ⟨m + 1, rfl, by trivial, by omega, hO2, x_w58⟩
       case measure => simp [intOf] <;> omega
      ·skip
       obtain rfl : m = 112 := by omega
       obtain ⟨w59, hww59, ew59, B14, zw59⟩ := alloc_at r41 (r41.heap.size) (by omega) #[.int .i64 0, .int .i64 0] 26
       obtain ⟨w60, hww60, ew60, B15, zw60⟩ := alloc_at w59 (r41.heap.size + 1) (by omega) #[.int .i64 0, .int .i64 0] 26
       replace B14 := B14.ext ew60
       have b14_w60 := B14.c2
       have fb14_w60 := B14.f2
       have xr41_w60 := eg ew59 ew60
       replace hO := hO.ext xr41_w60
       have xw_w60 := eg (eg xw_r41 ew59) ew60
       obtain ⟨w61, hww61, kw61, Nw61, zw61⟩ := B14.put2 (.int .i64 110) (.int .i64 300)
       have nuw61 : NoU #[.int .i64 0, .int .i64 0] := by simp [NoU]
       replace hO := O1.kb hO B14 nuw61 kw61
       replace B15 := B15.kb kw61 (by omega)
       have xw_w61 := Ext.kb xw_w60 kw61 (by omega)
       replace B14 := Nw61
       clear Nw61 kw61
       have b15_w61 := B15.c2
       have fb15_w61 := B15.f2
       obtain ⟨w62, hww62, kw62, Nw62, zw62⟩ := B15.put2 (.int .i64 0) (.int .i64 301)
       have nuw62 : NoU #[.int .i64 0, .int .i64 0] := by simp [NoU]
       replace hO := O1.kb hO B15 nuw62 kw62
       replace B14 := B14.kb kw62 (by omega)
       have xw_w62 := Ext.kb xw_w61 kw62 (by omega)
       replace B15 := Nw62
       clear Nw62 kw62
       have b14_w62 := B14.c2
       have b15_w62 := B15.c2
       go_wp2_with fail
       clear hww59 hww60 hww61 hww62
       clear b14_w60 fb14_w60 b15_w61 fb15_w61
       replace zw59 := le2 zw59
       replace zw60 := le2 zw60
       replace zw61 := le2 zw61
       replace zw62 := le2 zw62
       obtain ⟨g, c, rb, rc, rfl, hc, hQ⟩ := O1.done hO
       obtain ⟨Ta, va, hTa, hNa, oka⟩ := T1_tab hQ (m := 111) (by decide) (by omega : 111 ≤ c) (by decide)
       obtain ⟨Tb, vb, hTb, hNb, -⟩ := T1_tab hQ (m := 112) (by decide) hc (by decide)
       have Va := Lib.hid va
       have Vb := Lib.hid vb
       have Oa := Lib.hid (oka ⟨by decide, by decide⟩)
       have Ob := Lib.hid (okT_big (T := Tb) (by omega))
       clear va vb oka hNa hNb hQ
       skip
       refine regionT 27 (fun kk => match kk with | 3 => some (.v (.bool true)) | 7 => some (.v (.bool false)) | 15 => some (.v (.bool true)) | 22 => some (.v (.bool true)) | 25 => some (.v (.bool true)) | _ => none) (by as_aux_lemma => kernel_rfl) (head_of (by as_aux_lemma => kernel_rfl)) ?_
       iterate 3
        refine Walk.one (x := ?_) rfl rfl (fun w1 hI hL K hK => ?_) ?_
        rotate_left
        ·go_simp
         repeat (first | (go_ints; try go_simp) | (simp only [↓IntWalk.iteOmega]; try go_simp))
         exact hK
        simp only [Act.put, Qa, Qb, Qc]
       refine Walk.tell rfl rfl (fun w1 hI hL K hK => ?_) ?_
       ·go_simp
        exact (lValid_vb Va.out (hTa.ext hI) Oa.out).mono (tell hK)
       rintro _ rfl
       simp only [Act.put, Qa, Qb, Qc]
       refine Walk.one (x := ?_) rfl rfl (fun w1 hI hL K hK => ?_) ?_
       rotate_left
       ·go_simp
        repeat (first | (go_ints; try go_simp) | (simp only [↓IntWalk.iteOmega]; try go_simp))
        exact hK
       simp only [Act.put, Qa, Qb, Qc]
       refine Walk.oneG (x := ?_) rfl (by as_aux_lemma => kernel_rfl) (fun w1 hI hL K hK => ?_) ?_
       rotate_left
       ·obtain ⟨hc, hf⟩ := bcell hI
        go_simp
        repeat (first | (go_ints; try go_simp) | (simp only [↓IntWalk.iteOmega]; try go_simp))
        exact hK
       simp only [Act.put, Qa, Qb, Qc]
       refine Walk.oneG (x := ?_) rfl (by as_aux_lemma => kernel_rfl) (fun w1 hI hL K hK => ?_) ?_
       rotate_left
       ·obtain ⟨hc, hf⟩ := bcell hI
        go_simp
        repeat (first | (go_ints; try go_simp) | (simp only [↓IntWalk.iteOmega]; try go_simp))
        exact hK
       simp only [Act.put, Qa, Qb, Qc]
       refine Walk.tellG rfl (by as_aux_lemma => kernel_rfl) (fun w1 hI hL K hK => ?_) ?_
       ·go_simp
        exact (lValid_vb Vb.out (hTb.ext hI) Ob.out).mono (tell hK)
       rintro _ rfl
       simp only [Act.put, Qa, Qb, Qc]
       refine Walk.oneG (x := ?_) rfl (by as_aux_lemma => kernel_rfl) (fun w1 hI hL K hK => ?_) ?_
       rotate_left
       ·obtain ⟨hc, hf⟩ := bcell hI
        go_simp
        repeat (first | (go_ints; try go_simp) | (simp only [↓IntWalk.iteOmega]; try go_simp))
        exact hK
       simp only [Act.put, Qa, Qb, Qc]
       iterate 2
        refine Walk.one (x := ?_) rfl rfl (fun w1 hI hL K hK => ?_) ?_
        rotate_left
        ·go_simp
         repeat (first | (go_ints; try go_simp) | (simp only [↓IntWalk.iteOmega]; try go_simp))
         exact hK
        simp only [Act.put, Qa, Qb, Qc]
       refine Walk.oneG (x := ?_) rfl (by as_aux_lemma => kernel_rfl) (fun w1 hI hL K hK => ?_) ?_
       rotate_left
       ·obtain ⟨hc, hf⟩ := bcell hI
        go_simp
        repeat (first | (go_ints; try go_simp) | (simp only [↓IntWalk.iteOmega]; try go_simp))
        exact hK
       simp only [Act.put, Qa, Qb, Qc]
       refine Walk.oneG (x := ?_) rfl (by as_aux_lemma => kernel_rfl) (fun w1 hI hL K hK => ?_) ?_
       rotate_left
       ·obtain ⟨hc, hf⟩ := bcell hI
        go_simp
        repeat (first | (go_ints; try go_simp) | (simp only [↓IntWalk.iteOmega]; try go_simp))
        exact hK
       simp only [Act.put, Qa, Qb, Qc]
       refine Walk.oneG (x := ?_) rfl (by as_aux_lemma => kernel_rfl) (fun w1 hI hL K hK => ?_) ?_
       rotate_left
       ·obtain ⟨hc, hf⟩ := bcell hI
        go_simp
        repeat (first | (go_ints; try go_simp) | (simp only [↓IntWalk.iteOmega]; try go_simp))
        exact hK
       simp only [Act.put, Qa, Qb, Qc]
       refine Walk.oneG (x := ?_) rfl (by as_aux_lemma => kernel_rfl) (fun w1 hI hL K hK => ?_) ?_
       rotate_left
       ·obtain ⟨hc, hf⟩ := bcell hI
        go_simp
        repeat (first | (go_ints; try go_simp) | (simp only [↓IntWalk.iteOmega]; try go_simp))
        exact hK
       simp only [Act.put, Qa, Qb, Qc]
       refine Walk.tellG rfl (by as_aux_lemma => kernel_rfl) (fun w1 hI hL K hK => ?_) ?_
       ·go_simp
        exact (nOne_w Va.out (hTa.ext hI) 110 300 1 (by omega) (by omega)).mono (tell hK)
       rintro _ rfl
       simp only [Act.put, Qa, Qb, Qc]
       iterate 2
        refine Walk.one (x := ?_) rfl rfl (fun w1 hI hL K hK => ?_) ?_
        rotate_left
        ·obtain ⟨hc, hf⟩ := bcell hI
         go_simp
         repeat (first | (go_ints; try go_simp) | (simp only [↓IntWalk.iteOmega]; try go_simp))
         exact hK
        simp only [Act.put, Qa, Qb, Qc]
       refine Walk.oneG (x := ?_) rfl (by as_aux_lemma => kernel_rfl) (fun w1 hI hL K hK => ?_) ?_
       rotate_left
       ·obtain ⟨hc, hf⟩ := bcell hI
        go_simp
        repeat (first | (go_ints; try go_simp) | (simp only [↓IntWalk.iteOmega]; try go_simp))
        exact hK
       simp only [Act.put, Qa, Qb, Qc]
       refine Walk.oneG (x := ?_) rfl (by as_aux_lemma => kernel_rfl) (fun w1 hI hL K hK => ?_) ?_
       rotate_left
       ·obtain ⟨hc, hf⟩ := bcell hI
        go_simp
        repeat (first | (go_ints; try go_simp) | (simp only [↓IntWalk.iteOmega]; try go_simp))
        exact hK
       simp only [Act.put, Qa, Qb, Qc]
       refine Walk.oneG (x := ?_) rfl (by as_aux_lemma => kernel_rfl) (fun w1 hI hL K hK => ?_) ?_
       rotate_left
       ·obtain ⟨hc, hf⟩ := bcell hI
        go_simp
        repeat (first | (go_ints; try go_simp) | (simp only [↓IntWalk.iteOmega]; try go_simp))
        exact hK
       simp only [Act.put, Qa, Qb, Qc]
       refine Walk.oneG (x := ?_) rfl (by as_aux_lemma => kernel_rfl) (fun w1 hI hL K hK => ?_) ?_
       rotate_left
       ·obtain ⟨hc, hf⟩ := bcell hI
        go_simp
        repeat (first | (go_ints; try go_simp) | (simp only [↓IntWalk.iteOmega]; try go_simp))
        exact hK
       simp only [Act.put, Qa, Qb, Qc]
       refine Walk.tellG rfl (by as_aux_lemma => kernel_rfl) (fun w1 hI hL K hK => ?_) ?_
       ·go_simp
        exact (nOne_w Va.out (hTa.ext hI) 0 301 1 (by omega) (by omega)).mono (tell hK)
       rintro _ rfl
       simp only [Act.put, Qa, Qb, Qc]
       iterate 2
        refine Walk.one (x := ?_) rfl rfl (fun w1 hI hL K hK => ?_) ?_
        rotate_left
        ·obtain ⟨hc, hf⟩ := bcell hI
         go_simp
         repeat (first | (go_ints; try go_simp) | (simp only [↓IntWalk.iteOmega]; try go_simp))
         exact hK
        simp only [Act.put, Qa, Qb, Qc]
       refine Walk.tellG rfl (by as_aux_lemma => kernel_rfl) (fun w1 hI hL K hK => ?_) ?_
       ·go_simp
        exact (nawake  w1).mono (tell hK)
       rintro _ rfl
       simp only [Act.put, Qa, Qb, Qc]
       refine Walk.one (x := ?_) rfl rfl (fun w1 hI hL K hK => ?_) ?_
       rotate_left
       ·obtain ⟨hc, hf⟩ := bcell hI
        go_simp
        repeat (first | (go_ints; try go_simp) | (simp only [↓IntWalk.iteOmega]; try go_simp))
        exact hK
       simp only [Act.put, Qa, Qb, Qc]
       refine Walk.nilF fun w63 ew63 kzL kzX => ?_
       have zw63 := ew63.size
       clear kzL kzX
       simp only [List.drop_succ_cons, List.drop_zero, List.drop_nil]
       have xw_w63 := eg xw_w62 ew63
       go_wp2_with fail
       clear b14_w62 b15_w62
       refine bodyPost_ret (v := .bool true) (by simp [results, Tryz.results5, go_sem]) rfl ?_
       exact Gv.of_v xw_w63
end Go.Proofs.YtndgaecfeaedeaaGreat
