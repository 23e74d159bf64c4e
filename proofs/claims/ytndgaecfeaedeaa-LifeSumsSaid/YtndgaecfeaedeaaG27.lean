/- LifeSelect: for every table, life and number of years the call returns true, and each argument reads afterwards as it read before. No further condition. The walk of LifeExpect. -/
import Derived.Test.YtndgaecfeaedeaaRows
import Derived.Test.YtndgaecfeaedeaaG26
namespace Go.Proofs.Ytndgaecfeaedeaa
set_option linter.unusedSimpArgs false
set_option linter.unusedVariables false
open Go.RowKit Lex Mth Go.ChangeShapes Go.WideShapes Go.ChangeAt

theorem own_knob : ownKnob Try.prog.godebug = none := by kernel_rfl
theorem laid_out : laidOutB Try.prog = true := by kernel_rfl
theorem i64_of {n : Int} (h : (Lit.int .i64 n).wf = true) : -9223372036854775808 ≤ n ∧ n ≤ 9223372036854775807 := by simpa [Lit.wf, IntKind.min, IntKind.max, IntKind.bits, IntKind.signed] using h
theorem u8_of {n : Int} (h : (Lit.int .u8 n).wf = true) : 0 ≤ n ∧ n ≤ 255 := by simpa [Lit.wf, IntKind.min, IntKind.max, IntKind.bits, IntKind.signed] using h

set_option maxRecDepth 100000 in
theorem arg_table {H : Type} {enc : TypeId × Value → H} {W : World} {base : Nat} {v : Value} {d : DataW H} {p : List MemPlace} (hv : Value.okWide Try.prog W .any base 24 v) (h : DataW.Trod enc Try.prog W 0 (fun _ => true) true 24 v d p) (hw : WB 24 d) :
    ∃ T : Tb, v = .agg #[.int .i64 T.first, .int .i64 T.sel, .slice T.P T.N T.C] ∧ TW W T := by
  obtain ⟨v0, v1, v2, y0, y1, y2, n, rfl, rfl, rfl, h0, h1, h2⟩ := Go.Joins.open_agg3 Try.underlying24 (by kernel_rfl) (by kernel_rfl) hv h
  have hw2 : WB 22 y2.1 := fun m hm => hw m (by
    simp only [DataW.weights, Try.underlying24, DataW.weightsEach, List.map_cons, List.map_nil, List.mem_append]
    exact .inr (.inr (.inl hm)))
  obtain ⟨T, rfl, rfl, rfl, hT⟩ := open_table h0 h1 h2 hw2
  exact ⟨T, rfl, hT⟩
set_option maxRecDepth 100000 in
theorem arg_life {H : Type} {enc : TypeId × Value → H} {W : World} {base : Nat} {v : Value} {d : DataW H} {p : List MemPlace} (hv : Value.okWide Try.prog W .any base 26 v) (h : DataW.Trod enc Try.prog W 0 (fun _ => true) true 26 v d p) :
    ∃ e y : Int, v = .agg #[.int .i64 e, .int .i64 y] ∧ -9223372036854775808 ≤ e ∧ e ≤ 9223372036854775807 ∧ -9223372036854775808 ≤ y ∧ y ≤ 9223372036854775807 := by
  obtain ⟨v0, v1, y0, y1, n, rfl, rfl, rfl, h0, h1⟩ := Go.Joins.open_agg2 Try.underlying26 (by kernel_rfl) (by kernel_rfl) hv h
  obtain ⟨n0, e0, _, w0⟩ := DataW.trod_int Try.underlying3 h0
  obtain ⟨n1, e1, _, w1⟩ := DataW.trod_int Try.underlying3 h1
  simp only [List.cons.injEq, and_true] at e0 e1
  subst e0 e1
  exact ⟨n0, n1, rfl, (i64_of w0).1, (i64_of w0).2, (i64_of w1).1, (i64_of w1).2⟩
theorem wb_each {H : Type} {ts : List TypeId} {ds : List (DataW H)} {j : Nat} {t : TypeId} {d : DataW H} (h : (DataW.weightsEach Try.prog ts ds).all (· ≤ reachBytes) = true) (ht : ts[j]? = some t) (hd : ds[j]? = some d) : WB t d := fun n hn => by
  have := List.all_eq_true.1 h n (DataW.weights_mem_each ht hd n hn)
  simpa using this

set_option maxRecDepth 100000 in
theorem lifeSelect_lifted (os : Os) (started : os.Started) (H : Type) (enc : TypeId × Value → H) :
    ReturnsInHanded {} Try.checked os 5 .any (Rows.lifeSelectSpec.pre6 enc Try.prog Try.f5 Rows.lifeSelectRow.domain false) (Rows.lifeSelectSpec.post enc Try.prog Try.f5 false true false false) := by
  refine returnsInHanded_of_change_sized (C := Try.checked) own_knob started (by kernel_rfl) Try.func5
    (ChangeSpec.witness6 (enc := enc) (C := Try.checked) false ⟨#[], #[.agg #[.int .i64 0, .int .i64 0, .slice none 0 0], .agg #[.int .i64 0, .int .i64 0], .int .u8 0], []⟩ 8 (by kernel_rfl) (by kernel_rfl) (by kernel_rfl) (by kernel_rfl)) ?_
  intro W base args ds gs before hval0 hW hcnd hsz0 _
  have hval : ∀ (j : Nat) t v, Try.f5.params[j]? = some t → args[j]? = some v → Value.okWide Try.prog W .any base t v := hval0
  have hsz : (DataW.weightsEach Try.prog (Try.f5.params.toList ++ Rows.lifeSelectSpec.plain.varTypes Try.prog) (ds ++ gs)).all (· ≤ reachBytes) = true := hsz0
  have hW' := hW
  obtain ⟨p, q, hA0, hV, rfl, hfz, hnd⟩ := hW
  have hA : DataW.TrodAll enc Try.prog W 0 (fun _ => true) true Try.f5.params.toList args.toList ds p := hA0
  rw [Try.params5] at hA hval hsz
  obtain ⟨v0, vs0, d0, ds0, p0, q0, hargs, rfl, rfl, h0, r0⟩ := trodAll_cons hA
  obtain ⟨v1, vs1, d1, ds1, p1, q1, rfl, rfl, rfl, h1, r1⟩ := trodAll_cons r0
  obtain ⟨v2, vs2, d2, ds2, p2, q2, rfl, rfl, rfl, h2, r2⟩ := trodAll_cons r1
  obtain ⟨rfl, rfl, rfl⟩ := trodAll_nil r2
  obtain rfl : args = #[v0, v1, v2] := by cases args; simp_all
  obtain ⟨rfl, rfl⟩ := trodVars_none hV
  have lt0 : ∀ x ∈ p0, x.block < W.heap.size := by obtain ⟨m, hm⟩ := h0; exact DataW.trod_lt m _ _ _ hm
  have lt1 : ∀ x ∈ p1, x.block < W.heap.size := by obtain ⟨m, hm⟩ := h1; exact DataW.trod_lt m _ _ _ hm
  obtain ⟨T, rfl, hT⟩ := arg_table (hval 0 24 v0 rfl rfl) h0 (wb_each (j := 0) hsz rfl rfl)
  obtain ⟨e, y, rfl, hey⟩ := arg_life (hval 1 26 v1 rfl rfl) h1
  obtain ⟨a2, rfl, rfl, rfl, w2⟩ := open_int Try.underlying5 (hval 2 5 v2 rfl rfl) h2
  clear hA0 hval0
  refine (nSelect T e y a2 W hT hey (u8_of w2).1 (u8_of w2).2).mono fun en W' hg => ?_
  obtain ⟨he, bel⟩ := Gv.v hg
  subst he
  exact ⟨_, rfl, _, _, _, [], _, [], hW', trodAll_mk1 (shut_bool Try.underlying4 _), (trodAll_cons_mk (Below.trod laid_out (by kernel_rfl) (of_decide_eq_true (by kernel_rfl)) h0 bel lt0) (trodAll_cons_mk (Below.trod laid_out (by kernel_rfl) (of_decide_eq_true (by kernel_rfl)) h1 bel lt1) (trodAll_cons_mk (shut_int Try.underlying5 w2) trodAll_mk0))), rfl, bel.frame _, fun h => by cases h⟩

theorem lifeSelect_over : Rows.lifeSelectRow.holds Try.pinned (OpenSpec.ofChange Rows.lifeSelectSpec) :=
  OpenClaim.holds_of_wide 5 Try.f5 rfl rfl rfl rfl rfl rfl rfl ⟨rfl, rfl, rfl, rfl, rfl⟩ rfl rfl rfl rfl rfl (by kernel_rfl) Try.func5 (by kernel_rfl)
    (of_decide_eq_true (by kernel_rfl)) (by unfold Func.isWrapper; first | (rw [if_pos (by decide +kernel)]; kernel_rfl) | (rw [if_neg (by decide +kernel)]; exact ⟨rfl, rfl⟩))
    (fun os started H enc _ => lifeSelect_lifted os started H enc)

/-- The statement. -/
theorem lifeSelect_said : Rows.LifeSelectSaid := lifeSelect_over
end Go.Proofs.Ytndgaecfeaedeaa

namespace Go.Proofs.Ytndgaecfeaedeaa
set_option linter.unusedSimpArgs false
set_option linter.unusedVariables false
open Go.RowKit Lex Mth
attribute [local go_sem] run_indexAt_at add_zero_map Oper.semAt_some at_zero at_add at_mk1 at_mk2 at_mk3

/-- One year more: the first year apart. -/
theorem es_step (r : Nat → Rat) : ∀ n, es r (n + 1) = al r 1 * (1 + es (fun k => r (1 + k)) n)
  | 0 => by
    show (0 : Rat) + al r 1 = al r 1 * (1 + 0)
    rw [Rat.zero_add, Rat.add_zero, Rat.mul_one]
  | n + 1 => by
    show es r (n + 1) + al r (n + 1 + 1) = al r 1 * (1 + (es (fun k => r (1 + k)) n + al (fun k => r (1 + k)) (n + 1)))
    rw [es_step r n, show n + 1 + 1 = 1 + (n + 1) by omega, al_add r 1 (n + 1), ← Rat.add_assoc, Rat.mul_add (al r 1) (1 + _)]
theorem rt_later (T : Tb) (R : Nat → Nat → Rat) (e y m : Int) (n : Nat) (hm : m = (n : Int)) : (fun k : Nat => rt T R e (y + m + (k : Nat))) = fun k : Nat => rt T R e (y + ((n + k : Nat) : Int)) := by
  funext k
  rw [show y + m + (k : Int) = y + ((n + k : Nat) : Int) by omega]
theorem lex_step (T : Tb) (R : Nat → Nat → Rat) (e y : Int) : lex T R e y = lal T R e y (1 : Int).toNat * (1 + lex T R e (y + 1)) := by
  show es (fun k => rt T R e (y + (k : Nat))) (yN T e y + 1) = al (fun k => rt T R e (y + (k : Nat))) 1 * (1 + es (fun k => rt T R e (y + 1 + (k : Nat))) (yN T e (y + 1) + 1))
  rw [rt_later T R e y 1 1 rfl]
  rcases Nat.eq_zero_or_pos (yN T e y) with h | h
  · have h1 : T.first + (T.N : Int) ≤ e + (y + ((0 : Nat) : Int)) := by unfold yN at h; omega
    have h0 : al (fun k => rt T R e (y + (k : Nat))) 1 = 0 := by
      show 1 * (1 - rt T R e (y + ((0 : Nat) : Int))) = 0
      unfold rt
      rw [if_pos h1, Rat.sub_self, Rat.mul_zero]
    rw [h, es_step, h0, Rat.zero_mul, Rat.zero_mul]
  · rw [show yN T e y = yN T e (y + 1) + 1 by unfold yN at *; omega, es_step]
theorem lex_sz {w : World} {T : Tb} {R : Nat → Nat → Rat} {e y : Int} (hT : TQ w T R) (hok : okL T e y = true) : Sz (lex T R e y) ∧ Sz (1 + lex T R e y) := by
  obtain ⟨h1, h2, h3, h4⟩ := okL_q4 hok
  have rs := rs_rt hT h1 h2 h3
  have hA := yN_le hT h1 h3
  have hD := DD_siz rs (yN T e y)
  have h := es_sm rs (yN T e y + 1)
  exact ⟨es_sz rs hA _ (by omega), ((Sm.one _).add (DD_ne _ _) h).sz (Nat.pos_of_ne_zero (DD_ne _ _)) (by have : siz (1 + (yN T e y + 1)) ≤ 1 := siz_one.2 (by omega); omega)⟩
theorem lex_sz2 {w : World} {T : Tb} {R : Nat → Nat → Rat} {e y : Int} (hT : TQ w T R) (hok : okL T e y = true) : Sz (lal T R e y (1 : Int).toNat * (1 + lex T R e (y + 1))) := by
  rw [← lex_step]
  exact (lex_sz hT hok).1
theorem lal_sz {w : World} {T : Tb} {R : Nat → Nat → Rat} {e y : Int} (hT : TQ w T R) (hok : okL T e y = true) (n : Nat) : Sz (lal T R e y n) := by
  obtain ⟨h1, h2, h3, h4⟩ := okL_q4 hok
  exact al_sz (rs_rt hT h1 h2 h3) (yN_le hT h1 h3) n

set_option maxRecDepth 100000 in
theorem nExpect0 (T : Tb) (e y : Int) (w : World) (hT : TW w T) (ey : -9223372036854775808 ≤ e ∧ e ≤ 9223372036854775807 ∧ -9223372036854775808 ≤ y ∧ y ≤ 9223372036854775807) (hu : okU T e y = false) :
    Calls Try.prog 6 #[.agg #[.int .i64 T.first, .int .i64 T.sel, .slice T.P T.N T.C], .agg #[.int .i64 e, .int .i64 y]] w (Gv (.v (.bool true)) w) := by
  have HU := Lib.hid hu
  clear hu
  have hEw : Ext w w := Below.refl _ _
  obtain ⟨w1, hww1⟩ : ∃ W, w.alloc (.cells #[.int .i64 T.first, .int .i64 T.sel, .slice T.P T.N T.C] 24) = W := ⟨_, rfl⟩
  have ew1 : Ext w w1 := by rw [← hww1]; exact ea _ _
  have B1 : Cells w1 (w.heap.size) 24 #[.int .i64 T.first, .int .i64 T.sel, .slice T.P T.N T.C] := by rw [← hww1]; exact Cells.newAt _ _ (by omega)
  have zw1 := alloc_lt hww1
  have hEw1 := eg hEw ew1
  have lB1_w1 := B1.lt
  obtain ⟨w2, hww2⟩ : ∃ W, w1.alloc (.cells #[.int .i64 e, .int .i64 y] 26) = W := ⟨_, rfl⟩
  have ew2 : Ext w1 w2 := by rw [← hww2]; exact ea _ _
  have B2 : Cells w2 (w.heap.size + 1) 26 #[.int .i64 e, .int .i64 y] := by rw [← hww2]; exact Cells.newAt _ _ (by omega)
  replace B1 := B1.ext ew2
  have zw2 := alloc_lt hww2
  have hEw2 := eg hEw1 ew2
  have lB1_w2 := B1.lt
  have lB2_w2 := B2.lt
  go_enter Try.func6, Try.ntmps6
  go_wp2_with fail
  clear hww1
  clear hww2
  clear lB1_w1
  have yw1 := Nat.le_of_eq zw1
  replace zw1 := Nat.le_of_eq zw1.symm
  have yw2 := Nat.le_of_eq zw2
  replace zw2 := Nat.le_of_eq zw2.symm
  refine (nawake  _).mono ?_
  intro ee w3 gg
  obtain ⟨rfl, ew3⟩ := Gv.v gg
  replace B1 := B1.ext ew3
  replace B2 := B2.ext ew3
  have hEw3 := eg hEw2 ew3
  have zw3 := ew3.size
  have b1_0_w3 := B1.cell (k := 0) rfl
  have b1_1_w3 := B1.cell (k := 1) rfl
  have b1_2_w3 := B1.cell (k := 2) rfl
  have b2_0_w3 := B2.cell (k := 0) rfl
  have b2_1_w3 := B2.cell (k := 1) rfl
  have lB1_w3 := B1.lt
  have lB2_w3 := B2.lt
  go_wp2_with fail
  clear lB1_w2 lB2_w2
  refine regionT 11 (fun k => match k with | 2 => some (.v (.bool false)) | _ => none) (by kernel_rfl) (by kernel_rfl) ?_
  iterate 2
    refine Walk.one (x := ?_) rfl rfl (fun w1 hI hL K hK => ?_) ?_
    rotate_left
    · obtain ⟨hc, hf⟩ := bcell hI
      go_simp
      repeat (first | (go_ints; try go_simp) | (simp only [↓IntWalk.iteOmega]; try go_simp))
      exact hK
    simp only [Act.put, List.setIfInBounds_toArray, List.set_cons_zero, List.set_cons_succ]
  refine Walk.tell rfl rfl (fun w1 hI hL K hK => ?_) ?_
  · go_simp
    exact (nusable T e y w1 (hT.ext (eg hEw3 hI)) ey HU.out).mono (tell hK)
  rintro _ rfl
  simp only [Act.put, List.setIfInBounds_toArray, List.set_cons_zero, List.set_cons_succ]
  iterate 2
    refine Walk.one (x := ?_) rfl rfl (fun w1 hI hL K hK => ?_) ?_
    rotate_left
    · obtain ⟨hc, hf⟩ := bcell hI
      go_simp
      repeat (first | (go_ints; try go_simp) | (simp only [↓IntWalk.iteOmega]; try go_simp))
      exact hK
    simp only [Act.put, List.setIfInBounds_toArray, List.set_cons_zero, List.set_cons_succ]
  refine Walk.skip rfl (by kernel_rfl) ?_
  simp only [Act.put, List.setIfInBounds_toArray, List.set_cons_zero, List.set_cons_succ]
  refine Walk.skip rfl (by kernel_rfl) ?_
  simp only [Act.put, List.setIfInBounds_toArray, List.set_cons_zero, List.set_cons_succ]
  refine Walk.skip rfl (by kernel_rfl) ?_
  simp only [Act.put, List.setIfInBounds_toArray, List.set_cons_zero, List.set_cons_succ]
  refine Walk.skip rfl (by kernel_rfl) ?_
  simp only [Act.put, List.setIfInBounds_toArray, List.set_cons_zero, List.set_cons_succ]
  refine Walk.skip rfl (by kernel_rfl) ?_
  simp only [Act.put, List.setIfInBounds_toArray, List.set_cons_zero, List.set_cons_succ]
  refine Walk.one (x := ?_) rfl rfl (fun w1 hI hL K hK => ?_) ?_
  rotate_left
  · obtain ⟨hc, hf⟩ := bcell hI
    go_simp
    repeat (first | (go_ints; try go_simp) | (simp only [↓IntWalk.iteOmega]; try go_simp))
    exact hK
  simp only [Act.put, List.setIfInBounds_toArray, List.set_cons_zero, List.set_cons_succ]
  refine Walk.nilF fun w4 ew4 kzL kzX => ?_
  replace B1 := B1.ext ew4
  replace B2 := B2.ext ew4
  have hEw4 := eg hEw3 ew4
  have zw4 := ew4.size
  clear kzL kzX
  have lB1_w4 := B1.lt
  have lB2_w4 := B2.lt
  simp only [List.drop_succ_cons, List.drop_zero, List.drop_nil]
  go_wp2_with fail
  clear b1_0_w3 b1_1_w3 b1_2_w3 b2_0_w3 b2_1_w3 lB1_w3 lB2_w3
  refine bodyPost_ret (v := .bool true) (by simp [results, Try.results6, go_sem]) rfl ?_
  exact Gv.of_v hEw4

set_option maxRecDepth 100000 in
theorem nExpectA (T : Tb) (R : Nat → Nat → Rat) (e y : Int) (w : World) (hT : TQ w T R) (ey : -9223372036854775808 ≤ e ∧ e ≤ 9223372036854775807 ∧ -9223372036854775808 ≤ y ∧ y ≤ 9223372036854775807) (hu : okU T e y = true) (hr : okL T e (y + 1) = false) :
    Calls Try.prog 6 #[.agg #[.int .i64 T.first, .int .i64 T.sel, .slice T.P T.N T.C], .agg #[.int .i64 e, .int .i64 y]] w (Gv (.v (.bool true)) w) := by
  have hW := hT.tw
  have Hok := Lib.hid (okU_l hu)
  obtain ⟨q1, q2, q3, q4⟩ := okL_q4 (okU_l hu)
  obtain ⟨b1, b2, b3, b4, b5, b6⟩ := id hT.b
  have HU := Lib.hid hu
  clear hu
  have HR := Lib.hid hr
  clear hr
  have hEw : Ext w w := Below.refl _ _
  obtain ⟨w1, hww1⟩ : ∃ W, w.alloc (.cells #[.int .i64 T.first, .int .i64 T.sel, .slice T.P T.N T.C] 24) = W := ⟨_, rfl⟩
  have ew1 : Ext w w1 := by rw [← hww1]; exact ea _ _
  have B1 : Cells w1 (w.heap.size) 24 #[.int .i64 T.first, .int .i64 T.sel, .slice T.P T.N T.C] := by rw [← hww1]; exact Cells.newAt _ _ (by omega)
  have zw1 := alloc_lt hww1
  have hEw1 := eg hEw ew1
  have lB1_w1 := B1.lt
  obtain ⟨w2, hww2⟩ : ∃ W, w1.alloc (.cells #[.int .i64 e, .int .i64 y] 26) = W := ⟨_, rfl⟩
  have ew2 : Ext w1 w2 := by rw [← hww2]; exact ea _ _
  have B2 : Cells w2 (w.heap.size + 1) 26 #[.int .i64 e, .int .i64 y] := by rw [← hww2]; exact Cells.newAt _ _ (by omega)
  replace B1 := B1.ext ew2
  have zw2 := alloc_lt hww2
  have hEw2 := eg hEw1 ew2
  have lB1_w2 := B1.lt
  have lB2_w2 := B2.lt
  go_enter Try.func6, Try.ntmps6
  go_wp2_with fail
  clear hww1
  clear hww2
  clear lB1_w1
  have yw1 := Nat.le_of_eq zw1
  replace zw1 := Nat.le_of_eq zw1.symm
  have yw2 := Nat.le_of_eq zw2
  replace zw2 := Nat.le_of_eq zw2.symm
  refine (nawake  _).mono ?_
  intro ee w3 gg
  obtain ⟨rfl, ew3⟩ := Gv.v gg
  replace B1 := B1.ext ew3
  replace B2 := B2.ext ew3
  have hEw3 := eg hEw2 ew3
  have zw3 := ew3.size
  have b1_0_w3 := B1.cell (k := 0) rfl
  have b1_1_w3 := B1.cell (k := 1) rfl
  have b1_2_w3 := B1.cell (k := 2) rfl
  have b2_0_w3 := B2.cell (k := 0) rfl
  have b2_1_w3 := B2.cell (k := 1) rfl
  have lB1_w3 := B1.lt
  have lB2_w3 := B2.lt
  go_wp2_with fail
  clear lB1_w2 lB2_w2
  refine regionT 11 (fun k => match k with | 2 => some (.v (.bool true)) | 7 => some (.v (.agg #[.int .i64 e, .int .i64 (y + 1)])) | 8 => some (.v (.bool false)) | _ => none) (by kernel_rfl) (by kernel_rfl) ?_
  iterate 2
    refine Walk.one (x := ?_) rfl rfl (fun w1 hI hL K hK => ?_) ?_
    rotate_left
    · obtain ⟨hc, hf⟩ := bcell hI
      go_simp
      repeat (first | (go_ints; try go_simp) | (simp only [↓IntWalk.iteOmega]; try go_simp))
      exact hK
    simp only [Act.put, List.setIfInBounds_toArray, List.set_cons_zero, List.set_cons_succ]
  refine Walk.tell rfl rfl (fun w1 hI hL K hK => ?_) ?_
  · go_simp
    exact (nusable T e y w1 (hW.ext (eg hEw3 hI)) ey HU.out).mono (tell hK)
  rintro _ rfl
  simp only [Act.put, List.setIfInBounds_toArray, List.set_cons_zero, List.set_cons_succ]
  iterate 2
    refine Walk.one (x := ?_) rfl rfl (fun w1 hI hL K hK => ?_) ?_
    rotate_left
    · obtain ⟨hc, hf⟩ := bcell hI
      go_simp
      repeat (first | (go_ints; try go_simp) | (simp only [↓IntWalk.iteOmega]; try go_simp))
      exact hK
    simp only [Act.put, List.setIfInBounds_toArray, List.set_cons_zero, List.set_cons_succ]
  refine Walk.oneG (x := ?_) rfl (by kernel_rfl) (fun w1 hI hL K hK => ?_) ?_
  rotate_left
  · obtain ⟨hc, hf⟩ := bcell hI
    go_simp
    repeat (first | (go_ints; try go_simp) | (simp only [↓IntWalk.iteOmega]; try go_simp))
    exact hK
  simp only [Act.put, List.setIfInBounds_toArray, List.set_cons_zero, List.set_cons_succ]
  refine Walk.oneG (x := ?_) rfl (by kernel_rfl) (fun w1 hI hL K hK => ?_) ?_
  rotate_left
  · obtain ⟨hc, hf⟩ := bcell hI
    go_simp
    repeat (first | (go_ints; try go_simp) | (simp only [↓IntWalk.iteOmega]; try go_simp))
    exact hK
  simp only [Act.put, List.setIfInBounds_toArray, List.set_cons_zero, List.set_cons_succ]
  refine Walk.tellG rfl (by kernel_rfl) (fun w1 hI hL K hK => ?_) ?_
  · go_simp
    exact (nlater e y 1 w1 (by omega) (by omega) (by omega) (by omega)).mono (tell hK)
  rintro _ rfl
  simp only [Act.put, List.setIfInBounds_toArray, List.set_cons_zero, List.set_cons_succ]
  refine Walk.tellG rfl (by kernel_rfl) (fun w1 hI hL K hK => ?_) ?_
  · go_simp
    exact (lRight T e (y + 1) w1 (hW.ext (eg hEw3 hI)) (by omega) HR.out).mono (tell hK)
  rintro _ rfl
  simp only [Act.put, List.setIfInBounds_toArray, List.set_cons_zero, List.set_cons_succ]
  refine Walk.oneG (x := ?_) rfl (by kernel_rfl) (fun w1 hI hL K hK => ?_) ?_
  rotate_left
  · obtain ⟨hc, hf⟩ := bcell hI
    go_simp
    repeat (first | (go_ints; try go_simp) | (simp only [↓IntWalk.iteOmega]; try go_simp))
    exact hK
  simp only [Act.put, List.setIfInBounds_toArray, List.set_cons_zero, List.set_cons_succ]
  refine Walk.one (x := ?_) rfl rfl (fun w1 hI hL K hK => ?_) ?_
  rotate_left
  · obtain ⟨hc, hf⟩ := bcell hI
    go_simp
    repeat (first | (go_ints; try go_simp) | (simp only [↓IntWalk.iteOmega]; try go_simp))
    exact hK
  simp only [Act.put, List.setIfInBounds_toArray, List.set_cons_zero, List.set_cons_succ]
  refine Walk.nilF fun w4 ew4 kzL kzX => ?_
  replace B1 := B1.ext ew4
  replace B2 := B2.ext ew4
  have hEw4 := eg hEw3 ew4
  have zw4 := ew4.size
  clear kzL kzX
  have lB1_w4 := B1.lt
  have lB2_w4 := B2.lt
  simp only [List.drop_succ_cons, List.drop_zero, List.drop_nil]
  go_wp2_with fail
  clear b1_0_w3 b1_1_w3 b1_2_w3 b2_0_w3 b2_1_w3 lB1_w3 lB2_w3
  refine bodyPost_ret (v := .bool true) (by simp [results, Try.results6, go_sem]) rfl ?_
  exact Gv.of_v hEw4

set_option maxRecDepth 100000 in
theorem nExpectB (T : Tb) (R : Nat → Nat → Rat) (e y : Int) (w : World) (hT : TQ w T R) (ey : -9223372036854775808 ≤ e ∧ e ≤ 9223372036854775807 ∧ -9223372036854775808 ≤ y ∧ y ≤ 9223372036854775807) (hu : okU T e y = true) (hr : okL T e (y + 1) = true) :
    Calls Try.prog 6 #[.agg #[.int .i64 T.first, .int .i64 T.sel, .slice T.P T.N T.C], .agg #[.int .i64 e, .int .i64 y]] w (Gv (.v (.bool true)) w) := by
  have hW := hT.tw
  have Hok := Lib.hid (okU_l hu)
  obtain ⟨q1, q2, q3, q4⟩ := okL_q4 (okU_l hu)
  obtain ⟨b1, b2, b3, b4, b5, b6⟩ := id hT.b
  have HU := Lib.hid hu
  clear hu
  have HR := Lib.hid hr
  clear hr
  have hT0 := hT
  have hEw : Ext w w := Below.refl _ _
  obtain ⟨w1, hww1⟩ : ∃ W, w.alloc (.cells #[.int .i64 T.first, .int .i64 T.sel, .slice T.P T.N T.C] 24) = W := ⟨_, rfl⟩
  have ew1 : Ext w w1 := by rw [← hww1]; exact ea _ _
  have B1 : Cells w1 (w.heap.size) 24 #[.int .i64 T.first, .int .i64 T.sel, .slice T.P T.N T.C] := by rw [← hww1]; exact Cells.newAt _ _ (by omega)
  have zw1 := alloc_lt hww1
  have hEw1 := eg hEw ew1
  have lB1_w1 := B1.lt
  obtain ⟨w2, hww2⟩ : ∃ W, w1.alloc (.cells #[.int .i64 e, .int .i64 y] 26) = W := ⟨_, rfl⟩
  have ew2 : Ext w1 w2 := by rw [← hww2]; exact ea _ _
  have B2 : Cells w2 (w.heap.size + 1) 26 #[.int .i64 e, .int .i64 y] := by rw [← hww2]; exact Cells.newAt _ _ (by omega)
  replace B1 := B1.ext ew2
  have zw2 := alloc_lt hww2
  have hEw2 := eg hEw1 ew2
  have lB1_w2 := B1.lt
  have lB2_w2 := B2.lt
  go_enter Try.func6, Try.ntmps6
  go_wp2_with fail
  clear hww1
  clear hww2
  clear lB1_w1
  have yw1 := Nat.le_of_eq zw1
  replace zw1 := Nat.le_of_eq zw1.symm
  have yw2 := Nat.le_of_eq zw2
  replace zw2 := Nat.le_of_eq zw2.symm
  refine (nawake  _).mono ?_
  intro ee w3 gg
  obtain ⟨rfl, ew3⟩ := Gv.v gg
  replace B1 := B1.ext ew3
  replace B2 := B2.ext ew3
  have hEw3 := eg hEw2 ew3
  have zw3 := ew3.size
  have b1_0_w3 := B1.cell (k := 0) rfl
  have b1_1_w3 := B1.cell (k := 1) rfl
  have b1_2_w3 := B1.cell (k := 2) rfl
  have b2_0_w3 := B2.cell (k := 0) rfl
  have b2_1_w3 := B2.cell (k := 1) rfl
  have lB1_w3 := B1.lt
  have lB2_w3 := B2.lt
  go_wp2_with fail
  clear lB1_w2 lB2_w2
  refine regionT 11 (fun k => match k with | 2 => some (.v (.bool true)) | 7 => some (.v (.agg #[.int .i64 e, .int .i64 (y + 1)])) | 8 => some (.v (.bool true)) | _ => none) (by kernel_rfl) (by kernel_rfl) ?_
  iterate 2
    refine Walk.one (x := ?_) rfl rfl (fun w1 hI hL K hK => ?_) ?_
    rotate_left
    · obtain ⟨hc, hf⟩ := bcell hI
      go_simp
      repeat (first | (go_ints; try go_simp) | (simp only [↓IntWalk.iteOmega]; try go_simp))
      exact hK
    simp only [Act.put, List.setIfInBounds_toArray, List.set_cons_zero, List.set_cons_succ]
  refine Walk.tell rfl rfl (fun w1 hI hL K hK => ?_) ?_
  · go_simp
    exact (nusable T e y w1 (hW.ext (eg hEw3 hI)) ey HU.out).mono (tell hK)
  rintro _ rfl
  simp only [Act.put, List.setIfInBounds_toArray, List.set_cons_zero, List.set_cons_succ]
  iterate 2
    refine Walk.one (x := ?_) rfl rfl (fun w1 hI hL K hK => ?_) ?_
    rotate_left
    · obtain ⟨hc, hf⟩ := bcell hI
      go_simp
      repeat (first | (go_ints; try go_simp) | (simp only [↓IntWalk.iteOmega]; try go_simp))
      exact hK
    simp only [Act.put, List.setIfInBounds_toArray, List.set_cons_zero, List.set_cons_succ]
  refine Walk.oneG (x := ?_) rfl (by kernel_rfl) (fun w1 hI hL K hK => ?_) ?_
  rotate_left
  · obtain ⟨hc, hf⟩ := bcell hI
    go_simp
    repeat (first | (go_ints; try go_simp) | (simp only [↓IntWalk.iteOmega]; try go_simp))
    exact hK
  simp only [Act.put, List.setIfInBounds_toArray, List.set_cons_zero, List.set_cons_succ]
  refine Walk.oneG (x := ?_) rfl (by kernel_rfl) (fun w1 hI hL K hK => ?_) ?_
  rotate_left
  · obtain ⟨hc, hf⟩ := bcell hI
    go_simp
    repeat (first | (go_ints; try go_simp) | (simp only [↓IntWalk.iteOmega]; try go_simp))
    exact hK
  simp only [Act.put, List.setIfInBounds_toArray, List.set_cons_zero, List.set_cons_succ]
  refine Walk.tellG rfl (by kernel_rfl) (fun w1 hI hL K hK => ?_) ?_
  · go_simp
    exact (nlater e y 1 w1 (by omega) (by omega) (by omega) (by omega)).mono (tell hK)
  rintro _ rfl
  simp only [Act.put, List.setIfInBounds_toArray, List.set_cons_zero, List.set_cons_succ]
  refine Walk.tellG rfl (by kernel_rfl) (fun w1 hI hL K hK => ?_) ?_
  · go_simp
    exact (lRight T e (y + 1) w1 (hW.ext (eg hEw3 hI)) (by omega) HR.out).mono (tell hK)
  rintro _ rfl
  simp only [Act.put, List.setIfInBounds_toArray, List.set_cons_zero, List.set_cons_succ]
  refine Walk.oneG (x := ?_) rfl (by kernel_rfl) (fun w1 hI hL K hK => ?_) ?_
  rotate_left
  · obtain ⟨hc, hf⟩ := bcell hI
    go_simp
    repeat (first | (go_ints; try go_simp) | (simp only [↓IntWalk.iteOmega]; try go_simp))
    exact hK
  simp only [Act.put, List.setIfInBounds_toArray, List.set_cons_zero, List.set_cons_succ]
  refine Walk.one (x := ?_) rfl rfl (fun w1 hI hL K hK => ?_) ?_
  rotate_left
  · obtain ⟨hc, hf⟩ := bcell hI
    go_simp
    repeat (first | (go_ints; try go_simp) | (simp only [↓IntWalk.iteOmega]; try go_simp))
    exact hK
  simp only [Act.put, List.setIfInBounds_toArray, List.set_cons_zero, List.set_cons_succ]
  refine Walk.nilF fun w4 ew4 kzL kzX => ?_
  replace B1 := B1.ext ew4
  replace B2 := B2.ext ew4
  have hEw4 := eg hEw3 ew4
  have zw4 := ew4.size
  clear kzL kzX
  have b1_0_w4 := B1.cell (k := 0) rfl
  have b1_1_w4 := B1.cell (k := 1) rfl
  have b1_2_w4 := B1.cell (k := 2) rfl
  have b2_0_w4 := B2.cell (k := 0) rfl
  have b2_1_w4 := B2.cell (k := 1) rfl
  have lB1_w4 := B1.lt
  have lB2_w4 := B2.lt
  simp only [List.drop_succ_cons, List.drop_zero, List.drop_nil]
  go_wp2_with fail
  clear b1_0_w3 b1_1_w3 b1_2_w3 b2_0_w3 b2_1_w3 lB1_w3 lB2_w3
  refine (lExpect T R e (y) _ (hT.ext hEw4) Hok.out).mono ?_
  intro ee w5 gg
  obtain ⟨Z27, rfl, hZ27, oZ27, ew5⟩ := Gv.fe gg
  replace B1 := B1.ext ew5
  replace B2 := B2.ext ew5
  have hEw5 := eg hEw4 ew5
  have zw5 := ew5.size
  replace oZ27 := oZ27.mono hEw4.size
  have lB1_w5 := B1.lt
  have lB2_w5 := B2.lt
  obtain ⟨w6, hww6⟩ : ∃ W, w5.alloc (.cells #[.bool Z27.N.b, .slice Z27.N.p Z27.N.n Z27.N.c, .bool Z27.D.b, .slice Z27.D.p Z27.D.n Z27.D.c] 33) = W := ⟨_, rfl⟩
  have ew6 : Ext w5 w6 := by rw [← hww6]; exact ea _ _
  have B3 : Cells w6 (w5.heap.size) 33 #[.bool Z27.N.b, .slice Z27.N.p Z27.N.n Z27.N.c, .bool Z27.D.b, .slice Z27.D.p Z27.D.n Z27.D.c] := by rw [← hww6]; exact Cells.newAt _ _ (by omega)
  replace hZ27 := hZ27.ext ew6
  replace oZ27 := oZ27.ext ew6
  replace B1 := B1.ext ew6
  replace B2 := B2.ext ew6
  have zw6 := alloc_lt hww6
  have hEw6 := eg hEw5 ew6
  have b1_0_w6 := B1.cell (k := 0) rfl
  have b1_1_w6 := B1.cell (k := 1) rfl
  have b1_2_w6 := B1.cell (k := 2) rfl
  have b2_0_w6 := B2.cell (k := 0) rfl
  have b2_1_w6 := B2.cell (k := 1) rfl
  have lB1_w6 := B1.lt
  have lB2_w6 := B2.lt
  have lB3_w6 := B3.lt
  go_wp2_with fail
  clear hww6
  clear b1_0_w4 b1_1_w4 b1_2_w4 b2_0_w4 b2_1_w4 lB1_w4 lB2_w4 lB1_w5 lB2_w5
  have yw6 := Nat.le_of_eq zw6
  replace zw6 := Nat.le_of_eq zw6.symm
  refine regionS ⟨8, 7, 3, 33, 4, lvT⟩ 9 (fun k => match k with | 2 => some (.v (.agg #[.int .i64 e, .int .i64 (y + 1)])) | 3 => some (.fe (lex T R e (y + 1)) 0) | 7 => some (.boxS 33 4) | _ => none) (by kernel_rfl) (by kernel_rfl) (by decide) ?hT6 rfl (by kernel_rfl) (by kernel_rfl) ?_
  case hT6 =>
    intro k t h
    split at h <;> first | (cases h; first | exact st_f _ | exact st_fe _ _ | exact st_bs _ _ | exact st_v _ | exact st_w _ | exact st_we _ _ | exact st_f0 _ | exact st_w0 _) | cases h
  iterate 2
    refine Walk.one (x := ?_) rfl rfl (fun w1 hI hL K hK => ?_) ?_
    rotate_left
    · obtain ⟨hc, hf⟩ := bcell hI
      go_simp
      repeat (first | (go_ints; try go_simp) | (simp only [↓IntWalk.iteOmega]; try go_simp))
      exact hK
    simp only [Act.put, List.setIfInBounds_toArray, List.set_cons_zero, List.set_cons_succ]
  refine Walk.tellS rfl rfl (.inl (by simp)) rfl (fun w1 hI hL K hK => ?_) ?_
  · go_simp
    exact (nlater e y 1 w1 (by omega) (by omega) (by omega) (by omega)).mono (tell hK)
  rintro _ rfl
  simp only [Act.put, List.setIfInBounds_toArray, List.set_cons_zero, List.set_cons_succ]
  refine Walk.tellS rfl rfl (.inl (by simp)) rfl (fun w1 hI hL K hK => ?_) ?_
  · go_simp
    exact (lExpect T R e (y + 1) w1 (hT.ext (eg hEw6 hI)) HR.out).mono (tell hK)
  rintro _ ⟨Z34, rfl⟩
  simp only [Act.put, List.setIfInBounds_toArray, List.set_cons_zero, List.set_cons_succ]
  iterate 3
    refine Walk.one (x := ?_) rfl rfl (fun w1 hI hL K hK => ?_) ?_
    rotate_left
    · obtain ⟨hc, hf⟩ := bcell hI
      go_simp
      repeat (first | (go_ints; try go_simp) | (simp only [↓IntWalk.iteOmega]; try go_simp))
      exact hK
    simp only [Act.put, List.setIfInBounds_toArray, List.set_cons_zero, List.set_cons_succ]
  refine Walk.tellS rfl rfl (.inl (by simp)) rfl (fun w1 hI hL K hK => ?_) ?_
  · go_simp
    exact tellBS rfl (by simp [NoU]) hK
  rintro _ ⟨g7, rfl⟩
  simp only [Act.put, List.setIfInBounds_toArray, List.set_cons_zero, List.set_cons_succ]
  refine Walk.storeS (g := g7) (vc := .tuple #[.agg #[.bool Z34.N.b, .slice Z34.N.p Z34.N.n Z34.N.c, .bool Z34.D.b, .slice Z34.D.p Z34.D.n Z34.D.c], .int .i64 0]) rfl rfl rfl rfl rfl (by simp) (by kernel_rfl) (by simp) (by simp) (by simp) (fun c hc => splice4 (.bool Z34.N.b) (.slice Z34.N.p Z34.N.n Z34.N.c) (.bool Z34.D.b) (.slice Z34.D.p Z34.D.n Z34.D.c) c hc) (by simp [NoU, lvT]) (fun w1 c hI hC hc hL K hK => ?_) ?_
  · obtain ⟨u0, c0⟩ := hC.some (k := 0) (by have hc2 : c.size = 4 := hc; omega)
    obtain ⟨u1, c1⟩ := hC.some (k := 1) (by have hc2 : c.size = 4 := hc; omega)
    obtain ⟨u2, c2⟩ := hC.some (k := 2) (by have hc2 : c.size = 4 := hc; omega)
    obtain ⟨u3, c3⟩ := hC.some (k := 3) (by have hc2 : c.size = 4 := hc; omega)
    have f0 := hC.frozen 0
    have f1 := hC.frozen 1
    have f2 := hC.frozen 2
    have f3 := hC.frozen 3
    go_simp
    exact hK
  intro vs
  simp only [Act.put, List.setIfInBounds_toArray, List.set_cons_zero, List.set_cons_succ]
  refine Walk.nilS (g := g7) (vc := .tuple #[.agg #[.bool Z34.N.b, .slice Z34.N.p Z34.N.n Z34.N.c, .bool Z34.D.b, .slice Z34.D.p Z34.D.n Z34.D.c], .int .i64 0]) (vs := vs) (by simp) (by simp) (by simp) (by decide) (by decide) fun w7 ew7 kzL kzC kzX => ?_
  replace hZ27 := hZ27.ext ew7
  replace oZ27 := oZ27.ext ew7
  replace B1 := B1.ext ew7
  replace B2 := B2.ext ew7
  replace B3 := B3.ext ew7
  have hEw7 := eg hEw6 ew7
  have zw7 := ew7.size
  obtain ⟨hZ34, oZ34⟩ := Tl.getFe (kzS (i := 3) (v := .tuple #[.agg #[.bool Z34.N.b, .slice Z34.N.p Z34.N.n Z34.N.c, .bool Z34.D.b, .slice Z34.D.p Z34.D.n Z34.D.c], .int .i64 0]) rfl rfl (by simp) kzL)
  replace oZ34 := oZ34.mono hEw6.size
  obtain ⟨B4, yB4⟩ := kzC
  replace B4 : Cells w7 (g7) 33 #[.bool Z34.N.b, .slice Z34.N.p Z34.N.n Z34.N.c, .bool Z34.D.b, .slice Z34.D.p Z34.D.n Z34.D.c] := B4
  clear kzL kzX
  have b1_0_w7 := B1.cell (k := 0) rfl
  have b1_1_w7 := B1.cell (k := 1) rfl
  have b1_2_w7 := B1.cell (k := 2) rfl
  have b2_0_w7 := B2.cell (k := 0) rfl
  have b2_1_w7 := B2.cell (k := 1) rfl
  have lB1_w7 := B1.lt
  have lB2_w7 := B2.lt
  have lB3_w7 := B3.lt
  have lB4_w7 := B4.lt
  simp only [List.drop_succ_cons, List.drop_zero, List.drop_nil]
  go_wp2_with fail
  clear b1_0_w6 b1_1_w6 b1_2_w6 b2_0_w6 b2_1_w6 lB1_w6 lB2_w6 lB3_w6
  refine (lAlive T R e y 1 _ (hT.ext hEw7) Hok.out (by omega)).mono ?_
  intro ee w8 gg
  obtain ⟨Z40, rfl, hZ40, oZ40, ew8⟩ := Gv.fe gg
  replace hZ27 := hZ27.ext ew8
  replace hZ34 := hZ34.ext ew8
  replace oZ27 := oZ27.ext ew8
  replace oZ34 := oZ34.ext ew8
  replace B1 := B1.ext ew8
  replace B2 := B2.ext ew8
  replace B3 := B3.ext ew8
  replace B4 := B4.ext ew8
  have hEw8 := eg hEw7 ew8
  have zw8 := ew8.size
  replace oZ40 := oZ40.mono hEw7.size
  have lB1_w8 := B1.lt
  have lB2_w8 := B2.lt
  have lB3_w8 := B3.lt
  have lB4_w8 := B4.lt
  obtain ⟨w9, hww9⟩ : ∃ W, w8.alloc (.cells #[.bool Z40.N.b, .slice Z40.N.p Z40.N.n Z40.N.c, .bool Z40.D.b, .slice Z40.D.p Z40.D.n Z40.D.c] 33) = W := ⟨_, rfl⟩
  have ew9 : Ext w8 w9 := by rw [← hww9]; exact ea _ _
  have B5 : Cells w9 (w8.heap.size) 33 #[.bool Z40.N.b, .slice Z40.N.p Z40.N.n Z40.N.c, .bool Z40.D.b, .slice Z40.D.p Z40.D.n Z40.D.c] := by rw [← hww9]; exact Cells.newAt _ _ (by omega)
  replace hZ27 := hZ27.ext ew9
  replace hZ34 := hZ34.ext ew9
  replace hZ40 := hZ40.ext ew9
  replace oZ27 := oZ27.ext ew9
  replace oZ34 := oZ34.ext ew9
  replace oZ40 := oZ40.ext ew9
  replace B1 := B1.ext ew9
  replace B2 := B2.ext ew9
  replace B3 := B3.ext ew9
  replace B4 := B4.ext ew9
  have zw9 := alloc_lt hww9
  have hEw9 := eg hEw8 ew9
  have b3_0_w9 := B3.cell (k := 0) rfl
  have b3_1_w9 := B3.cell (k := 1) rfl
  have b3_2_w9 := B3.cell (k := 2) rfl
  have b3_3_w9 := B3.cell (k := 3) rfl
  have b5_0_w9 := B5.cell (k := 0) rfl
  have b5_1_w9 := B5.cell (k := 1) rfl
  have b5_2_w9 := B5.cell (k := 2) rfl
  have b5_3_w9 := B5.cell (k := 3) rfl
  have b4_0_w9 := B4.cell (k := 0) rfl
  have b4_1_w9 := B4.cell (k := 1) rfl
  have b4_2_w9 := B4.cell (k := 2) rfl
  have b4_3_w9 := B4.cell (k := 3) rfl
  have lB1_w9 := B1.lt
  have lB2_w9 := B2.lt
  have lB3_w9 := B3.lt
  have lB4_w9 := B4.lt
  have lB5_w9 := B5.lt
  go_wp2_with fail
  clear hww9
  clear b1_0_w7 b1_1_w7 b1_2_w7 b2_0_w7 b2_1_w7 lB1_w7 lB2_w7 lB3_w7 lB4_w7 lB1_w8 lB2_w8 lB3_w8 lB4_w8
  have yw9 := Nat.le_of_eq zw9
  replace zw9 := Nat.le_of_eq zw9.symm
  refine regionT 19 (fun k => match k with | 13 => some (.f (1)) | 15 => some (.f (1 + (lex T R e (y + 1)))) | 16 => some (.f ((lal T R e y (1 : Int).toNat) * (1 + (lex T R e (y + 1))))) | 17 => some (.v (.bool true)) | _ => none) (by kernel_rfl) (by kernel_rfl) ?_
  iterate 3
    refine Walk.one (x := ?_) rfl rfl (fun w1 hI hL K hK => ?_) ?_
    rotate_left
    · obtain ⟨hc, hf⟩ := bcell hI
      go_simp
      repeat (first | (go_ints; try go_simp) | (simp only [↓IntWalk.iteOmega]; try go_simp))
      exact hK
    simp only [Act.put, List.setIfInBounds_toArray, List.set_cons_zero, List.set_cons_succ]
  refine Walk.oneG (x := ?_) rfl (by kernel_rfl) (fun w1 hI hL K hK => ?_) ?_
  rotate_left
  · obtain ⟨hc, hf⟩ := bcell hI
    go_simp
    repeat (first | (go_ints; try go_simp) | (simp only [↓IntWalk.iteOmega]; try go_simp))
    exact hK
  simp only [Act.put, List.setIfInBounds_toArray, List.set_cons_zero, List.set_cons_succ]
  refine Walk.oneG (x := ?_) rfl (by kernel_rfl) (fun w1 hI hL K hK => ?_) ?_
  rotate_left
  · obtain ⟨hc, hf⟩ := bcell hI
    go_simp
    repeat (first | (go_ints; try go_simp) | (simp only [↓IntWalk.iteOmega]; try go_simp))
    exact hK
  simp only [Act.put, List.setIfInBounds_toArray, List.set_cons_zero, List.set_cons_succ]
  iterate 2
    refine Walk.one (x := ?_) rfl rfl (fun w1 hI hL K hK => ?_) ?_
    rotate_left
    · obtain ⟨hc, hf⟩ := bcell hI
      go_simp
      repeat (first | (go_ints; try go_simp) | (simp only [↓IntWalk.iteOmega]; try go_simp))
      exact hK
    simp only [Act.put, List.setIfInBounds_toArray, List.set_cons_zero, List.set_cons_succ]
  refine Walk.oneG (x := ?_) rfl (by kernel_rfl) (fun w1 hI hL K hK => ?_) ?_
  rotate_left
  · obtain ⟨hc, hf⟩ := bcell hI
    go_simp
    repeat (first | (go_ints; try go_simp) | (simp only [↓IntWalk.iteOmega]; try go_simp))
    exact hK
  simp only [Act.put, List.setIfInBounds_toArray, List.set_cons_zero, List.set_cons_succ]
  refine Walk.oneG (x := ?_) rfl (by kernel_rfl) (fun w1 hI hL K hK => ?_) ?_
  rotate_left
  · obtain ⟨hc, hf⟩ := bcell hI
    go_simp
    repeat (first | (go_ints; try go_simp) | (simp only [↓IntWalk.iteOmega]; try go_simp))
    exact hK
  simp only [Act.put, List.setIfInBounds_toArray, List.set_cons_zero, List.set_cons_succ]
  iterate 2
    refine Walk.one (x := ?_) rfl rfl (fun w1 hI hL K hK => ?_) ?_
    rotate_left
    · obtain ⟨hc, hf⟩ := bcell hI
      go_simp
      repeat (first | (go_ints; try go_simp) | (simp only [↓IntWalk.iteOmega]; try go_simp))
      exact hK
    simp only [Act.put, List.setIfInBounds_toArray, List.set_cons_zero, List.set_cons_succ]
  refine Walk.oneG (x := ?_) rfl (by kernel_rfl) (fun w1 hI hL K hK => ?_) ?_
  rotate_left
  · obtain ⟨hc, hf⟩ := bcell hI
    go_simp
    repeat (first | (go_ints; try go_simp) | (simp only [↓IntWalk.iteOmega]; try go_simp))
    exact hK
  simp only [Act.put, List.setIfInBounds_toArray, List.set_cons_zero, List.set_cons_succ]
  refine Walk.oneG (x := ?_) rfl (by kernel_rfl) (fun w1 hI hL K hK => ?_) ?_
  rotate_left
  · obtain ⟨hc, hf⟩ := bcell hI
    go_simp
    repeat (first | (go_ints; try go_simp) | (simp only [↓IntWalk.iteOmega]; try go_simp))
    exact hK
  simp only [Act.put, List.setIfInBounds_toArray, List.set_cons_zero, List.set_cons_succ]
  refine Walk.tellG rfl (by kernel_rfl) (fun w1 hI hL K hK => ?_) ?_
  · go_simp
    exact (fFromInt_1 w1).mono (tell hK)
  rintro _ ⟨Z56, rfl⟩
  simp only [Act.put, List.setIfInBounds_toArray, List.set_cons_zero, List.set_cons_succ]
  refine Walk.oneG (x := ?_) rfl (by kernel_rfl) (fun w1 hI hL K hK => ?_) ?_
  rotate_left
  · obtain ⟨hc, hf⟩ := bcell hI
    go_simp
    repeat (first | (go_ints; try go_simp) | (simp only [↓IntWalk.iteOmega]; try go_simp))
    exact hK
  simp only [Act.put, List.setIfInBounds_toArray, List.set_cons_zero, List.set_cons_succ]
  refine Walk.tellG rfl (by kernel_rfl) (fun w1 hI hL K hK => ?_) ?_
  · go_simp
    exact (nsum Z56 Z34 _ _ w1 ((Tl.getF (kn (i := 13) (v := .agg #[.bool Z56.N.b, .slice Z56.N.p Z56.N.n Z56.N.c, .bool Z56.D.b, .slice Z56.D.p Z56.D.n Z56.D.c]) rfl (by simp) (by kernel_rfl) hL)).1) ((hZ34).ext hI) (sz_one) ((lex_sz hT HR.out).1) ((lex_sz hT HR.out).2)).mono (tell hK)
  rintro _ ⟨Z58, rfl⟩
  simp only [Act.put, List.setIfInBounds_toArray, List.set_cons_zero, List.set_cons_succ]
  refine Walk.tellG rfl (by kernel_rfl) (fun w1 hI hL K hK => ?_) ?_
  · go_simp
    exact (nproduct Z40 Z58 _ _ w1 ((hZ40).ext hI) ((Tl.getF (kn (i := 15) (v := .agg #[.bool Z58.N.b, .slice Z58.N.p Z58.N.n Z58.N.c, .bool Z58.D.b, .slice Z58.D.p Z58.D.n Z58.D.c]) rfl (by simp) (by kernel_rfl) hL)).1) (lal_sz hT Hok.out _) ((lex_sz hT HR.out).2) (lex_sz2 hT Hok.out)).mono (tell hK)
  rintro _ ⟨Z59, rfl⟩
  simp only [Act.put, List.setIfInBounds_toArray, List.set_cons_zero, List.set_cons_succ]
  refine Walk.tellG rfl (by kernel_rfl) (fun w1 hI hL K hK => ?_) ?_
  · go_simp
    exact (nequal_t Z27 Z59 _ _ w1 ((hZ27).ext hI) ((Tl.getF (kn (i := 16) (v := .agg #[.bool Z59.N.b, .slice Z59.N.p Z59.N.n Z59.N.c, .bool Z59.D.b, .slice Z59.D.p Z59.D.n Z59.D.c]) rfl (by simp) (by kernel_rfl) hL)).1) (lex_sz hT Hok.out).1 (lex_sz2 hT Hok.out) (lex_step T R e y)).mono (tell hK)
  rintro _ rfl
  simp only [Act.put, List.setIfInBounds_toArray, List.set_cons_zero, List.set_cons_succ]
  refine Walk.one (x := ?_) rfl rfl (fun w1 hI hL K hK => ?_) ?_
  rotate_left
  · obtain ⟨hc, hf⟩ := bcell hI
    go_simp
    repeat (first | (go_ints; try go_simp) | (simp only [↓IntWalk.iteOmega]; try go_simp))
    exact hK
  simp only [Act.put, List.setIfInBounds_toArray, List.set_cons_zero, List.set_cons_succ]
  refine Walk.nilF fun w10 ew10 kzL kzX => ?_
  replace hZ27 := hZ27.ext ew10
  replace hZ34 := hZ34.ext ew10
  replace hZ40 := hZ40.ext ew10
  replace oZ27 := oZ27.ext ew10
  replace oZ34 := oZ34.ext ew10
  replace oZ40 := oZ40.ext ew10
  replace B1 := B1.ext ew10
  replace B2 := B2.ext ew10
  replace B3 := B3.ext ew10
  replace B4 := B4.ext ew10
  replace B5 := B5.ext ew10
  have hEw10 := eg hEw9 ew10
  have zw10 := ew10.size
  obtain ⟨hZ56, oZ56⟩ := Tl.getF (kz (i := 13) (v := .agg #[.bool Z56.N.b, .slice Z56.N.p Z56.N.n Z56.N.c, .bool Z56.D.b, .slice Z56.D.p Z56.D.n Z56.D.c]) rfl (by simp) kzL)
  replace oZ56 := oZ56.mono hEw9.size
  obtain ⟨hZ58, oZ58⟩ := Tl.getF (kz (i := 15) (v := .agg #[.bool Z58.N.b, .slice Z58.N.p Z58.N.n Z58.N.c, .bool Z58.D.b, .slice Z58.D.p Z58.D.n Z58.D.c]) rfl (by simp) kzL)
  replace oZ58 := oZ58.mono hEw9.size
  obtain ⟨hZ59, oZ59⟩ := Tl.getF (kz (i := 16) (v := .agg #[.bool Z59.N.b, .slice Z59.N.p Z59.N.n Z59.N.c, .bool Z59.D.b, .slice Z59.D.p Z59.D.n Z59.D.c]) rfl (by simp) kzL)
  replace oZ59 := oZ59.mono hEw9.size
  clear kzL kzX
  have lB1_w10 := B1.lt
  have lB2_w10 := B2.lt
  have lB3_w10 := B3.lt
  have lB4_w10 := B4.lt
  have lB5_w10 := B5.lt
  simp only [List.drop_succ_cons, List.drop_zero, List.drop_nil]
  go_wp2_with fail
  clear b3_0_w9 b3_1_w9 b3_2_w9 b3_3_w9 b5_0_w9 b5_1_w9 b5_2_w9 b5_3_w9 b4_0_w9 b4_1_w9 b4_2_w9 b4_3_w9 lB1_w9 lB2_w9 lB3_w9 lB4_w9 lB5_w9
  refine bodyPost_ret (v := .bool true) (by simp [results, Try.results6, go_sem]) rfl ?_
  exact Gv.of_v hEw10

theorem nExpect (T : Tb) (e y : Int) (w : World) (hT : TW w T) (ey : -9223372036854775808 ≤ e ∧ e ≤ 9223372036854775807 ∧ -9223372036854775808 ≤ y ∧ y ≤ 9223372036854775807) : Calls Try.prog 6 #[.agg #[.int .i64 T.first, .int .i64 T.sel, .slice T.P T.N T.C], .agg #[.int .i64 e, .int .i64 y]] w (Gv (.v (.bool true)) w) := by
  cases hu : okU T e y
  · exact nExpect0 T e y w hT ey hu
  · obtain ⟨R, hR, _⟩ := okL_q hT (okU_l hu)
    cases hr : okL T e (y + 1)
    · exact nExpectA T R e y w hR ey hu hr
    · exact nExpectB T R e y w hR ey hu hr
end Go.Proofs.Ytndgaecfeaedeaa
