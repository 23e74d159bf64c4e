/- Walks of the document's answer on lives: what it gives for one life and for two. -/
import Derived.Test.YtndgaecfeaedeaaGreatG21
import Derived.Test.YtndgaecfeaedeaaGreatG22
set_option linter.unusedSimpArgs false
set_option linter.unusedVariables false
namespace Go.Proofs.YtndgaecfeaedeaaGreat
open Go.RowKit Lex Mth
attribute [local go_sem] run_indexAt_at add_zero_map Oper.semAt_some at_zero at_add at_mk1 at_mk2 at_mk3

theorem okL_b {T : Tb} {e y : Int} (h : okL T e y = true) : okT T = true ∧ T.first ≤ e ∧ e ≤ T.first + (T.N : Int) - 1 ∧ 0 ≤ y ∧ y ≤ 300 := by
 unfold okL at h
 simp only [Bool.and_eq_true, decide_eq_true_eq] at h
 exact ⟨h.1.1.1.1, h.1.1.1.2, h.1.1.2, h.1.2, h.2⟩
/-- The rates of a table, if it is valid. -/
def TVR (w : World) (T : Tb) (R : Nat → Nat → Rat) : Prop := okT T = true → TQ w T R
theorem TVR.ext {w w' : World} {T : Tb} {R : Nat → Nat → Rat} (h : TVR w T R) (e : Ext w w') : TVR w' T R := fun ok => (h ok).ext e
theorem TVR.of {w : World} {T : Tb} (h : TW w T) : ∃ R, TVR w T R := by
 cases ok : okT T
 ·exact ⟨fun _ _ => 0, fun h => by rw [ok] at h; cases h⟩
 ·obtain ⟨h1, h2, _⟩ := okT_iff.1 ok
  obtain ⟨R, hR⟩ := TQ.of h h1 h2
  exact ⟨R, fun _ => hR⟩
theorem okN_cases (a : Bool) (n : Int) : (a = false ∧ (a && decide (0 ≤ n)) = false) ∨ (a = true ∧ n < 0 ∧ (a && decide (0 ≤ n)) = false) ∨ (a = true ∧ 0 ≤ n ∧ (a && decide (0 ≤ n)) = true) := by
 cases a
 ·exact .inl ⟨rfl, rfl⟩
 ·rcases Int.lt_or_le n 0 with h | h
  ·exact .inr (.inl ⟨rfl, h, by simp; omega⟩)
  ·exact .inr (.inr ⟨rfl, h, by simp; omega⟩)
theorem ok2_cases (a b : Bool) (n : Int) : (a = false ∧ (a && b && decide (0 ≤ n)) = false) ∨ (a = true ∧ b = false ∧ (a && b && decide (0 ≤ n)) = false) ∨ (a = true ∧ b = true ∧ n < 0 ∧ (a && b && decide (0 ≤ n)) = false) ∨ (a = true ∧ b = true ∧ 0 ≤ n ∧ (a && b && decide (0 ≤ n)) = true) := by
 cases a
 ·exact .inl ⟨rfl, rfl⟩
 ·cases b
  ·exact .inr (.inl ⟨rfl, rfl, rfl⟩)
  ·rcases Int.lt_or_le n 0 with h | h
   ·exact .inr (.inr (.inl ⟨rfl, rfl, h, by simp; omega⟩))
   ·exact .inr (.inr (.inr ⟨rfl, rfl, h, by simp; omega⟩))

set_option maxRecDepth 100000 in
theorem tRateO (T : Tb) (R : Nat → Nat → Rat) (e y : Int) (w : World) (hT : TW w T) (hR : TVR w T R) (ey : -9223372036854775808 ≤ e ∧ e ≤ 9223372036854775807 ∧ -9223372036854775808 ≤ y ∧ y ≤ 9223372036854775807) :
    Calls Tryz.prog 46 #[.agg #[.int .i64 T.first, .int .i64 T.sel, .slice T.P T.N T.C], .agg #[.int .i64 e, .int .i64 y]] w (Gv (.ro (oL (okL T e y) (rt T R e y))) w) := by
 obtain ⟨w1, hww1, ew1, B1, zw1⟩ := alloc_at w (w.heap.size) (by omega) #[.int .i64 T.first, .int .i64 T.sel, .slice T.P T.N T.C] 31
 obtain ⟨w2, hww2, ew2, B2, zw2⟩ := alloc_at w1 (w.heap.size + 1) (by omega) #[.int .i64 e, .int .i64 y] 63
 obtain ⟨w3, hww3, ew3, B3, zw3⟩ := alloc_at w2 (w.heap.size + 1 + 1) (by omega) #[.bool false, .slice none 0 0, .bool false, .slice none 0 0] 40
 go_enter Tryz.func46, Tryz.ntmps46
 rcases Bool.eq_false_or_eq_true (okL T e y) with ok | ok
 ·skip
  have xw1_w3 := eg ew2 ew3
  replace B1 := B1.ext xw1_w3
  have b1_w3 := B1.c3
  replace B2 := B2.ext ew3
  have b2_w3 := B2.c2
  have xw_w3 := eg (eg ew1 ew2) ew3
  have Hb := Lib.hid ok
  have hQ := hR (okL_b ok).1
  obtain ⟨-, h1, h2, h3, h4⟩ := okL_b ok
  have Hok := Lib.hid ok
  clear ok
  go_wp2_with fail
  clear hww1 hww2 hww3
  replace zw1 := le2 zw1
  replace zw2 := le2 zw2
  replace zw3 := le2 zw3
  refine (tRight T e y _ (hT.ext xw_w3) ey Hok.out).mono (Gv.onV fun w4 ew4 zw4 => ?_)
  replace B1 := B1.ext ew4
  have b1_w4 := B1.c3
  replace B2 := B2.ext ew4
  have b2_w4 := B2.c2
  have xw_w4 := eg xw_w3 ew4
  go_wp2_with fail
  clear b1_w3 b2_w3
  refine (tQuote T R e y _ (hQ.ext xw_w4) h1 h2 h3 (by omega)).mono (Gv.onF0 fun Z13 w5 hZ13 ew5 zw5 => ?_)
  have xw3_w5 := eg ew4 ew5
  replace B3 := B3.ext xw3_w5
  have b3_w5 := B3.c4
  have fb3_w5 := B3.f4
  replace B1 := B1.ext ew5
  replace B2 := B2.ext ew5
  have xw_w5 := eg xw_w4 ew5
  obtain ⟨w6, hww6, kw6, Nw6, zw6⟩ := B3.put4 (.bool Z13.N.b) (.slice Z13.N.p Z13.N.n Z13.N.c) (.bool Z13.D.b) (.slice Z13.D.p Z13.D.n Z13.D.c)
  have nuw6 : NoU #[.bool false, .slice none 0 0, .bool false, .slice none 0 0] := by simp [NoU]
  replace B1 := B1.kb kw6 (by omega)
  replace B2 := B2.kb kw6 (by omega)
  replace hZ13 := FR.kb hZ13 B3 nuw6 kw6
  have xw_w6 := Ext.kb xw_w5 kw6 (by omega)
  replace B3 := Nw6
  clear Nw6 kw6
  have b3_w6 := B3.c4
  go_wp2_with fail
  clear hww6
  clear b1_w4 b2_w4 b3_w5 fb3_w5
  replace zw6 := le2 zw6
  refine bodyPost_ret (v := .tuple #[.agg #[.bool Z13.N.b, .slice Z13.N.p Z13.N.n Z13.N.c, .bool Z13.D.b, .slice Z13.D.p Z13.D.n Z13.D.c], .int .i64 0]) (by simp [results, Tryz.results46, go_sem, b3_w6]) rfl ?_
  exact Gv.fn_ro (Gv.of_fn (X := Z13) (hZ13) xw_w6) Hb.out
 ·skip
  have xw1_w3 := eg ew2 ew3
  replace B1 := B1.ext xw1_w3
  have b1_w3 := B1.c3
  replace B2 := B2.ext ew3
  have b2_w3 := B2.c2
  have xw_w3 := eg (eg ew1 ew2) ew3
  have Hb := Lib.hid ok
  have Hok := Lib.hid ok
  clear ok
  go_wp2_with fail
  clear hww1 hww2 hww3
  replace zw1 := le2 zw1
  replace zw2 := le2 zw2
  replace zw3 := le2 zw3
  refine (tRight T e y _ (hT.ext xw_w3) ey Hok.out).mono (Gv.onV fun w7 ew7 zw7 => ?_)
  replace B3 := B3.ext ew7
  have b3_w7 := B3.c4
  have fb3_w7 := B3.f4
  have xw_w7 := eg xw_w3 ew7
  obtain ⟨w8, hww8, kw8, Nw8, zw8⟩ := B3.put4 (.bool false) (.slice none 0 0) (.bool false) (.slice none 0 0)
  have xw_w8 := Ext.kb xw_w7 kw8 (by omega)
  replace B3 := Nw8
  clear Nw8 kw8
  have b3_w8 := B3.c4
  go_wp2_with fail
  clear hww8
  clear b1_w3 b2_w3 b3_w7 fb3_w7
  replace zw8 := le2 zw8
  refine bodyPost_ret (v := .tuple #[.agg #[.bool false, .slice none 0 0, .bool false, .slice none 0 0], .int .i64 2]) (by simp [results, Tryz.results46, go_sem, b3_w8]) rfl ?_
  exact Gv.v_ro (Gv.of_v xw_w8) Hb.out

set_option maxRecDepth 100000 in
theorem tAliveO (T : Tb) (R : Nat → Nat → Rat) (e y : Int) (n : Int) (w : World) (hT : TW w T) (hR : TVR w T R) (ey : -9223372036854775808 ≤ e ∧ e ≤ 9223372036854775807 ∧ -9223372036854775808 ≤ y ∧ y ≤ 9223372036854775807) (hn : -9223372036854775808 ≤ n ∧ n ≤ 9223372036854775807) :
    Calls Tryz.prog 47 #[.agg #[.int .i64 T.first, .int .i64 T.sel, .slice T.P T.N T.C], .agg #[.int .i64 e, .int .i64 y], .int .i64 n] w (Gv (.ro (oL (okL T e y && decide (0 ≤ n)) (lal T R e y n.toNat))) w) := by
 obtain ⟨w1, hww1, ew1, B1, zw1⟩ := alloc_at w (w.heap.size) (by omega) #[.int .i64 T.first, .int .i64 T.sel, .slice T.P T.N T.C] 31
 obtain ⟨w2, hww2, ew2, B2, zw2⟩ := alloc_at w1 (w.heap.size + 1) (by omega) #[.int .i64 e, .int .i64 y] 63
 obtain ⟨w3, hww3, ew3, B3, zw3⟩ := alloc_at w2 (w.heap.size + 1 + 1) (by omega) #[.bool false, .slice none 0 0, .bool false, .slice none 0 0] 40
 go_enter Tryz.func47, Tryz.ntmps47
 rcases okN_cases (okL T e y) n with ⟨ok, hb⟩ | ⟨ok, hn0, hb⟩ | ⟨ok, hn0, hb⟩
 ·skip
  have xw1_w3 := eg ew2 ew3
  replace B1 := B1.ext xw1_w3
  have b1_w3 := B1.c3
  replace B2 := B2.ext ew3
  have b2_w3 := B2.c2
  have xw_w3 := eg (eg ew1 ew2) ew3
  have Hb := Lib.hid hb
  clear hb
  have Hok := Lib.hid ok
  clear ok
  go_wp2_with fail
  clear hww1 hww2 hww3
  replace zw1 := le2 zw1
  replace zw2 := le2 zw2
  replace zw3 := le2 zw3
  refine (tRight T e y _ (hT.ext xw_w3) ey Hok.out).mono (Gv.onV fun w4 ew4 zw4 => ?_)
  replace B3 := B3.ext ew4
  have b3_w4 := B3.c4
  have fb3_w4 := B3.f4
  replace B1 := B1.ext ew4
  replace B2 := B2.ext ew4
  have xw_w4 := eg xw_w3 ew4
  obtain ⟨w5, hww5, kw5, Nw5, zw5⟩ := B3.put4 (.bool false) (.slice none 0 0) (.bool false) (.slice none 0 0)
  replace B1 := B1.kb kw5 (by omega)
  replace B2 := B2.kb kw5 (by omega)
  have xw_w5 := Ext.kb xw_w4 kw5 (by omega)
  replace B3 := Nw5
  clear Nw5 kw5
  have b3_w5 := B3.c4
  go_wp2_with fail
  clear hww5
  clear b1_w3 b2_w3 b3_w4 fb3_w4
  replace zw5 := le2 zw5
  refine bodyPost_ret (v := .tuple #[.agg #[.bool false, .slice none 0 0, .bool false, .slice none 0 0], .int .i64 2]) (by simp [results, Tryz.results47, go_sem, b3_w5]) rfl ?_
  exact Gv.v_ro (Gv.of_v xw_w5) Hb.out
 ·skip
  have xw1_w3 := eg ew2 ew3
  replace B1 := B1.ext xw1_w3
  have b1_w3 := B1.c3
  replace B2 := B2.ext ew3
  have b2_w3 := B2.c2
  have xw_w3 := eg (eg ew1 ew2) ew3
  have Hb := Lib.hid hb
  clear hb
  have Hok := Lib.hid ok
  clear ok
  go_wp2_with fail
  clear hww1 hww2 hww3
  replace zw1 := le2 zw1
  replace zw2 := le2 zw2
  replace zw3 := le2 zw3
  refine (tRight T e y _ (hT.ext xw_w3) ey Hok.out).mono (Gv.onV fun w6 ew6 zw6 => ?_)
  replace B3 := B3.ext ew6
  have b3_w6 := B3.c4
  have fb3_w6 := B3.f4
  replace B1 := B1.ext ew6
  replace B2 := B2.ext ew6
  have xw_w6 := eg xw_w3 ew6
  obtain ⟨w7, hww7, kw7, Nw7, zw7⟩ := B3.put4 (.bool false) (.slice none 0 0) (.bool false) (.slice none 0 0)
  replace B1 := B1.kb kw7 (by omega)
  replace B2 := B2.kb kw7 (by omega)
  have xw_w7 := Ext.kb xw_w6 kw7 (by omega)
  replace B3 := Nw7
  clear Nw7 kw7
  have b3_w7 := B3.c4
  go_wp2_with fail
  clear hww7
  clear b1_w3 b2_w3 b3_w6 fb3_w6
  replace zw7 := le2 zw7
  refine bodyPost_ret (v := .tuple #[.agg #[.bool false, .slice none 0 0, .bool false, .slice none 0 0], .int .i64 2]) (by simp [results, Tryz.results47, go_sem, b3_w7]) rfl ?_
  exact Gv.v_ro (Gv.of_v xw_w7) Hb.out
 ·skip
  have xw1_w3 := eg ew2 ew3
  replace B1 := B1.ext xw1_w3
  have b1_w3 := B1.c3
  replace B2 := B2.ext ew3
  have b2_w3 := B2.c2
  have xw_w3 := eg (eg ew1 ew2) ew3
  have Hb := Lib.hid hb
  clear hb
  have hQ := hR (okL_b ok).1
  obtain ⟨-, h1, h2, h3, h4⟩ := okL_b ok
  have Hok := Lib.hid ok
  clear ok
  go_wp2_with fail
  clear hww1 hww2 hww3
  replace zw1 := le2 zw1
  replace zw2 := le2 zw2
  replace zw3 := le2 zw3
  refine (tRight T e y _ (hT.ext xw_w3) ey Hok.out).mono (Gv.onV fun w8 ew8 zw8 => ?_)
  replace B1 := B1.ext ew8
  have b1_w8 := B1.c3
  replace B2 := B2.ext ew8
  have b2_w8 := B2.c2
  have xw_w8 := eg xw_w3 ew8
  go_wp2_with fail
  clear b1_w3 b2_w3
  refine (tLives T R e y n _ (hQ.ext xw_w8) h1 h2 h3 (by omega) hn0 hn.2).mono (Gv.onF0 fun Z20 w9 hZ20 ew9 zw9 => ?_)
  have xw3_w9 := eg ew8 ew9
  replace B3 := B3.ext xw3_w9
  have b3_w9 := B3.c4
  have fb3_w9 := B3.f4
  have xw_w9 := eg xw_w8 ew9
  obtain ⟨w10, hww10, kw10, Nw10, zw10⟩ := B3.put4 (.bool Z20.N.b) (.slice Z20.N.p Z20.N.n Z20.N.c) (.bool Z20.D.b) (.slice Z20.D.p Z20.D.n Z20.D.c)
  have nuw10 : NoU #[.bool false, .slice none 0 0, .bool false, .slice none 0 0] := by simp [NoU]
  replace hZ20 := FR.kb hZ20 B3 nuw10 kw10
  have xw_w10 := Ext.kb xw_w9 kw10 (by omega)
  replace B3 := Nw10
  clear Nw10 kw10
  have b3_w10 := B3.c4
  go_wp2_with fail
  clear hww10
  clear b1_w8 b2_w8 b3_w9 fb3_w9
  replace zw10 := le2 zw10
  refine bodyPost_ret (v := .tuple #[.agg #[.bool Z20.N.b, .slice Z20.N.p Z20.N.n Z20.N.c, .bool Z20.D.b, .slice Z20.D.p Z20.D.n Z20.D.c], .int .i64 0]) (by simp [results, Tryz.results47, go_sem, b3_w10]) rfl ?_
  exact Gv.fn_ro (Gv.of_fn (X := Z20) (hZ20) xw_w10) Hb.out

set_option maxRecDepth 100000 in
theorem tDiesO (T : Tb) (R : Nat → Nat → Rat) (e y : Int) (n : Int) (w : World) (hT : TW w T) (hR : TVR w T R) (ey : -9223372036854775808 ≤ e ∧ e ≤ 9223372036854775807 ∧ -9223372036854775808 ≤ y ∧ y ≤ 9223372036854775807) (hn : -9223372036854775808 ≤ n ∧ n ≤ 9223372036854775807) :
    Calls Tryz.prog 48 #[.agg #[.int .i64 T.first, .int .i64 T.sel, .slice T.P T.N T.C], .agg #[.int .i64 e, .int .i64 y], .int .i64 n] w (Gv (.ro (oL (okL T e y && decide (0 ≤ n)) (ldq T R e y n.toNat))) w) := by
 obtain ⟨w1, hww1, ew1, B1, zw1⟩ := alloc_at w (w.heap.size) (by omega) #[.int .i64 T.first, .int .i64 T.sel, .slice T.P T.N T.C] 31
 obtain ⟨w2, hww2, ew2, B2, zw2⟩ := alloc_at w1 (w.heap.size + 1) (by omega) #[.int .i64 e, .int .i64 y] 63
 obtain ⟨w3, hww3, ew3, B3, zw3⟩ := alloc_at w2 (w.heap.size + 1 + 1) (by omega) #[.bool false, .slice none 0 0, .bool false, .slice none 0 0] 40
 go_enter Tryz.func48, Tryz.ntmps48
 rcases okN_cases (okL T e y) n with ⟨ok, hb⟩ | ⟨ok, hn0, hb⟩ | ⟨ok, hn0, hb⟩
 ·skip
  have xw1_w3 := eg ew2 ew3
  replace B1 := B1.ext xw1_w3
  have b1_w3 := B1.c3
  replace B2 := B2.ext ew3
  have b2_w3 := B2.c2
  have xw_w3 := eg (eg ew1 ew2) ew3
  have Hb := Lib.hid hb
  clear hb
  have Hok := Lib.hid ok
  clear ok
  go_wp2_with fail
  clear hww1 hww2 hww3
  replace zw1 := le2 zw1
  replace zw2 := le2 zw2
  replace zw3 := le2 zw3
  refine (tRight T e y _ (hT.ext xw_w3) ey Hok.out).mono (Gv.onV fun w4 ew4 zw4 => ?_)
  replace B3 := B3.ext ew4
  have b3_w4 := B3.c4
  have fb3_w4 := B3.f4
  replace B1 := B1.ext ew4
  replace B2 := B2.ext ew4
  have xw_w4 := eg xw_w3 ew4
  obtain ⟨w5, hww5, kw5, Nw5, zw5⟩ := B3.put4 (.bool false) (.slice none 0 0) (.bool false) (.slice none 0 0)
  replace B1 := B1.kb kw5 (by omega)
  replace B2 := B2.kb kw5 (by omega)
  have xw_w5 := Ext.kb xw_w4 kw5 (by omega)
  replace B3 := Nw5
  clear Nw5 kw5
  have b3_w5 := B3.c4
  go_wp2_with fail
  clear hww5
  clear b1_w3 b2_w3 b3_w4 fb3_w4
  replace zw5 := le2 zw5
  refine bodyPost_ret (v := .tuple #[.agg #[.bool false, .slice none 0 0, .bool false, .slice none 0 0], .int .i64 2]) (by simp [results, Tryz.results48, go_sem, b3_w5]) rfl ?_
  exact Gv.v_ro (Gv.of_v xw_w5) Hb.out
 ·skip
  have xw1_w3 := eg ew2 ew3
  replace B1 := B1.ext xw1_w3
  have b1_w3 := B1.c3
  replace B2 := B2.ext ew3
  have b2_w3 := B2.c2
  have xw_w3 := eg (eg ew1 ew2) ew3
  have Hb := Lib.hid hb
  clear hb
  have Hok := Lib.hid ok
  clear ok
  go_wp2_with fail
  clear hww1 hww2 hww3
  replace zw1 := le2 zw1
  replace zw2 := le2 zw2
  replace zw3 := le2 zw3
  refine (tRight T e y _ (hT.ext xw_w3) ey Hok.out).mono (Gv.onV fun w6 ew6 zw6 => ?_)
  replace B3 := B3.ext ew6
  have b3_w6 := B3.c4
  have fb3_w6 := B3.f4
  replace B1 := B1.ext ew6
  replace B2 := B2.ext ew6
  have xw_w6 := eg xw_w3 ew6
  obtain ⟨w7, hww7, kw7, Nw7, zw7⟩ := B3.put4 (.bool false) (.slice none 0 0) (.bool false) (.slice none 0 0)
  replace B1 := B1.kb kw7 (by omega)
  replace B2 := B2.kb kw7 (by omega)
  have xw_w7 := Ext.kb xw_w6 kw7 (by omega)
  replace B3 := Nw7
  clear Nw7 kw7
  have b3_w7 := B3.c4
  go_wp2_with fail
  clear hww7
  clear b1_w3 b2_w3 b3_w6 fb3_w6
  replace zw7 := le2 zw7
  refine bodyPost_ret (v := .tuple #[.agg #[.bool false, .slice none 0 0, .bool false, .slice none 0 0], .int .i64 2]) (by simp [results, Tryz.results48, go_sem, b3_w7]) rfl ?_
  exact Gv.v_ro (Gv.of_v xw_w7) Hb.out
 ·skip
  have xw1_w3 := eg ew2 ew3
  replace B1 := B1.ext xw1_w3
  have b1_w3 := B1.c3
  replace B2 := B2.ext ew3
  have b2_w3 := B2.c2
  have xw_w3 := eg (eg ew1 ew2) ew3
  have Hb := Lib.hid hb
  clear hb
  have hQ := hR (okL_b ok).1
  obtain ⟨-, h1, h2, h3, h4⟩ := okL_b ok
  have Hok := Lib.hid ok
  clear ok
  go_wp2_with fail
  clear hww1 hww2 hww3
  replace zw1 := le2 zw1
  replace zw2 := le2 zw2
  replace zw3 := le2 zw3
  refine (tRight T e y _ (hT.ext xw_w3) ey Hok.out).mono (Gv.onV fun w8 ew8 zw8 => ?_)
  replace B1 := B1.ext ew8
  have b1_w8 := B1.c3
  replace B2 := B2.ext ew8
  have b2_w8 := B2.c2
  have xw_w8 := eg xw_w3 ew8
  go_wp2_with fail
  clear b1_w3 b2_w3
  refine (tLives T R e y n _ (hQ.ext xw_w8) h1 h2 h3 (by omega) hn0 hn.2).mono (Gv.onF0 fun Z21 w9 hZ21 ew9 zw9 => ?_)
  obtain ⟨w10, hww10, ew10, B4, zw10⟩ := alloc_at w9 (w9.heap.size) (by omega) #[.bool Z21.N.b, .slice Z21.N.p Z21.N.n Z21.N.c, .bool Z21.D.b, .slice Z21.D.p Z21.D.n Z21.D.c] 40
  by_cases hp : lal T R e y n.toNat = 0
  ·skip
   have b4_w10 := B4.c4
   replace hZ21 := hZ21.ext ew10
   have xw_w10 := eg (eg xw_w8 ew9) ew10
   have hl : lal T R e y n.toNat = ldq T R e y n.toNat := by unfold ldq; rw [hp, Rat.zero_mul]
   have Hl := Lib.hid hl
   have Hp := Lib.hid hp
   clear hl hp
   go_wp2_with fail
   clear hww10
   clear b1_w8 b2_w8
   replace zw10 := le2 zw10
   refine (rZero Z21 _ _ (hZ21) (b := true) (by have := Hp.out; simpa using this)).mono (Gv.onV fun w11 ew11 zw11 => ?_)
   replace B4 := B4.ext ew11
   have b4_w11 := B4.c4
   have xw3_w11 := eg (eg (eg ew8 ew9) ew10) ew11
   replace B3 := B3.ext xw3_w11
   have b3_w11 := B3.c4
   have fb3_w11 := B3.f4
   have xw8_w11 := eg (eg ew9 ew10) ew11
   replace B1 := B1.ext xw8_w11
   replace B2 := B2.ext xw8_w11
   replace hZ21 := hZ21.ext ew11
   have xw_w11 := eg xw_w10 ew11
   obtain ⟨w12, hww12, kw12, Nw12, zw12⟩ := B3.put4 (.bool Z21.N.b) (.slice Z21.N.p Z21.N.n Z21.N.c) (.bool Z21.D.b) (.slice Z21.D.p Z21.D.n Z21.D.c)
   have nuw12 : NoU #[.bool false, .slice none 0 0, .bool false, .slice none 0 0] := by simp [NoU]
   replace B1 := B1.kb kw12 (by omega)
   replace B2 := B2.kb kw12 (by omega)
   replace hZ21 := FR.kb hZ21 B3 nuw12 kw12
   replace B4 := B4.kb kw12 (by omega)
   have xw_w12 := Ext.kb xw_w11 kw12 (by omega)
   replace B3 := Nw12
   clear Nw12 kw12
   have b3_w12 := B3.c4
   go_wp2_with fail
   clear hww12
   clear b4_w10 b4_w11 b3_w11 fb3_w11
   replace zw12 := le2 zw12
   refine bodyPost_ret (v := .tuple #[.agg #[.bool Z21.N.b, .slice Z21.N.p Z21.N.n Z21.N.c, .bool Z21.D.b, .slice Z21.D.p Z21.D.n Z21.D.c], .int .i64 0]) (by simp [results, Tryz.results48, go_sem, b3_w12]) rfl ?_
   exact Gv.fn_ro (Gv.of_fn (X := Z21) (FR.to hZ21 Hl) xw_w12) Hb.out
  ·skip
   have b4_w10 := B4.c4
   replace hZ21 := hZ21.ext ew10
   have xw_w10 := eg (eg xw_w8 ew9) ew10
   have hk1 := lal_nz hQ h1 h2 h3 hp
   have Hp := Lib.hid hp
   clear hp
   have hl : lal T R e y n.toNat * rt T R e (y + n) = ldq T R e y n.toNat := by unfold ldq; rw [show y + ((n.toNat : Nat) : Int) = y + n by omega]
   have Hl := Lib.hid hl
   clear hl
   have hS1 := Lib.hid (lal_szH hQ h1 h2 h3 n.toNat)
   have hS3 := Lib.hid (sz_rt (y := y + n) hQ h1 h2 (by omega)).1
   go_wp2_with fail
   clear hww10
   clear b1_w8 b2_w8
   replace zw10 := le2 zw10
   refine (rZero Z21 _ _ (hZ21) (b := false) (by have := Hp.out; simpa using this)).mono (Gv.onV fun w13 ew13 zw13 => ?_)
   replace B4 := B4.ext ew13
   have b4_w13 := B4.c4
   have xw8_w13 := eg (eg ew9 ew10) ew13
   replace B1 := B1.ext xw8_w13
   have b1_w13 := B1.c3
   replace B2 := B2.ext xw8_w13
   have b2_w13 := B2.c2
   have xw_w13 := eg xw_w10 ew13
   replace hZ21 := hZ21.ext ew13
   go_wp2_with fail
   clear b4_w10
   refine regionT 11 (fun kk => match kk with | 9 => some (.f0 (rt T R e (y + n))) | 10 => some (.f0 ((lal T R e y n.toNat) * (rt T R e (y + n)))) | _ => none) (by as_aux_lemma => kernel_rfl) (head_of (by as_aux_lemma => kernel_rfl)) ?_
   iterate 9
    refine Walk.one (x := ?_) rfl rfl (fun w1 hI hL K hK => ?_) ?_
    rotate_left
    ·obtain ⟨hc, hf⟩ := bcell hI
     go_simp
     repeat (first | (go_ints; try go_simp) | (simp only [↓IntWalk.iteOmega]; try go_simp))
     exact hK
    simp only [Pq1]
   refine Walk.tell rfl rfl (fun w1 hI hL K hK => ?_) ?_
   ·go_simp
    exact (tQuote T R e (y + n) w1 (hQ.ext (eg xw_w13 hI)) h1 h2 (by omega) (by omega)).mono (tell hK)
   rintro _ ⟨Z34, rfl⟩
   simp only [Pq1]
   refine Walk.tell rfl rfl (fun w1 hI hL K hK => ?_) ?_
   ·go_simp
    exact (rTimesQ Z21 Z34 _ _ w1 ((hZ21).ext hI) ((Tl.getF0 (kn (i := 9) (v := .agg #[.bool Z34.N.b, .slice Z34.N.p Z34.N.n Z34.N.c, .bool Z34.D.b, .slice Z34.D.p Z34.D.n Z34.D.c]) rfl (by simp) (pred_of (by as_aux_lemma => kernel_rfl)) hL))) (hS1.out) (hS3.out)).mono (tell hK)
   rintro _ ⟨Z35, rfl⟩
   simp only [Pq1]
   refine Walk.nilF fun w14 ew14 kzL kzX => ?_
   have zw14 := ew14.size
   have hZ35 := Tl.getF0 (kz (i := 10) (v := .agg #[.bool Z35.N.b, .slice Z35.N.p Z35.N.n Z35.N.c, .bool Z35.D.b, .slice Z35.D.p Z35.D.n Z35.D.c]) rfl (by simp) kzL)
   clear kzL kzX
   simp only [List.drop_succ_cons, List.drop_zero, List.drop_nil]
   have xw3_w14 := eg (eg (eg (eg ew8 ew9) ew10) ew13) ew14
   replace B3 := B3.ext xw3_w14
   have b3_w14 := B3.c4
   have fb3_w14 := B3.f4
   have xw_w14 := eg xw_w13 ew14
   obtain ⟨w15, hww15, kw15, Nw15, zw15⟩ := B3.put4 (.bool Z35.N.b) (.slice Z35.N.p Z35.N.n Z35.N.c) (.bool Z35.D.b) (.slice Z35.D.p Z35.D.n Z35.D.c)
   have nuw15 : NoU #[.bool false, .slice none 0 0, .bool false, .slice none 0 0] := by simp [NoU]
   replace hZ35 := FR.kb hZ35 B3 nuw15 kw15
   have xw_w15 := Ext.kb xw_w14 kw15 (by omega)
   replace B3 := Nw15
   clear Nw15 kw15
   have b3_w15 := B3.c4
   go_wp2_with fail
   clear hww15
   clear b4_w13 b1_w13 b2_w13 b3_w14 fb3_w14
   replace zw15 := le2 zw15
   refine bodyPost_ret (v := .tuple #[.agg #[.bool Z35.N.b, .slice Z35.N.p Z35.N.n Z35.N.c, .bool Z35.D.b, .slice Z35.D.p Z35.D.n Z35.D.c], .int .i64 0]) (by simp [results, Tryz.results48, go_sem, b3_w15]) rfl ?_
   exact Gv.fn_ro (Gv.of_fn (X := Z35) (FR.to hZ35 Hl) xw_w15) Hb.out

set_option maxRecDepth 100000 in
set_option maxHeartbeats 2000000 in
theorem tExpectO (T : Tb) (R : Nat → Nat → Rat) (e y : Int) (w : World) (hT : TW w T) (hR : TVR w T R) (ey : -9223372036854775808 ≤ e ∧ e ≤ 9223372036854775807 ∧ -9223372036854775808 ≤ y ∧ y ≤ 9223372036854775807) :
    Calls Tryz.prog 49 #[.agg #[.int .i64 T.first, .int .i64 T.sel, .slice T.P T.N T.C], .agg #[.int .i64 e, .int .i64 y]] w (Gv (.ro (oL (okL T e y) (lex T R e y))) w) := by
 obtain ⟨w1, hww1, ew1, B1, zw1⟩ := alloc_at w (w.heap.size) (by omega) #[.int .i64 T.first, .int .i64 T.sel, .slice T.P T.N T.C] 31
 obtain ⟨w2, hww2, ew2, B2, zw2⟩ := alloc_at w1 (w.heap.size + 1) (by omega) #[.int .i64 e, .int .i64 y] 63
 obtain ⟨w3, hww3, ew3, B3, zw3⟩ := alloc_at w2 (w.heap.size + 1 + 1) (by omega) #[.bool false, .slice none 0 0, .bool false, .slice none 0 0] 40
 go_enter Tryz.func49, Tryz.ntmps49
 rcases Bool.eq_false_or_eq_true (okL T e y) with ok | ok
 ·skip
  have xw1_w3 := eg ew2 ew3
  replace B1 := B1.ext xw1_w3
  have b1_w3 := B1.c3
  replace B2 := B2.ext ew3
  have b2_w3 := B2.c2
  have xw_w3 := eg (eg ew1 ew2) ew3
  have Hb := Lib.hid ok
  have hQ := hR (okL_b ok).1
  obtain ⟨-, h1, h2, h3, h4⟩ := okL_b ok
  obtain ⟨b1, b2, b3, b4, b5, b6⟩ := id hQ.b
  have Hok := Lib.hid ok
  clear ok
  go_wp2_with fail
  clear hww1 hww2 hww3
  replace zw1 := le2 zw1
  replace zw2 := le2 zw2
  replace zw3 := le2 zw3
  refine (tRight T e y _ (hT.ext xw_w3) ey Hok.out).mono (Gv.onV fun w4 ew4 zw4 => ?_)
  have xw_w4 := eg xw_w3 ew4
  go_wp2_with fail
  clear b1_w3 b2_w3
  refine (rFromIntQ_0 _).mono (Gv.onF fun Z13 w5 hZ13 ew5 zw5 => ?_)
  obtain ⟨w6, hww6, ew6, B4, zw6⟩ := alloc_at w5 (w5.heap.size) (by omega) #[.bool Z13.N.b, .slice Z13.N.p Z13.N.n Z13.N.c, .bool Z13.D.b, .slice Z13.D.p Z13.D.n Z13.D.c] 40
  have xw3_w6 := eg (eg ew4 ew5) ew6
  replace B1 := B1.ext xw3_w6
  replace B2 := B2.ext xw3_w6
  replace B3 := B3.ext xw3_w6
  have xw_w6 := eg (eg xw_w4 ew5) ew6
  replace hZ13 := hZ13.ext ew6
  go_wp2_with fail
  clear hww6
  replace zw6 := le2 zw6
  go_loopw [7] (fun v7 r5 => ∃ (j : Nat) (S : Fr), v7 = .int .i64 ((j : Int) + 1) ∧ j ≤ T.N + 1 ∧ Cells r5 (w.heap.size) 31 #[.int .i64 T.first, .int .i64 T.sel, .slice T.P T.N T.C] ∧ Cells r5 (w.heap.size + 1) 63 #[.int .i64 e, .int .i64 y] ∧ Cells r5 (w.heap.size + 1 + 1) 40 #[.bool false, .slice none 0 0, .bool false, .slice none 0 0] ∧ Cells r5 (w5.heap.size) 40 #[.bool S.N.b, .slice S.N.p S.N.n S.N.c, .bool S.D.b, .slice S.D.p S.D.n S.D.c] ∧ FR r5 S (es (fun k => rt T R e (y + (k : Nat))) j) ∧ Ext w r5) (fun v7 _ => (T.N + 2 - intOf v7).toNat)
  case atStart => exact ⟨0, Z13, rfl, by omega, B1, B2, B3, B4, hZ13, xw_w6⟩
  case round =>
   obtain ⟨r5, hqr5⟩ : ∃ r, r = wr := ⟨_, rfl⟩
   subst hqr5
   clear B1 B2 B3 hZ13 B4
   obtain ⟨j, S, rfl, hj0, B1, B2, B3, B4, hS, xw_r5⟩ := hrel
   have zr5 := xw_r5.size
   have lB1_r5 := B1.lt
   have lB2_r5 := B2.lt
   have lB3_r5 := B3.lt
   have lB4_r5 := B4.lt
   have b1_r5 := B1.c3
   by_cases hj : j < T.N + 1
   ·skip
    have b4_r5 := B4.c4
    have b2_r5 := B2.c2
    have hj2 : (j : Int) + 1 ≤ (T.N : Int) + 1 := by omega
    have hS1 := Lib.hid (es_sz (rs_rt hQ h1 h2 h3) (yN_leB hQ.b h1 h3) j (by omega))
    have hS2 := Lib.hid (lal_szH hQ h1 h2 h3 (j + 1))
    go_wp2_with fail
    refine regionT 6 (fun kk => match kk with | 4 => some (.f0 (lal T R e y (j + 1))) | 5 => some (.f0 ((es (fun k => rt T R e (y + (k : Nat))) j) + (lal T R e y (j + 1)))) | _ => none) (by as_aux_lemma => kernel_rfl) (head_of (by as_aux_lemma => kernel_rfl)) ?_
    iterate 4
     refine Walk.one (x := ?_) rfl rfl (fun w1 hI hL K hK => ?_) ?_
     rotate_left
     ·obtain ⟨hc, hf⟩ := bcell hI
      go_simp
      repeat (first | (go_ints; try go_simp) | (simp only [↓IntWalk.iteOmega]; try go_simp))
      exact hK
     simp only [Pq1]
    refine Walk.tell rfl rfl (fun w1 hI hL K hK => ?_) ?_
    ·go_simp
     exact (tLives T R e y ((j : Int) + 1) w1 (hQ.ext (eg xw_r5 hI)) h1 h2 h3 (by omega) (by omega) (by omega)).mono (tell hK)
    rintro _ ⟨Z26, rfl⟩
    simp only [Pq1]
    refine Walk.tell rfl rfl (fun w1 hI hL K hK => ?_) ?_
    ·go_simp
     exact (rPlus S Z26 _ _ w1 ((hS).ext hI) ((Tl.getF0 (kn (i := 4) (v := .agg #[.bool Z26.N.b, .slice Z26.N.p Z26.N.n Z26.N.c, .bool Z26.D.b, .slice Z26.D.p Z26.D.n Z26.D.c]) rfl (by simp) (pred_of (by as_aux_lemma => kernel_rfl)) hL))) (hS1.out) (hS2.out)).mono (tell hK)
    rintro _ ⟨Z27, rfl⟩
    simp only [Pq1]
    refine Walk.nilF fun w7 ew7 kzL kzX => ?_
    have zw7 := ew7.size
    have hZ27 := Tl.getF0 (kz (i := 5) (v := .agg #[.bool Z27.N.b, .slice Z27.N.p Z27.N.n Z27.N.c, .bool Z27.D.b, .slice Z27.D.p Z27.D.n Z27.D.c]) rfl (by simp) kzL)
    clear kzL kzX
    simp only [List.drop_succ_cons, List.drop_zero, List.drop_nil]
    replace B4 := B4.ext ew7
    have b4_w7 := B4.c4
    have fb4_w7 := B4.f4
    replace B1 := B1.ext ew7
    replace B2 := B2.ext ew7
    replace B3 := B3.ext ew7
    replace hS := hS.ext ew7
    have xw_w7 := eg xw_r5 ew7
    obtain ⟨w8, hww8, kw8, Nw8, zw8⟩ := B4.put4 (.bool Z27.N.b) (.slice Z27.N.p Z27.N.n Z27.N.c) (.bool Z27.D.b) (.slice Z27.D.p Z27.D.n Z27.D.c)
    have nuw8 : NoU #[.bool S.N.b, .slice S.N.p S.N.n S.N.c, .bool S.D.b, .slice S.D.p S.D.n S.D.c] := by simp [NoU]
    replace B1 := B1.kb kw8 (by omega)
    replace B2 := B2.kb kw8 (by omega)
    replace B3 := B3.kb kw8 (by omega)
    replace hS := FR.kb hS B4 nuw8 kw8
    replace hZ27 := FR.kb hZ27 B4 nuw8 kw8
    have xw_w8 := Ext.kb xw_w7 kw8 (by omega)
    replace B4 := Nw8
    clear Nw8 kw8
    go_wp2_with fail
    clear hww8
    clear b1_r5 b4_r5 b2_r5 b4_w7 fb4_w7
    replace zw8 := le2 zw8
    go_roundw
    case rel => exact ⟨j + 1, Z27, rfl, by omega, B1, B2, B3, B4, hZ27, xw_w8⟩
    case measure => simp [intOf] <;> omega
   ·skip
    have b4_r5 := B4.c4
    have b3_r5 := B3.c4
    have fb3_r5 := B3.f4
    obtain rfl : j = T.N + 1 := by omega
    have Hl := Lib.hid (lex_all hQ h1 h2 h3)
    obtain ⟨w9, hww9, kw9, Nw9, zw9⟩ := B3.put4 (.bool S.N.b) (.slice S.N.p S.N.n S.N.c) (.bool S.D.b) (.slice S.D.p S.D.n S.D.c)
    have nuw9 : NoU #[.bool false, .slice none 0 0, .bool false, .slice none 0 0] := by simp [NoU]
    replace B1 := B1.kb kw9 (by omega)
    replace B2 := B2.kb kw9 (by omega)
    replace hS := FR.kb hS B3 nuw9 kw9
    have xw_w9 := Ext.kb xw_r5 kw9 (by omega)
    replace B3 := Nw9
    clear Nw9 kw9
    have b3_w9 := B3.c4
    go_wp2_with fail
    clear hww9
    clear b1_r5 b4_r5 b3_r5 fb3_r5
    replace zw9 := le2 zw9
    refine bodyPost_ret (v := .tuple #[.agg #[.bool S.N.b, .slice S.N.p S.N.n S.N.c, .bool S.D.b, .slice S.D.p S.D.n S.D.c], .int .i64 0]) (by simp [results, Tryz.results49, go_sem, b3_w9]) rfl ?_
    exact Gv.fn_ro (Gv.of_fn (X := S) (FR.to hS Hl) xw_w9) Hb.out
 ·skip
  have xw1_w3 := eg ew2 ew3
  replace B1 := B1.ext xw1_w3
  have b1_w3 := B1.c3
  replace B2 := B2.ext ew3
  have b2_w3 := B2.c2
  have xw_w3 := eg (eg ew1 ew2) ew3
  have Hb := Lib.hid ok
  have Hok := Lib.hid ok
  clear ok
  go_wp2_with fail
  clear hww1 hww2 hww3
  replace zw1 := le2 zw1
  replace zw2 := le2 zw2
  replace zw3 := le2 zw3
  refine (tRight T e y _ (hT.ext xw_w3) ey Hok.out).mono (Gv.onV fun w10 ew10 zw10 => ?_)
  replace B3 := B3.ext ew10
  have b3_w10 := B3.c4
  have fb3_w10 := B3.f4
  have xw_w10 := eg xw_w3 ew10
  obtain ⟨w11, hww11, kw11, Nw11, zw11⟩ := B3.put4 (.bool false) (.slice none 0 0) (.bool false) (.slice none 0 0)
  have xw_w11 := Ext.kb xw_w10 kw11 (by omega)
  replace B3 := Nw11
  clear Nw11 kw11
  have b3_w11 := B3.c4
  go_wp2_with fail
  clear hww11
  clear b1_w3 b2_w3 b3_w10 fb3_w10
  replace zw11 := le2 zw11
  refine bodyPost_ret (v := .tuple #[.agg #[.bool false, .slice none 0 0, .bool false, .slice none 0 0], .int .i64 2]) (by simp [results, Tryz.results49, go_sem, b3_w11]) rfl ?_
  exact Gv.v_ro (Gv.of_v xw_w11) Hb.out

set_option maxRecDepth 100000 in
theorem tPair_ (T : Tb) (e y : Int) (e2 y2 : Int) (n : Int) (w : World) (hT : TW w T) (ey : -9223372036854775808 ≤ e ∧ e ≤ 9223372036854775807 ∧ -9223372036854775808 ≤ y ∧ y ≤ 9223372036854775807) (ey2 : -9223372036854775808 ≤ e2 ∧ e2 ≤ 9223372036854775807 ∧ -9223372036854775808 ≤ y2 ∧ y2 ≤ 9223372036854775807) :
    Calls Tryz.prog 93 #[.agg #[.int .i64 T.first, .int .i64 T.sel, .slice T.P T.N T.C], .agg #[.int .i64 e, .int .i64 y], .agg #[.int .i64 e2, .int .i64 y2], .int .i64 n] w (Gv (.v (.bool (okL T e y && okL T e2 y2 && decide (0 ≤ n)))) w) := by
 obtain ⟨w1, hww1, ew1, B1, zw1⟩ := alloc_at w (w.heap.size) (by omega) #[.int .i64 T.first, .int .i64 T.sel, .slice T.P T.N T.C] 31
 obtain ⟨w2, hww2, ew2, B2, zw2⟩ := alloc_at w1 (w.heap.size + 1) (by omega) #[.int .i64 e, .int .i64 y] 63
 obtain ⟨w3, hww3, ew3, B3, zw3⟩ := alloc_at w2 (w.heap.size + 1 + 1) (by omega) #[.int .i64 e2, .int .i64 y2] 63
 go_enter Tryz.func93, Tryz.ntmps93
 rcases ok2_cases (okL T e y) (okL T e2 y2) n with ⟨ok, hb⟩ | ⟨ok, ok2, hb⟩ | ⟨ok, ok2, hn0, hb⟩ | ⟨ok, ok2, hn0, hb⟩
 ·skip
  have xw1_w3 := eg ew2 ew3
  replace B1 := B1.ext xw1_w3
  have b1_w3 := B1.c3
  replace B2 := B2.ext ew3
  have b2_w3 := B2.c2
  have xw_w3 := eg (eg ew1 ew2) ew3
  have Hb := Lib.hid hb
  clear hb
  have Hok := Lib.hid ok
  clear ok
  go_wp2_with fail
  clear hww1 hww2 hww3
  replace zw1 := le2 zw1
  replace zw2 := le2 zw2
  replace zw3 := le2 zw3
  refine (tRight T e y _ (hT.ext xw_w3) ey Hok.out).mono (Gv.onV fun w4 ew4 zw4 => ?_)
  have xw_w4 := eg xw_w3 ew4
  go_wp2_with fail
  clear b1_w3 b2_w3
  refine bodyPost_ret (v := .bool false) (by simp [results, Tryz.results93, go_sem]) rfl ?_
  rw [Hb.out]
  exact Gv.of_v xw_w4
 ·skip
  have xw1_w3 := eg ew2 ew3
  replace B1 := B1.ext xw1_w3
  have b1_w3 := B1.c3
  replace B2 := B2.ext ew3
  have b2_w3 := B2.c2
  have xw_w3 := eg (eg ew1 ew2) ew3
  have Hb := Lib.hid hb
  clear hb
  have Hok := Lib.hid ok
  clear ok
  have Hok2 := Lib.hid ok2
  clear ok2
  go_wp2_with fail
  clear hww1 hww2 hww3
  replace zw1 := le2 zw1
  replace zw2 := le2 zw2
  replace zw3 := le2 zw3
  refine (tRight T e y _ (hT.ext xw_w3) ey Hok.out).mono (Gv.onV fun w5 ew5 zw5 => ?_)
  replace B1 := B1.ext ew5
  have b1_w5 := B1.c3
  replace B3 := B3.ext ew5
  have b3_w5 := B3.c2
  have xw_w5 := eg xw_w3 ew5
  go_wp2_with fail
  clear b1_w3 b2_w3
  refine (tRight T e2 y2 _ (hT.ext xw_w5) ey2 Hok2.out).mono (Gv.onV fun w6 ew6 zw6 => ?_)
  have xw_w6 := eg xw_w5 ew6
  go_wp2_with fail
  clear b1_w5 b3_w5
  refine bodyPost_ret (v := .bool false) (by simp [results, Tryz.results93, go_sem]) rfl ?_
  rw [Hb.out]
  exact Gv.of_v xw_w6
 ·skip
  have xw1_w3 := eg ew2 ew3
  replace B1 := B1.ext xw1_w3
  have b1_w3 := B1.c3
  replace B2 := B2.ext ew3
  have b2_w3 := B2.c2
  have xw_w3 := eg (eg ew1 ew2) ew3
  have Hb := Lib.hid hb
  clear hb
  have Hok := Lib.hid ok
  clear ok
  have Hok2 := Lib.hid ok2
  clear ok2
  have hd : decide (0 ≤ n) = false := by simp; omega
  go_wp2_with fail
  clear hww1 hww2 hww3
  replace zw1 := le2 zw1
  replace zw2 := le2 zw2
  replace zw3 := le2 zw3
  refine (tRight T e y _ (hT.ext xw_w3) ey Hok.out).mono (Gv.onV fun w7 ew7 zw7 => ?_)
  replace B1 := B1.ext ew7
  have b1_w7 := B1.c3
  replace B3 := B3.ext ew7
  have b3_w7 := B3.c2
  have xw_w7 := eg xw_w3 ew7
  go_wp2_with fail
  clear b1_w3 b2_w3
  refine (tRight T e2 y2 _ (hT.ext xw_w7) ey2 Hok2.out).mono (Gv.onV fun w8 ew8 zw8 => ?_)
  have xw_w8 := eg xw_w7 ew8
  go_wp2_with fail
  clear b1_w7 b3_w7
  refine bodyPost_ret (v := .bool false) (by simp [results, Tryz.results93, go_sem]) rfl ?_
  rw [Hb.out]
  exact Gv.of_v xw_w8
 ·skip
  have xw1_w3 := eg ew2 ew3
  replace B1 := B1.ext xw1_w3
  have b1_w3 := B1.c3
  replace B2 := B2.ext ew3
  have b2_w3 := B2.c2
  have xw_w3 := eg (eg ew1 ew2) ew3
  have Hb := Lib.hid hb
  clear hb
  have Hok := Lib.hid ok
  clear ok
  have Hok2 := Lib.hid ok2
  clear ok2
  have hd : decide (0 ≤ n) = true := by simp; omega
  go_wp2_with fail
  clear hww1 hww2 hww3
  replace zw1 := le2 zw1
  replace zw2 := le2 zw2
  replace zw3 := le2 zw3
  refine (tRight T e y _ (hT.ext xw_w3) ey Hok.out).mono (Gv.onV fun w9 ew9 zw9 => ?_)
  replace B1 := B1.ext ew9
  have b1_w9 := B1.c3
  replace B3 := B3.ext ew9
  have b3_w9 := B3.c2
  have xw_w9 := eg xw_w3 ew9
  go_wp2_with fail
  clear b1_w3 b2_w3
  refine (tRight T e2 y2 _ (hT.ext xw_w9) ey2 Hok2.out).mono (Gv.onV fun w10 ew10 zw10 => ?_)
  have xw_w10 := eg xw_w9 ew10
  go_wp2_with fail
  clear b1_w9 b3_w9
  refine bodyPost_ret (v := .bool true) (by simp [results, Tryz.results93, go_sem]) rfl ?_
  rw [Hb.out]
  exact Gv.of_v xw_w10

theorem tPair (T : Tb) (e y e2 y2 n : Int) (w : World) (hT : TW w T) (ey : -9223372036854775808 ≤ e ∧ e ≤ 9223372036854775807 ∧ -9223372036854775808 ≤ y ∧ y ≤ 9223372036854775807) (ey2 : -9223372036854775808 ≤ e2 ∧ e2 ≤ 9223372036854775807 ∧ -9223372036854775808 ≤ y2 ∧ y2 ≤ 9223372036854775807) {b : Bool} (hb : (okL T e y && okL T e2 y2 && decide (0 ≤ n)) = b) : Calls Tryz.prog 93 #[.agg #[.int .i64 T.first, .int .i64 T.sel, .slice T.P T.N T.C], .agg #[.int .i64 e, .int .i64 y], .agg #[.int .i64 e2, .int .i64 y2], .int .i64 n] w (Gv (.v (.bool b)) w) := hb ▸ tPair_ T e y e2 y2 n w hT ey ey2

/-- What the functions of two lives reckon with. -/
structure PT (x y : Rat) : Prop where
 ps : PS x y
 ad : Sz (x + y)
theorem Sm.szE' {q : Rat} {D m : Nat} (h : Sm q D m) (hm : m < 65536) (hD : 0 < D) (hs : siz D ≤ 224) : Sz q := h.sz hD (by have : siz m ≤ 1 := siz_one.2 hm; omega)
theorem pt_of {w : World} {T : Tb} {R : Nat → Nat → Rat} (hT : TQ w T R) {e y e2 y2 : Int} (ok : okL T e y = true) (ok2 : okL T e2 y2 = true) (n : Nat) : PT (lal T R e y n) (lal T R e2 y2 n) := by
 obtain ⟨D, h1, h2, h3⟩ := pal_sz hT ok n
 obtain ⟨E, k1, k2, k3⟩ := pal_sz hT ok2 n
 refine ⟨PS.of h1 k1 h2 k2 h3 k3, ?_⟩
 have hDE : 0 < D * E := Nat.mul_pos h1 k1
 exact ((h3.dvd' (Nat.dvd_mul_right D E)).add (by omega) (k3.dvd' (Nat.dvd_mul_left E D))).szE' (by decide) hDE (by have := siz_mul D E; omega)
theorem ei_alt (x y : Rat) : x + y - x * y = eiQ x y := by unfold eiQ; grind

set_option maxRecDepth 100000 in
theorem tBothO (T : Tb) (R : Nat → Nat → Rat) (e y : Int) (e2 y2 : Int) (n : Int) (w : World) (hT : TW w T) (hR : TVR w T R) (ey : -9223372036854775808 ≤ e ∧ e ≤ 9223372036854775807 ∧ -9223372036854775808 ≤ y ∧ y ≤ 9223372036854775807) (ey2 : -9223372036854775808 ≤ e2 ∧ e2 ≤ 9223372036854775807 ∧ -9223372036854775808 ≤ y2 ∧ y2 ≤ 9223372036854775807) (hn : -9223372036854775808 ≤ n ∧ n ≤ 9223372036854775807) :
    Calls Tryz.prog 52 #[.agg #[.int .i64 T.first, .int .i64 T.sel, .slice T.P T.N T.C], .agg #[.int .i64 e, .int .i64 y], .agg #[.int .i64 e2, .int .i64 y2], .int .i64 n] w (Gv (.ro (oL (okL T e y && okL T e2 y2 && decide (0 ≤ n)) (lal T R e y n.toNat * lal T R e2 y2 n.toNat))) w) := by
 obtain ⟨w1, hww1, ew1, B1, zw1⟩ := alloc_at w (w.heap.size) (by omega) #[.int .i64 T.first, .int .i64 T.sel, .slice T.P T.N T.C] 31
 obtain ⟨w2, hww2, ew2, B2, zw2⟩ := alloc_at w1 (w.heap.size + 1) (by omega) #[.int .i64 e, .int .i64 y] 63
 obtain ⟨w3, hww3, ew3, B3, zw3⟩ := alloc_at w2 (w.heap.size + 1 + 1) (by omega) #[.int .i64 e2, .int .i64 y2] 63
 obtain ⟨w4, hww4, ew4, B4, zw4⟩ := alloc_at w3 (w.heap.size + 1 + 1 + 1) (by omega) #[.bool false, .slice none 0 0, .bool false, .slice none 0 0] 40
 go_enter Tryz.func52, Tryz.ntmps52
 rcases Bool.eq_false_or_eq_true (okL T e y && okL T e2 y2 && decide (0 ≤ n)) with hb | hb
 ·skip
  have xw1_w4 := eg (eg ew2 ew3) ew4
  replace B1 := B1.ext xw1_w4
  have b1_w4 := B1.c3
  have xw2_w4 := eg ew3 ew4
  replace B2 := B2.ext xw2_w4
  have b2_w4 := B2.c2
  replace B3 := B3.ext ew4
  have b3_w4 := B3.c2
  have xw_w4 := eg (eg (eg ew1 ew2) ew3) ew4
  obtain ⟨⟨ok, ok2⟩, hn0⟩ : (okL T e y = true ∧ okL T e2 y2 = true) ∧ 0 ≤ n := by simpa only [Bool.and_eq_true, decide_eq_true_eq] using hb
  have hQ := hR (okL_b ok).1
  obtain ⟨-, h1, h2, h3, h4⟩ := okL_b ok
  obtain ⟨-, k1, k2, k3, k4⟩ := okL_b ok2
  have HP := Lib.hid (pt_of hQ ok ok2 n.toNat)
  clear ok ok2
  have Hb := Lib.hid hb
  clear hb
  go_wp2_with fail
  clear hww1 hww2 hww3 hww4
  replace zw1 := le2 zw1
  replace zw2 := le2 zw2
  replace zw3 := le2 zw3
  replace zw4 := le2 zw4
  refine (tPair T e y e2 y2 n _ (hT.ext xw_w4) ey ey2 Hb.out).mono (Gv.onV fun w5 ew5 zw5 => ?_)
  replace B1 := B1.ext ew5
  have b1_w5 := B1.c3
  replace B2 := B2.ext ew5
  have b2_w5 := B2.c2
  have xw_w5 := eg xw_w4 ew5
  replace B3 := B3.ext ew5
  have b3_w5 := B3.c2
  go_wp2_with fail
  clear b1_w4 b2_w4 b3_w4
  refine regionT 9 (fun kk => match kk with | 3 => some (.f0 (lal T R e y n.toNat)) | 7 => some (.f0 (lal T R e2 y2 n.toNat)) | 8 => some (.f0 ((lal T R e y n.toNat) * (lal T R e2 y2 n.toNat))) | _ => none) (by as_aux_lemma => kernel_rfl) (head_of (by as_aux_lemma => kernel_rfl)) ?_
  iterate 3
   refine Walk.one (x := ?_) rfl rfl (fun w1 hI hL K hK => ?_) ?_
   rotate_left
   ·obtain ⟨hc, hf⟩ := bcell hI
    go_simp
    repeat (first | (go_ints; try go_simp) | (simp only [↓IntWalk.iteOmega]; try go_simp))
    exact hK
   simp only [Pq1]
  refine Walk.tell rfl rfl (fun w1 hI hL K hK => ?_) ?_
  ·go_simp
   exact (tLives T R e y n w1 (hQ.ext (eg xw_w5 hI)) h1 h2 h3 (by omega) hn0 hn.2).mono (tell hK)
  rintro _ ⟨Z20, rfl⟩
  simp only [Pq1]
  iterate 3
   refine Walk.one (x := ?_) rfl rfl (fun w1 hI hL K hK => ?_) ?_
   rotate_left
   ·obtain ⟨hc, hf⟩ := bcell hI
    go_simp
    repeat (first | (go_ints; try go_simp) | (simp only [↓IntWalk.iteOmega]; try go_simp))
    exact hK
   simp only [Pq1]
  refine Walk.tell rfl rfl (fun w1 hI hL K hK => ?_) ?_
  ·go_simp
   exact (tLives T R e2 y2 n w1 (hQ.ext (eg xw_w5 hI)) k1 k2 k3 (by omega) hn0 hn.2).mono (tell hK)
  rintro _ ⟨Z24, rfl⟩
  simp only [Pq1]
  refine Walk.tell rfl rfl (fun w1 hI hL K hK => ?_) ?_
  ·go_simp
   exact (rTimesQ Z20 Z24 _ _ w1 ((Tl.getF0 (kn (i := 3) (v := .agg #[.bool Z20.N.b, .slice Z20.N.p Z20.N.n Z20.N.c, .bool Z20.D.b, .slice Z20.D.p Z20.D.n Z20.D.c]) rfl (by simp) (pred_of (by as_aux_lemma => kernel_rfl)) hL))) ((Tl.getF0 (kn (i := 7) (v := .agg #[.bool Z24.N.b, .slice Z24.N.p Z24.N.n Z24.N.c, .bool Z24.D.b, .slice Z24.D.p Z24.D.n Z24.D.c]) rfl (by simp) (pred_of (by as_aux_lemma => kernel_rfl)) hL))) (HP.out.ps.sx) (HP.out.ps.sy)).mono (tell hK)
  rintro _ ⟨Z25, rfl⟩
  simp only [Pq1]
  refine Walk.nilF fun w6 ew6 kzL kzX => ?_
  have zw6 := ew6.size
  have hZ25 := Tl.getF0 (kz (i := 8) (v := .agg #[.bool Z25.N.b, .slice Z25.N.p Z25.N.n Z25.N.c, .bool Z25.D.b, .slice Z25.D.p Z25.D.n Z25.D.c]) rfl (by simp) kzL)
  clear kzL kzX
  simp only [List.drop_succ_cons, List.drop_zero, List.drop_nil]
  have xw4_w6 := eg ew5 ew6
  replace B4 := B4.ext xw4_w6
  have b4_w6 := B4.c4
  have fb4_w6 := B4.f4
  replace B1 := B1.ext ew6
  replace B2 := B2.ext ew6
  replace B3 := B3.ext ew6
  have xw_w6 := eg xw_w5 ew6
  obtain ⟨w7, hww7, kw7, Nw7, zw7⟩ := B4.put4 (.bool Z25.N.b) (.slice Z25.N.p Z25.N.n Z25.N.c) (.bool Z25.D.b) (.slice Z25.D.p Z25.D.n Z25.D.c)
  have nuw7 : NoU #[.bool false, .slice none 0 0, .bool false, .slice none 0 0] := by simp [NoU]
  replace B1 := B1.kb kw7 (by omega)
  replace B2 := B2.kb kw7 (by omega)
  replace B3 := B3.kb kw7 (by omega)
  replace hZ25 := FR.kb hZ25 B4 nuw7 kw7
  have xw_w7 := Ext.kb xw_w6 kw7 (by omega)
  replace B4 := Nw7
  clear Nw7 kw7
  have b4_w7 := B4.c4
  go_wp2_with fail
  clear hww7
  clear b1_w5 b2_w5 b3_w5 b4_w6 fb4_w6
  replace zw7 := le2 zw7
  refine bodyPost_ret (v := .tuple #[.agg #[.bool Z25.N.b, .slice Z25.N.p Z25.N.n Z25.N.c, .bool Z25.D.b, .slice Z25.D.p Z25.D.n Z25.D.c], .int .i64 0]) (by simp [results, Tryz.results52, go_sem, b4_w7]) rfl ?_
  exact Gv.fn_ro (Gv.of_fn (X := Z25) (hZ25) xw_w7) Hb.out
 ·skip
  have xw1_w4 := eg (eg ew2 ew3) ew4
  replace B1 := B1.ext xw1_w4
  have b1_w4 := B1.c3
  have xw2_w4 := eg ew3 ew4
  replace B2 := B2.ext xw2_w4
  have b2_w4 := B2.c2
  replace B3 := B3.ext ew4
  have b3_w4 := B3.c2
  have xw_w4 := eg (eg (eg ew1 ew2) ew3) ew4
  have Hb := Lib.hid hb
  clear hb
  go_wp2_with fail
  clear hww1 hww2 hww3 hww4
  replace zw1 := le2 zw1
  replace zw2 := le2 zw2
  replace zw3 := le2 zw3
  replace zw4 := le2 zw4
  refine (tPair T e y e2 y2 n _ (hT.ext xw_w4) ey ey2 Hb.out).mono (Gv.onV fun w8 ew8 zw8 => ?_)
  replace B4 := B4.ext ew8
  have b4_w8 := B4.c4
  have fb4_w8 := B4.f4
  have xw_w8 := eg xw_w4 ew8
  obtain ⟨w9, hww9, kw9, Nw9, zw9⟩ := B4.put4 (.bool false) (.slice none 0 0) (.bool false) (.slice none 0 0)
  have xw_w9 := Ext.kb xw_w8 kw9 (by omega)
  replace B4 := Nw9
  clear Nw9 kw9
  have b4_w9 := B4.c4
  go_wp2_with fail
  clear hww9
  clear b1_w4 b2_w4 b3_w4 b4_w8 fb4_w8
  replace zw9 := le2 zw9
  refine bodyPost_ret (v := .tuple #[.agg #[.bool false, .slice none 0 0, .bool false, .slice none 0 0], .int .i64 2]) (by simp [results, Tryz.results52, go_sem, b4_w9]) rfl ?_
  exact Gv.v_ro (Gv.of_v xw_w9) Hb.out

set_option maxRecDepth 100000 in
theorem tEitherO (T : Tb) (R : Nat → Nat → Rat) (e y : Int) (e2 y2 : Int) (n : Int) (w : World) (hT : TW w T) (hR : TVR w T R) (ey : -9223372036854775808 ≤ e ∧ e ≤ 9223372036854775807 ∧ -9223372036854775808 ≤ y ∧ y ≤ 9223372036854775807) (ey2 : -9223372036854775808 ≤ e2 ∧ e2 ≤ 9223372036854775807 ∧ -9223372036854775808 ≤ y2 ∧ y2 ≤ 9223372036854775807) (hn : -9223372036854775808 ≤ n ∧ n ≤ 9223372036854775807) :
    Calls Tryz.prog 53 #[.agg #[.int .i64 T.first, .int .i64 T.sel, .slice T.P T.N T.C], .agg #[.int .i64 e, .int .i64 y], .agg #[.int .i64 e2, .int .i64 y2], .int .i64 n] w (Gv (.ro (oL (okL T e y && okL T e2 y2 && decide (0 ≤ n)) (eiQ (lal T R e y n.toNat) (lal T R e2 y2 n.toNat)))) w) := by
 obtain ⟨w1, hww1, ew1, B1, zw1⟩ := alloc_at w (w.heap.size) (by omega) #[.int .i64 T.first, .int .i64 T.sel, .slice T.P T.N T.C] 31
 obtain ⟨w2, hww2, ew2, B2, zw2⟩ := alloc_at w1 (w.heap.size + 1) (by omega) #[.int .i64 e, .int .i64 y] 63
 obtain ⟨w3, hww3, ew3, B3, zw3⟩ := alloc_at w2 (w.heap.size + 1 + 1) (by omega) #[.int .i64 e2, .int .i64 y2] 63
 obtain ⟨w4, hww4, ew4, B4, zw4⟩ := alloc_at w3 (w.heap.size + 1 + 1 + 1) (by omega) #[.bool false, .slice none 0 0, .bool false, .slice none 0 0] 40
 go_enter Tryz.func53, Tryz.ntmps53
 rcases Bool.eq_false_or_eq_true (okL T e y && okL T e2 y2 && decide (0 ≤ n)) with hb | hb
 ·skip
  have xw1_w4 := eg (eg ew2 ew3) ew4
  replace B1 := B1.ext xw1_w4
  have b1_w4 := B1.c3
  have xw2_w4 := eg ew3 ew4
  replace B2 := B2.ext xw2_w4
  have b2_w4 := B2.c2
  replace B3 := B3.ext ew4
  have b3_w4 := B3.c2
  have xw_w4 := eg (eg (eg ew1 ew2) ew3) ew4
  obtain ⟨⟨ok, ok2⟩, hn0⟩ : (okL T e y = true ∧ okL T e2 y2 = true) ∧ 0 ≤ n := by simpa only [Bool.and_eq_true, decide_eq_true_eq] using hb
  have hQ := hR (okL_b ok).1
  obtain ⟨-, h1, h2, h3, h4⟩ := okL_b ok
  obtain ⟨-, k1, k2, k3, k4⟩ := okL_b ok2
  have HP := Lib.hid (pt_of hQ ok ok2 n.toNat)
  clear ok ok2
  have Hb := Lib.hid hb
  clear hb
  go_wp2_with fail
  clear hww1 hww2 hww3 hww4
  replace zw1 := le2 zw1
  replace zw2 := le2 zw2
  replace zw3 := le2 zw3
  replace zw4 := le2 zw4
  refine (tPair T e y e2 y2 n _ (hT.ext xw_w4) ey ey2 Hb.out).mono (Gv.onV fun w5 ew5 zw5 => ?_)
  replace B1 := B1.ext ew5
  have b1_w5 := B1.c3
  replace B2 := B2.ext ew5
  have b2_w5 := B2.c2
  have xw_w5 := eg xw_w4 ew5
  replace B3 := B3.ext ew5
  have b3_w5 := B3.c2
  go_wp2_with fail
  clear b1_w4 b2_w4 b3_w4
  refine regionT 10 (fun kk => match kk with | 3 => some (.f0 (lal T R e y n.toNat)) | 7 => some (.f0 (lal T R e2 y2 n.toNat)) | 8 => some (.box 40 #[.bool false, .slice none 0 0, .bool false, .slice none 0 0]) | 9 => some (.box 40 #[.bool false, .slice none 0 0, .bool false, .slice none 0 0]) | _ => none) (by as_aux_lemma => kernel_rfl) (head_of (by as_aux_lemma => kernel_rfl)) ?_
  iterate 3
   refine Walk.one (x := ?_) rfl rfl (fun w1 hI hL K hK => ?_) ?_
   rotate_left
   ·obtain ⟨hc, hf⟩ := bcell hI
    go_simp
    repeat (first | (go_ints; try go_simp) | (simp only [↓IntWalk.iteOmega]; try go_simp))
    exact hK
   simp only [Pq1]
  refine Walk.tell rfl rfl (fun w1 hI hL K hK => ?_) ?_
  ·go_simp
   exact (tLives T R e y n w1 (hQ.ext (eg xw_w5 hI)) h1 h2 h3 (by omega) hn0 hn.2).mono (tell hK)
  rintro _ ⟨Z22, rfl⟩
  simp only [Pq1]
  iterate 3
   refine Walk.one (x := ?_) rfl rfl (fun w1 hI hL K hK => ?_) ?_
   rotate_left
   ·obtain ⟨hc, hf⟩ := bcell hI
    go_simp
    repeat (first | (go_ints; try go_simp) | (simp only [↓IntWalk.iteOmega]; try go_simp))
    exact hK
   simp only [Pq1]
  refine Walk.tell rfl rfl (fun w1 hI hL K hK => ?_) ?_
  ·go_simp
   exact (tLives T R e2 y2 n w1 (hQ.ext (eg xw_w5 hI)) k1 k2 k3 (by omega) hn0 hn.2).mono (tell hK)
  rintro _ ⟨Z26, rfl⟩
  simp only [Pq1]
  refine Walk.tell rfl rfl (fun w1 hI hL K hK => ?_) ?_
  ·go_simp
   exact tellB hK
  rintro _ ⟨g10, rfl⟩
  simp only [Pq1]
  refine Walk.tell rfl rfl (fun w1 hI hL K hK => ?_) ?_
  ·go_simp
   exact tellB hK
  rintro _ ⟨g11, rfl⟩
  simp only [Pq1]
  refine Walk.nilF fun w6 ew6 kzL kzX => ?_
  have zw6 := ew6.size
  have hZ22 := Tl.getF0 (kz (i := 3) (v := .agg #[.bool Z22.N.b, .slice Z22.N.p Z22.N.n Z22.N.c, .bool Z22.D.b, .slice Z22.D.p Z22.D.n Z22.D.c]) rfl (by simp) kzL)
  have hZ26 := Tl.getF0 (kz (i := 7) (v := .agg #[.bool Z26.N.b, .slice Z26.N.p Z26.N.n Z26.N.c, .bool Z26.D.b, .slice Z26.D.p Z26.D.n Z26.D.c]) rfl (by simp) kzL)
  obtain ⟨B5, yB5⟩ := Tl.getB (kz (i := 8) (v := .pointer (some ⟨g10, 0, none⟩)) rfl (by simp) kzL)
  obtain ⟨B6, yB6⟩ := Tl.getB (kz (i := 9) (v := .pointer (some ⟨g11, 0, none⟩)) rfl (by simp) kzL)
  have dB5B6 : g10 ≠ g11 := by
   have := kzX (8, .pointer (some ⟨g10, 0, none⟩)) (by simp) (9, .pointer (some ⟨g11, 0, none⟩)) (by simp) (by simp)
   simpa [TB, Tl.box, Bl, Bl1] using this
  have lB5 := B5.lt
  have lB6 := B6.lt
  clear kzL kzX
  simp only [List.drop_succ_cons, List.drop_zero, List.drop_nil]
  have b5_w6 := B5.c4
  have fb5_w6 := B5.f4
  replace B1 := B1.ext ew6
  replace B2 := B2.ext ew6
  replace B3 := B3.ext ew6
  have xw4_w6 := eg ew5 ew6
  replace B4 := B4.ext xw4_w6
  have xw_w6 := eg xw_w5 ew6
  obtain ⟨w7, hww7, kw7, Nw7, zw7⟩ := B5.put4 (.bool Z22.N.b) (.slice Z22.N.p Z22.N.n Z22.N.c) (.bool Z22.D.b) (.slice Z22.D.p Z22.D.n Z22.D.c)
  have nuw7 : NoU #[.bool false, .slice none 0 0, .bool false, .slice none 0 0] := by simp [NoU]
  replace B1 := B1.kb kw7 (by omega)
  replace B2 := B2.kb kw7 (by omega)
  replace B3 := B3.kb kw7 (by omega)
  replace B4 := B4.kb kw7 (by omega)
  replace hZ22 := FR.kb hZ22 B5 nuw7 kw7
  replace hZ26 := FR.kb hZ26 B5 nuw7 kw7
  replace B6 := B6.kb kw7 (by omega)
  have xw_w7 := Ext.kb xw_w6 kw7 (by omega)
  replace B5 := Nw7
  clear Nw7 kw7
  have b6_w7 := B6.c4
  have fb6_w7 := B6.f4
  obtain ⟨w8, hww8, kw8, Nw8, zw8⟩ := B6.put4 (.bool Z26.N.b) (.slice Z26.N.p Z26.N.n Z26.N.c) (.bool Z26.D.b) (.slice Z26.D.p Z26.D.n Z26.D.c)
  have nuw8 : NoU #[.bool false, .slice none 0 0, .bool false, .slice none 0 0] := by simp [NoU]
  replace B1 := B1.kb kw8 (by omega)
  replace B2 := B2.kb kw8 (by omega)
  replace B3 := B3.kb kw8 (by omega)
  replace B4 := B4.kb kw8 (by omega)
  replace hZ22 := FR.kb hZ22 B6 nuw8 kw8
  replace hZ26 := FR.kb hZ26 B6 nuw8 kw8
  replace B5 := B5.kb kw8 (by omega)
  have xw_w8 := Ext.kb xw_w7 kw8 (by omega)
  replace B6 := Nw8
  clear Nw8 kw8
  have b5_w8 := B5.c4
  have b6_w8 := B6.c4
  go_wp2_with fail
  clear hww7 hww8
  clear b1_w5 b2_w5 b3_w5 b5_w6 fb5_w6 b6_w7 fb6_w7
  replace zw7 := le2 zw7
  replace zw8 := le2 zw8
  refine regionT 7 (fun kk => match kk with | 2 => some (.f0 ((lal T R e y n.toNat) + (lal T R e2 y2 n.toNat))) | 5 => some (.f0 ((lal T R e y n.toNat) * (lal T R e2 y2 n.toNat))) | 6 => some (.f0 (((lal T R e y n.toNat) + (lal T R e2 y2 n.toNat)) - ((lal T R e y n.toNat) * (lal T R e2 y2 n.toNat)))) | _ => none) (by as_aux_lemma => kernel_rfl) (head_of (by as_aux_lemma => kernel_rfl)) ?_
  iterate 2
   refine Walk.one (x := ?_) rfl rfl (fun w1 hI hL K hK => ?_) ?_
   rotate_left
   ·obtain ⟨hc, hf⟩ := bcell hI
    go_simp
    repeat (first | (go_ints; try go_simp) | (simp only [↓IntWalk.iteOmega]; try go_simp))
    exact hK
   simp only [Pq1]
  refine Walk.tell rfl rfl (fun w1 hI hL K hK => ?_) ?_
  ·go_simp
   exact (rPlus Z22 Z26 _ _ w1 ((hZ22).ext hI) ((hZ26).ext hI) (HP.out.ps.sx) (HP.out.ps.sy)).mono (tell hK)
  rintro _ ⟨Z29, rfl⟩
  simp only [Pq1]
  iterate 2
   refine Walk.one (x := ?_) rfl rfl (fun w1 hI hL K hK => ?_) ?_
   rotate_left
   ·obtain ⟨hc, hf⟩ := bcell hI
    go_simp
    repeat (first | (go_ints; try go_simp) | (simp only [↓IntWalk.iteOmega]; try go_simp))
    exact hK
   simp only [Pq1]
  refine Walk.tell rfl rfl (fun w1 hI hL K hK => ?_) ?_
  ·go_simp
   exact (rTimesQ Z22 Z26 _ _ w1 ((hZ22).ext hI) ((hZ26).ext hI) (HP.out.ps.sx) (HP.out.ps.sy)).mono (tell hK)
  rintro _ ⟨Z32, rfl⟩
  simp only [Pq1]
  refine Walk.tell rfl rfl (fun w1 hI hL K hK => ?_) ?_
  ·go_simp
   exact (rMinus Z29 Z32 _ _ w1 ((Tl.getF0 (kn (i := 2) (v := .agg #[.bool Z29.N.b, .slice Z29.N.p Z29.N.n Z29.N.c, .bool Z29.D.b, .slice Z29.D.p Z29.D.n Z29.D.c]) rfl (by simp) (pred_of (by as_aux_lemma => kernel_rfl)) hL))) ((Tl.getF0 (kn (i := 5) (v := .agg #[.bool Z32.N.b, .slice Z32.N.p Z32.N.n Z32.N.c, .bool Z32.D.b, .slice Z32.D.p Z32.D.n Z32.D.c]) rfl (by simp) (pred_of (by as_aux_lemma => kernel_rfl)) hL))) (HP.out.ad) (HP.out.ps.m)).mono (tell hK)
  rintro _ ⟨Z33, rfl⟩
  simp only [Pq1]
  refine Walk.nilF fun w9 ew9 kzL kzX => ?_
  have zw9 := ew9.size
  have hZ33 := Tl.getF0 (kz (i := 6) (v := .agg #[.bool Z33.N.b, .slice Z33.N.p Z33.N.n Z33.N.c, .bool Z33.D.b, .slice Z33.D.p Z33.D.n Z33.D.c]) rfl (by simp) kzL)
  clear kzL kzX
  simp only [List.drop_succ_cons, List.drop_zero, List.drop_nil]
  replace B4 := B4.ext ew9
  have b4_w9 := B4.c4
  have fb4_w9 := B4.f4
  replace B1 := B1.ext ew9
  replace B2 := B2.ext ew9
  replace B3 := B3.ext ew9
  have xw_w9 := eg xw_w8 ew9
  obtain ⟨w10, hww10, kw10, Nw10, zw10⟩ := B4.put4 (.bool Z33.N.b) (.slice Z33.N.p Z33.N.n Z33.N.c) (.bool Z33.D.b) (.slice Z33.D.p Z33.D.n Z33.D.c)
  have nuw10 : NoU #[.bool false, .slice none 0 0, .bool false, .slice none 0 0] := by simp [NoU]
  replace B1 := B1.kb kw10 (by omega)
  replace B2 := B2.kb kw10 (by omega)
  replace B3 := B3.kb kw10 (by omega)
  replace hZ33 := FR.kb hZ33 B4 nuw10 kw10
  have xw_w10 := Ext.kb xw_w9 kw10 (by omega)
  replace B4 := Nw10
  clear Nw10 kw10
  have b4_w10 := B4.c4
  go_wp2_with fail
  clear hww10
  clear b5_w8 b6_w8 b4_w9 fb4_w9
  replace zw10 := le2 zw10
  refine bodyPost_ret (v := .tuple #[.agg #[.bool Z33.N.b, .slice Z33.N.p Z33.N.n Z33.N.c, .bool Z33.D.b, .slice Z33.D.p Z33.D.n Z33.D.c], .int .i64 0]) (by simp [results, Tryz.results53, go_sem, b4_w10]) rfl ?_
  exact Gv.fn_ro (Gv.of_fn (X := Z33) (FR.to hZ33 (Lib.hid (ei_alt _ _))) xw_w10) Hb.out
 ·skip
  have xw1_w4 := eg (eg ew2 ew3) ew4
  replace B1 := B1.ext xw1_w4
  have b1_w4 := B1.c3
  have xw2_w4 := eg ew3 ew4
  replace B2 := B2.ext xw2_w4
  have b2_w4 := B2.c2
  replace B3 := B3.ext ew4
  have b3_w4 := B3.c2
  have xw_w4 := eg (eg (eg ew1 ew2) ew3) ew4
  have Hb := Lib.hid hb
  clear hb
  go_wp2_with fail
  clear hww1 hww2 hww3 hww4
  replace zw1 := le2 zw1
  replace zw2 := le2 zw2
  replace zw3 := le2 zw3
  replace zw4 := le2 zw4
  refine (tPair T e y e2 y2 n _ (hT.ext xw_w4) ey ey2 Hb.out).mono (Gv.onV fun w11 ew11 zw11 => ?_)
  replace B4 := B4.ext ew11
  have b4_w11 := B4.c4
  have fb4_w11 := B4.f4
  have xw_w11 := eg xw_w4 ew11
  obtain ⟨w12, hww12, kw12, Nw12, zw12⟩ := B4.put4 (.bool false) (.slice none 0 0) (.bool false) (.slice none 0 0)
  have xw_w12 := Ext.kb xw_w11 kw12 (by omega)
  replace B4 := Nw12
  clear Nw12 kw12
  have b4_w12 := B4.c4
  go_wp2_with fail
  clear hww12
  clear b1_w4 b2_w4 b3_w4 b4_w11 fb4_w11
  replace zw12 := le2 zw12
  refine bodyPost_ret (v := .tuple #[.agg #[.bool false, .slice none 0 0, .bool false, .slice none 0 0], .int .i64 2]) (by simp [results, Tryz.results53, go_sem, b4_w12]) rfl ?_
  exact Gv.v_ro (Gv.of_v xw_w12) Hb.out

set_option maxRecDepth 100000 in
theorem tLeftO (T : Tb) (R : Nat → Nat → Rat) (e y : Int) (e2 y2 : Int) (n : Int) (w : World) (hT : TW w T) (hR : TVR w T R) (ey : -9223372036854775808 ≤ e ∧ e ≤ 9223372036854775807 ∧ -9223372036854775808 ≤ y ∧ y ≤ 9223372036854775807) (ey2 : -9223372036854775808 ≤ e2 ∧ e2 ≤ 9223372036854775807 ∧ -9223372036854775808 ≤ y2 ∧ y2 ≤ 9223372036854775807) (hn : -9223372036854775808 ≤ n ∧ n ≤ 9223372036854775807) :
    Calls Tryz.prog 54 #[.agg #[.int .i64 T.first, .int .i64 T.sel, .slice T.P T.N T.C], .agg #[.int .i64 e, .int .i64 y], .agg #[.int .i64 e2, .int .i64 y2], .int .i64 n] w (Gv (.ro (oL (okL T e y && okL T e2 y2 && decide (0 ≤ n)) (leQ (lal T R e y n.toNat) (lal T R e2 y2 n.toNat)))) w) := by
 obtain ⟨w1, hww1, ew1, B1, zw1⟩ := alloc_at w (w.heap.size) (by omega) #[.int .i64 T.first, .int .i64 T.sel, .slice T.P T.N T.C] 31
 obtain ⟨w2, hww2, ew2, B2, zw2⟩ := alloc_at w1 (w.heap.size + 1) (by omega) #[.int .i64 e, .int .i64 y] 63
 obtain ⟨w3, hww3, ew3, B3, zw3⟩ := alloc_at w2 (w.heap.size + 1 + 1) (by omega) #[.int .i64 e2, .int .i64 y2] 63
 obtain ⟨w4, hww4, ew4, B4, zw4⟩ := alloc_at w3 (w.heap.size + 1 + 1 + 1) (by omega) #[.bool false, .slice none 0 0, .bool false, .slice none 0 0] 40
 go_enter Tryz.func54, Tryz.ntmps54
 rcases Bool.eq_false_or_eq_true (okL T e y && okL T e2 y2 && decide (0 ≤ n)) with hb | hb
 ·skip
  have xw1_w4 := eg (eg ew2 ew3) ew4
  replace B1 := B1.ext xw1_w4
  have b1_w4 := B1.c3
  have xw2_w4 := eg ew3 ew4
  replace B2 := B2.ext xw2_w4
  have b2_w4 := B2.c2
  replace B3 := B3.ext ew4
  have b3_w4 := B3.c2
  have xw_w4 := eg (eg (eg ew1 ew2) ew3) ew4
  obtain ⟨⟨ok, ok2⟩, hn0⟩ : (okL T e y = true ∧ okL T e2 y2 = true) ∧ 0 ≤ n := by simpa only [Bool.and_eq_true, decide_eq_true_eq] using hb
  have hQ := hR (okL_b ok).1
  obtain ⟨-, h1, h2, h3, h4⟩ := okL_b ok
  obtain ⟨-, k1, k2, k3, k4⟩ := okL_b ok2
  have HP := Lib.hid (pt_of hQ ok ok2 n.toNat)
  clear ok ok2
  have Hb := Lib.hid hb
  clear hb
  go_wp2_with fail
  clear hww1 hww2 hww3 hww4
  replace zw1 := le2 zw1
  replace zw2 := le2 zw2
  replace zw3 := le2 zw3
  replace zw4 := le2 zw4
  refine (tPair T e y e2 y2 n _ (hT.ext xw_w4) ey ey2 Hb.out).mono (Gv.onV fun w5 ew5 zw5 => ?_)
  replace B1 := B1.ext ew5
  have b1_w5 := B1.c3
  replace B2 := B2.ext ew5
  have b2_w5 := B2.c2
  have xw_w5 := eg xw_w4 ew5
  replace B3 := B3.ext ew5
  have b3_w5 := B3.c2
  go_wp2_with fail
  clear b1_w4 b2_w4 b3_w4
  refine regionT 10 (fun kk => match kk with | 3 => some (.f0 (lal T R e y n.toNat)) | 4 => some (.f0 (1 - (lal T R e y n.toNat))) | 8 => some (.f0 (lal T R e2 y2 n.toNat)) | 9 => some (.f0 ((1 - (lal T R e y n.toNat)) * (lal T R e2 y2 n.toNat))) | _ => none) (by as_aux_lemma => kernel_rfl) (head_of (by as_aux_lemma => kernel_rfl)) ?_
  iterate 3
   refine Walk.one (x := ?_) rfl rfl (fun w1 hI hL K hK => ?_) ?_
   rotate_left
   ·obtain ⟨hc, hf⟩ := bcell hI
    go_simp
    repeat (first | (go_ints; try go_simp) | (simp only [↓IntWalk.iteOmega]; try go_simp))
    exact hK
   simp only [Pq1]
  refine Walk.tell rfl rfl (fun w1 hI hL K hK => ?_) ?_
  ·go_simp
   exact (tLives T R e y n w1 (hQ.ext (eg xw_w5 hI)) h1 h2 h3 (by omega) hn0 hn.2).mono (tell hK)
  rintro _ ⟨Z20, rfl⟩
  simp only [Pq1]
  refine Walk.tell rfl rfl (fun w1 hI hL K hK => ?_) ?_
  ·go_simp
   exact (tNot Z20 _ w1 ((Tl.getF0 (kn (i := 3) (v := .agg #[.bool Z20.N.b, .slice Z20.N.p Z20.N.n Z20.N.c, .bool Z20.D.b, .slice Z20.D.p Z20.D.n Z20.D.c]) rfl (by simp) (pred_of (by as_aux_lemma => kernel_rfl)) hL))) (HP.out.ps.sx)).mono (tell hK)
  rintro _ ⟨Z21, rfl⟩
  simp only [Pq1]
  iterate 3
   refine Walk.one (x := ?_) rfl rfl (fun w1 hI hL K hK => ?_) ?_
   rotate_left
   ·obtain ⟨hc, hf⟩ := bcell hI
    go_simp
    repeat (first | (go_ints; try go_simp) | (simp only [↓IntWalk.iteOmega]; try go_simp))
    exact hK
   simp only [Pq1]
  refine Walk.tell rfl rfl (fun w1 hI hL K hK => ?_) ?_
  ·go_simp
   exact (tLives T R e2 y2 n w1 (hQ.ext (eg xw_w5 hI)) k1 k2 k3 (by omega) hn0 hn.2).mono (tell hK)
  rintro _ ⟨Z25, rfl⟩
  simp only [Pq1]
  refine Walk.tell rfl rfl (fun w1 hI hL K hK => ?_) ?_
  ·go_simp
   exact (rTimesQ Z21 Z25 _ _ w1 ((Tl.getF0 (kn (i := 4) (v := .agg #[.bool Z21.N.b, .slice Z21.N.p Z21.N.n Z21.N.c, .bool Z21.D.b, .slice Z21.D.p Z21.D.n Z21.D.c]) rfl (by simp) (pred_of (by as_aux_lemma => kernel_rfl)) hL))) ((Tl.getF0 (kn (i := 8) (v := .agg #[.bool Z25.N.b, .slice Z25.N.p Z25.N.n Z25.N.c, .bool Z25.D.b, .slice Z25.D.p Z25.D.n Z25.D.c]) rfl (by simp) (pred_of (by as_aux_lemma => kernel_rfl)) hL))) (HP.out.ps.nx) (HP.out.ps.sy)).mono (tell hK)
  rintro _ ⟨Z26, rfl⟩
  simp only [Pq1]
  refine Walk.nilF fun w6 ew6 kzL kzX => ?_
  have zw6 := ew6.size
  have hZ26 := Tl.getF0 (kz (i := 9) (v := .agg #[.bool Z26.N.b, .slice Z26.N.p Z26.N.n Z26.N.c, .bool Z26.D.b, .slice Z26.D.p Z26.D.n Z26.D.c]) rfl (by simp) kzL)
  clear kzL kzX
  simp only [List.drop_succ_cons, List.drop_zero, List.drop_nil]
  have xw4_w6 := eg ew5 ew6
  replace B4 := B4.ext xw4_w6
  have b4_w6 := B4.c4
  have fb4_w6 := B4.f4
  replace B1 := B1.ext ew6
  replace B2 := B2.ext ew6
  replace B3 := B3.ext ew6
  have xw_w6 := eg xw_w5 ew6
  obtain ⟨w7, hww7, kw7, Nw7, zw7⟩ := B4.put4 (.bool Z26.N.b) (.slice Z26.N.p Z26.N.n Z26.N.c) (.bool Z26.D.b) (.slice Z26.D.p Z26.D.n Z26.D.c)
  have nuw7 : NoU #[.bool false, .slice none 0 0, .bool false, .slice none 0 0] := by simp [NoU]
  replace B1 := B1.kb kw7 (by omega)
  replace B2 := B2.kb kw7 (by omega)
  replace B3 := B3.kb kw7 (by omega)
  replace hZ26 := FR.kb hZ26 B4 nuw7 kw7
  have xw_w7 := Ext.kb xw_w6 kw7 (by omega)
  replace B4 := Nw7
  clear Nw7 kw7
  have b4_w7 := B4.c4
  go_wp2_with fail
  clear hww7
  clear b1_w5 b2_w5 b3_w5 b4_w6 fb4_w6
  replace zw7 := le2 zw7
  refine bodyPost_ret (v := .tuple #[.agg #[.bool Z26.N.b, .slice Z26.N.p Z26.N.n Z26.N.c, .bool Z26.D.b, .slice Z26.D.p Z26.D.n Z26.D.c], .int .i64 0]) (by simp [results, Tryz.results54, go_sem, b4_w7]) rfl ?_
  exact Gv.fn_ro (Gv.of_fn (X := Z26) (hZ26) xw_w7) Hb.out
 ·skip
  have xw1_w4 := eg (eg ew2 ew3) ew4
  replace B1 := B1.ext xw1_w4
  have b1_w4 := B1.c3
  have xw2_w4 := eg ew3 ew4
  replace B2 := B2.ext xw2_w4
  have b2_w4 := B2.c2
  replace B3 := B3.ext ew4
  have b3_w4 := B3.c2
  have xw_w4 := eg (eg (eg ew1 ew2) ew3) ew4
  have Hb := Lib.hid hb
  clear hb
  go_wp2_with fail
  clear hww1 hww2 hww3 hww4
  replace zw1 := le2 zw1
  replace zw2 := le2 zw2
  replace zw3 := le2 zw3
  replace zw4 := le2 zw4
  refine (tPair T e y e2 y2 n _ (hT.ext xw_w4) ey ey2 Hb.out).mono (Gv.onV fun w8 ew8 zw8 => ?_)
  replace B4 := B4.ext ew8
  have b4_w8 := B4.c4
  have fb4_w8 := B4.f4
  have xw_w8 := eg xw_w4 ew8
  obtain ⟨w9, hww9, kw9, Nw9, zw9⟩ := B4.put4 (.bool false) (.slice none 0 0) (.bool false) (.slice none 0 0)
  have xw_w9 := Ext.kb xw_w8 kw9 (by omega)
  replace B4 := Nw9
  clear Nw9 kw9
  have b4_w9 := B4.c4
  go_wp2_with fail
  clear hww9
  clear b1_w4 b2_w4 b3_w4 b4_w8 fb4_w8
  replace zw9 := le2 zw9
  refine bodyPost_ret (v := .tuple #[.agg #[.bool false, .slice none 0 0, .bool false, .slice none 0 0], .int .i64 2]) (by simp [results, Tryz.results54, go_sem, b4_w9]) rfl ?_
  exact Gv.v_ro (Gv.of_v xw_w9) Hb.out
end Go.Proofs.YtndgaecfeaedeaaGreat
