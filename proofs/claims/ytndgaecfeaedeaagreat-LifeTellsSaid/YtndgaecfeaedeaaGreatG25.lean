/- Walks of package life: what it gives for one life and for two, whatever the arguments. Walks of the law on lives: its small functions. -/
import Derived.Test.YtndgaecfeaedeaaGreatG22
import Derived.Test.YtndgaecfeaedeaaGreatG24
namespace Go.Proofs.YtndgaecfeaedeaaGreat
set_option linter.unusedSimpArgs false
set_option linter.unusedVariables false
open Go.RowKit Lex Mth
attribute [local go_sem] run_indexAt_at add_zero_map Oper.semAt_some at_zero at_add at_mk1 at_mk2 at_mk3
set_option linter.unusedSimpArgs false
set_option linter.unusedVariables false

set_option maxRecDepth 100000 in
theorem lRate0 (T : Tb) (e y : Int) (w : World) (hT : TW w T) (ey : -9223372036854775808 ≤ e ∧ e ≤ 9223372036854775807 ∧ -9223372036854775808 ≤ y ∧ y ≤ 9223372036854775807) (ok : okL T e y = false) :
    Calls Tryz.prog 16 #[.agg #[.int .i64 T.first, .int .i64 T.sel, .slice T.P T.N T.C], .agg #[.int .i64 e, .int .i64 y]] w (Gv (.v (.tuple #[.agg #[.bool false, .slice none 0 0, .bool false, .slice none 0 0], .int .i64 2])) w) := by
  have Hok := Lib.hid ok
  clear ok
  obtain ⟨w1, hww1, ew1, B1, zw1⟩ := alloc_at w (w.heap.size) (by omega) #[.int .i64 T.first, .int .i64 T.sel, .slice T.P T.N T.C] 24
  obtain ⟨w2, hww2, ew2, B2, zw2⟩ := alloc_at w1 (w.heap.size + 1) (by omega) #[.int .i64 e, .int .i64 y] 26
  obtain ⟨w3, hww3, ew3, B3, zw3⟩ := alloc_at w2 (w.heap.size + 1 + 1) (by omega) #[.bool false, .slice none 0 0, .bool false, .slice none 0 0] 40
  have xw1_w3 := eg ew2 ew3
  replace B1 := B1.ext xw1_w3
  have b1_w3 := B1.c3
  replace B2 := B2.ext ew3
  have b2_w3 := B2.c2
  have xw_w3 := eg (eg ew1 ew2) ew3
  go_enter Tryz.func16, Tryz.ntmps16
  go_wp2_with fail
  clear hww1 hww2 hww3
  replace zw1 := le2 zw1
  replace zw2 := le2 zw2
  replace zw3 := le2 zw3
  refine (lRight T e y _ (hT.ext xw_w3) ey Hok.out).mono (Gv.onV fun w4 ew4 zw4 => ?_)
  replace B3 := B3.ext ew4
  have b3_w4 := B3.c4
  have fb3_w4 := B3.f4
  have xw_w4 := eg xw_w3 ew4
  obtain ⟨w5, hww5, kw5, Nw5, zw5⟩ := B3.put4 (.bool false) (.slice none 0 0) (.bool false) (.slice none 0 0)
  have xw_w5 := Ext.kb xw_w4 kw5 (by omega)
  replace B3 := Nw5
  clear Nw5 kw5
  have b3_w5 := B3.c4
  go_wp2_with fail
  clear hww5
  clear b1_w3 b2_w3 b3_w4 fb3_w4
  replace zw5 := le2 zw5
  refine bodyPost_ret (v := .tuple #[.agg #[.bool false, .slice none 0 0, .bool false, .slice none 0 0], .int .i64 2]) (by simp [results, Tryz.results16, go_sem, b3_w5]) rfl ?_
  exact Gv.of_v xw_w5

set_option maxRecDepth 100000 in
theorem lExpect0 (T : Tb) (e y : Int) (w : World) (hT : TW w T) (ey : -9223372036854775808 ≤ e ∧ e ≤ 9223372036854775807 ∧ -9223372036854775808 ≤ y ∧ y ≤ 9223372036854775807) (ok : okL T e y = false) :
    Calls Tryz.prog 19 #[.agg #[.int .i64 T.first, .int .i64 T.sel, .slice T.P T.N T.C], .agg #[.int .i64 e, .int .i64 y]] w (Gv (.v (.tuple #[.agg #[.bool false, .slice none 0 0, .bool false, .slice none 0 0], .int .i64 2])) w) := by
  have Hok := Lib.hid ok
  clear ok
  obtain ⟨w1, hww1, ew1, B1, zw1⟩ := alloc_at w (w.heap.size) (by omega) #[.int .i64 T.first, .int .i64 T.sel, .slice T.P T.N T.C] 24
  obtain ⟨w2, hww2, ew2, B2, zw2⟩ := alloc_at w1 (w.heap.size + 1) (by omega) #[.int .i64 e, .int .i64 y] 26
  obtain ⟨w3, hww3, ew3, B3, zw3⟩ := alloc_at w2 (w.heap.size + 1 + 1) (by omega) #[.bool false, .slice none 0 0, .bool false, .slice none 0 0] 40
  have xw1_w3 := eg ew2 ew3
  replace B1 := B1.ext xw1_w3
  have b1_w3 := B1.c3
  replace B2 := B2.ext ew3
  have b2_w3 := B2.c2
  have xw_w3 := eg (eg ew1 ew2) ew3
  go_enter Tryz.func19, Tryz.ntmps19
  go_wp2_with fail
  clear hww1 hww2 hww3
  replace zw1 := le2 zw1
  replace zw2 := le2 zw2
  replace zw3 := le2 zw3
  refine (lRight T e y _ (hT.ext xw_w3) ey Hok.out).mono (Gv.onV fun w4 ew4 zw4 => ?_)
  replace B3 := B3.ext ew4
  have b3_w4 := B3.c4
  have fb3_w4 := B3.f4
  have xw_w4 := eg xw_w3 ew4
  obtain ⟨w5, hww5, kw5, Nw5, zw5⟩ := B3.put4 (.bool false) (.slice none 0 0) (.bool false) (.slice none 0 0)
  have xw_w5 := Ext.kb xw_w4 kw5 (by omega)
  replace B3 := Nw5
  clear Nw5 kw5
  have b3_w5 := B3.c4
  go_wp2_with fail
  clear hww5
  clear b1_w3 b2_w3 b3_w4 fb3_w4
  replace zw5 := le2 zw5
  refine bodyPost_ret (v := .tuple #[.agg #[.bool false, .slice none 0 0, .bool false, .slice none 0 0], .int .i64 2]) (by simp [results, Tryz.results19, go_sem, b3_w5]) rfl ?_
  exact Gv.of_v xw_w5

set_option maxRecDepth 100000 in
theorem lAlive0 (T : Tb) (e y : Int) (n : Int) (w : World) (hT : TW w T) (ey : -9223372036854775808 ≤ e ∧ e ≤ 9223372036854775807 ∧ -9223372036854775808 ≤ y ∧ y ≤ 9223372036854775807) (hb : (okL T e y && decide (0 ≤ n)) = false) :
    Calls Tryz.prog 17 #[.agg #[.int .i64 T.first, .int .i64 T.sel, .slice T.P T.N T.C], .agg #[.int .i64 e, .int .i64 y], .int .i64 n] w (Gv (.v (.tuple #[.agg #[.bool false, .slice none 0 0, .bool false, .slice none 0 0], .int .i64 2])) w) := by
  obtain ⟨w1, hww1, ew1, B1, zw1⟩ := alloc_at w (w.heap.size) (by omega) #[.int .i64 T.first, .int .i64 T.sel, .slice T.P T.N T.C] 24
  obtain ⟨w2, hww2, ew2, B2, zw2⟩ := alloc_at w1 (w.heap.size + 1) (by omega) #[.int .i64 e, .int .i64 y] 26
  obtain ⟨w3, hww3, ew3, B3, zw3⟩ := alloc_at w2 (w.heap.size + 1 + 1) (by omega) #[.bool false, .slice none 0 0, .bool false, .slice none 0 0] 40
  go_enter Tryz.func17, Tryz.ntmps17
  rcases (by cases ok : okL T e y; exact .inl rfl; exact .inr ⟨rfl, by simpa [ok] using hb⟩ : okL T e y = false ∨ (okL T e y = true ∧ n < 0)) with ok | ⟨ok, hn0⟩
  · skip
    have xw1_w3 := eg ew2 ew3
    replace B1 := B1.ext xw1_w3
    have b1_w3 := B1.c3
    replace B2 := B2.ext ew3
    have b2_w3 := B2.c2
    have xw_w3 := eg (eg ew1 ew2) ew3
    have Hb := Lib.hid hb
    clear hb
    have Hok := Lib.hid ok
    clear ok
    go_wp2_with fail
    clear hww1 hww2 hww3
    replace zw1 := le2 zw1
    replace zw2 := le2 zw2
    replace zw3 := le2 zw3
    refine (lRight T e y _ (hT.ext xw_w3) ey Hok.out).mono (Gv.onV fun w4 ew4 zw4 => ?_)
    replace B3 := B3.ext ew4
    have b3_w4 := B3.c4
    have fb3_w4 := B3.f4
    replace B1 := B1.ext ew4
    replace B2 := B2.ext ew4
    have xw_w4 := eg xw_w3 ew4
    obtain ⟨w5, hww5, kw5, Nw5, zw5⟩ := B3.put4 (.bool false) (.slice none 0 0) (.bool false) (.slice none 0 0)
    replace B1 := B1.kb kw5 (by omega)
    replace B2 := B2.kb kw5 (by omega)
    have xw_w5 := Ext.kb xw_w4 kw5 (by omega)
    replace B3 := Nw5
    clear Nw5 kw5
    have b3_w5 := B3.c4
    go_wp2_with fail
    clear hww5
    clear b1_w3 b2_w3 b3_w4 fb3_w4
    replace zw5 := le2 zw5
    refine bodyPost_ret (v := .tuple #[.agg #[.bool false, .slice none 0 0, .bool false, .slice none 0 0], .int .i64 2]) (by simp [results, Tryz.results17, go_sem, b3_w5]) rfl ?_
    exact Gv.of_v xw_w5
  · skip
    have xw1_w3 := eg ew2 ew3
    replace B1 := B1.ext xw1_w3
    have b1_w3 := B1.c3
    replace B2 := B2.ext ew3
    have b2_w3 := B2.c2
    have xw_w3 := eg (eg ew1 ew2) ew3
    have Hb := Lib.hid hb
    clear hb
    have Hok := Lib.hid ok
    clear ok
    go_wp2_with fail
    clear hww1 hww2 hww3
    replace zw1 := le2 zw1
    replace zw2 := le2 zw2
    replace zw3 := le2 zw3
    refine (lRight T e y _ (hT.ext xw_w3) ey Hok.out).mono (Gv.onV fun w6 ew6 zw6 => ?_)
    replace B3 := B3.ext ew6
    have b3_w6 := B3.c4
    have fb3_w6 := B3.f4
    have xw_w6 := eg xw_w3 ew6
    obtain ⟨w7, hww7, kw7, Nw7, zw7⟩ := B3.put4 (.bool false) (.slice none 0 0) (.bool false) (.slice none 0 0)
    have xw_w7 := Ext.kb xw_w6 kw7 (by omega)
    replace B3 := Nw7
    clear Nw7 kw7
    have b3_w7 := B3.c4
    go_wp2_with fail
    clear hww7
    clear b1_w3 b2_w3 b3_w6 fb3_w6
    replace zw7 := le2 zw7
    refine bodyPost_ret (v := .tuple #[.agg #[.bool false, .slice none 0 0, .bool false, .slice none 0 0], .int .i64 2]) (by simp [results, Tryz.results17, go_sem, b3_w7]) rfl ?_
    exact Gv.of_v xw_w7

set_option maxRecDepth 100000 in
theorem lDies0 (T : Tb) (e y : Int) (n : Int) (w : World) (hT : TW w T) (ey : -9223372036854775808 ≤ e ∧ e ≤ 9223372036854775807 ∧ -9223372036854775808 ≤ y ∧ y ≤ 9223372036854775807) (hb : (okL T e y && decide (0 ≤ n)) = false) :
    Calls Tryz.prog 18 #[.agg #[.int .i64 T.first, .int .i64 T.sel, .slice T.P T.N T.C], .agg #[.int .i64 e, .int .i64 y], .int .i64 n] w (Gv (.v (.tuple #[.agg #[.bool false, .slice none 0 0, .bool false, .slice none 0 0], .int .i64 2])) w) := by
  obtain ⟨w1, hww1, ew1, B1, zw1⟩ := alloc_at w (w.heap.size) (by omega) #[.int .i64 T.first, .int .i64 T.sel, .slice T.P T.N T.C] 24
  obtain ⟨w2, hww2, ew2, B2, zw2⟩ := alloc_at w1 (w.heap.size + 1) (by omega) #[.int .i64 e, .int .i64 y] 26
  obtain ⟨w3, hww3, ew3, B3, zw3⟩ := alloc_at w2 (w.heap.size + 1 + 1) (by omega) #[.int .i64 n] 3
  obtain ⟨w4, hww4, ew4, B4, zw4⟩ := alloc_at w3 (w.heap.size + 1 + 1 + 1) (by omega) #[.bool false, .slice none 0 0, .bool false, .slice none 0 0] 40
  obtain ⟨w5, hww5, ew5, B5, zw5⟩ := alloc_at w4 (w.heap.size + 1 + 1 + 1 + 1) (by omega) #[.int .i64 0] 41
  go_enter Tryz.func18, Tryz.ntmps18
  rcases (by cases ok : okL T e y; exact .inl rfl; exact .inr ⟨rfl, by simpa [ok] using hb⟩ : okL T e y = false ∨ (okL T e y = true ∧ n < 0)) with ok | ⟨ok, hn0⟩
  · skip
    have xw1_w5 := eg (eg (eg ew2 ew3) ew4) ew5
    replace B1 := B1.ext xw1_w5
    have b1_w5 := B1.c3
    have xw2_w5 := eg (eg ew3 ew4) ew5
    replace B2 := B2.ext xw2_w5
    have b2_w5 := B2.c2
    have xw_w5 := eg (eg (eg (eg ew1 ew2) ew3) ew4) ew5
    have Hb := Lib.hid hb
    clear hb
    have Hok := Lib.hid ok
    clear ok
    go_wp2_with fail
    clear hww1 hww2 hww3 hww4 hww5
    replace zw1 := le2 zw1
    replace zw2 := le2 zw2
    replace zw3 := le2 zw3
    replace zw4 := le2 zw4
    replace zw5 := le2 zw5
    refine (lRight T e y _ (hT.ext xw_w5) ey Hok.out).mono (Gv.onV fun w6 ew6 zw6 => ?_)
    have xw4_w6 := eg ew5 ew6
    replace B4 := B4.ext xw4_w6
    have b4_w6 := B4.c4
    have fb4_w6 := B4.f4
    replace B1 := B1.ext ew6
    replace B2 := B2.ext ew6
    have xw3_w6 := eg (eg ew4 ew5) ew6
    replace B3 := B3.ext xw3_w6
    replace B5 := B5.ext ew6
    have xw_w6 := eg xw_w5 ew6
    obtain ⟨w7, hww7, kw7, Nw7, zw7⟩ := B4.put4 (.bool false) (.slice none 0 0) (.bool false) (.slice none 0 0)
    replace B1 := B1.kb kw7 (by omega)
    replace B2 := B2.kb kw7 (by omega)
    replace B3 := B3.kb kw7 (by omega)
    replace B5 := B5.kb kw7 (by omega)
    have xw_w7 := Ext.kb xw_w6 kw7 (by omega)
    replace B4 := Nw7
    clear Nw7 kw7
    have b5_w7 := B5.c1
    have fb5_w7 := B5.f1
    obtain ⟨w8, hww8, kw8, Nw8, zw8⟩ := B5.put1 (.int .i64 2)
    replace B1 := B1.kb kw8 (by omega)
    replace B2 := B2.kb kw8 (by omega)
    replace B3 := B3.kb kw8 (by omega)
    replace B4 := B4.kb kw8 (by omega)
    have xw_w8 := Ext.kb xw_w7 kw8 (by omega)
    replace B5 := Nw8
    clear Nw8 kw8
    have b4_w8 := B4.c4
    have b5_w8 := B5.c1
    go_wp2_with fail
    clear hww7 hww8
    clear b1_w5 b2_w5 b4_w6 fb4_w6 b5_w7 fb5_w7
    replace zw7 := le2 zw7
    replace zw8 := le2 zw8
    refine bodyPost_ret (v := .tuple #[.agg #[.bool false, .slice none 0 0, .bool false, .slice none 0 0], .int .i64 2]) (by simp [results, Tryz.results18, go_sem, b4_w8, b5_w8]) rfl ?_
    exact Gv.of_v xw_w8
  · skip
    have xw1_w5 := eg (eg (eg ew2 ew3) ew4) ew5
    replace B1 := B1.ext xw1_w5
    have b1_w5 := B1.c3
    have xw2_w5 := eg (eg ew3 ew4) ew5
    replace B2 := B2.ext xw2_w5
    have b2_w5 := B2.c2
    have xw_w5 := eg (eg (eg (eg ew1 ew2) ew3) ew4) ew5
    have Hb := Lib.hid hb
    clear hb
    have Hok := Lib.hid ok
    clear ok
    go_wp2_with fail
    clear hww1 hww2 hww3 hww4 hww5
    replace zw1 := le2 zw1
    replace zw2 := le2 zw2
    replace zw3 := le2 zw3
    replace zw4 := le2 zw4
    replace zw5 := le2 zw5
    refine (lRight T e y _ (hT.ext xw_w5) ey Hok.out).mono (Gv.onV fun w9 ew9 zw9 => ?_)
    have xw3_w9 := eg (eg ew4 ew5) ew9
    replace B3 := B3.ext xw3_w9
    have b3_w9 := B3.c1
    have xw4_w9 := eg ew5 ew9
    replace B4 := B4.ext xw4_w9
    have b4_w9 := B4.c4
    have fb4_w9 := B4.f4
    replace B5 := B5.ext ew9
    have xw_w9 := eg xw_w5 ew9
    obtain ⟨w10, hww10, kw10, Nw10, zw10⟩ := B4.put4 (.bool false) (.slice none 0 0) (.bool false) (.slice none 0 0)
    replace B5 := B5.kb kw10 (by omega)
    have xw_w10 := Ext.kb xw_w9 kw10 (by omega)
    replace B4 := Nw10
    clear Nw10 kw10
    have b5_w10 := B5.c1
    have fb5_w10 := B5.f1
    obtain ⟨w11, hww11, kw11, Nw11, zw11⟩ := B5.put1 (.int .i64 2)
    replace B4 := B4.kb kw11 (by omega)
    have xw_w11 := Ext.kb xw_w10 kw11 (by omega)
    replace B5 := Nw11
    clear Nw11 kw11
    have b4_w11 := B4.c4
    have b5_w11 := B5.c1
    go_wp2_with fail
    clear hww10 hww11
    clear b1_w5 b2_w5 b3_w9 b4_w9 fb4_w9 b5_w10 fb5_w10
    replace zw10 := le2 zw10
    replace zw11 := le2 zw11
    refine bodyPost_ret (v := .tuple #[.agg #[.bool false, .slice none 0 0, .bool false, .slice none 0 0], .int .i64 2]) (by simp [results, Tryz.results18, go_sem, b4_w11, b5_w11]) rfl ?_
    exact Gv.of_v xw_w11

set_option maxRecDepth 100000 in
theorem lpair0 (T : Tb) (e y : Int) (e2 y2 : Int) (n : Int) (g : Value) (w : World) (hT : TW w T) (ey : -9223372036854775808 ≤ e ∧ e ≤ 9223372036854775807 ∧ -9223372036854775808 ≤ y ∧ y ≤ 9223372036854775807) (ey2 : -9223372036854775808 ≤ e2 ∧ e2 ≤ 9223372036854775807 ∧ -9223372036854775808 ≤ y2 ∧ y2 ≤ 9223372036854775807) (hb : (okL T e y && okL T e2 y2 && decide (0 ≤ n)) = false) :
    Calls Tryz.prog 62 #[.agg #[.int .i64 T.first, .int .i64 T.sel, .slice T.P T.N T.C], .agg #[.int .i64 e, .int .i64 y], .agg #[.int .i64 e2, .int .i64 y2], .int .i64 n, g] w (Gv (.v (.tuple #[.agg #[.bool false, .slice none 0 0, .bool false, .slice none 0 0], .int .i64 2])) w) := by
  obtain ⟨w1, hww1, ew1, B1, zw1⟩ := alloc_at w (w.heap.size) (by omega) #[.int .i64 T.first, .int .i64 T.sel, .slice T.P T.N T.C] 24
  obtain ⟨w2, hww2, ew2, B2, zw2⟩ := alloc_at w1 (w.heap.size + 1) (by omega) #[.int .i64 e, .int .i64 y] 26
  obtain ⟨w3, hww3, ew3, B3, zw3⟩ := alloc_at w2 (w.heap.size + 1 + 1) (by omega) #[.int .i64 e2, .int .i64 y2] 26
  obtain ⟨w4, hww4, ew4, B4, zw4⟩ := alloc_at w3 (w.heap.size + 1 + 1 + 1) (by omega) #[.bool false, .slice none 0 0, .bool false, .slice none 0 0] 40
  go_enter Tryz.func62, Tryz.ntmps62
  rcases (by cases ok : okL T e y; exact .inl rfl; cases ok2 : okL T e2 y2; exact .inr (.inl ⟨rfl, rfl⟩); exact .inr (.inr ⟨rfl, rfl, by simpa [ok, ok2] using hb⟩) : okL T e y = false ∨ (okL T e y = true ∧ okL T e2 y2 = false) ∨ (okL T e y = true ∧ okL T e2 y2 = true ∧ n < 0)) with ok | ⟨ok, ok2⟩ | ⟨ok, ok2, hn0⟩
  · skip
    have xw1_w4 := eg (eg ew2 ew3) ew4
    replace B1 := B1.ext xw1_w4
    have b1_w4 := B1.c3
    have xw2_w4 := eg ew3 ew4
    replace B2 := B2.ext xw2_w4
    have b2_w4 := B2.c2
    have xw_w4 := eg (eg (eg ew1 ew2) ew3) ew4
    have Hb := Lib.hid hb
    clear hb
    have Hok := Lib.hid ok
    clear ok
    go_wp2_with fail
    clear hww1 hww2 hww3 hww4
    replace zw1 := le2 zw1
    replace zw2 := le2 zw2
    replace zw3 := le2 zw3
    replace zw4 := le2 zw4
    refine (lRight T e y _ (hT.ext xw_w4) ey Hok.out).mono (Gv.onV fun w5 ew5 zw5 => ?_)
    replace B4 := B4.ext ew5
    have b4_w5 := B4.c4
    have fb4_w5 := B4.f4
    replace B1 := B1.ext ew5
    replace B2 := B2.ext ew5
    have xw3_w5 := eg ew4 ew5
    replace B3 := B3.ext xw3_w5
    have xw_w5 := eg xw_w4 ew5
    obtain ⟨w6, hww6, kw6, Nw6, zw6⟩ := B4.put4 (.bool false) (.slice none 0 0) (.bool false) (.slice none 0 0)
    replace B1 := B1.kb kw6 (by omega)
    replace B2 := B2.kb kw6 (by omega)
    replace B3 := B3.kb kw6 (by omega)
    have xw_w6 := Ext.kb xw_w5 kw6 (by omega)
    replace B4 := Nw6
    clear Nw6 kw6
    have b4_w6 := B4.c4
    go_wp2_with fail
    clear hww6
    clear b1_w4 b2_w4 b4_w5 fb4_w5
    replace zw6 := le2 zw6
    refine bodyPost_ret (v := .tuple #[.agg #[.bool false, .slice none 0 0, .bool false, .slice none 0 0], .int .i64 2]) (by simp [results, Tryz.results62, go_sem, b4_w6]) rfl ?_
    exact Gv.of_v xw_w6
  · skip
    have xw1_w4 := eg (eg ew2 ew3) ew4
    replace B1 := B1.ext xw1_w4
    have b1_w4 := B1.c3
    have xw2_w4 := eg ew3 ew4
    replace B2 := B2.ext xw2_w4
    have b2_w4 := B2.c2
    have xw_w4 := eg (eg (eg ew1 ew2) ew3) ew4
    have Hb := Lib.hid hb
    clear hb
    have Hok := Lib.hid ok
    clear ok
    have Hok2 := Lib.hid ok2
    clear ok2
    go_wp2_with fail
    clear hww1 hww2 hww3 hww4
    replace zw1 := le2 zw1
    replace zw2 := le2 zw2
    replace zw3 := le2 zw3
    replace zw4 := le2 zw4
    refine (lRight T e y _ (hT.ext xw_w4) ey Hok.out).mono (Gv.onV fun w7 ew7 zw7 => ?_)
    replace B1 := B1.ext ew7
    have b1_w7 := B1.c3
    have xw3_w7 := eg ew4 ew7
    replace B3 := B3.ext xw3_w7
    have b3_w7 := B3.c2
    have xw_w7 := eg xw_w4 ew7
    go_wp2_with fail
    clear b1_w4 b2_w4
    refine (lRight T e2 y2 _ (hT.ext xw_w7) ey2 Hok2.out).mono (Gv.onV fun w8 ew8 zw8 => ?_)
    have xw4_w8 := eg ew7 ew8
    replace B4 := B4.ext xw4_w8
    have b4_w8 := B4.c4
    have fb4_w8 := B4.f4
    replace B1 := B1.ext ew8
    replace B2 := B2.ext xw4_w8
    replace B3 := B3.ext ew8
    have xw_w8 := eg xw_w7 ew8
    obtain ⟨w9, hww9, kw9, Nw9, zw9⟩ := B4.put4 (.bool false) (.slice none 0 0) (.bool false) (.slice none 0 0)
    replace B1 := B1.kb kw9 (by omega)
    replace B2 := B2.kb kw9 (by omega)
    replace B3 := B3.kb kw9 (by omega)
    have xw_w9 := Ext.kb xw_w8 kw9 (by omega)
    replace B4 := Nw9
    clear Nw9 kw9
    have b4_w9 := B4.c4
    go_wp2_with fail
    clear hww9
    clear b1_w7 b3_w7 b4_w8 fb4_w8
    replace zw9 := le2 zw9
    refine bodyPost_ret (v := .tuple #[.agg #[.bool false, .slice none 0 0, .bool false, .slice none 0 0], .int .i64 2]) (by simp [results, Tryz.results62, go_sem, b4_w9]) rfl ?_
    exact Gv.of_v xw_w9
  · skip
    have xw1_w4 := eg (eg ew2 ew3) ew4
    replace B1 := B1.ext xw1_w4
    have b1_w4 := B1.c3
    have xw2_w4 := eg ew3 ew4
    replace B2 := B2.ext xw2_w4
    have b2_w4 := B2.c2
    have xw_w4 := eg (eg (eg ew1 ew2) ew3) ew4
    have Hb := Lib.hid hb
    clear hb
    have Hok := Lib.hid ok
    clear ok
    have Hok2 := Lib.hid ok2
    clear ok2
    go_wp2_with fail
    clear hww1 hww2 hww3 hww4
    replace zw1 := le2 zw1
    replace zw2 := le2 zw2
    replace zw3 := le2 zw3
    replace zw4 := le2 zw4
    refine (lRight T e y _ (hT.ext xw_w4) ey Hok.out).mono (Gv.onV fun w10 ew10 zw10 => ?_)
    replace B1 := B1.ext ew10
    have b1_w10 := B1.c3
    have xw3_w10 := eg ew4 ew10
    replace B3 := B3.ext xw3_w10
    have b3_w10 := B3.c2
    have xw_w10 := eg xw_w4 ew10
    go_wp2_with fail
    clear b1_w4 b2_w4
    refine (lRight T e2 y2 _ (hT.ext xw_w10) ey2 Hok2.out).mono (Gv.onV fun w11 ew11 zw11 => ?_)
    have xw4_w11 := eg ew10 ew11
    replace B4 := B4.ext xw4_w11
    have b4_w11 := B4.c4
    have fb4_w11 := B4.f4
    have xw_w11 := eg xw_w10 ew11
    obtain ⟨w12, hww12, kw12, Nw12, zw12⟩ := B4.put4 (.bool false) (.slice none 0 0) (.bool false) (.slice none 0 0)
    have xw_w12 := Ext.kb xw_w11 kw12 (by omega)
    replace B4 := Nw12
    clear Nw12 kw12
    have b4_w12 := B4.c4
    go_wp2_with fail
    clear hww12
    clear b1_w10 b3_w10 b4_w11 fb4_w11
    replace zw12 := le2 zw12
    refine bodyPost_ret (v := .tuple #[.agg #[.bool false, .slice none 0 0, .bool false, .slice none 0 0], .int .i64 2]) (by simp [results, Tryz.results62, go_sem, b4_w12]) rfl ?_
    exact Gv.of_v xw_w12

set_option maxRecDepth 100000 in
theorem lBoth0 (T : Tb) (e y : Int) (e2 y2 : Int) (n : Int) (w : World) (hT : TW w T) (ey : -9223372036854775808 ≤ e ∧ e ≤ 9223372036854775807 ∧ -9223372036854775808 ≤ y ∧ y ≤ 9223372036854775807) (ey2 : -9223372036854775808 ≤ e2 ∧ e2 ≤ 9223372036854775807 ∧ -9223372036854775808 ≤ y2 ∧ y2 ≤ 9223372036854775807) (hb : (okL T e y && okL T e2 y2 && decide (0 ≤ n)) = false) :
    Calls Tryz.prog 20 #[.agg #[.int .i64 T.first, .int .i64 T.sel, .slice T.P T.N T.C], .agg #[.int .i64 e, .int .i64 y], .agg #[.int .i64 e2, .int .i64 y2], .int .i64 n] w (Gv (.v (.tuple #[.agg #[.bool false, .slice none 0 0, .bool false, .slice none 0 0], .int .i64 2])) w) := by
  have Hb := Lib.hid hb
  clear hb
  obtain ⟨w1, hww1, ew1, B1, zw1⟩ := alloc_at w (w.heap.size) (by omega) #[.int .i64 T.first, .int .i64 T.sel, .slice T.P T.N T.C] 24
  obtain ⟨w2, hww2, ew2, B2, zw2⟩ := alloc_at w1 (w.heap.size + 1) (by omega) #[.int .i64 e, .int .i64 y] 26
  obtain ⟨w3, hww3, ew3, B3, zw3⟩ := alloc_at w2 (w.heap.size + 1 + 1) (by omega) #[.int .i64 e2, .int .i64 y2] 26
  obtain ⟨w4, hww4, ew4, B4, zw4⟩ := alloc_at w3 (w.heap.size + 1 + 1 + 1) (by omega) #[.bool false, .slice none 0 0, .bool false, .slice none 0 0] 40
  have xw1_w4 := eg (eg ew2 ew3) ew4
  replace B1 := B1.ext xw1_w4
  have b1_w4 := B1.c3
  have xw2_w4 := eg ew3 ew4
  replace B2 := B2.ext xw2_w4
  have b2_w4 := B2.c2
  replace B3 := B3.ext ew4
  have b3_w4 := B3.c2
  have xw_w4 := eg (eg (eg ew1 ew2) ew3) ew4
  go_enter Tryz.func20, Tryz.ntmps20
  go_wp2_with fail
  clear hww1 hww2 hww3 hww4
  replace zw1 := le2 zw1
  replace zw2 := le2 zw2
  replace zw3 := le2 zw3
  replace zw4 := le2 zw4
  refine (lpair0 T e y e2 y2 n (.func (.func 59) #[] #[]) _ (hT.ext xw_w4) ey ey2 Hb.out).mono (Gv.onV fun w5 ew5 zw5 => ?_)
  replace B4 := B4.ext ew5
  have b4_w5 := B4.c4
  have fb4_w5 := B4.f4
  have xw_w5 := eg xw_w4 ew5
  obtain ⟨w6, hww6, kw6, Nw6, zw6⟩ := B4.put4 (.bool false) (.slice none 0 0) (.bool false) (.slice none 0 0)
  have xw_w6 := Ext.kb xw_w5 kw6 (by omega)
  replace B4 := Nw6
  clear Nw6 kw6
  have b4_w6 := B4.c4
  go_wp2_with fail
  clear hww6
  clear b1_w4 b2_w4 b3_w4 b4_w5 fb4_w5
  replace zw6 := le2 zw6
  refine bodyPost_ret (v := .tuple #[.agg #[.bool false, .slice none 0 0, .bool false, .slice none 0 0], .int .i64 2]) (by simp [results, Tryz.results20, go_sem, b4_w6]) rfl ?_
  exact Gv.of_v xw_w6

set_option maxRecDepth 100000 in
theorem lEither0 (T : Tb) (e y : Int) (e2 y2 : Int) (n : Int) (w : World) (hT : TW w T) (ey : -9223372036854775808 ≤ e ∧ e ≤ 9223372036854775807 ∧ -9223372036854775808 ≤ y ∧ y ≤ 9223372036854775807) (ey2 : -9223372036854775808 ≤ e2 ∧ e2 ≤ 9223372036854775807 ∧ -9223372036854775808 ≤ y2 ∧ y2 ≤ 9223372036854775807) (hb : (okL T e y && okL T e2 y2 && decide (0 ≤ n)) = false) :
    Calls Tryz.prog 21 #[.agg #[.int .i64 T.first, .int .i64 T.sel, .slice T.P T.N T.C], .agg #[.int .i64 e, .int .i64 y], .agg #[.int .i64 e2, .int .i64 y2], .int .i64 n] w (Gv (.v (.tuple #[.agg #[.bool false, .slice none 0 0, .bool false, .slice none 0 0], .int .i64 2])) w) := by
  have Hb := Lib.hid hb
  clear hb
  obtain ⟨w1, hww1, ew1, B1, zw1⟩ := alloc_at w (w.heap.size) (by omega) #[.int .i64 T.first, .int .i64 T.sel, .slice T.P T.N T.C] 24
  obtain ⟨w2, hww2, ew2, B2, zw2⟩ := alloc_at w1 (w.heap.size + 1) (by omega) #[.int .i64 e, .int .i64 y] 26
  obtain ⟨w3, hww3, ew3, B3, zw3⟩ := alloc_at w2 (w.heap.size + 1 + 1) (by omega) #[.int .i64 e2, .int .i64 y2] 26
  obtain ⟨w4, hww4, ew4, B4, zw4⟩ := alloc_at w3 (w.heap.size + 1 + 1 + 1) (by omega) #[.bool false, .slice none 0 0, .bool false, .slice none 0 0] 40
  have xw1_w4 := eg (eg ew2 ew3) ew4
  replace B1 := B1.ext xw1_w4
  have b1_w4 := B1.c3
  have xw2_w4 := eg ew3 ew4
  replace B2 := B2.ext xw2_w4
  have b2_w4 := B2.c2
  replace B3 := B3.ext ew4
  have b3_w4 := B3.c2
  have xw_w4 := eg (eg (eg ew1 ew2) ew3) ew4
  go_enter Tryz.func21, Tryz.ntmps21
  go_wp2_with fail
  clear hww1 hww2 hww3 hww4
  replace zw1 := le2 zw1
  replace zw2 := le2 zw2
  replace zw3 := le2 zw3
  replace zw4 := le2 zw4
  refine (lpair0 T e y e2 y2 n (.func (.func 63) #[] #[]) _ (hT.ext xw_w4) ey ey2 Hb.out).mono (Gv.onV fun w5 ew5 zw5 => ?_)
  replace B4 := B4.ext ew5
  have b4_w5 := B4.c4
  have fb4_w5 := B4.f4
  have xw_w5 := eg xw_w4 ew5
  obtain ⟨w6, hww6, kw6, Nw6, zw6⟩ := B4.put4 (.bool false) (.slice none 0 0) (.bool false) (.slice none 0 0)
  have xw_w6 := Ext.kb xw_w5 kw6 (by omega)
  replace B4 := Nw6
  clear Nw6 kw6
  have b4_w6 := B4.c4
  go_wp2_with fail
  clear hww6
  clear b1_w4 b2_w4 b3_w4 b4_w5 fb4_w5
  replace zw6 := le2 zw6
  refine bodyPost_ret (v := .tuple #[.agg #[.bool false, .slice none 0 0, .bool false, .slice none 0 0], .int .i64 2]) (by simp [results, Tryz.results21, go_sem, b4_w6]) rfl ?_
  exact Gv.of_v xw_w6

set_option maxRecDepth 100000 in
theorem lLeft0 (T : Tb) (e y : Int) (e2 y2 : Int) (n : Int) (w : World) (hT : TW w T) (ey : -9223372036854775808 ≤ e ∧ e ≤ 9223372036854775807 ∧ -9223372036854775808 ≤ y ∧ y ≤ 9223372036854775807) (ey2 : -9223372036854775808 ≤ e2 ∧ e2 ≤ 9223372036854775807 ∧ -9223372036854775808 ≤ y2 ∧ y2 ≤ 9223372036854775807) (hb : (okL T e y && okL T e2 y2 && decide (0 ≤ n)) = false) :
    Calls Tryz.prog 22 #[.agg #[.int .i64 T.first, .int .i64 T.sel, .slice T.P T.N T.C], .agg #[.int .i64 e, .int .i64 y], .agg #[.int .i64 e2, .int .i64 y2], .int .i64 n] w (Gv (.v (.tuple #[.agg #[.bool false, .slice none 0 0, .bool false, .slice none 0 0], .int .i64 2])) w) := by
  have Hb := Lib.hid hb
  clear hb
  obtain ⟨w1, hww1, ew1, B1, zw1⟩ := alloc_at w (w.heap.size) (by omega) #[.int .i64 T.first, .int .i64 T.sel, .slice T.P T.N T.C] 24
  obtain ⟨w2, hww2, ew2, B2, zw2⟩ := alloc_at w1 (w.heap.size + 1) (by omega) #[.int .i64 e, .int .i64 y] 26
  obtain ⟨w3, hww3, ew3, B3, zw3⟩ := alloc_at w2 (w.heap.size + 1 + 1) (by omega) #[.int .i64 e2, .int .i64 y2] 26
  obtain ⟨w4, hww4, ew4, B4, zw4⟩ := alloc_at w3 (w.heap.size + 1 + 1 + 1) (by omega) #[.bool false, .slice none 0 0, .bool false, .slice none 0 0] 40
  have xw1_w4 := eg (eg ew2 ew3) ew4
  replace B1 := B1.ext xw1_w4
  have b1_w4 := B1.c3
  have xw2_w4 := eg ew3 ew4
  replace B2 := B2.ext xw2_w4
  have b2_w4 := B2.c2
  replace B3 := B3.ext ew4
  have b3_w4 := B3.c2
  have xw_w4 := eg (eg (eg ew1 ew2) ew3) ew4
  go_enter Tryz.func22, Tryz.ntmps22
  go_wp2_with fail
  clear hww1 hww2 hww3 hww4
  replace zw1 := le2 zw1
  replace zw2 := le2 zw2
  replace zw3 := le2 zw3
  replace zw4 := le2 zw4
  refine (lpair0 T e y e2 y2 n (.func (.func 64) #[] #[]) _ (hT.ext xw_w4) ey ey2 Hb.out).mono (Gv.onV fun w5 ew5 zw5 => ?_)
  replace B4 := B4.ext ew5
  have b4_w5 := B4.c4
  have fb4_w5 := B4.f4
  have xw_w5 := eg xw_w4 ew5
  obtain ⟨w6, hww6, kw6, Nw6, zw6⟩ := B4.put4 (.bool false) (.slice none 0 0) (.bool false) (.slice none 0 0)
  have xw_w6 := Ext.kb xw_w5 kw6 (by omega)
  replace B4 := Nw6
  clear Nw6 kw6
  have b4_w6 := B4.c4
  go_wp2_with fail
  clear hww6
  clear b1_w4 b2_w4 b3_w4 b4_w5 fb4_w5
  replace zw6 := le2 zw6
  refine bodyPost_ret (v := .tuple #[.agg #[.bool false, .slice none 0 0, .bool false, .slice none 0 0], .int .i64 2]) (by simp [results, Tryz.results22, go_sem, b4_w6]) rfl ?_
  exact Gv.of_v xw_w6

theorem lRateO (T : Tb) (R : Nat → Nat → Rat) (e y : Int) (w : World) (hT : TW w T) (hR : TVR w T R) (ey : -9223372036854775808 ≤ e ∧ e ≤ 9223372036854775807 ∧ -9223372036854775808 ≤ y ∧ y ≤ 9223372036854775807) : Calls Tryz.prog 16 #[.agg #[.int .i64 T.first, .int .i64 T.sel, .slice T.P T.N T.C], .agg #[.int .i64 e, .int .i64 y]] w (Gv (.ro (oL (okL T e y) (rt T R e y))) w) := by
  cases ok : okL T e y
  · exact (lRate0 T e y w hT ey ok).mono fun _ _ h => Gv.v_ro h rfl
  · exact (lRate T R e y w (hR (okL_b ok).1) ok).mono fun _ _ h => Gv.fn_ro (Gv.fe_fn h) rfl

theorem lExpectO (T : Tb) (R : Nat → Nat → Rat) (e y : Int) (w : World) (hT : TW w T) (hR : TVR w T R) (ey : -9223372036854775808 ≤ e ∧ e ≤ 9223372036854775807 ∧ -9223372036854775808 ≤ y ∧ y ≤ 9223372036854775807) : Calls Tryz.prog 19 #[.agg #[.int .i64 T.first, .int .i64 T.sel, .slice T.P T.N T.C], .agg #[.int .i64 e, .int .i64 y]] w (Gv (.ro (oL (okL T e y) (lex T R e y))) w) := by
  cases ok : okL T e y
  · exact (lExpect0 T e y w hT ey ok).mono fun _ _ h => Gv.v_ro h rfl
  · exact (lExpect T R e y w (hR (okL_b ok).1) ok).mono fun _ _ h => Gv.fn_ro (Gv.fe_fn h) rfl

theorem lAliveO (T : Tb) (R : Nat → Nat → Rat) (e y n : Int) (w : World) (hT : TW w T) (hR : TVR w T R) (ey : -9223372036854775808 ≤ e ∧ e ≤ 9223372036854775807 ∧ -9223372036854775808 ≤ y ∧ y ≤ 9223372036854775807) : Calls Tryz.prog 17 #[.agg #[.int .i64 T.first, .int .i64 T.sel, .slice T.P T.N T.C], .agg #[.int .i64 e, .int .i64 y], .int .i64 n] w (Gv (.ro (oL (okL T e y && decide (0 ≤ n)) (lal T R e y n.toNat))) w) := by
  cases hb : (okL T e y && decide (0 ≤ n))
  · exact (lAlive0 T e y n w hT ey hb).mono fun _ _ h => Gv.v_ro h rfl
  · obtain ⟨ok, hn0⟩ : okL T e y = true ∧ 0 ≤ n := by simpa only [Bool.and_eq_true, decide_eq_true_eq] using hb
    exact (lAlive T R e y n w (hR (okL_b ok).1) ok hn0).mono fun _ _ h => Gv.fn_ro (Gv.fe_fn h) rfl

theorem lDiesO (T : Tb) (R : Nat → Nat → Rat) (e y n : Int) (w : World) (hT : TW w T) (hR : TVR w T R) (ey : -9223372036854775808 ≤ e ∧ e ≤ 9223372036854775807 ∧ -9223372036854775808 ≤ y ∧ y ≤ 9223372036854775807) : Calls Tryz.prog 18 #[.agg #[.int .i64 T.first, .int .i64 T.sel, .slice T.P T.N T.C], .agg #[.int .i64 e, .int .i64 y], .int .i64 n] w (Gv (.ro (oL (okL T e y && decide (0 ≤ n)) (ldq T R e y n.toNat))) w) := by
  cases hb : (okL T e y && decide (0 ≤ n))
  · exact (lDies0 T e y n w hT ey hb).mono fun _ _ h => Gv.v_ro h rfl
  · obtain ⟨ok, hn0⟩ : okL T e y = true ∧ 0 ≤ n := by simpa only [Bool.and_eq_true, decide_eq_true_eq] using hb
    exact (lDies T R e y n w (hR (okL_b ok).1) ok hn0).mono fun _ _ h => Gv.fn_ro (Gv.fe_fn h) rfl

theorem lBothO (T : Tb) (R : Nat → Nat → Rat) (e y e2 y2 n : Int) (w : World) (hT : TW w T) (hR : TVR w T R) (ey : -9223372036854775808 ≤ e ∧ e ≤ 9223372036854775807 ∧ -9223372036854775808 ≤ y ∧ y ≤ 9223372036854775807) (ey2 : -9223372036854775808 ≤ e2 ∧ e2 ≤ 9223372036854775807 ∧ -9223372036854775808 ≤ y2 ∧ y2 ≤ 9223372036854775807) : Calls Tryz.prog 20 #[.agg #[.int .i64 T.first, .int .i64 T.sel, .slice T.P T.N T.C], .agg #[.int .i64 e, .int .i64 y], .agg #[.int .i64 e2, .int .i64 y2], .int .i64 n] w (Gv (.ro (oL (okL T e y && okL T e2 y2 && decide (0 ≤ n)) (lal T R e y n.toNat * lal T R e2 y2 n.toNat))) w) := by
  cases hb : (okL T e y && okL T e2 y2 && decide (0 ≤ n))
  · exact (lBoth0 T e y e2 y2 n w hT ey ey2 hb).mono fun _ _ h => Gv.v_ro h rfl
  · obtain ⟨⟨ok, ok2⟩, hn0⟩ : (okL T e y = true ∧ okL T e2 y2 = true) ∧ 0 ≤ n := by simpa only [Bool.and_eq_true, decide_eq_true_eq] using hb
    exact (lBoth T R e y e2 y2 n w (hR (okL_b ok).1) ok ok2 hn0).mono fun _ _ h => Gv.fn_ro (Gv.fe_fn h) rfl

theorem lEitherO (T : Tb) (R : Nat → Nat → Rat) (e y e2 y2 n : Int) (w : World) (hT : TW w T) (hR : TVR w T R) (ey : -9223372036854775808 ≤ e ∧ e ≤ 9223372036854775807 ∧ -9223372036854775808 ≤ y ∧ y ≤ 9223372036854775807) (ey2 : -9223372036854775808 ≤ e2 ∧ e2 ≤ 9223372036854775807 ∧ -9223372036854775808 ≤ y2 ∧ y2 ≤ 9223372036854775807) : Calls Tryz.prog 21 #[.agg #[.int .i64 T.first, .int .i64 T.sel, .slice T.P T.N T.C], .agg #[.int .i64 e, .int .i64 y], .agg #[.int .i64 e2, .int .i64 y2], .int .i64 n] w (Gv (.ro (oL (okL T e y && okL T e2 y2 && decide (0 ≤ n)) (eiQ (lal T R e y n.toNat) (lal T R e2 y2 n.toNat)))) w) := by
  cases hb : (okL T e y && okL T e2 y2 && decide (0 ≤ n))
  · exact (lEither0 T e y e2 y2 n w hT ey ey2 hb).mono fun _ _ h => Gv.v_ro h rfl
  · obtain ⟨⟨ok, ok2⟩, hn0⟩ : (okL T e y = true ∧ okL T e2 y2 = true) ∧ 0 ≤ n := by simpa only [Bool.and_eq_true, decide_eq_true_eq] using hb
    exact (lEither T R e y e2 y2 n w (hR (okL_b ok).1) ok ok2 hn0).mono fun _ _ h => Gv.fn_ro (Gv.fe_fn h) rfl

theorem lLeftO (T : Tb) (R : Nat → Nat → Rat) (e y e2 y2 n : Int) (w : World) (hT : TW w T) (hR : TVR w T R) (ey : -9223372036854775808 ≤ e ∧ e ≤ 9223372036854775807 ∧ -9223372036854775808 ≤ y ∧ y ≤ 9223372036854775807) (ey2 : -9223372036854775808 ≤ e2 ∧ e2 ≤ 9223372036854775807 ∧ -9223372036854775808 ≤ y2 ∧ y2 ≤ 9223372036854775807) : Calls Tryz.prog 22 #[.agg #[.int .i64 T.first, .int .i64 T.sel, .slice T.P T.N T.C], .agg #[.int .i64 e, .int .i64 y], .agg #[.int .i64 e2, .int .i64 y2], .int .i64 n] w (Gv (.ro (oL (okL T e y && okL T e2 y2 && decide (0 ≤ n)) (leQ (lal T R e y n.toNat) (lal T R e2 y2 n.toNat)))) w) := by
  cases hb : (okL T e y && okL T e2 y2 && decide (0 ≤ n))
  · exact (lLeft0 T e y e2 y2 n w hT ey ey2 hb).mono fun _ _ h => Gv.v_ro h rfl
  · obtain ⟨⟨ok, ok2⟩, hn0⟩ : (okL T e y = true ∧ okL T e2 y2 = true) ∧ 0 ≤ n := by simpa only [Bool.and_eq_true, decide_eq_true_eq] using hb
    exact (lLeft T R e y e2 y2 n w (hR (okL_b ok).1) ok ok2 hn0).mono fun _ _ h => Gv.fn_ro (Gv.fe_fn h) rfl
end Go.Proofs.YtndgaecfeaedeaaGreat

namespace Go.Proofs.YtndgaecfeaedeaaGreat
set_option linter.unusedSimpArgs false
set_option linter.unusedVariables false
open Go.RowKit Lex Mth
attribute [local go_sem] run_indexAt_at add_zero_map Oper.semAt_some at_zero at_add at_mk1 at_mk2 at_mk3
set_option linter.unusedSimpArgs false
set_option linter.unusedVariables false

theorem rSameQ_b (X Y : Fr) (x y : Rat) (w : World) (hX : FR w X x) (hY : FR w Y y) {b : Bool} (hb : eqQ x y = b) : Calls Tryz.prog 44 #[X.val, Y.val] w (Gv (.v (.bool b)) w) := hb ▸ rSameQ X Y x y w hX hY

set_option maxRecDepth 100000 in
theorem nquick (x : Int) (y : Int) (w : World) (hy0 : y ≠ 0) (bx : (-9223372036854775808 ≤ x ∧ x ≤ 9223372036854775807)) (by_ : (-9223372036854775808 ≤ y ∧ y ≤ 9223372036854775807)) :
    Calls Tryz.prog 26 #[.int .i64 x, .int .i64 y] w (Gv (.f0 (Rat.divInt x y)) w) := by
  have Hy := Lib.hid hy0
  clear hy0
  obtain ⟨w1, hww1, ew1, B1, zw1⟩ := alloc_at w (w.heap.size) (by omega) #[.bool false, .slice none 0 0, .bool false, .slice none 0 0] 40
  go_enter Tryz.func26, Tryz.ntmps26
  go_wp2_with fail
  clear hww1
  replace zw1 := le2 zw1
  refine (rQuick (x) (y) _ (Hy.out) (bx) (by_)).mono (Gv.onF0 fun Z7 w2 hZ7 ew2 zw2 => ?_)
  replace B1 := B1.ext ew2
  have b1_w2 := B1.c4
  have fb1_w2 := B1.f4
  have xw_w2 := eg ew1 ew2
  obtain ⟨w3, hww3, kw3, Nw3, zw3⟩ := B1.put4 (.bool Z7.N.b) (.slice Z7.N.p Z7.N.n Z7.N.c) (.bool Z7.D.b) (.slice Z7.D.p Z7.D.n Z7.D.c)
  have nuw3 : NoU #[.bool false, .slice none 0 0, .bool false, .slice none 0 0] := by simp [NoU]
  replace hZ7 := FR.kb hZ7 B1 nuw3 kw3
  have xw_w3 := Ext.kb xw_w2 kw3 (by omega)
  replace B1 := Nw3
  clear Nw3 kw3
  have b1_w3 := B1.c4
  go_wp2_with fail
  clear hww3
  clear b1_w2 fb1_w2
  replace zw3 := le2 zw3
  refine bodyPost_ret (v := .agg #[.bool Z7.N.b, .slice Z7.N.p Z7.N.n Z7.N.c, .bool Z7.D.b, .slice Z7.D.p Z7.D.n Z7.D.c]) (by simp [results, Tryz.results26, go_sem, b1_w3]) rfl ?_
  exact Gv.of_f0 (X := Z7) (hZ7) xw_w3

set_option maxRecDepth 100000 in
theorem nis (A : Fr) (x : Int) (y : Int) (a : Rat) (w : World) (hA : FR w A a) (hy0 : y ≠ 0) (bx : (-9223372036854775808 ≤ x ∧ x ≤ 9223372036854775807)) (by_ : (-9223372036854775808 ≤ y ∧ y ≤ 9223372036854775807)) (he : eqQ a (Rat.divInt x y) = true) :
    Calls Tryz.prog 35 #[.agg #[.bool A.N.b, .slice A.N.p A.N.n A.N.c, .bool A.D.b, .slice A.D.p A.D.n A.D.c], .int .i64 0, .int .i64 x, .int .i64 y] w (Gv (.v (.bool true)) w) := by
  have Hy := Lib.hid hy0
  have He := Lib.hid he
  clear hy0 he
  obtain ⟨w1, hww1, ew1, B1, zw1⟩ := alloc_at w (w.heap.size) (by omega) #[.bool A.N.b, .slice A.N.p A.N.n A.N.c, .bool A.D.b, .slice A.D.p A.D.n A.D.c] 40
  have b1_w1 := B1.c4
  replace hA := hA.ext ew1
  go_enter Tryz.func35, Tryz.ntmps35
  go_wp2_with fail
  clear hww1
  replace zw1 := le2 zw1
  refine regionT 9 (fun kk => match kk with | 6 => some (.f0 (Rat.divInt (x) (y))) | 7 => some (.v (.bool true)) | _ => none) (by as_aux_lemma => kernel_rfl) (head_of (by as_aux_lemma => kernel_rfl)) ?_
  iterate 3
    refine Walk.one (x := ?_) rfl rfl (fun w1 hI hL K hK => ?_) ?_
    rotate_left
    · obtain ⟨hc, hf⟩ := bcell hI
      go_simp
      repeat (first | (go_ints; try go_simp) | (simp only [↓IntWalk.iteOmega]; try go_simp))
      exact hK
    simp only [Act.put, List.setIfInBounds_toArray, List.set_cons_zero, List.set_cons_succ]
  refine Walk.oneG (x := ?_) rfl (by as_aux_lemma => kernel_rfl) (fun w1 hI hL K hK => ?_) ?_
  rotate_left
  · obtain ⟨hc, hf⟩ := bcell hI
    go_simp
    repeat (first | (go_ints; try go_simp) | (simp only [↓IntWalk.iteOmega]; try go_simp))
    exact hK
  simp only [Act.put, List.setIfInBounds_toArray, List.set_cons_zero, List.set_cons_succ]
  refine Walk.oneG (x := ?_) rfl (by as_aux_lemma => kernel_rfl) (fun w1 hI hL K hK => ?_) ?_
  rotate_left
  · obtain ⟨hc, hf⟩ := bcell hI
    go_simp
    repeat (first | (go_ints; try go_simp) | (simp only [↓IntWalk.iteOmega]; try go_simp))
    exact hK
  simp only [Act.put, List.setIfInBounds_toArray, List.set_cons_zero, List.set_cons_succ]
  refine Walk.oneG (x := ?_) rfl (by as_aux_lemma => kernel_rfl) (fun w1 hI hL K hK => ?_) ?_
  rotate_left
  · obtain ⟨hc, hf⟩ := bcell hI
    go_simp
    repeat (first | (go_ints; try go_simp) | (simp only [↓IntWalk.iteOmega]; try go_simp))
    exact hK
  simp only [Act.put, List.setIfInBounds_toArray, List.set_cons_zero, List.set_cons_succ]
  refine Walk.tellG rfl (by as_aux_lemma => kernel_rfl) (fun w1 hI hL K hK => ?_) ?_
  · go_simp
    exact (nquick (x) (y) w1 (Hy.out) (bx) (by_)).mono (tell hK)
  rintro _ ⟨Z15, rfl⟩
  simp only [Act.put, List.setIfInBounds_toArray, List.set_cons_zero, List.set_cons_succ]
  refine Walk.tellG rfl (by as_aux_lemma => kernel_rfl) (fun w1 hI hL K hK => ?_) ?_
  · go_simp
    exact (rSameQ_b A Z15 _ _ w1 ((hA).ext hI) ((Tl.getF0 (kn (i := 6) (v := .agg #[.bool Z15.N.b, .slice Z15.N.p Z15.N.n Z15.N.c, .bool Z15.D.b, .slice Z15.D.p Z15.D.n Z15.D.c]) rfl (by simp) (pred_of (by as_aux_lemma => kernel_rfl)) hL))) He.out).mono (tell hK)
  rintro _ rfl
  simp only [Act.put, List.setIfInBounds_toArray, List.set_cons_zero, List.set_cons_succ]
  refine Walk.one (x := ?_) rfl rfl (fun w1 hI hL K hK => ?_) ?_
  rotate_left
  · obtain ⟨hc, hf⟩ := bcell hI
    go_simp
    repeat (first | (go_ints; try go_simp) | (simp only [↓IntWalk.iteOmega]; try go_simp))
    exact hK
  simp only [Act.put, List.setIfInBounds_toArray, List.set_cons_zero, List.set_cons_succ]
  refine Walk.nilF fun w2 ew2 kzL kzX => ?_
  have zw2 := ew2.size
  clear kzL kzX
  simp only [List.drop_succ_cons, List.drop_zero, List.drop_nil]
  have xw_w2 := eg ew1 ew2
  go_wp2_with fail
  clear b1_w1
  refine bodyPost_ret (v := .bool true) (by simp [results, Tryz.results35, go_sem]) rfl ?_
  exact Gv.of_v xw_w2

set_option maxRecDepth 100000 in
theorem nproduct (X : Fr) (Y : Fr) (x : Rat) (y : Rat) (w : World) (hX : FR w X x) (hY : FR w Y y) (bx : Sz x) (by_ : Sz y) (bz : Sz (x * y)) :
    Calls Tryz.prog 33 #[.agg #[.bool X.N.b, .slice X.N.p X.N.n X.N.c, .bool X.D.b, .slice X.D.p X.D.n X.D.c], .agg #[.bool Y.N.b, .slice Y.N.p Y.N.n Y.N.c, .bool Y.D.b, .slice Y.D.p Y.D.n Y.D.c]] w (Gv (.f (x * y)) w) := by
  obtain ⟨w1, hww1, ew1, B1, zw1⟩ := alloc_at w (w.heap.size) (by omega) #[.bool X.N.b, .slice X.N.p X.N.n X.N.c, .bool X.D.b, .slice X.D.p X.D.n X.D.c] 40
  obtain ⟨w2, hww2, ew2, B2, zw2⟩ := alloc_at w1 (w.heap.size + 1) (by omega) #[.bool Y.N.b, .slice Y.N.p Y.N.n Y.N.c, .bool Y.D.b, .slice Y.D.p Y.D.n Y.D.c] 40
  obtain ⟨w3, hww3, ew3, B3, zw3⟩ := alloc_at w2 (w.heap.size + 1 + 1) (by omega) #[.bool false, .slice none 0 0, .bool false, .slice none 0 0] 40
  have xw1_w3 := eg ew2 ew3
  replace B1 := B1.ext xw1_w3
  have b1_w3 := B1.c4
  replace B2 := B2.ext ew3
  have b2_w3 := B2.c4
  have xw_w3 := eg (eg ew1 ew2) ew3
  replace hX := hX.ext xw_w3
  replace hY := hY.ext xw_w3
  go_enter Tryz.func33, Tryz.ntmps33
  go_wp2_with fail
  clear hww1 hww2 hww3
  replace zw1 := le2 zw1
  replace zw2 := le2 zw2
  replace zw3 := le2 zw3
  refine (fMul X Y _ _ _ (hX) (hY) (bx) (by_) (bz)).mono (Gv.onFeo fun Z10 w4 hZ10 oZ10 ew4 zw4 => ?_)
  replace oZ10 := oZ10.mono xw_w3.size
  obtain ⟨w5, hww5, ew5, B4, zw5⟩ := alloc_at w4 (w4.heap.size) (by omega) #[.bool Z10.N.b, .slice Z10.N.p Z10.N.n Z10.N.c, .bool Z10.D.b, .slice Z10.D.p Z10.D.n Z10.D.c] 40
  have b4_w5 := B4.c4
  have xw3_w5 := eg ew4 ew5
  replace B3 := B3.ext xw3_w5
  have b3_w5 := B3.c4
  have fb3_w5 := B3.f4
  replace hZ10 := hZ10.ext ew5
  replace oZ10 := oZ10.ext ew5
  have xw_w5 := eg (eg xw_w3 ew4) ew5
  obtain ⟨w6, hww6, kw6, Nw6, zw6⟩ := B3.put4 (.bool Z10.N.b) (.slice Z10.N.p Z10.N.n Z10.N.c) (.bool Z10.D.b) (.slice Z10.D.p Z10.D.n Z10.D.c)
  have nuw6 : NoU #[.bool false, .slice none 0 0, .bool false, .slice none 0 0] := by simp [NoU]
  replace hZ10 := FR.kb hZ10 B3 nuw6 kw6
  replace oZ10 := OF.kb oZ10 B3 (by decide) kw6
  have xw_w6 := Ext.kb xw_w5 kw6 (by omega)
  replace B3 := Nw6
  clear Nw6 kw6
  have b3_w6 := B3.c4
  go_wp2_with fail
  clear hww5 hww6
  clear b1_w3 b2_w3 b4_w5 b3_w5 fb3_w5
  replace zw5 := le2 zw5
  replace zw6 := le2 zw6
  refine bodyPost_ret (v := .agg #[.bool Z10.N.b, .slice Z10.N.p Z10.N.n Z10.N.c, .bool Z10.D.b, .slice Z10.D.p Z10.D.n Z10.D.c]) (by simp [results, Tryz.results33, go_sem, b3_w6]) rfl ?_
  exact Gv.of_f (X := Z10) (hZ10) (oZ10) xw_w6

set_option maxRecDepth 100000 in
theorem nsum (X : Fr) (Y : Fr) (x : Rat) (y : Rat) (w : World) (hX : FR w X x) (hY : FR w Y y) (bx : Sz x) (by_ : Sz y) (bz : Sz (x + y)) :
    Calls Tryz.prog 31 #[.agg #[.bool X.N.b, .slice X.N.p X.N.n X.N.c, .bool X.D.b, .slice X.D.p X.D.n X.D.c], .agg #[.bool Y.N.b, .slice Y.N.p Y.N.n Y.N.c, .bool Y.D.b, .slice Y.D.p Y.D.n Y.D.c]] w (Gv (.f (x + y)) w) := by
  obtain ⟨w1, hww1, ew1, B1, zw1⟩ := alloc_at w (w.heap.size) (by omega) #[.bool X.N.b, .slice X.N.p X.N.n X.N.c, .bool X.D.b, .slice X.D.p X.D.n X.D.c] 40
  obtain ⟨w2, hww2, ew2, B2, zw2⟩ := alloc_at w1 (w.heap.size + 1) (by omega) #[.bool Y.N.b, .slice Y.N.p Y.N.n Y.N.c, .bool Y.D.b, .slice Y.D.p Y.D.n Y.D.c] 40
  obtain ⟨w3, hww3, ew3, B3, zw3⟩ := alloc_at w2 (w.heap.size + 1 + 1) (by omega) #[.bool false, .slice none 0 0, .bool false, .slice none 0 0] 40
  have xw1_w3 := eg ew2 ew3
  replace B1 := B1.ext xw1_w3
  have b1_w3 := B1.c4
  replace B2 := B2.ext ew3
  have b2_w3 := B2.c4
  have xw_w3 := eg (eg ew1 ew2) ew3
  replace hX := hX.ext xw_w3
  replace hY := hY.ext xw_w3
  go_enter Tryz.func31, Tryz.ntmps31
  go_wp2_with fail
  clear hww1 hww2 hww3
  replace zw1 := le2 zw1
  replace zw2 := le2 zw2
  replace zw3 := le2 zw3
  refine (fAdd X Y _ _ _ (hX) (hY) (bx) (by_) (bz)).mono (Gv.onFeo fun Z10 w4 hZ10 oZ10 ew4 zw4 => ?_)
  replace oZ10 := oZ10.mono xw_w3.size
  obtain ⟨w5, hww5, ew5, B4, zw5⟩ := alloc_at w4 (w4.heap.size) (by omega) #[.bool Z10.N.b, .slice Z10.N.p Z10.N.n Z10.N.c, .bool Z10.D.b, .slice Z10.D.p Z10.D.n Z10.D.c] 40
  have b4_w5 := B4.c4
  have xw3_w5 := eg ew4 ew5
  replace B3 := B3.ext xw3_w5
  have b3_w5 := B3.c4
  have fb3_w5 := B3.f4
  replace hZ10 := hZ10.ext ew5
  replace oZ10 := oZ10.ext ew5
  have xw_w5 := eg (eg xw_w3 ew4) ew5
  obtain ⟨w6, hww6, kw6, Nw6, zw6⟩ := B3.put4 (.bool Z10.N.b) (.slice Z10.N.p Z10.N.n Z10.N.c) (.bool Z10.D.b) (.slice Z10.D.p Z10.D.n Z10.D.c)
  have nuw6 : NoU #[.bool false, .slice none 0 0, .bool false, .slice none 0 0] := by simp [NoU]
  replace hZ10 := FR.kb hZ10 B3 nuw6 kw6
  replace oZ10 := OF.kb oZ10 B3 (by decide) kw6
  have xw_w6 := Ext.kb xw_w5 kw6 (by omega)
  replace B3 := Nw6
  clear Nw6 kw6
  have b3_w6 := B3.c4
  go_wp2_with fail
  clear hww5 hww6
  clear b1_w3 b2_w3 b4_w5 b3_w5 fb3_w5
  replace zw5 := le2 zw5
  replace zw6 := le2 zw6
  refine bodyPost_ret (v := .agg #[.bool Z10.N.b, .slice Z10.N.p Z10.N.n Z10.N.c, .bool Z10.D.b, .slice Z10.D.p Z10.D.n Z10.D.c]) (by simp [results, Tryz.results31, go_sem, b3_w6]) rfl ?_
  exact Gv.of_f (X := Z10) (hZ10) (oZ10) xw_w6

set_option maxRecDepth 100000 in
theorem nnot (X : Fr) (x : Rat) (w : World) (hX : FR w X x) (bx : Sz x) (bz : Sz (1 - x)) :
    Calls Tryz.prog 32 #[.agg #[.bool X.N.b, .slice X.N.p X.N.n X.N.c, .bool X.D.b, .slice X.D.p X.D.n X.D.c]] w (Gv (.f (1 - x)) w) := by
  obtain ⟨w1, hww1, ew1, B1, zw1⟩ := alloc_at w (w.heap.size) (by omega) #[.bool X.N.b, .slice X.N.p X.N.n X.N.c, .bool X.D.b, .slice X.D.p X.D.n X.D.c] 40
  obtain ⟨w2, hww2, ew2, B2, zw2⟩ := alloc_at w1 (w.heap.size + 1) (by omega) #[.bool false, .slice none 0 0, .bool false, .slice none 0 0] 40
  replace B1 := B1.ext ew2
  have b1_w2 := B1.c4
  have xw_w2 := eg ew1 ew2
  replace hX := hX.ext xw_w2
  go_enter Tryz.func32, Tryz.ntmps32
  go_wp2_with fail
  clear hww1 hww2
  replace zw1 := le2 zw1
  replace zw2 := le2 zw2
  refine regionS ⟨7, 6, 2, 40, 4, lvT⟩ 8 (fun kk => match kk with | 0 => some (.f (1)) | 2 => some (.fe (1 + -x) 0) | 6 => some (.boxS 40 4) | _ => none) (by as_aux_lemma => kernel_rfl) (head_of (by as_aux_lemma => kernel_rfl)) (by decide) ?hT1 rfl (pred_of (by as_aux_lemma => kernel_rfl)) (pred_of (by as_aux_lemma => kernel_rfl)) ?_
  case hT1 =>
    intro k t h
    split at h <;> first | (cases h; first | exact st_f _ | exact st_fe _ _ | exact st_bs _ _ | exact st_v _ | exact st_w _ | exact st_we _ _ | exact st_f0 _ | exact st_w0 _ | exact st_fn _ _ | exact st_ro _) | cases h
  refine Walk.tellS rfl rfl (.inl (by simp)) rfl (fun w1 hI hL K hK => ?_) ?_
  · go_simp
    exact (fFromInt_1 w1).mono (tell hK)
  rintro _ ⟨Z6, rfl⟩
  simp only [Act.put, List.setIfInBounds_toArray, List.set_cons_zero, List.set_cons_succ]
  refine Walk.one (x := ?_) rfl rfl (fun w1 hI hL K hK => ?_) ?_
  rotate_left
  · obtain ⟨hc, hf⟩ := bcell hI
    go_simp
    repeat (first | (go_ints; try go_simp) | (simp only [↓IntWalk.iteOmega]; try go_simp))
    exact hK
  simp only [Act.put, List.setIfInBounds_toArray, List.set_cons_zero, List.set_cons_succ]
  refine Walk.tellS rfl rfl (.inl (by simp)) rfl (fun w1 hI hL K hK => ?_) ?_
  · go_simp
    exact (fSub Z6 X _ _ w1 ((Tl.getF (knS (i := 0) (v := .agg #[.bool Z6.N.b, .slice Z6.N.p Z6.N.n Z6.N.c, .bool Z6.D.b, .slice Z6.D.p Z6.D.n Z6.D.c]) rfl rfl (by simp) (pred_of (by as_aux_lemma => kernel_rfl)) hL)).1) ((hX).ext hI) (sz_one) (bx) (sz_sub bz)).mono (tell hK)
  rintro _ ⟨Z8, rfl⟩
  simp only [Act.put, List.setIfInBounds_toArray, List.set_cons_zero, List.set_cons_succ]
  iterate 3
    refine Walk.one (x := ?_) rfl rfl (fun w1 hI hL K hK => ?_) ?_
    rotate_left
    · obtain ⟨hc, hf⟩ := bcell hI
      go_simp
      repeat (first | (go_ints; try go_simp) | (simp only [↓IntWalk.iteOmega]; try go_simp))
      exact hK
    simp only [Act.put, List.setIfInBounds_toArray, List.set_cons_zero, List.set_cons_succ]
  refine Walk.tellS rfl rfl (.inl (by simp)) rfl (fun w1 hI hL K hK => ?_) ?_
  · go_simp
    exact tellBS rfl (by simp [NoU]) hK
  rintro _ ⟨g3, rfl⟩
  simp only [Act.put, List.setIfInBounds_toArray, List.set_cons_zero, List.set_cons_succ]
  refine Walk.storeS (g := g3) (vc := .tuple #[.agg #[.bool Z8.N.b, .slice Z8.N.p Z8.N.n Z8.N.c, .bool Z8.D.b, .slice Z8.D.p Z8.D.n Z8.D.c], .int .i64 0]) rfl rfl rfl rfl rfl (by simp) (pred_of (by as_aux_lemma => kernel_rfl)) (by simp) (by simp) (by simp) (fun c hc => splice4 (.bool Z8.N.b) (.slice Z8.N.p Z8.N.n Z8.N.c) (.bool Z8.D.b) (.slice Z8.D.p Z8.D.n Z8.D.c) c hc) (by simp [NoU, lvT]) (fun w1 c hI hC hc hL K hK => ?_) ?_
  · obtain ⟨u0, c0⟩ := hC.some (k := 0) (by have hc2 : c.size = 4 := hc; omega)
    obtain ⟨u1, c1⟩ := hC.some (k := 1) (by have hc2 : c.size = 4 := hc; omega)
    obtain ⟨u2, c2⟩ := hC.some (k := 2) (by have hc2 : c.size = 4 := hc; omega)
    obtain ⟨u3, c3⟩ := hC.some (k := 3) (by have hc2 : c.size = 4 := hc; omega)
    have f0 := hC.frozen 0
    have f1 := hC.frozen 1
    have f2 := hC.frozen 2
    have f3 := hC.frozen 3
    go_simp
    exact hK
  intro vs
  simp only [Act.put, List.setIfInBounds_toArray, List.set_cons_zero, List.set_cons_succ]
  refine Walk.nilS (g := g3) (vc := .tuple #[.agg #[.bool Z8.N.b, .slice Z8.N.p Z8.N.n Z8.N.c, .bool Z8.D.b, .slice Z8.D.p Z8.D.n Z8.D.c], .int .i64 0]) (vs := vs) (by simp) (by simp) (by simp) (by decide) (by decide) fun w3 ew3 kzL kzC kzX => ?_
  have zw3 := ew3.size
  obtain ⟨hZ8, oZ8⟩ := Tl.getFe (kzS (i := 2) (v := .tuple #[.agg #[.bool Z8.N.b, .slice Z8.N.p Z8.N.n Z8.N.c, .bool Z8.D.b, .slice Z8.D.p Z8.D.n Z8.D.c], .int .i64 0]) rfl rfl (by simp) kzL)
  replace oZ8 := oZ8.mono xw_w2.size
  obtain ⟨B3, yB3⟩ := kzC
  replace B3 : Cells w3 (g3) 40 #[.bool Z8.N.b, .slice Z8.N.p Z8.N.n Z8.N.c, .bool Z8.D.b, .slice Z8.D.p Z8.D.n Z8.D.c] := B3
  have lB3 := B3.lt
  clear kzL kzX
  simp only [List.drop_succ_cons, List.drop_zero, List.drop_nil]
  have b3_w3 := B3.c4
  replace B2 := B2.ext ew3
  have b2_w3 := B2.c4
  have fb2_w3 := B2.f4
  have xw_w3 := eg xw_w2 ew3
  obtain ⟨w4, hww4, kw4, Nw4, zw4⟩ := B2.put4 (.bool Z8.N.b) (.slice Z8.N.p Z8.N.n Z8.N.c) (.bool Z8.D.b) (.slice Z8.D.p Z8.D.n Z8.D.c)
  have nuw4 : NoU #[.bool false, .slice none 0 0, .bool false, .slice none 0 0] := by simp [NoU]
  replace hZ8 := FR.kb hZ8 B2 nuw4 kw4
  replace oZ8 := OF.kb oZ8 B2 (by decide) kw4
  have xw_w4 := Ext.kb xw_w3 kw4 (by omega)
  replace B2 := Nw4
  clear Nw4 kw4
  have b2_w4 := B2.c4
  go_wp2_with fail
  clear hww4
  clear b1_w2 b3_w3 b2_w3 fb2_w3
  replace zw4 := le2 zw4
  refine bodyPost_ret (v := .agg #[.bool Z8.N.b, .slice Z8.N.p Z8.N.n Z8.N.c, .bool Z8.D.b, .slice Z8.D.p Z8.D.n Z8.D.c]) (by simp [results, Tryz.results32, go_sem, b2_w4]) rfl ?_
  exact Gv.of_f (X := Z8) (FR.cast hZ8 (add_neg' 1 x)) oZ8 xw_w4

set_option maxRecDepth 100000 in
theorem nequal (X : Fr) (Y : Fr) (x : Rat) (y : Rat) (w : World) (hX : FR w X x) (hY : FR w Y y) (bx : Sz x) (by_ : Sz y) :
    Calls Tryz.prog 30 #[.agg #[.bool X.N.b, .slice X.N.p X.N.n X.N.c, .bool X.D.b, .slice X.D.p X.D.n X.D.c], .agg #[.bool Y.N.b, .slice Y.N.p Y.N.n Y.N.c, .bool Y.D.b, .slice Y.D.p Y.D.n Y.D.c]] w (Gv (.v (.bool (eqQ x y))) w) := by
  obtain ⟨w1, hww1, ew1, B1, zw1⟩ := alloc_at w (w.heap.size) (by omega) #[.bool X.N.b, .slice X.N.p X.N.n X.N.c, .bool X.D.b, .slice X.D.p X.D.n X.D.c] 40
  obtain ⟨w2, hww2, ew2, B2, zw2⟩ := alloc_at w1 (w.heap.size + 1) (by omega) #[.bool Y.N.b, .slice Y.N.p Y.N.n Y.N.c, .bool Y.D.b, .slice Y.D.p Y.D.n Y.D.c] 40
  replace B1 := B1.ext ew2
  have b1_w2 := B1.c4
  have xw_w2 := eg ew1 ew2
  replace hX := hX.ext xw_w2
  go_enter Tryz.func30, Tryz.ntmps30
  go_wp2_with fail
  clear hww1 hww2
  replace zw1 := le2 zw1
  replace zw2 := le2 zw2
  refine (fValid_q X _ _ (hX) bx).mono (Gv.onV fun w3 ew3 zw3 => ?_)
  replace B2 := B2.ext ew3
  have b2_w3 := B2.c4
  have xw_w3 := eg xw_w2 ew3
  replace hY := hY.ext xw_w3
  go_wp2_with fail
  clear b1_w2
  refine (fValid_q Y _ _ (hY) by_).mono (Gv.onV fun w4 ew4 zw4 => ?_)
  have xw2_w4 := eg ew3 ew4
  replace B1 := B1.ext xw2_w4
  have b1_w4 := B1.c4
  replace B2 := B2.ext ew4
  have b2_w4 := B2.c4
  replace hX := hX.ext xw2_w4
  replace hY := hY.ext ew4
  have xw_w4 := eg xw_w3 ew4
  go_wp2_with fail
  clear b2_w3
  refine (rSameQ X Y _ _ _ (hX) (hY)).mono (Gv.onV fun w5 ew5 zw5 => ?_)
  have xw_w5 := eg xw_w4 ew5
  go_wp2_with fail
  clear b1_w4 b2_w4
  refine bodyPost_ret (v := .bool (eqQ x y)) (by simp [results, Tryz.results30, go_sem]) rfl ?_
  exact Gv.of_v xw_w5

set_option maxRecDepth 100000 in
theorem nchance1 (XNp : Option Addr) (XNn : Nat) (XNc : Nat) (XDb : Bool) (XDp : Option Addr) (XDn : Nat) (XDc : Nat) (x : Rat) (w : World) (hX : FR w ⟨⟨false, XNp, XNn, XNc⟩, ⟨XDb, XDp, XDn, XDc⟩⟩ x) (bx : Sz x) (hc : decide (cmpQ x 1 ≤ 0) = true) :
    Calls Tryz.prog 29 #[.agg #[.bool false, .slice XNp XNn XNc, .bool XDb, .slice XDp XDn XDc]] w (Gv (.v (.bool true)) w) := by
  obtain ⟨w1, hww1, ew1, B1, zw1⟩ := alloc_at w (w.heap.size) (by omega) #[.bool false, .slice XNp XNn XNc, .bool XDb, .slice XDp XDn XDc] 40
  have b1_w1 := B1.c4
  replace hX := hX.ext ew1
  go_enter Tryz.func29, Tryz.ntmps29
  go_wp2_with fail
  clear hww1
  replace zw1 := le2 zw1
  refine regionT 14 (fun kk => match kk with | 1 => some (.v (.bool true)) | 10 => some (.f (1)) | 11 => some (.v (.int .i64 (cmpQ x 1))) | _ => none) (by as_aux_lemma => kernel_rfl) (head_of (by as_aux_lemma => kernel_rfl)) ?_
  refine Walk.one (x := ?_) rfl rfl (fun w1 hI hL K hK => ?_) ?_
  rotate_left
  · obtain ⟨hc, hf⟩ := bcell hI
    go_simp
    repeat (first | (go_ints; try go_simp) | (simp only [↓IntWalk.iteOmega]; try go_simp))
    exact hK
  simp only [Act.put, List.setIfInBounds_toArray, List.set_cons_zero, List.set_cons_succ]
  refine Walk.tell rfl rfl (fun w1 hI hL K hK => ?_) ?_
  · go_simp
    exact (fValid_q ⟨⟨false, XNp, XNn, XNc⟩, ⟨XDb, XDp, XDn, XDc⟩⟩ x w1 ((hX).ext hI) bx).mono (tell hK)
  rintro _ rfl
  simp only [Act.put, List.setIfInBounds_toArray, List.set_cons_zero, List.set_cons_succ]
  refine Walk.one (x := ?_) rfl rfl (fun w1 hI hL K hK => ?_) ?_
  rotate_left
  · obtain ⟨hc, hf⟩ := bcell hI
    go_simp
    repeat (first | (go_ints; try go_simp) | (simp only [↓IntWalk.iteOmega]; try go_simp))
    exact hK
  simp only [Act.put, List.setIfInBounds_toArray, List.set_cons_zero, List.set_cons_succ]
  refine Walk.oneG (x := ?_) rfl (by as_aux_lemma => kernel_rfl) (fun w1 hI hL K hK => ?_) ?_
  rotate_left
  · obtain ⟨hc, hf⟩ := bcell hI
    go_simp
    repeat (first | (go_ints; try go_simp) | (simp only [↓IntWalk.iteOmega]; try go_simp))
    exact hK
  simp only [Act.put, List.setIfInBounds_toArray, List.set_cons_zero, List.set_cons_succ]
  refine Walk.oneG (x := ?_) rfl (by as_aux_lemma => kernel_rfl) (fun w1 hI hL K hK => ?_) ?_
  rotate_left
  · obtain ⟨hc, hf⟩ := bcell hI
    go_simp
    repeat (first | (go_ints; try go_simp) | (simp only [↓IntWalk.iteOmega]; try go_simp))
    exact hK
  simp only [Act.put, List.setIfInBounds_toArray, List.set_cons_zero, List.set_cons_succ]
  refine Walk.oneG (x := ?_) rfl (by as_aux_lemma => kernel_rfl) (fun w1 hI hL K hK => ?_) ?_
  rotate_left
  · obtain ⟨hc, hf⟩ := bcell hI
    go_simp
    repeat (first | (go_ints; try go_simp) | (simp only [↓IntWalk.iteOmega]; try go_simp))
    exact hK
  simp only [Act.put, List.setIfInBounds_toArray, List.set_cons_zero, List.set_cons_succ]
  refine Walk.oneG (x := ?_) rfl (by as_aux_lemma => kernel_rfl) (fun w1 hI hL K hK => ?_) ?_
  rotate_left
  · obtain ⟨hc, hf⟩ := bcell hI
    go_simp
    repeat (first | (go_ints; try go_simp) | (simp only [↓IntWalk.iteOmega]; try go_simp))
    exact hK
  simp only [Act.put, List.setIfInBounds_toArray, List.set_cons_zero, List.set_cons_succ]
  iterate 2
    refine Walk.one (x := ?_) rfl rfl (fun w1 hI hL K hK => ?_) ?_
    rotate_left
    · obtain ⟨hc, hf⟩ := bcell hI
      go_simp
      repeat (first | (go_ints; try go_simp) | (simp only [↓IntWalk.iteOmega]; try go_simp))
      exact hK
    simp only [Act.put, List.setIfInBounds_toArray, List.set_cons_zero, List.set_cons_succ]
  refine Walk.oneG (x := ?_) rfl (by as_aux_lemma => kernel_rfl) (fun w1 hI hL K hK => ?_) ?_
  rotate_left
  · obtain ⟨hc, hf⟩ := bcell hI
    go_simp
    repeat (first | (go_ints; try go_simp) | (simp only [↓IntWalk.iteOmega]; try go_simp))
    exact hK
  simp only [Act.put, List.setIfInBounds_toArray, List.set_cons_zero, List.set_cons_succ]
  refine Walk.tellG rfl (by as_aux_lemma => kernel_rfl) (fun w1 hI hL K hK => ?_) ?_
  · go_simp
    exact (fFromInt_1 w1).mono (tell hK)
  rintro _ ⟨Z13, rfl⟩
  simp only [Act.put, List.setIfInBounds_toArray, List.set_cons_zero, List.set_cons_succ]
  refine Walk.tellG rfl (by as_aux_lemma => kernel_rfl) (fun w1 hI hL K hK => ?_) ?_
  · go_simp
    exact (fCmp ⟨⟨false, XNp, XNn, XNc⟩, ⟨XDb, XDp, XDn, XDc⟩⟩ Z13 x 1 w1 ((hX).ext hI) ((Tl.getF (kn (i := 10) (v := .agg #[.bool Z13.N.b, .slice Z13.N.p Z13.N.n Z13.N.c, .bool Z13.D.b, .slice Z13.D.p Z13.D.n Z13.D.c]) rfl (by simp) (pred_of (by as_aux_lemma => kernel_rfl)) hL)).1) bx sz_one).mono (tell hK)
  rintro _ rfl
  simp only [Act.put, List.setIfInBounds_toArray, List.set_cons_zero, List.set_cons_succ]
  refine Walk.oneG (x := ?_) rfl (by as_aux_lemma => kernel_rfl) (fun w1 hI hL K hK => ?_) ?_
  rotate_left
  · obtain ⟨hc, hf⟩ := bcell hI
    go_simp
    repeat (first | (go_ints; try go_simp) | (simp only [↓IntWalk.iteOmega]; try go_simp))
    exact hK
  simp only [Act.put, List.setIfInBounds_toArray, List.set_cons_zero, List.set_cons_succ]
  refine Walk.one (x := ?_) rfl rfl (fun w1 hI hL K hK => ?_) ?_
  rotate_left
  · obtain ⟨hc, hf⟩ := bcell hI
    go_simp
    repeat (first | (go_ints; try go_simp) | (simp only [↓IntWalk.iteOmega]; try go_simp))
    exact hK
  simp only [Act.put, List.setIfInBounds_toArray, List.set_cons_zero, List.set_cons_succ]
  refine Walk.nilF fun w2 ew2 kzL kzX => ?_
  have zw2 := ew2.size
  clear kzL kzX
  simp only [List.drop_succ_cons, List.drop_zero, List.drop_nil]
  have xw_w2 := eg ew1 ew2
  go_wp2_with fail
  clear b1_w1
  refine bodyPost_ret (v := .bool true) (by simp [results, Tryz.results29, go_sem]) rfl ?_
  exact Gv.of_v xw_w2

theorem nchance (X : Fr) (x : Rat) (w : World) (hX : FR w X x) (bx : Sz x) (h0 : 0 ≤ x) (h1 : x ≤ 1) : Calls Tryz.prog 29 #[.agg #[.bool X.N.b, .slice X.N.p X.N.n X.N.c, .bool X.D.b, .slice X.D.p X.D.n X.D.c]] w (Gv (.v (.bool true)) w) := by
  have hn := hX.1.neg
  have hp := Rat.num_nonneg.2 h0
  obtain ⟨⟨nb, np, nn, nc⟩, ⟨db, dp, dn, dc⟩⟩ := X
  have hb : nb = false := by
    have : nb = decide (x.num < 0) := hn
    rw [this]; simp; omega
  subst hb
  refine nchance1 np nn nc db dp dn dc x w hX bx ?_
  rw [decide_eq_true_eq]
  unfold cmpQ
  rw [cmpZ_le]
  rw [Rat.le_iff] at h1
  exact h1
end Go.Proofs.YtndgaecfeaedeaaGreat
