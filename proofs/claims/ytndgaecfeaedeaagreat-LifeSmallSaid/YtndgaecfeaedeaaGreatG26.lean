/- The walk of LifeTells. What is read as data lies in memory as the walks want it: limbs, whole numbers, fractions, rows, tables. No condition: laws on the form's readings. What the last texts of the laws on lives share: a table and a life that come as arguments. No condition: words. The walk of LifeLighter: what comes ahead of the loops. The walk of LifeLighter. The claim on LifeLighter. A table in memory of its own is a table, whatever its numbers. No condition: laws on the model's worlds. -/
import Derived.SizedLaws
import Derived.Deep.Slices
import Derived.Lib.SmallJoins
import Derived.ProofKit
import Derived.OpenShut
import Derived.ChangeOld
import Derived.Below
import Derived.Test.YtndgaecfeaedeaaGreatRows
import Derived.Test.YtndgaecfeaedeaaGreatG16
import Derived.Test.YtndgaecfeaedeaaGreatG24
import Derived.Test.YtndgaecfeaedeaaGreatG25
set_option linter.unusedSimpArgs false
set_option linter.unusedVariables false
namespace Go.Proofs.YtndgaecfeaedeaaGreat
open Go.RowKit Lex Mth
attribute [local go_sem] run_indexAt_at add_zero_map Oper.semAt_some at_zero at_add at_mk1 at_mk2 at_mk3

set_option maxRecDepth 100000 in
theorem nplain (T : Tb) (w : World) :
    Calls Tryz.prog 12 #[.agg #[.int .i64 T.first, .int .i64 T.sel, .slice T.P T.N T.C]] w (Gv (.v (.agg #[.int .i64 T.first, .int .i64 T.sel, .slice T.P T.N T.C])) w) := by
 obtain ⟨w1, hww1, ew1, B1, zw1⟩ := alloc_at w (w.heap.size) (by omega) #[.int .i64 T.first, .int .i64 T.sel, .slice T.P T.N T.C] 24
 obtain ⟨w2, hww2, ew2, B2, zw2⟩ := alloc_at w1 (w.heap.size + 1) (by omega) #[.int .i64 0, .int .i64 0, .slice none 0 0] 31
 replace B1 := B1.ext ew2
 have b1_w2 := B1.c3
 have b2_w2 := B2.c3
 have fb2_w2 := B2.f3
 have xw_w2 := eg ew1 ew2
 obtain ⟨w3, hww3, kw3, Nw3, zw3⟩ := B2.put3 (.int .i64 T.first) (.int .i64 T.sel) (.slice T.P T.N T.C)
 have xw_w3 := Ext.kb xw_w2 kw3 (by omega)
 replace B2 := Nw3
 clear Nw3 kw3
 have b2_w3 := B2.c3
 go_enter Tryz.func12, Tryz.ntmps12
 go_wp2_with fail
 clear hww1 hww2 hww3
 clear b1_w2 b2_w2 fb2_w2
 replace zw1 := le2 zw1
 replace zw2 := le2 zw2
 replace zw3 := le2 zw3
 refine bodyPost_ret (v := .agg #[.int .i64 T.first, .int .i64 T.sel, .slice T.P T.N T.C]) (by simp [results, Tryz.results12, go_sem, b2_w3]) rfl ?_
 exact Gv.of_v xw_w3

set_option maxRecDepth 100000 in
theorem nold (e y : Int) (w : World) :
    Calls Tryz.prog 45 #[.agg #[.int .i64 e, .int .i64 y]] w (Gv (.v (.agg #[.int .i64 e, .int .i64 y])) w) := by
 obtain ⟨w1, hww1, ew1, B1, zw1⟩ := alloc_at w (w.heap.size) (by omega) #[.int .i64 e, .int .i64 y] 26
 obtain ⟨w2, hww2, ew2, B2, zw2⟩ := alloc_at w1 (w.heap.size + 1) (by omega) #[.int .i64 0, .int .i64 0] 63
 replace B1 := B1.ext ew2
 have b1_w2 := B1.c2
 have b2_w2 := B2.c2
 have fb2_w2 := B2.f2
 have xw_w2 := eg ew1 ew2
 obtain ⟨w3, hww3, kw3, Nw3, zw3⟩ := B2.put2 (.int .i64 e) (.int .i64 y)
 have xw_w3 := Ext.kb xw_w2 kw3 (by omega)
 replace B2 := Nw3
 clear Nw3 kw3
 have b2_w3 := B2.c2
 go_enter Tryz.func45, Tryz.ntmps45
 go_wp2_with fail
 clear hww1 hww2 hww3
 clear b1_w2 b2_w2 fb2_w2
 replace zw1 := le2 zw1
 replace zw2 := le2 zw2
 replace zw3 := le2 zw3
 refine bodyPost_ret (v := .agg #[.int .i64 e, .int .i64 y]) (by simp [results, Tryz.results45, go_sem, b2_w3]) rfl ?_
 exact Gv.of_v xw_w3

set_option maxRecDepth 100000 in
theorem nsame_ (X : Fr) (e : Int) (Y : Fr) (a : Int) (b : Int) (c : Int) (d : Int) (w : World) (hX : PR w X a b) (hY : PR w Y c d) (h1 : a = c) (h2 : b = d) :
    Calls Tryz.prog 50 #[.agg #[.bool X.N.b, .slice X.N.p X.N.n X.N.c, .bool X.D.b, .slice X.D.p X.D.n X.D.c], .int .i64 e, .agg #[.bool Y.N.b, .slice Y.N.p Y.N.n Y.N.c, .bool Y.D.b, .slice Y.D.p Y.D.n Y.D.c], .int .i64 e] w (Gv (.v (.bool true)) w) := by
 have H1 := Lib.hid h1
 have H2 := Lib.hid h2
 clear h1 h2
 obtain ⟨w1, hww1, ew1, B1, zw1⟩ := alloc_at w (w.heap.size) (by omega) #[.bool X.N.b, .slice X.N.p X.N.n X.N.c, .bool X.D.b, .slice X.D.p X.D.n X.D.c] 40
 obtain ⟨w2, hww2, ew2, B2, zw2⟩ := alloc_at w1 (w.heap.size + 1) (by omega) #[.bool Y.N.b, .slice Y.N.p Y.N.n Y.N.c, .bool Y.D.b, .slice Y.D.p Y.D.n Y.D.c] 40
 replace B1 := B1.ext ew2
 have b1_w2 := B1.c4
 have b2_w2 := B2.c4
 have xw_w2 := eg ew1 ew2
 replace hX := hX.ext xw_w2
 replace hY := hY.ext xw_w2
 go_enter Tryz.func50, Tryz.ntmps50
 go_wp2_with fail
 clear hww1 hww2
 replace zw1 := le2 zw1
 replace zw2 := le2 zw2
 refine (rSame_t X Y _ _ _ _ _ (hX) (hY) H1.out H2.out).mono (Gv.onV fun w3 ew3 zw3 => ?_)
 have xw_w3 := eg xw_w2 ew3
 go_wp2_with fail
 clear b1_w2 b2_w2
 refine bodyPost_ret (v := .bool true) (by simp [results, Tryz.results50, go_sem]) rfl ?_
 exact Gv.of_v xw_w3

theorem nsameO (X Y : Fr) (o : Option Rat) (w : World) (hX : RO w X o) (hY : RO w Y o) : Calls Tryz.prog 50 #[.agg #[.bool X.N.b, .slice X.N.p X.N.n X.N.c, .bool X.D.b, .slice X.D.p X.D.n X.D.c], .int .i64 (erO o), .agg #[.bool Y.N.b, .slice Y.N.p Y.N.n Y.N.c, .bool Y.D.b, .slice Y.D.p Y.D.n Y.D.c], .int .i64 (erO o)] w (Gv (.v (.bool true)) w) :=
 nsame_ X (erO o) Y _ _ _ _ w hX.pr hY.pr rfl rfl

set_option maxRecDepth 100000 in
set_option maxHeartbeats 8000000 in
theorem nOne (T : Tb) (R : Nat → Nat → Rat) (e y : Int) (n : Int) (w : World) (hT : TW w T) (hR : TVR w T R) (ey : -9223372036854775808 ≤ e ∧ e ≤ 9223372036854775807 ∧ -9223372036854775808 ≤ y ∧ y ≤ 9223372036854775807) (hn : -9223372036854775808 ≤ n ∧ n ≤ 9223372036854775807) :
    Calls Tryz.prog 13 #[.agg #[.int .i64 T.first, .int .i64 T.sel, .slice T.P T.N T.C], .agg #[.int .i64 e, .int .i64 y], .int .i64 n] w (Gv (.v (.bool true)) w) := by
 have hbb : (okL T e y == okL T e y) = true := by simp
 obtain ⟨w1, hww1, ew1, B1, zw1⟩ := alloc_at w (w.heap.size) (by omega) #[.int .i64 T.first, .int .i64 T.sel, .slice T.P T.N T.C] 24
 obtain ⟨w2, hww2, ew2, B2, zw2⟩ := alloc_at w1 (w.heap.size + 1) (by omega) #[.int .i64 e, .int .i64 y] 26
 replace B1 := B1.ext ew2
 have b1_w2 := B1.c3
 have b2_w2 := B2.c2
 have xw_w2 := eg ew1 ew2
 go_enter Tryz.func13, Tryz.ntmps13
 go_wp2_with fail
 clear hww1 hww2
 replace zw1 := le2 zw1
 replace zw2 := le2 zw2
 refine regionT 6 (fun kk => match kk with | 1 => some (.v (.agg #[.int .i64 T.first, .int .i64 T.sel, .slice T.P T.N T.C])) | 3 => some (.v (.agg #[.int .i64 e, .int .i64 y])) | 4 => some (.box 31 #[.int .i64 0, .int .i64 0, .slice none 0 0]) | 5 => some (.box 63 #[.int .i64 0, .int .i64 0]) | _ => none) (by as_aux_lemma => kernel_rfl) (head_of (by as_aux_lemma => kernel_rfl)) ?_
 refine Walk.one (x := ?_) rfl rfl (fun w1 hI hL K hK => ?_) ?_
 rotate_left
 ·obtain ⟨hc, hf⟩ := bcell hI
  go_simp
  repeat (first | (go_ints; try go_simp) | (simp only [↓IntWalk.iteOmega]; try go_simp))
  exact hK
 simp only [Pq1]
 refine Walk.tell rfl rfl (fun w1 hI hL K hK => ?_) ?_
 ·go_simp
  exact (nplain T w1).mono (tell hK)
 rintro _ rfl
 simp only [Pq1]
 refine Walk.one (x := ?_) rfl rfl (fun w1 hI hL K hK => ?_) ?_
 rotate_left
 ·obtain ⟨hc, hf⟩ := bcell hI
  go_simp
  repeat (first | (go_ints; try go_simp) | (simp only [↓IntWalk.iteOmega]; try go_simp))
  exact hK
 simp only [Pq1]
 refine Walk.tell rfl rfl (fun w1 hI hL K hK => ?_) ?_
 ·go_simp
  exact (nold e y w1).mono (tell hK)
 rintro _ rfl
 simp only [Pq1]
 refine Walk.tell rfl rfl (fun w1 hI hL K hK => ?_) ?_
 ·go_simp
  exact tellB hK
 rintro _ ⟨g7, rfl⟩
 simp only [Pq1]
 refine Walk.tell rfl rfl (fun w1 hI hL K hK => ?_) ?_
 ·go_simp
  exact tellB hK
 rintro _ ⟨g8, rfl⟩
 simp only [Pq1]
 refine Walk.nilF fun w3 ew3 kzL kzX => ?_
 have zw3 := ew3.size
 obtain ⟨B3, yB3⟩ := Tl.getB (kz (i := 4) (v := .pointer (some ⟨g7, 0, none⟩)) rfl (by simp) kzL)
 obtain ⟨B4, yB4⟩ := Tl.getB (kz (i := 5) (v := .pointer (some ⟨g8, 0, none⟩)) rfl (by simp) kzL)
 have dB3B4 : g7 ≠ g8 := by
  have := kzX (4, .pointer (some ⟨g7, 0, none⟩)) (by simp) (5, .pointer (some ⟨g8, 0, none⟩)) (by simp) (by simp)
  simpa [TB, Tl.box, Bl, Bl1] using this
 have lB3 := B3.lt
 have lB4 := B4.lt
 clear kzL kzX
 simp only [List.drop_succ_cons, List.drop_zero, List.drop_nil]
 have b3_w3 := B3.c3
 have fb3_w3 := B3.f3
 replace B1 := B1.ext ew3
 replace B2 := B2.ext ew3
 have xw_w3 := eg xw_w2 ew3
 obtain ⟨w4, hww4, kw4, Nw4, zw4⟩ := B3.put3 (.int .i64 T.first) (.int .i64 T.sel) (.slice T.P T.N T.C)
 replace B1 := B1.kb kw4 (by omega)
 replace B2 := B2.kb kw4 (by omega)
 replace B4 := B4.kb kw4 (by omega)
 have xw_w4 := Ext.kb xw_w3 kw4 (by omega)
 replace B3 := Nw4
 clear Nw4 kw4
 have b4_w4 := B4.c2
 have fb4_w4 := B4.f2
 obtain ⟨w5, hww5, kw5, Nw5, zw5⟩ := B4.put2 (.int .i64 e) (.int .i64 y)
 replace B1 := B1.kb kw5 (by omega)
 replace B2 := B2.kb kw5 (by omega)
 replace B3 := B3.kb kw5 (by omega)
 have xw_w5 := Ext.kb xw_w4 kw5 (by omega)
 replace B4 := Nw5
 clear Nw5 kw5
 have b1_w5 := B1.c3
 have b2_w5 := B2.c2
 go_wp2_with fail
 clear hww4 hww5
 clear b1_w2 b2_w2 b3_w3 fb3_w3 b4_w4 fb4_w4
 replace zw4 := le2 zw4
 replace zw5 := le2 zw5
 refine (lRateO T R e y _ (hT.ext xw_w5) (hR.ext xw_w5) ey).mono (Gv.onRo fun Z32 w6 hZ32 ew6 zw6 => ?_)
 obtain ⟨w7, hww7, ew7, B5, zw7⟩ := alloc_at w6 (w6.heap.size) (by omega) #[.bool Z32.N.b, .slice Z32.N.p Z32.N.n Z32.N.c, .bool Z32.D.b, .slice Z32.D.p Z32.D.n Z32.D.c] 40
 have xw5_w7 := eg ew6 ew7
 replace B3 := B3.ext xw5_w7
 have b3_w7 := B3.c3
 replace B4 := B4.ext xw5_w7
 have b4_w7 := B4.c2
 have xw_w7 := eg (eg xw_w5 ew6) ew7
 go_wp2_with fail
 clear hww7
 clear b1_w5 b2_w5
 replace zw7 := le2 zw7
 refine (tRateO T R e y _ (hT.ext xw_w7) (hR.ext xw_w7) ey).mono (Gv.onRo fun Z38 w8 hZ38 ew8 zw8 => ?_)
 obtain ⟨w9, hww9, ew9, B6, zw9⟩ := alloc_at w8 (w8.heap.size) (by omega) #[.bool Z38.N.b, .slice Z38.N.p Z38.N.n Z38.N.c, .bool Z38.D.b, .slice Z38.D.p Z38.D.n Z38.D.c] 40
 have xw5_w9 := eg (eg xw5_w7 ew8) ew9
 replace B1 := B1.ext xw5_w9
 have b1_w9 := B1.c3
 replace B2 := B2.ext xw5_w9
 have b2_w9 := B2.c2
 have xw_w9 := eg (eg xw_w7 ew8) ew9
 go_wp2_with fail
 clear hww9
 clear b3_w7 b4_w7
 replace zw9 := le2 zw9
 refine (lAliveO T R e y n _ (hT.ext xw_w9) (hR.ext xw_w9) ey).mono (Gv.onRo fun Z45 w10 hZ45 ew10 zw10 => ?_)
 obtain ⟨w11, hww11, ew11, B7, zw11⟩ := alloc_at w10 (w10.heap.size) (by omega) #[.bool Z45.N.b, .slice Z45.N.p Z45.N.n Z45.N.c, .bool Z45.D.b, .slice Z45.D.p Z45.D.n Z45.D.c] 40
 have xw7_w11 := eg (eg (eg ew8 ew9) ew10) ew11
 replace B3 := B3.ext xw7_w11
 have b3_w11 := B3.c3
 replace B4 := B4.ext xw7_w11
 have b4_w11 := B4.c2
 have xw_w11 := eg (eg xw_w9 ew10) ew11
 go_wp2_with fail
 clear hww11
 clear b1_w9 b2_w9
 replace zw11 := le2 zw11
 refine (tAliveO T R e y n _ (hT.ext xw_w11) (hR.ext xw_w11) ey hn).mono (Gv.onRo fun Z52 w12 hZ52 ew12 zw12 => ?_)
 obtain ⟨w13, hww13, ew13, B8, zw13⟩ := alloc_at w12 (w12.heap.size) (by omega) #[.bool Z52.N.b, .slice Z52.N.p Z52.N.n Z52.N.c, .bool Z52.D.b, .slice Z52.D.p Z52.D.n Z52.D.c] 40
 have xw9_w13 := eg (eg (eg ew10 ew11) ew12) ew13
 replace B1 := B1.ext xw9_w13
 have b1_w13 := B1.c3
 replace B2 := B2.ext xw9_w13
 have b2_w13 := B2.c2
 have xw_w13 := eg (eg xw_w11 ew12) ew13
 go_wp2_with fail
 clear hww13
 clear b3_w11 b4_w11
 replace zw13 := le2 zw13
 refine (lDiesO T R e y n _ (hT.ext xw_w13) (hR.ext xw_w13) ey).mono (Gv.onRo fun Z59 w14 hZ59 ew14 zw14 => ?_)
 obtain ⟨w15, hww15, ew15, B9, zw15⟩ := alloc_at w14 (w14.heap.size) (by omega) #[.bool Z59.N.b, .slice Z59.N.p Z59.N.n Z59.N.c, .bool Z59.D.b, .slice Z59.D.p Z59.D.n Z59.D.c] 40
 have xw11_w15 := eg (eg (eg ew12 ew13) ew14) ew15
 replace B3 := B3.ext xw11_w15
 have b3_w15 := B3.c3
 replace B4 := B4.ext xw11_w15
 have b4_w15 := B4.c2
 have xw_w15 := eg (eg xw_w13 ew14) ew15
 go_wp2_with fail
 clear hww15
 clear b1_w13 b2_w13
 replace zw15 := le2 zw15
 refine (tDiesO T R e y n _ (hT.ext xw_w15) (hR.ext xw_w15) ey hn).mono (Gv.onRo fun Z66 w16 hZ66 ew16 zw16 => ?_)
 obtain ⟨w17, hww17, ew17, B10, zw17⟩ := alloc_at w16 (w16.heap.size) (by omega) #[.bool Z66.N.b, .slice Z66.N.p Z66.N.n Z66.N.c, .bool Z66.D.b, .slice Z66.D.p Z66.D.n Z66.D.c] 40
 have xw13_w17 := eg (eg (eg ew14 ew15) ew16) ew17
 replace B1 := B1.ext xw13_w17
 have b1_w17 := B1.c3
 replace B2 := B2.ext xw13_w17
 have b2_w17 := B2.c2
 have xw_w17 := eg (eg xw_w15 ew16) ew17
 go_wp2_with fail
 clear hww17
 clear b3_w15 b4_w15
 replace zw17 := le2 zw17
 refine (lExpectO T R e y _ (hT.ext xw_w17) (hR.ext xw_w17) ey).mono (Gv.onRo fun Z72 w18 hZ72 ew18 zw18 => ?_)
 obtain ⟨w19, hww19, ew19, B11, zw19⟩ := alloc_at w18 (w18.heap.size) (by omega) #[.bool Z72.N.b, .slice Z72.N.p Z72.N.n Z72.N.c, .bool Z72.D.b, .slice Z72.D.p Z72.D.n Z72.D.c] 40
 have xw15_w19 := eg (eg (eg ew16 ew17) ew18) ew19
 replace B3 := B3.ext xw15_w19
 have b3_w19 := B3.c3
 replace B4 := B4.ext xw15_w19
 have b4_w19 := B4.c2
 have xw_w19 := eg (eg xw_w17 ew18) ew19
 go_wp2_with fail
 clear hww19
 clear b1_w17 b2_w17
 replace zw19 := le2 zw19
 refine (tExpectO T R e y _ (hT.ext xw_w19) (hR.ext xw_w19) ey).mono (Gv.onRo fun Z78 w20 hZ78 ew20 zw20 => ?_)
 obtain ⟨w21, hww21, ew21, B12, zw21⟩ := alloc_at w20 (w20.heap.size) (by omega) #[.bool Z78.N.b, .slice Z78.N.p Z78.N.n Z78.N.c, .bool Z78.D.b, .slice Z78.D.p Z78.D.n Z78.D.c] 40
 have xw7_w21 := eg (eg (eg (eg (eg (eg (eg (eg (eg (eg xw7_w11 ew12) ew13) ew14) ew15) ew16) ew17) ew18) ew19) ew20) ew21
 replace B5 := B5.ext xw7_w21
 have b5_w21 := B5.c4
 have xw9_w21 := eg (eg (eg (eg (eg (eg (eg (eg xw9_w13 ew14) ew15) ew16) ew17) ew18) ew19) ew20) ew21
 replace B6 := B6.ext xw9_w21
 have b6_w21 := B6.c4
 have xw6_w21 := eg (eg (eg (eg (eg (eg (eg (eg (eg (eg (eg (eg (eg (eg ew7 ew8) ew9) ew10) ew11) ew12) ew13) ew14) ew15) ew16) ew17) ew18) ew19) ew20) ew21
 replace hZ32 := hZ32.ext xw6_w21
 have xw8_w21 := eg (eg (eg (eg (eg (eg (eg (eg (eg (eg (eg (eg ew9 ew10) ew11) ew12) ew13) ew14) ew15) ew16) ew17) ew18) ew19) ew20) ew21
 replace hZ38 := hZ38.ext xw8_w21
 have xw11_w21 := eg (eg (eg (eg (eg (eg xw11_w15 ew16) ew17) ew18) ew19) ew20) ew21
 replace B7 := B7.ext xw11_w21
 have b7_w21 := B7.c4
 have xw13_w21 := eg (eg (eg (eg xw13_w17 ew18) ew19) ew20) ew21
 replace B8 := B8.ext xw13_w21
 have b8_w21 := B8.c4
 have xw10_w21 := eg (eg (eg (eg (eg (eg (eg (eg (eg (eg ew11 ew12) ew13) ew14) ew15) ew16) ew17) ew18) ew19) ew20) ew21
 replace hZ45 := hZ45.ext xw10_w21
 have xw12_w21 := eg (eg (eg (eg (eg (eg (eg (eg ew13 ew14) ew15) ew16) ew17) ew18) ew19) ew20) ew21
 replace hZ52 := hZ52.ext xw12_w21
 have xw15_w21 := eg (eg xw15_w19 ew20) ew21
 replace B9 := B9.ext xw15_w21
 have b9_w21 := B9.c4
 have xw17_w21 := eg (eg (eg ew18 ew19) ew20) ew21
 replace B10 := B10.ext xw17_w21
 have b10_w21 := B10.c4
 have xw14_w21 := eg (eg (eg (eg (eg (eg ew15 ew16) ew17) ew18) ew19) ew20) ew21
 replace hZ59 := hZ59.ext xw14_w21
 have xw16_w21 := eg (eg (eg (eg ew17 ew18) ew19) ew20) ew21
 replace hZ66 := hZ66.ext xw16_w21
 have xw19_w21 := eg ew20 ew21
 replace B11 := B11.ext xw19_w21
 have b11_w21 := B11.c4
 have b12_w21 := B12.c4
 have xw18_w21 := eg (eg ew19 ew20) ew21
 replace hZ72 := hZ72.ext xw18_w21
 replace hZ78 := hZ78.ext ew21
 replace B1 := B1.ext xw17_w21
 have b1_w21 := B1.c3
 replace B2 := B2.ext xw17_w21
 have b2_w21 := B2.c2
 have xw_w21 := eg (eg xw_w19 ew20) ew21
 replace B3 := B3.ext xw19_w21
 have b3_w21 := B3.c3
 replace B4 := B4.ext xw19_w21
 have b4_w21 := B4.c2
 go_wp2_with fail
 clear hww21
 clear b3_w19 b4_w19
 replace zw21 := le2 zw21
 refine regionT 35 (fun kk => match kk with | 4 => some (.v (.bool true)) | 10 => some (.v (.bool true)) | 17 => some (.v (.bool true)) | 24 => some (.v (.bool true)) | 29 => some (.v (.bool (okL T e y))) | 32 => some (.v (.bool (okL T e y))) | _ => none) (by as_aux_lemma => kernel_rfl) (head_of (by as_aux_lemma => kernel_rfl)) ?_
 iterate 4
  refine Walk.one (x := ?_) rfl rfl (fun w1 hI hL K hK => ?_) ?_
  rotate_left
  ·obtain ⟨hc, hf⟩ := bcell hI
   go_simp
   repeat (first | (go_ints; try go_simp) | (simp only [↓IntWalk.iteOmega]; try go_simp))
   exact hK
  simp only [Pq1]
 refine Walk.tell rfl rfl (fun w1 hI hL K hK => ?_) ?_
 ·go_simp
  exact (nsameO Z32 Z38 _ w1 ((hZ32).ext hI) ((hZ38).ext hI)).mono (tell hK)
 rintro _ rfl
 simp only [Pq1]
 refine Walk.one (x := ?_) rfl rfl (fun w1 hI hL K hK => ?_) ?_
 rotate_left
 ·obtain ⟨hc, hf⟩ := bcell hI
  go_simp
  repeat (first | (go_ints; try go_simp) | (simp only [↓IntWalk.iteOmega]; try go_simp))
  exact hK
 simp only [Pq1]
 refine Walk.oneG (x := ?_) rfl (by as_aux_lemma => kernel_rfl) (fun w1 hI hL K hK => ?_) ?_
 rotate_left
 ·obtain ⟨hc, hf⟩ := bcell hI
  go_simp
  repeat (first | (go_ints; try go_simp) | (simp only [↓IntWalk.iteOmega]; try go_simp))
  exact hK
 simp only [Pq1]
 refine Walk.oneG (x := ?_) rfl (by as_aux_lemma => kernel_rfl) (fun w1 hI hL K hK => ?_) ?_
 rotate_left
 ·obtain ⟨hc, hf⟩ := bcell hI
  go_simp
  repeat (first | (go_ints; try go_simp) | (simp only [↓IntWalk.iteOmega]; try go_simp))
  exact hK
 simp only [Pq1]
 refine Walk.oneG (x := ?_) rfl (by as_aux_lemma => kernel_rfl) (fun w1 hI hL K hK => ?_) ?_
 rotate_left
 ·obtain ⟨hc, hf⟩ := bcell hI
  go_simp
  repeat (first | (go_ints; try go_simp) | (simp only [↓IntWalk.iteOmega]; try go_simp))
  exact hK
 simp only [Pq1]
 refine Walk.oneG (x := ?_) rfl (by as_aux_lemma => kernel_rfl) (fun w1 hI hL K hK => ?_) ?_
 rotate_left
 ·obtain ⟨hc, hf⟩ := bcell hI
  go_simp
  repeat (first | (go_ints; try go_simp) | (simp only [↓IntWalk.iteOmega]; try go_simp))
  exact hK
 simp only [Pq1]
 refine Walk.tellG rfl (by as_aux_lemma => kernel_rfl) (fun w1 hI hL K hK => ?_) ?_
 ·go_simp
  exact (nsameO Z45 Z52 _ w1 ((hZ45).ext hI) ((hZ52).ext hI)).mono (tell hK)
 rintro _ rfl
 simp only [Pq1]
 iterate 2
  refine Walk.one (x := ?_) rfl rfl (fun w1 hI hL K hK => ?_) ?_
  rotate_left
  ·obtain ⟨hc, hf⟩ := bcell hI
   go_simp
   repeat (first | (go_ints; try go_simp) | (simp only [↓IntWalk.iteOmega]; try go_simp))
   exact hK
  simp only [Pq1]
 refine Walk.oneG (x := ?_) rfl (by as_aux_lemma => kernel_rfl) (fun w1 hI hL K hK => ?_) ?_
 rotate_left
 ·obtain ⟨hc, hf⟩ := bcell hI
  go_simp
  repeat (first | (go_ints; try go_simp) | (simp only [↓IntWalk.iteOmega]; try go_simp))
  exact hK
 simp only [Pq1]
 refine Walk.oneG (x := ?_) rfl (by as_aux_lemma => kernel_rfl) (fun w1 hI hL K hK => ?_) ?_
 rotate_left
 ·obtain ⟨hc, hf⟩ := bcell hI
  go_simp
  repeat (first | (go_ints; try go_simp) | (simp only [↓IntWalk.iteOmega]; try go_simp))
  exact hK
 simp only [Pq1]
 refine Walk.oneG (x := ?_) rfl (by as_aux_lemma => kernel_rfl) (fun w1 hI hL K hK => ?_) ?_
 rotate_left
 ·obtain ⟨hc, hf⟩ := bcell hI
  go_simp
  repeat (first | (go_ints; try go_simp) | (simp only [↓IntWalk.iteOmega]; try go_simp))
  exact hK
 simp only [Pq1]
 refine Walk.oneG (x := ?_) rfl (by as_aux_lemma => kernel_rfl) (fun w1 hI hL K hK => ?_) ?_
 rotate_left
 ·obtain ⟨hc, hf⟩ := bcell hI
  go_simp
  repeat (first | (go_ints; try go_simp) | (simp only [↓IntWalk.iteOmega]; try go_simp))
  exact hK
 simp only [Pq1]
 refine Walk.tellG rfl (by as_aux_lemma => kernel_rfl) (fun w1 hI hL K hK => ?_) ?_
 ·go_simp
  exact (nsameO Z59 Z66 _ w1 ((hZ59).ext hI) ((hZ66).ext hI)).mono (tell hK)
 rintro _ rfl
 simp only [Pq1]
 iterate 2
  refine Walk.one (x := ?_) rfl rfl (fun w1 hI hL K hK => ?_) ?_
  rotate_left
  ·obtain ⟨hc, hf⟩ := bcell hI
   go_simp
   repeat (first | (go_ints; try go_simp) | (simp only [↓IntWalk.iteOmega]; try go_simp))
   exact hK
  simp only [Pq1]
 refine Walk.oneG (x := ?_) rfl (by as_aux_lemma => kernel_rfl) (fun w1 hI hL K hK => ?_) ?_
 rotate_left
 ·obtain ⟨hc, hf⟩ := bcell hI
  go_simp
  repeat (first | (go_ints; try go_simp) | (simp only [↓IntWalk.iteOmega]; try go_simp))
  exact hK
 simp only [Pq1]
 refine Walk.oneG (x := ?_) rfl (by as_aux_lemma => kernel_rfl) (fun w1 hI hL K hK => ?_) ?_
 rotate_left
 ·obtain ⟨hc, hf⟩ := bcell hI
  go_simp
  repeat (first | (go_ints; try go_simp) | (simp only [↓IntWalk.iteOmega]; try go_simp))
  exact hK
 simp only [Pq1]
 refine Walk.oneG (x := ?_) rfl (by as_aux_lemma => kernel_rfl) (fun w1 hI hL K hK => ?_) ?_
 rotate_left
 ·obtain ⟨hc, hf⟩ := bcell hI
  go_simp
  repeat (first | (go_ints; try go_simp) | (simp only [↓IntWalk.iteOmega]; try go_simp))
  exact hK
 simp only [Pq1]
 refine Walk.oneG (x := ?_) rfl (by as_aux_lemma => kernel_rfl) (fun w1 hI hL K hK => ?_) ?_
 rotate_left
 ·obtain ⟨hc, hf⟩ := bcell hI
  go_simp
  repeat (first | (go_ints; try go_simp) | (simp only [↓IntWalk.iteOmega]; try go_simp))
  exact hK
 simp only [Pq1]
 refine Walk.tellG rfl (by as_aux_lemma => kernel_rfl) (fun w1 hI hL K hK => ?_) ?_
 ·go_simp
  exact (nsameO Z72 Z78 _ w1 ((hZ72).ext hI) ((hZ78).ext hI)).mono (tell hK)
 rintro _ rfl
 simp only [Pq1]
 iterate 2
  refine Walk.one (x := ?_) rfl rfl (fun w1 hI hL K hK => ?_) ?_
  rotate_left
  ·obtain ⟨hc, hf⟩ := bcell hI
   go_simp
   repeat (first | (go_ints; try go_simp) | (simp only [↓IntWalk.iteOmega]; try go_simp))
   exact hK
  simp only [Pq1]
 refine Walk.oneG (x := ?_) rfl (by as_aux_lemma => kernel_rfl) (fun w1 hI hL K hK => ?_) ?_
 rotate_left
 ·obtain ⟨hc, hf⟩ := bcell hI
  go_simp
  repeat (first | (go_ints; try go_simp) | (simp only [↓IntWalk.iteOmega]; try go_simp))
  exact hK
 simp only [Pq1]
 refine Walk.oneG (x := ?_) rfl (by as_aux_lemma => kernel_rfl) (fun w1 hI hL K hK => ?_) ?_
 rotate_left
 ·obtain ⟨hc, hf⟩ := bcell hI
  go_simp
  repeat (first | (go_ints; try go_simp) | (simp only [↓IntWalk.iteOmega]; try go_simp))
  exact hK
 simp only [Pq1]
 refine Walk.tellG rfl (by as_aux_lemma => kernel_rfl) (fun w1 hI hL K hK => ?_) ?_
 ·go_simp
  exact (lRight T e y w1 (hT.ext (eg xw_w21 hI)) ey rfl).mono (tell hK)
 rintro _ rfl
 simp only [Pq1]
 refine Walk.oneG (x := ?_) rfl (by as_aux_lemma => kernel_rfl) (fun w1 hI hL K hK => ?_) ?_
 rotate_left
 ·obtain ⟨hc, hf⟩ := bcell hI
  go_simp
  repeat (first | (go_ints; try go_simp) | (simp only [↓IntWalk.iteOmega]; try go_simp))
  exact hK
 simp only [Pq1]
 refine Walk.oneG (x := ?_) rfl (by as_aux_lemma => kernel_rfl) (fun w1 hI hL K hK => ?_) ?_
 rotate_left
 ·obtain ⟨hc, hf⟩ := bcell hI
  go_simp
  repeat (first | (go_ints; try go_simp) | (simp only [↓IntWalk.iteOmega]; try go_simp))
  exact hK
 simp only [Pq1]
 refine Walk.tellG rfl (by as_aux_lemma => kernel_rfl) (fun w1 hI hL K hK => ?_) ?_
 ·go_simp
  exact (tRight T e y w1 (hT.ext (eg xw_w21 hI)) ey rfl).mono (tell hK)
 rintro _ rfl
 simp only [Pq1]
 refine Walk.oneG (x := ?_) rfl (by as_aux_lemma => kernel_rfl) (fun w1 hI hL K hK => ?_) ?_
 rotate_left
 ·obtain ⟨hc, hf⟩ := bcell hI
  go_simp
  repeat (first | (go_ints; try go_simp) | (simp only [↓IntWalk.iteOmega]; try go_simp))
  exact hK
 simp only [Pq1]
 refine Walk.one (x := ?_) rfl rfl (fun w1 hI hL K hK => ?_) ?_
 rotate_left
 ·obtain ⟨hc, hf⟩ := bcell hI
  go_simp
  repeat (first | (go_ints; try go_simp) | (simp only [↓IntWalk.iteOmega]; try go_simp))
  exact hK
 simp only [Pq1]
 refine Walk.nilF fun w22 ew22 kzL kzX => ?_
 have zw22 := ew22.size
 clear kzL kzX
 simp only [List.drop_succ_cons, List.drop_zero, List.drop_nil]
 have xw_w22 := eg xw_w21 ew22
 go_wp2_with fail
 clear b5_w21 b6_w21 b7_w21 b8_w21 b9_w21 b10_w21 b11_w21 b12_w21 b1_w21 b2_w21 b3_w21 b4_w21
 refine bodyPost_ret (v := .bool true) (by simp [results, Tryz.results13, go_sem]) rfl ?_
 exact Gv.of_v xw_w22

set_option maxRecDepth 100000 in
set_option maxHeartbeats 8000000 in
theorem nTwo (T : Tb) (R : Nat → Nat → Rat) (e y : Int) (e2 y2 : Int) (n : Int) (w : World) (hT : TW w T) (hR : TVR w T R) (ey : -9223372036854775808 ≤ e ∧ e ≤ 9223372036854775807 ∧ -9223372036854775808 ≤ y ∧ y ≤ 9223372036854775807) (ey2 : -9223372036854775808 ≤ e2 ∧ e2 ≤ 9223372036854775807 ∧ -9223372036854775808 ≤ y2 ∧ y2 ≤ 9223372036854775807) (hn : -9223372036854775808 ≤ n ∧ n ≤ 9223372036854775807) :
    Calls Tryz.prog 14 #[.agg #[.int .i64 T.first, .int .i64 T.sel, .slice T.P T.N T.C], .agg #[.int .i64 e, .int .i64 y], .agg #[.int .i64 e2, .int .i64 y2], .int .i64 n] w (Gv (.v (.bool true)) w) := by
 obtain ⟨w1, hww1, ew1, B1, zw1⟩ := alloc_at w (w.heap.size) (by omega) #[.int .i64 T.first, .int .i64 T.sel, .slice T.P T.N T.C] 24
 obtain ⟨w2, hww2, ew2, B2, zw2⟩ := alloc_at w1 (w.heap.size + 1) (by omega) #[.int .i64 e, .int .i64 y] 26
 obtain ⟨w3, hww3, ew3, B3, zw3⟩ := alloc_at w2 (w.heap.size + 1 + 1) (by omega) #[.int .i64 e2, .int .i64 y2] 26
 have xw1_w3 := eg ew2 ew3
 replace B1 := B1.ext xw1_w3
 have b1_w3 := B1.c3
 replace B2 := B2.ext ew3
 have b2_w3 := B2.c2
 have b3_w3 := B3.c2
 have xw_w3 := eg (eg ew1 ew2) ew3
 go_enter Tryz.func14, Tryz.ntmps14
 go_wp2_with fail
 clear hww1 hww2 hww3
 replace zw1 := le2 zw1
 replace zw2 := le2 zw2
 replace zw3 := le2 zw3
 refine regionT 9 (fun kk => match kk with | 1 => some (.v (.agg #[.int .i64 T.first, .int .i64 T.sel, .slice T.P T.N T.C])) | 3 => some (.v (.agg #[.int .i64 e, .int .i64 y])) | 5 => some (.v (.agg #[.int .i64 e2, .int .i64 y2])) | 6 => some (.box 31 #[.int .i64 0, .int .i64 0, .slice none 0 0]) | 7 => some (.box 63 #[.int .i64 0, .int .i64 0]) | 8 => some (.box 63 #[.int .i64 0, .int .i64 0]) | _ => none) (by as_aux_lemma => kernel_rfl) (head_of (by as_aux_lemma => kernel_rfl)) ?_
 refine Walk.one (x := ?_) rfl rfl (fun w1 hI hL K hK => ?_) ?_
 rotate_left
 ·obtain ⟨hc, hf⟩ := bcell hI
  go_simp
  repeat (first | (go_ints; try go_simp) | (simp only [↓IntWalk.iteOmega]; try go_simp))
  exact hK
 simp only [Pq1]
 refine Walk.tell rfl rfl (fun w1 hI hL K hK => ?_) ?_
 ·go_simp
  exact (nplain T w1).mono (tell hK)
 rintro _ rfl
 simp only [Pq1]
 refine Walk.one (x := ?_) rfl rfl (fun w1 hI hL K hK => ?_) ?_
 rotate_left
 ·obtain ⟨hc, hf⟩ := bcell hI
  go_simp
  repeat (first | (go_ints; try go_simp) | (simp only [↓IntWalk.iteOmega]; try go_simp))
  exact hK
 simp only [Pq1]
 refine Walk.tell rfl rfl (fun w1 hI hL K hK => ?_) ?_
 ·go_simp
  exact (nold e y w1).mono (tell hK)
 rintro _ rfl
 simp only [Pq1]
 refine Walk.one (x := ?_) rfl rfl (fun w1 hI hL K hK => ?_) ?_
 rotate_left
 ·obtain ⟨hc, hf⟩ := bcell hI
  go_simp
  repeat (first | (go_ints; try go_simp) | (simp only [↓IntWalk.iteOmega]; try go_simp))
  exact hK
 simp only [Pq1]
 refine Walk.tell rfl rfl (fun w1 hI hL K hK => ?_) ?_
 ·go_simp
  exact (nold e2 y2 w1).mono (tell hK)
 rintro _ rfl
 simp only [Pq1]
 refine Walk.tell rfl rfl (fun w1 hI hL K hK => ?_) ?_
 ·go_simp
  exact tellB hK
 rintro _ ⟨g9, rfl⟩
 simp only [Pq1]
 refine Walk.tell rfl rfl (fun w1 hI hL K hK => ?_) ?_
 ·go_simp
  exact tellB hK
 rintro _ ⟨g10, rfl⟩
 simp only [Pq1]
 refine Walk.tell rfl rfl (fun w1 hI hL K hK => ?_) ?_
 ·go_simp
  exact tellB hK
 rintro _ ⟨g11, rfl⟩
 simp only [Pq1]
 refine Walk.nilF fun w4 ew4 kzL kzX => ?_
 have zw4 := ew4.size
 obtain ⟨B4, yB4⟩ := Tl.getB (kz (i := 6) (v := .pointer (some ⟨g9, 0, none⟩)) rfl (by simp) kzL)
 obtain ⟨B5, yB5⟩ := Tl.getB (kz (i := 7) (v := .pointer (some ⟨g10, 0, none⟩)) rfl (by simp) kzL)
 obtain ⟨B6, yB6⟩ := Tl.getB (kz (i := 8) (v := .pointer (some ⟨g11, 0, none⟩)) rfl (by simp) kzL)
 have dB4B5 : g9 ≠ g10 := by
  have := kzX (6, .pointer (some ⟨g9, 0, none⟩)) (by simp) (7, .pointer (some ⟨g10, 0, none⟩)) (by simp) (by simp)
  simpa [TB, Tl.box, Bl, Bl1] using this
 have dB4B6 : g9 ≠ g11 := by
  have := kzX (6, .pointer (some ⟨g9, 0, none⟩)) (by simp) (8, .pointer (some ⟨g11, 0, none⟩)) (by simp) (by simp)
  simpa [TB, Tl.box, Bl, Bl1] using this
 have dB5B6 : g10 ≠ g11 := by
  have := kzX (7, .pointer (some ⟨g10, 0, none⟩)) (by simp) (8, .pointer (some ⟨g11, 0, none⟩)) (by simp) (by simp)
  simpa [TB, Tl.box, Bl, Bl1] using this
 have lB4 := B4.lt
 have lB5 := B5.lt
 have lB6 := B6.lt
 clear kzL kzX
 simp only [List.drop_succ_cons, List.drop_zero, List.drop_nil]
 have b4_w4 := B4.c3
 have fb4_w4 := B4.f3
 replace B1 := B1.ext ew4
 replace B2 := B2.ext ew4
 replace B3 := B3.ext ew4
 have xw_w4 := eg xw_w3 ew4
 obtain ⟨w5, hww5, kw5, Nw5, zw5⟩ := B4.put3 (.int .i64 T.first) (.int .i64 T.sel) (.slice T.P T.N T.C)
 replace B1 := B1.kb kw5 (by omega)
 replace B2 := B2.kb kw5 (by omega)
 replace B3 := B3.kb kw5 (by omega)
 replace B5 := B5.kb kw5 (by omega)
 replace B6 := B6.kb kw5 (by omega)
 have xw_w5 := Ext.kb xw_w4 kw5 (by omega)
 replace B4 := Nw5
 clear Nw5 kw5
 have b5_w5 := B5.c2
 have fb5_w5 := B5.f2
 obtain ⟨w6, hww6, kw6, Nw6, zw6⟩ := B5.put2 (.int .i64 e) (.int .i64 y)
 replace B1 := B1.kb kw6 (by omega)
 replace B2 := B2.kb kw6 (by omega)
 replace B3 := B3.kb kw6 (by omega)
 replace B4 := B4.kb kw6 (by omega)
 replace B6 := B6.kb kw6 (by omega)
 have xw_w6 := Ext.kb xw_w5 kw6 (by omega)
 replace B5 := Nw6
 clear Nw6 kw6
 have b6_w6 := B6.c2
 have fb6_w6 := B6.f2
 obtain ⟨w7, hww7, kw7, Nw7, zw7⟩ := B6.put2 (.int .i64 e2) (.int .i64 y2)
 replace B1 := B1.kb kw7 (by omega)
 replace B2 := B2.kb kw7 (by omega)
 replace B3 := B3.kb kw7 (by omega)
 replace B4 := B4.kb kw7 (by omega)
 replace B5 := B5.kb kw7 (by omega)
 have xw_w7 := Ext.kb xw_w6 kw7 (by omega)
 replace B6 := Nw7
 clear Nw7 kw7
 have b1_w7 := B1.c3
 have b2_w7 := B2.c2
 have b3_w7 := B3.c2
 go_wp2_with fail
 clear hww5 hww6 hww7
 clear b1_w3 b2_w3 b3_w3 b4_w4 fb4_w4 b5_w5 fb5_w5 b6_w6 fb6_w6
 replace zw5 := le2 zw5
 replace zw6 := le2 zw6
 replace zw7 := le2 zw7
 refine (lBothO T R e y e2 y2 n _ (hT.ext xw_w7) (hR.ext xw_w7) ey ey2).mono (Gv.onRo fun Z35 w8 hZ35 ew8 zw8 => ?_)
 obtain ⟨w9, hww9, ew9, B7, zw9⟩ := alloc_at w8 (w8.heap.size) (by omega) #[.bool Z35.N.b, .slice Z35.N.p Z35.N.n Z35.N.c, .bool Z35.D.b, .slice Z35.D.p Z35.D.n Z35.D.c] 40
 have xw7_w9 := eg ew8 ew9
 replace B4 := B4.ext xw7_w9
 have b4_w9 := B4.c3
 replace B5 := B5.ext xw7_w9
 have b5_w9 := B5.c2
 replace B6 := B6.ext xw7_w9
 have b6_w9 := B6.c2
 have xw_w9 := eg (eg xw_w7 ew8) ew9
 go_wp2_with fail
 clear hww9
 clear b1_w7 b2_w7 b3_w7
 replace zw9 := le2 zw9
 refine (tBothO T R e y e2 y2 n _ (hT.ext xw_w9) (hR.ext xw_w9) ey ey2 hn).mono (Gv.onRo fun Z43 w10 hZ43 ew10 zw10 => ?_)
 obtain ⟨w11, hww11, ew11, B8, zw11⟩ := alloc_at w10 (w10.heap.size) (by omega) #[.bool Z43.N.b, .slice Z43.N.p Z43.N.n Z43.N.c, .bool Z43.D.b, .slice Z43.D.p Z43.D.n Z43.D.c] 40
 have xw7_w11 := eg (eg xw7_w9 ew10) ew11
 replace B1 := B1.ext xw7_w11
 have b1_w11 := B1.c3
 replace B2 := B2.ext xw7_w11
 have b2_w11 := B2.c2
 replace B3 := B3.ext xw7_w11
 have b3_w11 := B3.c2
 have xw_w11 := eg (eg xw_w9 ew10) ew11
 go_wp2_with fail
 clear hww11
 clear b4_w9 b5_w9 b6_w9
 replace zw11 := le2 zw11
 refine (lEitherO T R e y e2 y2 n _ (hT.ext xw_w11) (hR.ext xw_w11) ey ey2).mono (Gv.onRo fun Z51 w12 hZ51 ew12 zw12 => ?_)
 obtain ⟨w13, hww13, ew13, B9, zw13⟩ := alloc_at w12 (w12.heap.size) (by omega) #[.bool Z51.N.b, .slice Z51.N.p Z51.N.n Z51.N.c, .bool Z51.D.b, .slice Z51.D.p Z51.D.n Z51.D.c] 40
 have xw9_w13 := eg (eg (eg ew10 ew11) ew12) ew13
 replace B4 := B4.ext xw9_w13
 have b4_w13 := B4.c3
 replace B5 := B5.ext xw9_w13
 have b5_w13 := B5.c2
 replace B6 := B6.ext xw9_w13
 have b6_w13 := B6.c2
 have xw_w13 := eg (eg xw_w11 ew12) ew13
 go_wp2_with fail
 clear hww13
 clear b1_w11 b2_w11 b3_w11
 replace zw13 := le2 zw13
 refine (tEitherO T R e y e2 y2 n _ (hT.ext xw_w13) (hR.ext xw_w13) ey ey2 hn).mono (Gv.onRo fun Z59 w14 hZ59 ew14 zw14 => ?_)
 obtain ⟨w15, hww15, ew15, B10, zw15⟩ := alloc_at w14 (w14.heap.size) (by omega) #[.bool Z59.N.b, .slice Z59.N.p Z59.N.n Z59.N.c, .bool Z59.D.b, .slice Z59.D.p Z59.D.n Z59.D.c] 40
 have xw11_w15 := eg (eg (eg ew12 ew13) ew14) ew15
 replace B1 := B1.ext xw11_w15
 have b1_w15 := B1.c3
 replace B2 := B2.ext xw11_w15
 have b2_w15 := B2.c2
 replace B3 := B3.ext xw11_w15
 have b3_w15 := B3.c2
 have xw_w15 := eg (eg xw_w13 ew14) ew15
 go_wp2_with fail
 clear hww15
 clear b4_w13 b5_w13 b6_w13
 replace zw15 := le2 zw15
 refine (lLeftO T R e y e2 y2 n _ (hT.ext xw_w15) (hR.ext xw_w15) ey ey2).mono (Gv.onRo fun Z67 w16 hZ67 ew16 zw16 => ?_)
 obtain ⟨w17, hww17, ew17, B11, zw17⟩ := alloc_at w16 (w16.heap.size) (by omega) #[.bool Z67.N.b, .slice Z67.N.p Z67.N.n Z67.N.c, .bool Z67.D.b, .slice Z67.D.p Z67.D.n Z67.D.c] 40
 have xw13_w17 := eg (eg (eg ew14 ew15) ew16) ew17
 replace B4 := B4.ext xw13_w17
 have b4_w17 := B4.c3
 replace B5 := B5.ext xw13_w17
 have b5_w17 := B5.c2
 replace B6 := B6.ext xw13_w17
 have b6_w17 := B6.c2
 have xw_w17 := eg (eg xw_w15 ew16) ew17
 go_wp2_with fail
 clear hww17
 clear b1_w15 b2_w15 b3_w15
 replace zw17 := le2 zw17
 refine (tLeftO T R e y e2 y2 n _ (hT.ext xw_w17) (hR.ext xw_w17) ey ey2 hn).mono (Gv.onRo fun Z75 w18 hZ75 ew18 zw18 => ?_)
 obtain ⟨w19, hww19, ew19, B12, zw19⟩ := alloc_at w18 (w18.heap.size) (by omega) #[.bool Z75.N.b, .slice Z75.N.p Z75.N.n Z75.N.c, .bool Z75.D.b, .slice Z75.D.p Z75.D.n Z75.D.c] 40
 have xw9_w19 := eg (eg (eg (eg (eg (eg xw9_w13 ew14) ew15) ew16) ew17) ew18) ew19
 replace B7 := B7.ext xw9_w19
 have b7_w19 := B7.c4
 have xw11_w19 := eg (eg (eg (eg xw11_w15 ew16) ew17) ew18) ew19
 replace B8 := B8.ext xw11_w19
 have b8_w19 := B8.c4
 have xw8_w19 := eg (eg (eg (eg (eg (eg (eg (eg (eg (eg ew9 ew10) ew11) ew12) ew13) ew14) ew15) ew16) ew17) ew18) ew19
 replace hZ35 := hZ35.ext xw8_w19
 have xw10_w19 := eg (eg (eg (eg (eg (eg (eg (eg ew11 ew12) ew13) ew14) ew15) ew16) ew17) ew18) ew19
 replace hZ43 := hZ43.ext xw10_w19
 have xw_w19 := eg (eg xw_w17 ew18) ew19
 go_wp2_with fail
 clear hww19
 clear b4_w17 b5_w17 b6_w17
 replace zw19 := le2 zw19
 refine (nsameO Z35 Z43 _ _ (hZ35) (hZ43)).mono (Gv.onV fun w20 ew20 zw20 => ?_)
 have xw13_w20 := eg (eg (eg xw13_w17 ew18) ew19) ew20
 replace B9 := B9.ext xw13_w20
 have b9_w20 := B9.c4
 have xw15_w20 := eg (eg (eg (eg ew16 ew17) ew18) ew19) ew20
 replace B10 := B10.ext xw15_w20
 have b10_w20 := B10.c4
 have xw12_w20 := eg (eg (eg (eg (eg (eg (eg ew13 ew14) ew15) ew16) ew17) ew18) ew19) ew20
 replace hZ51 := hZ51.ext xw12_w20
 have xw14_w20 := eg (eg (eg (eg (eg ew15 ew16) ew17) ew18) ew19) ew20
 replace hZ59 := hZ59.ext xw14_w20
 have xw_w20 := eg xw_w19 ew20
 go_wp2_with fail
 clear b7_w19 b8_w19
 refine (nsameO Z51 Z59 _ _ (hZ51) (hZ59)).mono (Gv.onV fun w21 ew21 zw21 => ?_)
 have xw17_w21 := eg (eg (eg ew18 ew19) ew20) ew21
 replace B11 := B11.ext xw17_w21
 have b11_w21 := B11.c4
 have xw19_w21 := eg ew20 ew21
 replace B12 := B12.ext xw19_w21
 have b12_w21 := B12.c4
 have xw16_w21 := eg (eg (eg (eg ew17 ew18) ew19) ew20) ew21
 replace hZ67 := hZ67.ext xw16_w21
 have xw18_w21 := eg (eg ew19 ew20) ew21
 replace hZ75 := hZ75.ext xw18_w21
 have xw_w21 := eg xw_w20 ew21
 go_wp2_with fail
 clear b9_w20 b10_w20
 refine (nsameO Z67 Z75 _ _ (hZ67) (hZ75)).mono (Gv.onV fun w22 ew22 zw22 => ?_)
 have xw_w22 := eg xw_w21 ew22
 go_wp2_with fail
 clear b11_w21 b12_w21
 refine bodyPost_ret (v := .bool true) (by simp [results, Tryz.results14, go_sem]) rfl ?_
 exact Gv.of_v xw_w22

end Go.Proofs.YtndgaecfeaedeaaGreat
namespace Go.Proofs.YtndgaecfeaedeaaGreat
open Go.RowKit Lex Mth Go.ChangeShapes

section
variable {H : Type} {enc : TypeId × Value → H} {w : World} {base : Nat} {held : Bool}
/-- Nothing that is read takes more than the reach. -/
def WB (t : TypeId) (d : DataW H) : Prop := ∀ n ∈ d.weights Tryz.prog t, n ≤ reachBytes
theorem at_eq (a : Addr) (k : Nat) : at_ (some a) k = a.add k := by unfold at_; rfl

theorem weights_all {e : TypeId} : ∀ {l : List (DataW H)} {d : DataW H}, d ∈ l → ∀ n ∈ d.weights Tryz.prog e, n ∈ DataW.weightsAll Tryz.prog e l
 | x :: l, d, hd, n, hn => by
  simp only [DataW.weightsAll, List.mem_append]
  rcases List.mem_cons.1 hd with rfl | h
  ·exact .inl hn
  ·exact .inr (weights_all h n hn)
theorem WB.slice {t e : TypeId} {l r : List (DataW H)} (ht : Tryz.prog.underlying t = some (.slice e)) (h : WB t (.slice l r)) : (l.length + r.length) * Tryz.prog.bytesOf e ≤ reachBytes ∧ ∀ d ∈ l, WB e d := by
 unfold WB at h
 simp only [DataW.weights, ht] at h
 exact ⟨h _ (by simp), fun d hd n hn => h n (List.mem_cons_of_mem _ (List.mem_append_left _ (weights_all hd n hn)))⟩

theorem FA.of {a : Addr} {i : Nat} {X : Fr} (h : w.cells? base (a.add (i * 4)) 4 = some [.bool X.N.b, .slice X.N.p X.N.n X.N.c, .bool X.D.b, .slice X.D.p X.D.n X.D.c]) : FA w (some a) i X := by
 obtain ⟨_, _, hc⟩ := World.cells?_some h
 have g := fun k hk => (Go.Deep.add_add a (i * 4) k) ▸ hc k hk
 exact ⟨by rw [at_eq]; exact g 0 (by omega), by rw [at_eq]; exact g 1 (by omega), by rw [at_eq]; exact g 2 (by omega), by rw [at_eq]; exact g 3 (by omega)⟩

instance : Inhabited Wh := ⟨⟨false, none, 0, 0⟩⟩
instance : Inhabited Fr := ⟨⟨default, default⟩⟩
end
end Go.Proofs.YtndgaecfeaedeaaGreat
namespace Go.Proofs.YtndgaecfeaedeaaGreat
open Go.RowKit Lex Mth Go.ChangeShapes Go.WideShapes Go.ChangeAt

theorem own_knob : ownKnob Tryz.prog.godebug = none := by kernel_rfl
end Go.Proofs.YtndgaecfeaedeaaGreat
namespace Go.Proofs.YtndgaecfeaedeaaGreat
open Go.RowKit Lex Mth
attribute [local go_sem] run_indexAt_at add_zero_map Oper.semAt_some at_zero at_add at_mk1 at_mk2 at_mk3

theorem OT.mono {B B' : Nat} {w : World} {T : Tb} {g : Nat} {rb rc : Nat → Nat} {E : Nat → Nat → Fr} (h : OT B w T g rb rc E) (e : B' ≤ B) : OT B' w T g rb rc E :=
 ⟨Nat.le_trans e h.gB, h.gt, h.sl, h.le, fun k hk => Nat.le_trans e (h.rB k hk), h.row, h.inj⟩
theorem OQ.mono {B B' : Nat} {w : World} {T : Tb} {g : Nat} {rb rc : Nat → Nat} {Q : Nat → Nat → Rat} (h : OQ B w T g rb rc Q) (e : B' ≤ B) : OQ B' w T g rb rc Q :=
 let ⟨E, h1, h2⟩ := h; ⟨E, h1.mono e, fun k hk l hl => ⟨(h2 k hk l hl).1, (h2 k hk l hl).2.mono e⟩⟩
theorem OQ.sl {B : Nat} {w : World} {T : Tb} {g : Nat} {rb rc : Nat → Nat} {Q : Nat → Nat → Rat} (h : OQ B w T g rb rc Q) {k : Nat} (hk : k < T.N) : w.cell? ⟨g, k, none⟩ = some (.slice (some ⟨rb k, 0, none⟩) (T.rn k) (rc k)) :=
 let ⟨_, h1, _⟩ := h; h1.sl k hk
theorem OQ.at {B : Nat} {w : World} {T : Tb} {g : Nat} {rb rc : Nat → Nat} {Q : Nat → Nat → Rat} (h : OQ B w T g rb rc Q) {k j : Nat} (hk : k < T.N) (hj : j < T.rn k) : ∃ X : Fr, w.cell? ⟨rb k, j * 4, none⟩ = some (.bool X.N.b) ∧ w.cell? ⟨rb k, j * 4 + 1, none⟩ = some (.slice X.N.p X.N.n X.N.c) ∧ w.cell? ⟨rb k, j * 4 + 2, none⟩ = some (.bool X.D.b) ∧ w.cell? ⟨rb k, j * 4 + 3, none⟩ = some (.slice X.D.p X.D.n X.D.c) ∧ FR w X (Q k j) :=
 let ⟨E, h1, h2⟩ := h
 let ⟨c0, c1, c2, c3⟩ := h1.cells hk hj
 ⟨E k j, c0, c1, c2, c3, (h2 k hk j hj).1⟩
theorem OQ.free {B : Nat} {w : World} {T : Tb} {g : Nat} {rb rc : Nat → Nat} {Q : Nat → Nat → Rat} (h : OQ B w T g rb rc Q) {k : Nat} (hk : k < T.N) (j : Nat) : w.frozen? ⟨rb k, j, none⟩ = false :=
 let ⟨_, h1, _⟩ := h; h1.free hk j
theorem OQ.rB {B : Nat} {w : World} {T : Tb} {g : Nat} {rb rc : Nat → Nat} {Q : Nat → Nat → Rat} (h : OQ B w T g rb rc Q) {k : Nat} (hk : k < T.N) : B ≤ rb k :=
 let ⟨_, h1, _⟩ := h; h1.rB k hk
/-- A box of another type is kept over a store in a row. -/
theorem OQ.kb {B : Nat} {w w' : World} {T : Tb} {g : Nat} {rb rc : Nat → Nat} {Q : Nat → Nat → Rat} (h : OQ B w T g rb rc Q) {k : Nat} (hk : k < T.N) (kp : Keeps (fun x => x = rb k) w w') {b : Nat} {t : TypeId} {c : Array Value} (hC : Cells w b t c) (ht : 40 ≠ t) : Cells w' b t c := by
 obtain ⟨E, h1, _⟩ := h
 obtain ⟨cur, c1, _⟩ := h1.row k hk
 refine hC.kb kp fun e => ?_
 have e1 : w.heap[rb k]? = some (.cells cur 40 (0, 0)) := c1
 have e2 : w.heap[b]? = some (.cells c t (0, 0)) := hC
 rw [e, e1] at e2
 simp only [Option.some.injEq, Obj.cells.injEq] at e2
 exact ht e2.2.1
end Go.Proofs.YtndgaecfeaedeaaGreat
namespace Go.Proofs.YtndgaecfeaedeaaGreat
open Go.RowKit Lex Mth
attribute [local go_sem] run_indexAt_at add_zero_map Oper.semAt_some at_zero at_add at_mk1 at_mk2 at_mk3

def lvA (v : Value) : List Value := match v with | .agg l => l.toList | _ => []
theorem Rq.of {w : World} {T : Tb} {R : Nat → Nat → Rat} (hT : TQ w T R) {k j : Nat} (hk : k < T.N) (hj : j < T.rn k) : Rq (R k j) := ⟨(hT.sz k hk j hj).1, (hT.sz k hk j hj).2.1, (hT.sz k hk j hj).2.2.1, (hT.sz k hk j hj).2.2.2⟩
theorem Qs_all {p : Rat} {R : Nat → Nat → Rat} {i k l : Nat} (h : k < i) : Qs p R i 0 k l = upR p (R k l) := by
 unfold Qs; rw [if_pos (by omega)]
theorem OQ.second {B : Nat} {w0 w : World} {T : Tb} {R : Nat → Nat → Rat} {g c : Nat} {rb rc : Nat → Nat} {p : Rat} (hT : TQ w0 T R) (ok : okT T = true) (hp : Rq p) (h : OQ B w T g rb rc (Qs p R T.N 0)) (hc : T.N ≤ c) :
    ∃ T' Q, T'.val = .agg #[.int .i64 T.first, .int .i64 T.sel, .slice (some ⟨g, 0, none⟩) T.N c] ∧ TQ w T' Q ∧ Worse T T' R Q ∧ okT T' = true := by
 have hb := hT.b
 unfold boundsOk at hb
 obtain ⟨T', h1, h2, h3, h4⟩ := OQ.table hT h hc (fun k hk j hj => by rw [Qs_all hk]; exact (upR_rq hp (Rq.of hT hk hj)).1) (by rw [Qs_all (by omega), hT.last ok, upR_one]) (fun k hk j hj => by rw [Qs_all hk]; exact (upR_rq hp (Rq.of hT hk hj)).2)
 exact ⟨T', _, h1, h2, h3, h4⟩
/-- What the end needs. -/
structure LtE (T : Tb) (R : Nat → Nat → Rat) (e y n : Int) : Prop where
 sa : Sz (lal T R e y n.toNat)
 a0 : 0 ≤ lal T R e y n.toNat
 a1 : lal T R e y n.toNat ≤ 1
 sx : Sz (lex T R e y)
theorem LtE.of {w : World} {T : Tb} {R : Nat → Nat → Rat} {e y : Int} (hT : TQ w T R) (hok : okL T e y = true) (n : Int) : LtE T R e y n := by
 obtain ⟨h1, h2, h3, h4⟩ := okL_q4 hok
 have rs := rs_rt hT h1 h2 h3
 have hA := yN_le hT h1 h3
 exact ⟨al_sz rs hA _, al_nonneg rs _, al_le rs _, es_sz rs hA _ (by omega)⟩

end Go.Proofs.YtndgaecfeaedeaaGreat
namespace Go.Proofs.YtndgaecfeaedeaaGreat
open Go.RowKit Lex Mth Go.ChangeShapes Go.WideShapes Go.ChangeAt

end Go.Proofs.YtndgaecfeaedeaaGreat
namespace Go.Proofs.YtndgaecfeaedeaaGreat
open Go.RowKit Lex Mth

/-- .. its fractions any limbs. -/
def OR (B : Nat) (w : World) (T : Tb) (g : Nat) (rb rc : Nat → Nat) (ln ld : Nat → Nat → List Nat) : Prop := ∃ E, OT B w T g rb rc E ∧ ∀ k, k < T.N → ∀ l, l < T.rn k → UF w (E k l) (ln k l) (ld k l) ∧ OF B w (E k l)
theorem OR.tw {B : Nat} {w : World} {T : Tb} {g : Nat} {rb rc : Nat → Nat} {ln ld : Nat → Nat → List Nat} (h : OR B w T g rb rc ln ld) {c : Nat} (hc : T.N ≤ c) (hN : T.N ≤ 70368744177664) (hr : ∀ k, k < T.N → T.rn k ≤ 70368744177664) {first sel : Int} (hf : -9223372036854775808 ≤ first ∧ first ≤ 9223372036854775807) (hs : -9223372036854775808 ≤ sel ∧ sel ≤ 9223372036854775807) :
    ∃ T' : Tb, T'.val = .agg #[.int .i64 first, .int .i64 sel, .slice (some ⟨g, 0, none⟩) T.N c] ∧ TW w T' ∧ T'.first = first ∧ T'.N = T.N := by
 obtain ⟨E, hE, hF⟩ := h
 let T' : Tb := ⟨first, sel, some ⟨g, 0, none⟩, T.N, c, fun k => some ⟨rb k, 0, none⟩, T.rn, rc, E, ln, ld⟩
 refine ⟨T', rfl, ⟨hf.1, hf.2, hs.1, hs.2, Has.some _ _, hc, hN, fun k hk => by show w.cell? (at_ (some ⟨g, 0, none⟩) k) = _; rw [at_zero]; exact hE.sl k hk,
  fun k hk => ⟨Has.some _ _, hE.le k hk, hr k hk, fun j hj => by
   obtain ⟨c0, c1, c2, c3⟩ := hE.cells hk hj
   exact ⟨by show w.cell? (at_ (some ⟨rb k, 0, none⟩) _) = _; rw [at_zero]; exact c0, by show w.cell? (at_ (some ⟨rb k, 0, none⟩) _) = _; rw [at_zero]; exact c1, by show w.cell? (at_ (some ⟨rb k, 0, none⟩) _) = _; rw [at_zero]; exact c2, by show w.cell? (at_ (some ⟨rb k, 0, none⟩) _) = _; rw [at_zero]; exact c3⟩⟩,
  fun k hk j hj => (hF k hk j hj).1⟩, rfl, rfl⟩
theorem OQ.raw {B : Nat} {w : World} {T : Tb} {g : Nat} {rb rc : Nat → Nat} {Q : Nat → Nat → Rat} (h : OQ B w T g rb rc Q) : OR B w T g rb rc (fun k j => limbs (Q k j).num.natAbs) (fun k j => limbs (Q k j).den) :=
 let ⟨E, h1, h2⟩ := h
 ⟨E, h1, fun k hk l hl => ⟨⟨(h2 k hk l hl).1.1.u16.2, (h2 k hk l hl).1.2.u16.2⟩, (h2 k hk l hl).2⟩⟩
theorem OR.ext {B : Nat} {w w' : World} {T : Tb} {g : Nat} {rb rc : Nat → Nat} {ln ld : Nat → Nat → List Nat} (h : OR B w T g rb rc ln ld) (e : Ext w w') : OR B w' T g rb rc ln ld :=
 let ⟨E, h1, h2⟩ := h; ⟨E, h1.ext e, fun k hk l hl => ⟨(h2 k hk l hl).1.ext e, (h2 k hk l hl).2.ext e⟩⟩
theorem cells_inv {w : World} {b : Nat} {t : TypeId} {c : Array Value} (h : Cells w b t c) {k : Nat} {v : Value} (hv : w.cell? ⟨b, k, none⟩ = some v) : c[k]? = some v := by
 simpa [World.cell?, show w.heap[b]? = _ from h] using hv
/-- A row is cut. -/
theorem OT.cut {B : Nat} {w : World} {T : Tb} {g : Nat} {rb rc : Nat → Nat} {E : Nat → Nat → Fr} (h : OT B w T g rb rc E) {i m : Nat} (hi : i < T.N) (hm : m ≤ T.rn i) : OT B (w.setCell ⟨g, i, none⟩ (.slice (some ⟨rb i, 0, none⟩) m (rc i))) { T with rn := fun k => if k = i then m else T.rn k } g rb rc E := by
 obtain ⟨gc, hg⟩ := h.gt
 have hC : Cells w g 47 gc := hg
 have hD := hC.setOne i (.slice (some ⟨rb i, 0, none⟩) m (rc i))
 have kp : Keeps (fun x => x = g) w (w.setCell ⟨g, i, none⟩ (.slice (some ⟨rb i, 0, none⟩) m (rc i))) := sets_keeps g [.slice (some ⟨rb i, 0, none⟩) m (rc i)] w i
 refine ⟨h.gB, ⟨_, hD⟩, fun k hk => ?_, fun k hk => ?_, h.rB, fun k hk => ?_, h.inj⟩
 ·refine hD.cell ?_
  have h0 := cells_inv hC (h.sl k hk)
  have hs : k < gc.size := (Array.getElem?_eq_some_iff.1 h0).1
  rw [Array.getElem?_setIfInBounds]
  by_cases e : k = i
  ·subst e
   rw [if_pos rfl, if_pos hs]
   simp
  ·rw [if_neg (fun x => e x.symm), h0]
   simp [e]
 ·have := h.le k hk
  show (if k = i then m else T.rn k) ≤ rc k
  split
  ·rename_i e; subst e; omega
  ·exact this
 ·obtain ⟨cur, h1, h2, h3⟩ := h.row k hk
  have hle : (if k = i then m else T.rn k) ≤ T.rn k := by split; (rename_i e; subst e; exact hm); exact Nat.le_refl _
  exact ⟨cur, h1.kb kp (fun e => h.ne hk e.symm), Nat.le_trans (Nat.mul_le_mul_right 4 hle) h2, fun j hj => h3 j (Nat.lt_of_lt_of_le hj hle)⟩
theorem OR.cut {B : Nat} {w : World} {T : Tb} {g : Nat} {rb rc : Nat → Nat} {ln ld : Nat → Nat → List Nat} (h : OR B w T g rb rc ln ld) {i m : Nat} (hi : i < T.N) (hm : m ≤ T.rn i) : OR B (w.setCell ⟨g, i, none⟩ (.slice (some ⟨rb i, 0, none⟩) m (rc i))) { T with rn := fun k => if k = i then m else T.rn k } g rb rc ln ld := by
 obtain ⟨E, h1, h2⟩ := h
 have kg := keeps_grown (sets_keeps g [.slice (some ⟨rb i, 0, none⟩) m (rc i)] w i)
 obtain ⟨gc, hg⟩ := h1.gt
 have ht : ∀ k, some g = some k → ∃ cur t, w.heap[k]? = some (.cells cur t (0, 0)) ∧ t ≠ 153 := fun k hk => (Option.some.inj hk) ▸ ⟨gc, _, hg, by decide⟩
 refine ⟨E, h1.cut hi hm, fun k hk q hq => ?_⟩
 have hle : (if k = i then m else T.rn k) ≤ T.rn k := by split; (rename_i e; subst e; exact hm); exact Nat.le_refl _
 have hk' : k < T.N := hk
 have hq' : q < T.rn k := Nat.lt_of_lt_of_le hq hle
 exact UF.grown (h2 k hk' q hq').1 (h2 k hk' q hq').2 kg ht
/-- An element is written. -/
theorem OR.put {B : Nat} {w : World} {T : Tb} {g : Nat} {rb rc : Nat → Nat} {ln ld : Nat → Nat → List Nat} (h : OR B w T g rb rc ln ld) {i j : Nat} (hi : i < T.N) (hj : j < T.rn i) {X : Fr} {l m : List Nat} (hX : UF w X l m) (oX : OF B w X) : OR B (sets w (rb i) (j * 4) (frV X)) T g rb rc (fun a b => if a = i ∧ b = j then l else ln a b) (fun a b => if a = i ∧ b = j then m else ld a b) := by
 obtain ⟨E, h1, h2⟩ := h
 have kg := keeps_grown (sets_keeps (rb i) (frV X) w (j * 4))
 obtain ⟨cur, c1, _⟩ := h1.row i hi
 have ht : ∀ k, some (rb i) = some k → ∃ cur t, w.heap[k]? = some (.cells cur t (0, 0)) ∧ t ≠ 153 := fun k hk => (Option.some.inj hk) ▸ ⟨cur, _, c1, by decide⟩
 refine ⟨_, h1.put hi hj X, fun k hk q hq => ?_⟩
 by_cases hkl : k = i ∧ q = j
 ·simp only [if_pos hkl]
  exact UF.grown hX oX kg ht
 ·simp only [if_neg hkl]
  exact UF.grown (h2 k hk q hq).1 (h2 k hk q hq).2 kg ht
end Go.Proofs.YtndgaecfeaedeaaGreat
