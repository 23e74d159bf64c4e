/- Walks of the document's answer on fractions: Lowest and Quick give memory of their own. A kind of result: a table with its rates. No condition. Plain laws for the small tables: rows of one rate; tables by their value. No condition: laws on the model's worlds. -/
import Derived.Test.YtndgaecfeaedeaaGreatG14
import Derived.Test.YtndgaecfeaedeaaGreatG26
set_option linter.unusedSimpArgs false
set_option linter.unusedVariables false
namespace Go.Proofs.YtndgaecfeaedeaaGreat
open Go.RowKit Lex Mth
attribute [local go_sem] run_indexAt_at add_zero_map Oper.semAt_some at_zero

set_option maxRecDepth 100000 in
theorem rLow1o (X : Wh) (Y : Wh) (x : Int) (y : Int) (w : World) (hX : WR w X x) (hY : WR w Y y) (hy0 : y ≠ 0) (b : siz x.natAbs ≤ 1024) (b' : siz y.natAbs ≤ 1024) (h1 : Nat.gcd x.natAbs y.natAbs = 1) (B : Nat) (oX : OW B w X) (oY : OW B w Y) (hA : Apt X Y) (hB : B ≤ w.heap.size) :
    Calls Tryz.prog 123 #[.agg #[.bool X.b, .slice X.p X.n X.c], .agg #[.bool Y.b, .slice Y.p Y.n Y.c]] w (fun e w' => ∃ Z : Fr, e = .returned (.agg #[.bool Z.N.b, .slice Z.N.p Z.N.n Z.N.c, .bool Z.D.b, .slice Z.D.p Z.D.n Z.D.c]) ∧ FR w' Z (Rat.divInt x y) ∧ OF B w' Z ∧ Ext w w') := by
 have H1 := Lib.hid h1
 clear h1
 have Hy := Lib.hid hy0
 clear hy0
 obtain ⟨w1, hww1, ew1, B1, zw1⟩ := alloc_at w (w.heap.size) (by omega) #[.bool X.b, .slice X.p X.n X.c] 38
 obtain ⟨w2, hww2, ew2, B2, zw2⟩ := alloc_at w1 (w.heap.size + 1) (by omega) #[.bool Y.b, .slice Y.p Y.n Y.c] 38
 obtain ⟨w3, hww3, ew3, B3, zw3⟩ := alloc_at w2 (w.heap.size + 1 + 1) (by omega) #[.bool false, .slice none 0 0, .bool false, .slice none 0 0] 40
 have xw1_w3 := eg ew2 ew3
 replace B1 := B1.ext xw1_w3
 have b1_w3 := B1.c2
 replace B2 := B2.ext ew3
 have b2_w3 := B2.c2
 have xw_w3 := eg (eg ew1 ew2) ew3
 replace hX := hX.ext xw_w3
 replace hY := hY.ext xw_w3
 go_enter Tryz.func123, Tryz.ntmps123
 go_wp2_with fail
 clear hww1 hww2 hww3
 replace zw1 := le2 zw1
 replace zw2 := le2 zw2
 replace zw3 := le2 zw3
 refine (rCommon X Y _ _ _ ((hX).u16.2) ((hY).u16.2) (x.natAbs) (y.natAbs) (rfl) (rfl) (WR.n20 (hX) b) (WR.n20 (hY) b')).mono (Gv.onC0 fun Z14 w4 hZ14 ew4 zw4 => ?_)
 have xw_w4 := eg xw_w3 ew4
 go_wp2_with fail
 clear b1_w3 b2_w3
 refine (rone (b := true) Z14 _ _ (hZ14) (by simp [H1.out])).mono (Gv.onV fun w5 ew5 zw5 => ?_)
 have xw3_w5 := eg ew4 ew5
 replace B1 := B1.ext xw3_w5
 have b1_w5 := B1.c2
 replace B2 := B2.ext xw3_w5
 have b2_w5 := B2.c2
 replace hX := hX.ext xw3_w5
 replace hY := hY.ext xw3_w5
 have xw_w5 := eg xw_w4 ew5
 go_wp2_with fail
 refine regionT 12 (fun kk => match kk with | 7 => some (.v (.agg #[.bool (decide ((Rat.divInt x y).num < 0)), .slice X.p X.n X.c])) | 10 => some (.v (.agg #[.bool false, .slice Y.p Y.n Y.c])) | _ => none) (by as_aux_lemma => kernel_rfl) (head_of (by as_aux_lemma => kernel_rfl)) ?_
 iterate 7
  refine Walk.one (x := ?_) rfl rfl (fun w1 hI hL K hK => ?_) ?_
  rotate_left
  ·obtain ⟨hc, hf⟩ := bcell hI
   go_simp
   repeat (first | (go_ints; try go_simp) | (simp only [↓IntWalk.iteOmega]; try go_simp))
   exact hK
  simp only [Pq1]
 refine Walk.tell rfl rfl (fun w1 hI hL K hK => ?_) ?_
 ·go_simp
  exact (rMake (s := decide ((Rat.divInt x y).num < 0)) ((X.b != Y.b)) X w1 (((hX).ext hI).u16.2.reach) (low_sign Hy.out ((hX).ext hI) ((hY).ext hI) (div_one_limbs H1.out ((hX).ext hI)))).mono (tell hK)
 rintro _ rfl
 simp only [Pq1]
 iterate 2
  refine Walk.one (x := ?_) rfl rfl (fun w1 hI hL K hK => ?_) ?_
  rotate_left
  ·obtain ⟨hc, hf⟩ := bcell hI
   go_simp
   repeat (first | (go_ints; try go_simp) | (simp only [↓IntWalk.iteOmega]; try go_simp))
   exact hK
  simp only [Pq1]
 refine Walk.tell rfl rfl (fun w1 hI hL K hK => ?_) ?_
 ·go_simp
  exact (rMake (s := false) (false) Y w1 (((hY).ext hI).u16.2.reach) (by simp)).mono (tell hK)
 rintro _ rfl
 simp only [Pq1]
 refine Walk.one (x := ?_) rfl rfl (fun w1 hI hL K hK => ?_) ?_
 rotate_left
 ·obtain ⟨hc, hf⟩ := bcell hI
  go_simp
  repeat (first | (go_ints; try go_simp) | (simp only [↓IntWalk.iteOmega]; try go_simp))
  exact hK
 simp only [Pq1]
 refine Walk.nilF fun w6 ew6 kzL kzX => ?_
 have zw6 := ew6.size
 clear kzL kzX
 simp only [List.drop_succ_cons, List.drop_zero, List.drop_nil]
 have xw3_w6 := eg xw3_w5 ew6
 replace B3 := B3.ext xw3_w6
 have b3_w6 := B3.c4
 have fb3_w6 := B3.f4
 replace hX := hX.ext ew6
 replace hY := hY.ext ew6
 have xw_w6 := eg xw_w5 ew6
 obtain ⟨w7, hww7, kw7, Nw7, zw7⟩ := B3.put4 (.bool (decide ((Rat.divInt x y).num < 0))) (.slice X.p X.n X.c) (.bool false) (.slice Y.p Y.n Y.c)
 have nuw7 : NoU #[.bool false, .slice none 0 0, .bool false, .slice none 0 0] := by simp [NoU]
 replace hX := WR.kb hX B3 nuw7 kw7
 replace hY := WR.kb hY B3 nuw7 kw7
 have xw_w7 := Ext.kb xw_w6 kw7 (by omega)
 replace B3 := Nw7
 clear Nw7 kw7
 have b3_w7 := B3.c4
 go_wp2_with fail
 clear hww7
 clear b1_w5 b2_w5 b3_w6 fb3_w6
 replace zw7 := le2 zw7
 refine bodyPost_ret (v := .agg #[.bool (decide ((Rat.divInt x y).num < 0)), .slice X.p X.n X.c, .bool false, .slice Y.p Y.n Y.c]) (by simp [results, Tryz.results123, go_sem, b3_w7]) rfl ?_
 exact ⟨⟨⟨decide ((Rat.divInt x y).num < 0), X.p, X.n, X.c⟩, ⟨false, Y.p, Y.n, Y.c⟩⟩, rfl, low_R Hy.out (div_one_limbs H1.out hX) (div_one_limbs' H1.out hY), ⟨oX.ext xw_w7, oY.ext xw_w7, hA⟩, xw_w7⟩

set_option maxRecDepth 100000 in
theorem rLow2o (X : Wh) (Y : Wh) (x : Int) (y : Int) (w : World) (hX : WR w X x) (hY : WR w Y y) (hy0 : y ≠ 0) (b : siz x.natAbs ≤ 1024) (b' : siz y.natAbs ≤ 1024) (h1 : Nat.gcd x.natAbs y.natAbs ≠ 1) :
    Calls Tryz.prog 123 #[.agg #[.bool X.b, .slice X.p X.n X.c], .agg #[.bool Y.b, .slice Y.p Y.n Y.c]] w (Gv (.f (Rat.divInt x y)) w) := by
 have H1 := Lib.hid h1
 clear h1
 have Hy := Lib.hid hy0
 clear hy0
 obtain ⟨w1, hww1, ew1, B1, zw1⟩ := alloc_at w (w.heap.size) (by omega) #[.bool X.b, .slice X.p X.n X.c] 38
 obtain ⟨w2, hww2, ew2, B2, zw2⟩ := alloc_at w1 (w.heap.size + 1) (by omega) #[.bool Y.b, .slice Y.p Y.n Y.c] 38
 obtain ⟨w3, hww3, ew3, B3, zw3⟩ := alloc_at w2 (w.heap.size + 1 + 1) (by omega) #[.bool false, .slice none 0 0, .bool false, .slice none 0 0] 40
 have xw1_w3 := eg ew2 ew3
 replace B1 := B1.ext xw1_w3
 have b1_w3 := B1.c2
 replace B2 := B2.ext ew3
 have b2_w3 := B2.c2
 have xw_w3 := eg (eg ew1 ew2) ew3
 replace hX := hX.ext xw_w3
 replace hY := hY.ext xw_w3
 go_enter Tryz.func123, Tryz.ntmps123
 go_wp2_with fail
 clear hww1 hww2 hww3
 replace zw1 := le2 zw1
 replace zw2 := le2 zw2
 replace zw3 := le2 zw3
 refine (rCommon X Y _ _ _ ((hX).u16.2) ((hY).u16.2) (x.natAbs) (y.natAbs) (rfl) (rfl) (WR.n20 (hX) b) (WR.n20 (hY) b')).mono (Gv.onC0 fun Z14 w4 hZ14 ew4 zw4 => ?_)
 have xw_w4 := eg xw_w3 ew4
 go_wp2_with fail
 clear b1_w3 b2_w3
 refine (rone (b := false) Z14 _ _ (hZ14) (by simp [H1.out])).mono (Gv.onV fun w5 ew5 zw5 => ?_)
 have xw3_w5 := eg ew4 ew5
 replace B1 := B1.ext xw3_w5
 have b1_w5 := B1.c2
 replace hX := hX.ext xw3_w5
 replace hZ14 := hZ14.ext ew5
 have xw_w5 := eg xw_w4 ew5
 go_wp2_with fail
 refine (rDivided X Z14 _ _ _ ((hX).u16.2) (hZ14) (x.natAbs) (Nat.gcd x.natAbs y.natAbs) (rfl) (rfl) (gcd_ne _ _ Hy.out) (WR.n20 (hX) b) (gcd_n Hy.out (hZ14) b')).mono ?_
 intro ee w6 gg
 obtain ⟨Z33, Z33r, rfl, hZ33, -, oZ33, -, ew6⟩ := gg
 have zw6 := ew6.size
 have xw3_w6 := eg xw3_w5 ew6
 replace B2 := B2.ext xw3_w6
 have b2_w6 := B2.c2
 replace hY := hY.ext xw3_w6
 replace hZ14 := hZ14.ext ew6
 have xw_w6 := eg xw_w5 ew6
 replace oZ33 := oZ33.mono xw_w5.size
 go_wp2_with fail
 clear b1_w5
 have pZ33 := oZ33
 refine (rDivided Y Z14 _ _ _ ((hY).u16.2) (hZ14) (y.natAbs) (Nat.gcd x.natAbs y.natAbs) (rfl) (rfl) (gcd_ne _ _ Hy.out) (WR.n20 (hY) b') (gcd_n Hy.out (hZ14) b')).mono ?_
 intro ee w7 gg
 obtain ⟨Z40, Z40r, rfl, hZ40, -, oZ40, -, ew7⟩ := gg
 have aZ33_Z40 : Apt Z33 Z40 := Apt.seq pZ33 oZ40
 have gg := True.intro
 obtain - := gg
 have zw7 := ew7.size
 have xw5_w7 := eg ew6 ew7
 replace B1 := B1.ext xw5_w7
 have b1_w7 := B1.c2
 replace B2 := B2.ext ew7
 have b2_w7 := B2.c2
 replace hZ33 := hZ33.ext ew7
 replace hX := hX.ext xw5_w7
 replace hY := hY.ext ew7
 have xw_w7 := eg xw_w6 ew7
 replace oZ40 := oZ40.mono xw_w6.size
 go_wp2_with fail
 clear b2_w6
 refine (rMake (s := decide ((Rat.divInt x y).num < 0)) ((X.b != Y.b)) Z33 _ (U16.reach (hZ33)) (low_sign Hy.out (hX) (hY) (hZ33))).mono (Gv.onV fun w8 ew8 zw8 => ?_)
 replace hZ40 := hZ40.ext ew8
 have xw_w8 := eg xw_w7 ew8
 go_wp2_with fail
 clear b1_w7 b2_w7
 refine (rMake (s := false) (false) Z40 _ (U16.reach (hZ40)) (by simp)).mono (Gv.onV fun w9 ew9 zw9 => ?_)
 have xw3_w9 := eg (eg (eg xw3_w6 ew7) ew8) ew9
 replace B3 := B3.ext xw3_w9
 have b3_w9 := B3.c4
 have fb3_w9 := B3.f4
 have xw7_w9 := eg ew8 ew9
 replace hZ33 := hZ33.ext xw7_w9
 have xw6_w9 := eg (eg ew7 ew8) ew9
 replace oZ33 := oZ33.ext xw6_w9
 replace hZ40 := hZ40.ext ew9
 replace oZ40 := oZ40.ext xw7_w9
 have xw_w9 := eg xw_w8 ew9
 obtain ⟨w10, hww10, kw10, Nw10, zw10⟩ := B3.put4 (.bool (decide ((Rat.divInt x y).num < 0))) (.slice Z33.p Z33.n Z33.c) (.bool false) (.slice Z40.p Z40.n Z40.c)
 have nuw10 : NoU #[.bool false, .slice none 0 0, .bool false, .slice none 0 0] := by simp [NoU]
 replace hZ33 := UW.kb hZ33 B3 nuw10 kw10
 replace oZ33 := OW.kb oZ33 B3 (by decide) kw10
 replace hZ40 := UW.kb hZ40 B3 nuw10 kw10
 replace oZ40 := OW.kb oZ40 B3 (by decide) kw10
 have xw_w10 := Ext.kb xw_w9 kw10 (by omega)
 replace B3 := Nw10
 clear Nw10 kw10
 have b3_w10 := B3.c4
 go_wp2_with fail
 clear hww10
 clear b3_w9 fb3_w9
 replace zw10 := le2 zw10
 refine bodyPost_ret (v := .agg #[.bool (decide ((Rat.divInt x y).num < 0)), .slice Z33.p Z33.n Z33.c, .bool false, .slice Z40.p Z40.n Z40.c]) (by simp [results, Tryz.results123, go_sem, b3_w10]) rfl ?_
 exact Gv.of_f (X := ⟨⟨decide ((Rat.divInt x y).num < 0), Z33.p, Z33.n, Z33.c⟩, ⟨false, Z40.p, Z40.n, Z40.c⟩⟩) (low_R Hy.out hZ33 hZ40) ⟨oZ33, oZ40, aZ33_Z40⟩ xw_w10

theorem rLowestO (X Y : Wh) (x y : Int) (w : World) (hX : WR w X x) (hY : WR w Y y) (hy0 : y ≠ 0) (b : siz x.natAbs ≤ 1024) (b' : siz y.natAbs ≤ 1024) (B : Nat) (oX : OW B w X) (oY : OW B w Y) (hA : Apt X Y) (hB : B ≤ w.heap.size) : Calls Tryz.prog 123 #[.agg #[.bool X.b, .slice X.p X.n X.c], .agg #[.bool Y.b, .slice Y.p Y.n Y.c]] w (fun e w' => ∃ Z : Fr, e = .returned (.agg #[.bool Z.N.b, .slice Z.N.p Z.N.n Z.N.c, .bool Z.D.b, .slice Z.D.p Z.D.n Z.D.c]) ∧ FR w' Z (Rat.divInt x y) ∧ OF B w' Z ∧ Ext w w') := by
 by_cases h1 : Nat.gcd x.natAbs y.natAbs = 1
 ·exact rLow1o X Y x y w hX hY hy0 b b' h1 B oX oY hA hB
 ·refine (rLow2o X Y x y w hX hY hy0 b b' h1).mono fun e w' h => ?_
  obtain ⟨Z, h1, h2, h3, h4⟩ := Gv.f h
  exact ⟨Z, h1, h2, h3.mono hB, h4⟩

set_option maxRecDepth 100000 in
theorem rQuickO (x : Int) (y : Int) (w : World) (hy0 : y ≠ 0) (bx : -9223372036854775808 ≤ x ∧ x ≤ 9223372036854775807) (by_ : -9223372036854775808 ≤ y ∧ y ≤ 9223372036854775807) :
    Calls Tryz.prog 68 #[.int .i64 x, .int .i64 y] w (Gv (.f (Rat.divInt x y)) w) := by
 have Hy := Lib.hid hy0
 clear hy0
 obtain ⟨w1, hww1, ew1, B1, zw1⟩ := alloc_at w (w.heap.size) (by omega) #[.bool false, .slice none 0 0, .bool false, .slice none 0 0] 40
 go_enter Tryz.func68, Tryz.ntmps68
 go_wp2_with fail
 clear hww1
 replace zw1 := le2 zw1
 refine (rFromInt (x) _ (bx.1) (bx.2)).mono (Gv.onWo fun Z6 w2 hZ6 oZ6 ew2 zw2 => ?_)
 have xw_w2 := eg ew1 ew2
 replace oZ6 := oZ6.mono ew1.size
 go_wp2_with fail
 refine (rFromInt (y) _ (by_.1) (by_.2)).mono (Gv.onWo fun Z8 w3 hZ8 oZ8 ew3 zw3 => ?_)
 have aZ6_Z8 : Apt Z6 Z8 := Apt.seq oZ6 oZ8
 replace hZ6 := hZ6.ext ew3
 replace oZ6 := oZ6.ext ew3
 have xw_w3 := eg xw_w2 ew3
 replace oZ8 := oZ8.mono xw_w2.size
 go_wp2_with fail
 refine (rLowestO Z6 Z8 _ _ _ (hZ6) (hZ8) Hy.out (siz64 bx.1 bx.2) (siz64 by_.1 by_.2) w.heap.size (oZ6) (oZ8) aZ6_Z8 (xw_w3).size).mono ?_
 intro ee w4 gg
 obtain ⟨Z9, rfl, hZ9, oZ9, ew4⟩ := gg
 have zw4 := ew4.size
 have xw1_w4 := eg (eg ew2 ew3) ew4
 replace B1 := B1.ext xw1_w4
 have b1_w4 := B1.c4
 have fb1_w4 := B1.f4
 have xw_w4 := eg xw_w3 ew4
 obtain ⟨w5, hww5, kw5, Nw5, zw5⟩ := B1.put4 (.bool Z9.N.b) (.slice Z9.N.p Z9.N.n Z9.N.c) (.bool Z9.D.b) (.slice Z9.D.p Z9.D.n Z9.D.c)
 have nuw5 : NoU #[.bool false, .slice none 0 0, .bool false, .slice none 0 0] := by simp [NoU]
 replace hZ9 := FR.kb hZ9 B1 nuw5 kw5
 replace oZ9 := OF.kb oZ9 B1 (by decide) kw5
 have xw_w5 := Ext.kb xw_w4 kw5 (by omega)
 replace B1 := Nw5
 clear Nw5 kw5
 have b1_w5 := B1.c4
 go_wp2_with fail
 clear hww5
 clear b1_w4 fb1_w4
 replace zw5 := le2 zw5
 refine bodyPost_ret (v := .agg #[.bool Z9.N.b, .slice Z9.N.p Z9.N.n Z9.N.c, .bool Z9.D.b, .slice Z9.D.p Z9.D.n Z9.D.c]) (by simp [results, Tryz.results68, go_sem, b1_w5]) rfl ?_
 exact Gv.of_f (X := Z9) (hZ9) (oZ9) xw_w5

set_option maxRecDepth 100000 in
theorem nquickO (x : Int) (y : Int) (w : World) (hy0 : y ≠ 0) (bx : (-9223372036854775808 ≤ x ∧ x ≤ 9223372036854775807)) (by_ : (-9223372036854775808 ≤ y ∧ y ≤ 9223372036854775807)) :
    Calls Tryz.prog 26 #[.int .i64 x, .int .i64 y] w (Gv (.f (Rat.divInt x y)) w) := by
 have Hy := Lib.hid hy0
 clear hy0
 obtain ⟨w1, hww1, ew1, B1, zw1⟩ := alloc_at w (w.heap.size) (by omega) #[.bool false, .slice none 0 0, .bool false, .slice none 0 0] 40
 go_enter Tryz.func26, Tryz.ntmps26
 go_wp2_with fail
 clear hww1
 replace zw1 := le2 zw1
 refine (rQuickO (x) (y) _ (Hy.out) (bx) (by_)).mono (Gv.onFo fun Z7 w2 hZ7 oZ7 ew2 zw2 => ?_)
 replace B1 := B1.ext ew2
 have b1_w2 := B1.c4
 have fb1_w2 := B1.f4
 have xw_w2 := eg ew1 ew2
 replace oZ7 := oZ7.mono ew1.size
 obtain ⟨w3, hww3, kw3, Nw3, zw3⟩ := B1.put4 (.bool Z7.N.b) (.slice Z7.N.p Z7.N.n Z7.N.c) (.bool Z7.D.b) (.slice Z7.D.p Z7.D.n Z7.D.c)
 have nuw3 : NoU #[.bool false, .slice none 0 0, .bool false, .slice none 0 0] := by simp [NoU]
 replace hZ7 := FR.kb hZ7 B1 nuw3 kw3
 replace oZ7 := OF.kb oZ7 B1 (by decide) kw3
 have xw_w3 := Ext.kb xw_w2 kw3 (by omega)
 replace B1 := Nw3
 clear Nw3 kw3
 have b1_w3 := B1.c4
 go_wp2_with fail
 clear hww3
 clear b1_w2 fb1_w2
 replace zw3 := le2 zw3
 refine bodyPost_ret (v := .agg #[.bool Z7.N.b, .slice Z7.N.p Z7.N.n Z7.N.c, .bool Z7.D.b, .slice Z7.D.p Z7.D.n Z7.D.c]) (by simp [results, Tryz.results26, go_sem, b1_w3]) rfl ?_
 exact Gv.of_f (X := Z7) (hZ7) (oZ7) xw_w3
end Go.Proofs.YtndgaecfeaedeaaGreat
namespace Go.Proofs.YtndgaecfeaedeaaGreat
open Go.RowKit Lex Mth

def Tl.tab : Tl where
 S v := ∃ (f s : Int) (p : Option Addr) (n c : Nat), v = .agg #[.int .i64 f, .int .i64 s, .slice p n c]
 Bs _ := []
 A _ v w := ∃ (T : Tb) (R : Nat → Nat → Rat), T.val = v ∧ TQ w T R
 wit := ⟨_, 0, 0, none, 0, 0, rfl⟩
 ext h e := let ⟨T, R, h1, h2⟩ := h; ⟨T, R, h1, h2.ext e⟩
 mono h _ := h
 bl := by rintro B _ w _ h b hb; cases hb
theorem nOne_v {v : Value} {w : World} (h : ∃ (T : Tb) (R : Nat → Nat → Rat), T.val = v ∧ TQ w T R) (e y n : Int) (ey : -9223372036854775808 ≤ e ∧ e ≤ 9223372036854775807 ∧ -9223372036854775808 ≤ y ∧ y ≤ 9223372036854775807) (hn : -9223372036854775808 ≤ n ∧ n ≤ 9223372036854775807) : Calls Tryz.prog 13 #[v, .agg #[.int .i64 e, .int .i64 y], .int .i64 n] w (Gv (.v (.bool true)) w) := by
 obtain ⟨T, R, rfl, hT⟩ := h
 exact nOne T R e y n w hT.tw (fun _ => hT) ey hn
theorem nTwo_v {v : Value} {w : World} (h : ∃ (T : Tb) (R : Nat → Nat → Rat), T.val = v ∧ TQ w T R) (e y e2 y2 n : Int) (ey : -9223372036854775808 ≤ e ∧ e ≤ 9223372036854775807 ∧ -9223372036854775808 ≤ y ∧ y ≤ 9223372036854775807) (ey2 : -9223372036854775808 ≤ e2 ∧ e2 ≤ 9223372036854775807 ∧ -9223372036854775808 ≤ y2 ∧ y2 ≤ 9223372036854775807) (hn : -9223372036854775808 ≤ n ∧ n ≤ 9223372036854775807) : Calls Tryz.prog 14 #[v, .agg #[.int .i64 e, .int .i64 y], .agg #[.int .i64 e2, .int .i64 y2], .int .i64 n] w (Gv (.v (.bool true)) w) := by
 obtain ⟨T, R, rfl, hT⟩ := h
 exact nTwo T R e y e2 y2 n w hT.tw (fun _ => hT) ey ey2 hn
theorem Tl.getTab {B : Nat} {w : World} {v : Value} (h : Tl.tab.A B v w) : ∃ (T : Tb) (R : Nat → Nat → Rat), T.val = v ∧ TQ w T R := h
theorem nsmall_t (w : World) : Calls Tryz.prog 25 #[] w (Gv .tab w) := by
 refine (nsmall w).mono fun e w' h => ?_
 obtain ⟨T, R, he, hq, _, hx⟩ := h
 exact ⟨_, he, ⟨_, _, _, _, _, rfl⟩, ⟨T, R, rfl, hq⟩, hx⟩
/-- The ten whole numbers. -/
def zs (j : Nat) : Int := match j with | 0 => -9223372036854775808 | 1 => -1 | 2 => 0 | 3 => 1 | 4 => 2 | 5 => 3 | 6 => 4 | 7 => 5 | 8 => 300 | _ => 9223372036854775807
theorem zs_i64 (j : Nat) : -9223372036854775808 ≤ zs j ∧ zs j ≤ 9223372036854775807 := by
 unfold zs; split <;> omega
theorem zs_cell {w : World} {b : Nat} {t : TypeId} (h : Cells w b t #[.int .i64 (-9223372036854775808), .int .i64 (-1), .int .i64 0, .int .i64 1, .int .i64 2, .int .i64 3, .int .i64 4, .int .i64 5, .int .i64 300, .int .i64 9223372036854775807]) {j : Nat} (hj : j < 10) : w.cell? ⟨b, j, none⟩ = some (.int .i64 (zs j)) := by
 refine h.cell ?_
 match j, hj with
 | 0, _ | 1, _ | 2, _ | 3, _ | 4, _ | 5, _ | 6, _ | 7, _ | 8, _ | 9, _ => rfl
end Go.Proofs.YtndgaecfeaedeaaGreat
namespace Go.Proofs.YtndgaecfeaedeaaGreat
open Go.RowKit Lex Mth

theorem OQ.of_rows {B : Nat} {w : World} {T : Tb} {R : Nat → Nat → Rat} {p : Option Addr} {c : Nat} {vs : List Value} (hN : 1 ≤ T.N) (hrn : ∀ k, k < T.N → 1 ≤ T.rn k) (hq : ∀ k, k < T.N → ∀ j, j < T.rn k → T.ln k j = limbs (R k j).num.natAbs ∧ T.ld k j = limbs (R k j).den ∧ (T.el k j).N.b = decide ((R k j).num < 0) ∧ (T.el k j).D.b = decide (((R k j).den : Int) < 0)) (hl : vs.length = T.N) (hC : CpT B w T vs) (hO : w.ownsRow B 47 1 (.slice p T.N c) T.N vs) : ∃ g rb rc, p = some ⟨g, 0, none⟩ ∧ T.N ≤ c ∧ OQ B w T g rb rc R := by
 have hO2 := hO
 rcases hO.2 with ⟨_, h0⟩ | ⟨g, cap, cur, hv, hB, hg, hle, _, _, hcur⟩
 ·omega
 ·simp only [Value.slice.injEq, true_and] at hv
  obtain ⟨rfl, rfl⟩ := hv
  have hrow : ∀ k, k < T.N → ∃ b cb fs, vs[k]? = some (.slice (some ⟨b, 0, none⟩) (T.rn k) cb) ∧ T.rn k ≤ cb ∧ fs.length = T.rn k ∧ CpF B w (T.el k) (T.ln k) (T.ld k) fs ∧ w.ownsRow B 40 4 (.slice (some ⟨b, 0, none⟩) (T.rn k) cb) (T.rn k) (frC fs) := fun k hk => by
   have hk' : k < vs.length := by omega
   obtain ⟨fs, q1, q2, q3⟩ := hC.row k vs[k] (by simp [hk'])
   have hr1 := hrn k hk
   rcases q3.2 with ⟨_, h0⟩ | ⟨b, cb, curb, hvb, _, _, hleb, _⟩
   ·omega
   ·exact ⟨b, cb, fs, by rw [← hvb]; simp [hk'], hleb, q1, q2, hvb ▸ q3⟩
  let rb : Nat → Nat := fun k => if h : k < T.N then Classical.choose (hrow k h) else 0
  let rc : Nat → Nat := fun k => if h : k < T.N then Classical.choose (Classical.choose_spec (hrow k h)) else 0
  let F : Nat → List Fr := fun k => if h : k < T.N then Classical.choose (Classical.choose_spec (Classical.choose_spec (hrow k h))) else []
  have hs : ∀ k, k < T.N → vs[k]? = some (.slice (some ⟨rb k, 0, none⟩) (T.rn k) (rc k)) ∧ T.rn k ≤ rc k ∧ (F k).length = T.rn k ∧ CpF B w (T.el k) (T.ln k) (T.ld k) (F k) ∧ w.ownsRow B 40 4 (.slice (some ⟨rb k, 0, none⟩) (T.rn k) (rc k)) (T.rn k) (frC (F k)) := fun k hk => by
   have := Classical.choose_spec (Classical.choose_spec (Classical.choose_spec (hrow k hk)))
   simp only [rb, rc, F, dif_pos hk]
   exact this
  let E : Nat → Nat → Fr := fun k j => (F k).getD j ⟨zeroWh, zeroWh⟩
  have hE : ∀ k, k < T.N → ∀ j, j < T.rn k → (F k)[j]? = some (E k j) := fun k hk j hj => by
   have h1 := (hs k hk).2.2.1
   have : j < (F k).length := by omega
   simp only [E, List.getD_eq_getElem?_getD, List.getElem?_eq_getElem this, Option.getD_some]
  refine ⟨g, rb, rc, rfl, hle, E, ⟨hB, ⟨cur, hg⟩, fun k hk => ?_, fun k hk => (hs k hk).2.1, fun k hk => ?_, fun k hk => ?_, fun k l hk hl hne => ?_⟩, fun k hk j hj => ?_⟩
  ·have := hO2.cells (g := g) rfl k _ (hs k hk).1
   simpa [Addr.add] using (by by_cases h0 : k = 0 <;> simpa [Addr.add, h0] using this : w.cell? ⟨g, k, none⟩ = _)
  ·exact ((hs k hk).2.2.2.2.lt _ rfl).1
  ·obtain ⟨_, _, hlen, _, ho⟩ := hs k hk
   rcases ho.2 with ⟨h1, _⟩ | ⟨b, cb, curb, hvb, _, hgb, hleb, _, hsz, hpre⟩
   ·cases h1
   ·simp only [Value.slice.injEq, Option.some.injEq, Addr.mk.injEq, true_and, and_true] at hvb
    obtain ⟨e1, e2⟩ := hvb
    refine ⟨curb, by rw [e1]; exact hgb, by rw [hsz]; exact Nat.mul_le_mul_right 4 hleb, fun j hj i hi => ?_⟩
    have h2 := frC_get (F k) j (E k j) (hE k hk j hj) i hi
    rw [← h2]
    rw [← hpre, List.getElem?_take, if_pos (by omega)]
    simp
  ·intro e
   rcases Nat.lt_or_gt_of_ne hne with h | h
   ·have h9 : rb k < rb l := hC.ord k l _ _ _ _ h (hs k hk).1 (hs l hl).1 rfl rfl
    omega
   ·have h9 : rb l < rb k := hC.ord l k _ _ _ _ h (hs l hl).1 (hs k hk).1 rfl rfl
    omega
  ·obtain ⟨u1, u2, u3, u4⟩ := (hs k hk).2.2.2.1 j _ (hE k hk j hj)
   obtain ⟨l1, l2, l3, l4⟩ := hq k hk j hj
   rw [l1, l2] at u1
   exact ⟨⟨WR.mk (u2.trans l3) u1.1, WR.mk (u3.trans l4) (by rw [Int.natAbs_natCast]; exact u1.2)⟩, u4⟩
/-- Rows of one rate, which is 1. -/
def T1 (n : Nat) : Tb := ⟨0, 0, none, n, n, fun _ => none, fun _ => 1, fun _ => 1, fun _ _ => ⟨⟨false, none, 1, 1⟩, ⟨false, none, 1, 1⟩⟩, fun _ _ => [1], fun _ _ => [1]⟩
theorem T1_rows {B : Nat} {w : World} {n : Nat} {p : Option Addr} {c : Nat} {vs : List Value} (hN : 1 ≤ n) (hl : vs.length = n) (hC : CpT B w (T1 n) vs) (hO : w.ownsRow B 47 1 (.slice p n c) n vs) : ∃ g rb rc, p = some ⟨g, 0, none⟩ ∧ n ≤ c ∧ OQ B w (T1 n) g rb rc (fun _ _ => 1) :=
 OQ.of_rows (T := T1 n) hN (fun _ _ => Nat.le_refl _) (fun _ _ _ _ => ⟨by show [1] = _; decide +kernel, by show [1] = _; decide +kernel, by show false = _; decide +kernel, by show false = _; decide +kernel⟩) hl hC hO
/-- .. the first m of them. -/
theorem T1_tab {B : Nat} {w : World} {n m g c : Nat} {rb rc : Nat → Nat} (h : OQ B w (T1 n) g rb rc (fun _ _ => 1)) (hm : m ≤ n) (hc : m ≤ c) (hn : n ≤ 1000) : ∃ T' : Tb, T'.val = .agg #[.int .i64 0, .int .i64 0, .slice (some ⟨g, 0, none⟩) m c] ∧ TW w T' ∧ T'.N = m ∧ ((1 ≤ m ∧ m ≤ 111) → okT T' = true) := by
 obtain ⟨E, hE, hF⟩ := h
 let T' : Tb := ⟨0, 0, some ⟨g, 0, none⟩, m, c, fun k => some ⟨rb k, 0, none⟩, fun _ => 1, rc, E, fun _ _ => limbs ((1 : Rat).num.natAbs), fun _ _ => limbs ((1 : Rat).den)⟩
 refine ⟨T', rfl, ⟨(by decide : (-9223372036854775808 : Int) ≤ 0), (by decide : (0 : Int) ≤ 9223372036854775807), (by decide : (-9223372036854775808 : Int) ≤ 0), (by decide : (0 : Int) ≤ 9223372036854775807), Has.some _ _, hc, by show m ≤ _; omega, fun k hk => by show w.cell? (at_ (some ⟨g, 0, none⟩) k) = _; rw [at_zero]; exact hE.sl k (Nat.lt_of_lt_of_le hk hm),
  fun k hk => ⟨Has.some _ _, hE.le k (Nat.lt_of_lt_of_le hk hm), (by decide : (1 : Nat) ≤ 70368744177664), fun j hj => by
   obtain ⟨c0, c1, c2, c3⟩ := hE.cells (j := j) (Nat.lt_of_lt_of_le hk hm) hj
   exact ⟨by show w.cell? (at_ (some ⟨rb k, 0, none⟩) _) = _; rw [at_zero]; exact c0, by show w.cell? (at_ (some ⟨rb k, 0, none⟩) _) = _; rw [at_zero]; exact c1, by show w.cell? (at_ (some ⟨rb k, 0, none⟩) _) = _; rw [at_zero]; exact c2, by show w.cell? (at_ (some ⟨rb k, 0, none⟩) _) = _; rw [at_zero]; exact c3⟩⟩,
  fun k hk j hj => ⟨(hF k (Nat.lt_of_lt_of_le hk hm) j hj).1.1.u16.2, (hF k (Nat.lt_of_lt_of_le hk hm) j hj).1.2.u16.2⟩⟩, rfl, fun ⟨h1, h2⟩ => okT_iff.2 ⟨⟨(by decide : (0 : Int) ≤ 0), (by decide : (0 : Int) ≤ 150), (by decide : (0 : Int) ≤ 0), (by decide : (0 : Int) ≤ 5), h1, h2⟩, fun k hk => ⟨rfl, fun j hj => okR_of (hF k (Nat.lt_of_lt_of_le hk hm) j hj).1 sz_one (by decide +kernel) (by decide +kernel) (by decide +kernel)⟩, ?_⟩⟩
 rfl
theorem okT_big {T : Tb} (h : 111 < T.N) : okT T = false := by
 cases e : okT T
 ·rfl
 ·have := (okT_iff.1 e).1
  unfold boundsOk at this
  omega
/-- A list of one fraction that is 1, in memory of its own, is such a row. -/
theorem T1_row {B m : Nat} {w : World} {b : Nat} {X : Fr} {n k : Nat} (hC : Cells w b 40 #[.bool X.N.b, .slice X.N.p X.N.n X.N.c, .bool X.D.b, .slice X.D.p X.D.n X.D.c]) (hX : FR w X 1) (oX : OF B w X) (hb : B ≤ b) (hm : m ≤ b) : RowF (T1 n) k B m w (.slice (some ⟨b, 0, none⟩) 1 1) :=
 ⟨⟨[X], rfl, fun j Y hj => by
     match j, hj with
     | 0, hj =>
      obtain rfl : X = Y := by simpa using hj
      exact ⟨⟨by have := hX.1.u16.2; rwa [show limbs (Int.natAbs (Rat.num 1)) = [1] by decide +kernel] at this, by have := hX.2.u16.2; rwa [show limbs (Int.natAbs ((Rat.den 1 : Nat) : Int)) = [1] by decide +kernel] at this⟩, hX.1.neg.trans (by show _ = false; decide +kernel), hX.2.neg.trans (by show _ = false; decide +kernel), oX⟩, rfl, .inr ⟨b, 1, _, rfl, hb, hC, Nat.le_refl _, by decide, rfl, rfl⟩⟩,
  fun x hx => by simp [Value.ownBlock] at hx; omega⟩
theorem lValid_v {T : Tb} {v : Value} {w : World} (hv : T.val = v) (h : TW w T) : Calls Tryz.prog 10 #[v] w (Gv (.v (.bool (okT T))) w) := by
 subst hv; exact lValid T w h
theorem tValid_v {T : Tb} {v : Value} {w : World} (hv : T.val = v) (h : TW w T) : Calls Tryz.prog 11 #[v] w (Gv (.v (.bool (okT T))) w) := by
 subst hv; exact tValid T w h
theorem nOne_w {T : Tb} {v : Value} {w : World} (hv : T.val = v) (h : TW w T) (e y n : Int) (ey : -9223372036854775808 ≤ e ∧ e ≤ 9223372036854775807 ∧ -9223372036854775808 ≤ y ∧ y ≤ 9223372036854775807) (hn : -9223372036854775808 ≤ n ∧ n ≤ 9223372036854775807) : Calls Tryz.prog 13 #[v, .agg #[.int .i64 e, .int .i64 y], .int .i64 n] w (Gv (.v (.bool true)) w) := by
 subst hv
 obtain ⟨R, hR⟩ := TVR.of h
 exact nOne T R e y n w h hR ey hn
theorem lValid_vb {T : Tb} {b : Bool} {v : Value} {w : World} (hv : T.val = v) (h : TW w T) (hb : okT T = b) : Calls Tryz.prog 10 #[v] w (Gv (.v (.bool b)) w) := hb ▸ lValid_v hv h
theorem nplain_v {T : Tb} {v : Value} (w : World) (hv : T.val = v) : Calls Tryz.prog 12 #[v] w (Gv (.v v) w) := by
 subst hv; exact nplain T w
theorem TW_nil (w : World) (f s : Int) (hf : -9223372036854775808 ≤ f ∧ f ≤ 9223372036854775807) (hs : -9223372036854775808 ≤ s ∧ s ≤ 9223372036854775807) : ∃ T' : Tb, T'.val = .agg #[.int .i64 f, .int .i64 s, .slice none 0 0] ∧ TW w T' :=
 ⟨⟨f, s, none, 0, 0, fun _ => none, fun _ => 0, fun _ => 0, fun _ _ => ⟨zeroWh, zeroWh⟩, fun _ _ => [], fun _ _ => []⟩, rfl, hf.1, hf.2, hs.1, hs.2, (show Has none 0 by unfold Has; exact .inl rfl), Nat.le_refl _, Nat.zero_le _, fun k hk => absurd hk (Nat.not_lt_zero _), fun k hk => absurd hk (Nat.not_lt_zero _), fun k hk => absurd hk (Nat.not_lt_zero _)⟩
section
variable {B : Nat} {w w' : World} {T : Tb} {g : Nat} {rb rc : Nat → Nat} {ln ld : Nat → Nat → List Nat}
theorem OR.mono {B' : Nat} (h : OR B w T g rb rc ln ld) (e : B' ≤ B) : OR B' w T g rb rc ln ld :=
 let ⟨E, h1, h2⟩ := h; ⟨E, h1.mono e, fun k hk l hl => ⟨(h2 k hk l hl).1, (h2 k hk l hl).2.mono e⟩⟩
theorem OR.sl (h : OR B w T g rb rc ln ld) {k : Nat} (hk : k < T.N) : w.cell? ⟨g, k, none⟩ = some (.slice (some ⟨rb k, 0, none⟩) (T.rn k) (rc k)) :=
 let ⟨_, h1, _⟩ := h; h1.sl k hk
theorem OR.le (h : OR B w T g rb rc ln ld) {k : Nat} (hk : k < T.N) : T.rn k ≤ rc k :=
 let ⟨_, h1, _⟩ := h; h1.le k hk
theorem OR.gfree (h : OR B w T g rb rc ln ld) (j : Nat) : w.frozen? ⟨g, j, none⟩ = false := by
 obtain ⟨_, h1, _⟩ := h
 obtain ⟨gc, hg⟩ := h1.gt
 exact Cells.frozen (t := 47) (c := gc) hg j
theorem OR.free (h : OR B w T g rb rc ln ld) {k : Nat} (hk : k < T.N) (j : Nat) : w.frozen? ⟨rb k, j, none⟩ = false :=
 let ⟨_, h1, _⟩ := h; h1.free hk j
theorem OR.cell (h : OR B w T g rb rc ln ld) {k j : Nat} (hk : k < T.N) (hj : j < T.rn k) : ∃ X : Fr, w.cell? ⟨rb k, j * 4, none⟩ = some (.bool X.N.b) ∧ w.cell? ⟨rb k, j * 4 + 1, none⟩ = some (.slice X.N.p X.N.n X.N.c) ∧ w.cell? ⟨rb k, j * 4 + 2, none⟩ = some (.bool X.D.b) ∧ w.cell? ⟨rb k, j * 4 + 3, none⟩ = some (.slice X.D.p X.D.n X.D.c) :=
 let ⟨E, h1, _⟩ := h; ⟨E k j, h1.cells hk hj⟩
theorem OR.rB (h : OR B w T g rb rc ln ld) {k : Nat} (hk : k < T.N) : B ≤ rb k := let ⟨_, h1, _⟩ := h; h1.rB k hk
theorem OR.gB (h : OR B w T g rb rc ln ld) : B ≤ g := let ⟨_, h1, _⟩ := h; h1.gB
/-- A box of another type is kept over a store in a row, .. -/
theorem OR.kr (h : OR B w T g rb rc ln ld) {k : Nat} (hk : k < T.N) (kp : Keeps (fun x => x = rb k) w w') {b : Nat} {t : TypeId} {c : Array Value} (hC : Cells w b t c) (ht : 40 ≠ t) : Cells w' b t c := by
 obtain ⟨E, h1, _⟩ := h
 obtain ⟨cur, c1, _⟩ := h1.row k hk
 refine hC.kb kp fun e => ?_
 have e1 : w.heap[rb k]? = some (.cells cur 40 (0, 0)) := c1
 have e2 : w.heap[b]? = some (.cells c t (0, 0)) := hC
 rw [e, e1] at e2
 simp only [Option.some.injEq, Obj.cells.injEq] at e2
 exact ht e2.2.1
/-- .. and over one in the list of rows. -/
theorem OR.kg (h : OR B w T g rb rc ln ld) (kp : Keeps (fun x => x = g) w w') {b : Nat} {t : TypeId} {c : Array Value} (hC : Cells w b t c) (ht : 47 ≠ t) : Cells w' b t c := by
 obtain ⟨E, h1, _⟩ := h
 obtain ⟨gc, hg⟩ := h1.gt
 refine hC.kb kp fun e => ?_
 have e2 : w.heap[b]? = some (.cells c t (0, 0)) := hC
 rw [e, hg] at e2
 simp only [Option.some.injEq, Obj.cells.injEq] at e2
 exact ht e2.2.1
/-- The table is kept over a store in a box that holds a table. -/
theorem OR.kb (h : OR B w T g rb rc ln ld) {b : Nat} {c : Array Value} (hC : Cells w b 24 c) (nu : NoU c) (k : Keeps (fun x => x = b) w w') : OR B w' T g rb rc ln ld := by
 obtain ⟨E, h1, h2⟩ := h
 have e2 : w.heap[b]? = some (.cells c 24 (0, 0)) := hC
 have ng : g ≠ b := fun e => by
  obtain ⟨gc, hg⟩ := h1.gt
  rw [e, e2] at hg
  simp only [Option.some.injEq, Obj.cells.injEq] at hg
  exact absurd hg.2.1 (by decide)
 have nr : ∀ l, l < T.N → rb l ≠ b := fun l hl e => by
  obtain ⟨cur, c1, _⟩ := h1.row l hl
  have e1 : w.heap[rb l]? = some (.cells cur 40 (0, 0)) := c1
  rw [e, e2] at e1
  simp only [Option.some.injEq, Obj.cells.injEq] at e1
  exact absurd e1.2.1 (by decide)
 exact ⟨E, ⟨h1.gB, let ⟨gc, hg⟩ := h1.gt; ⟨gc, k.heap hg ng⟩, fun l hl => k.cell (h1.sl l hl) ng, h1.le, h1.rB, fun l hl => let ⟨cur, c1, c2, c3⟩ := h1.row l hl; ⟨cur, c1.kb k (nr l hl), c2, c3⟩, h1.inj⟩, fun l hl j hj => ⟨UF.kb (h2 l hl j hj).1 hC nu k, OF.kb (h2 l hl j hj).2 hC (by decide) k⟩⟩
end
theorem UF_zero (w : World) : UF w ⟨zeroWh, zeroWh⟩ (limbs (Int.natAbs 0)) (limbs (Int.natAbs 0)) := ⟨(zeroWh_R w).u16.2, (zeroWh_R w).u16.2⟩
theorem OF_zero (B : Nat) (w : World) : OF B w ⟨zeroWh, zeroWh⟩ := ⟨zeroWh_O B w, zeroWh_O B w, Apt.zero _⟩
def OwR (B : Nat) (w : World) (m : Nat) (V : Value) (vs : List Value) : Prop := w.ownsRow B 47 1 V m vs
theorem OwR.ext {B m : Nat} {w w' : World} {V : Value} {vs : List Value} (h : OwR B w m V vs) (e : Ext w w') : OwR B w' m V vs := ownsRow_ext h e
theorem OwR.lt {B m : Nat} {w : World} {V : Value} {vs : List Value} (h : OwR B w m V vs) (b : Nat) (hb : V.ownBlock = some b) : B ≤ b ∧ b < w.heap.size := World.ownsRow.lt h b hb
/-- A list of its own, being built of rows of one rate that is 1. -/
def O1 (B : Nat) (w : World) (m : Nat) (V : Value) : Prop := ∃ vs, vs.length = m ∧ CpT B w (T1 112) vs ∧ w.ownsRow B 47 1 V m vs
theorem O1.ext {B : Nat} {w w' : World} {m : Nat} {V : Value} (h : O1 B w m V) (e : Ext w w') : O1 B w' m V := let ⟨vs, h1, h2, h3⟩ := h; ⟨vs, h1, h2.ext e, ownsRow_ext h3 e⟩
theorem O1.kb {B : Nat} {w w' : World} {m : Nat} {V : Value} (h : O1 B w m V) {b : Nat} {c : Array Value} (hC : Cells w b 26 c) (_ : NoU c) (k : Keeps (fun x => x = b) w w') : O1 B w' m V :=
 let ⟨vs, h1, h2, h3⟩ := h
 ⟨vs, h1, h2.kb hC (by decide) (by decide) k, h3.kept (keeps_grown k) (.inr (fun e => ownsRow_ne h3 hC (by decide) e.symm))⟩
theorem O1.nil (B : Nat) (w : World) : O1 B w 0 (.slice none 0 0) := ⟨[], rfl, ⟨fun i v hv => by simp at hv, fun i j u v a b _ hu => by simp at hu⟩, World.ownsRow_nil _ _ _ _⟩
theorem O1.done {B : Nat} {w : World} {V : Value} (h : O1 B w 112 V) : ∃ g c rb rc, V = .slice (some ⟨g, 0, none⟩) 112 c ∧ 112 ≤ c ∧ OQ B w (T1 112) g rb rc (fun _ _ => 1) := by
 obtain ⟨vs, h1, h2, h3⟩ := h
 obtain ⟨p, c, rfl⟩ := ownsRow_slice h3
 obtain ⟨g, rb, rc, rfl, hc, hQ⟩ := T1_rows (by decide) h1 h2 h3
 exact ⟨g, c, rb, rc, rfl, hc, hQ⟩
theorem O1.snoc {B m n : Nat} {w w' : World} {V V' u : Value} {vs : List Value} (hl : vs.length = m) (hC : CpT B w (T1 112) vs) (hO : w.ownsRow B 47 1 V m vs) (hr : RowF (T1 112) m B n w u) (hn : ∀ (i : Nat) (x : Value) (a : Nat), vs[i]? = some x → x.ownBlock = some a → a < n) (hown : w'.ownsRow B 47 1 V' (m + 1) (vs ++ [u])) (hg : w.grownBy w' V.ownBlock) : O1 B w' (m + 1) V' := by
 have hr2 := hr.grown hO hg
 obtain ⟨fs, q1, q2, q3⟩ := hr2.row
 exact ⟨vs ++ [u], by simp [hl], (hC.grown hO hg).snoc hl q1 q2 q3 hr2.new hn, hown⟩
/-- A kind of result: a new list of fractions of one's own; and one of its elements. -/
def Okf (B : Nat) (w : World) (X : Fr) : Prop := ∃ l m, UF w X l m ∧ OF B w X
theorem Okf.ext {B : Nat} {w w' : World} {X : Fr} (h : Okf B w X) (e : Ext w w') : Okf B w' X := let ⟨l, m, h1, h2⟩ := h; ⟨l, m, h1.ext e, h2.ext e⟩
theorem Okf.of {B : Nat} {w : World} {X : Fr} {q : Rat} (h : FR w X q ∧ OF B w X) : Okf B w X := ⟨_, _, ⟨h.1.1.u16.2, h.1.2.u16.2⟩, h.2⟩
theorem Okf.zero (B : Nat) (w : World) : Okf B w ⟨zeroWh, zeroWh⟩ := ⟨_, _, UF_zero w, OF_zero B w⟩
structure Fc (w : World) (g k : Nat) (X : Fr) : Prop where
 c0 : w.cell? ⟨g, k * 4, none⟩ = some (.bool X.N.b)
 c1 : w.cell? ⟨g, k * 4 + 1, none⟩ = some (.slice X.N.p X.N.n X.N.c)
 c2 : w.cell? ⟨g, k * 4 + 2, none⟩ = some (.bool X.D.b)
 c3 : w.cell? ⟨g, k * 4 + 3, none⟩ = some (.slice X.D.p X.D.n X.D.c)
theorem Fc.ext {w w' : World} {g k : Nat} {X : Fr} (h : Fc w g k X) (e : Ext w w') : Fc w' g k X := ⟨cell_ext e h.c0, cell_ext e h.c1, cell_ext e h.c2, cell_ext e h.c3⟩
def Tl.fs (B0 n : Nat) : Tl where
 S v := ∃ g, v = .slice (some ⟨g, 0, none⟩) n n
 Bs _ := []
 A _ v w := ∀ g, v = .slice (some ⟨g, 0, none⟩) n n → ∃ X : Nat → Fr, ∀ k, k < n → Fc w g k (X k) ∧ Okf B0 w (X k)
 wit := ⟨_, 0, rfl⟩
 ext h e g hg := let ⟨X, hX⟩ := h g hg; ⟨X, fun k hk => ⟨(hX k hk).1.ext e, (hX k hk).2.ext e⟩⟩
 mono h _ := h
 bl := by rintro B _ w _ h b hb; cases hb
theorem Tl.getFs {B0 n B : Nat} {w : World} {g : Nat} (h : (Tl.fs B0 n).A B (.slice (some ⟨g, 0, none⟩) n n) w) : ∃ X : Nat → Fr, ∀ k, k < n → Fc w g k (X k) ∧ Okf B0 w (X k) := h g rfl
def Tl.uf (B0 : Nat) : Tl where
 S v := ∃ Z : Fr, v = .agg #[.bool Z.N.b, .slice Z.N.p Z.N.n Z.N.c, .bool Z.D.b, .slice Z.D.p Z.D.n Z.D.c]
 Bs _ := []
 A _ v w := ∃ Z : Fr, v = .agg #[.bool Z.N.b, .slice Z.N.p Z.N.n Z.N.c, .bool Z.D.b, .slice Z.D.p Z.D.n Z.D.c] ∧ Okf B0 w Z
 wit := ⟨_, ⟨zeroWh, zeroWh⟩, rfl⟩
 ext h e := let ⟨Z, h1, h2⟩ := h; ⟨Z, h1, h2.ext e⟩
 mono h _ := h
 bl := by rintro B _ w _ h b hb; cases hb
theorem Tl.getUf {B0 B : Nat} {w : World} {X : Fr} (h : (Tl.uf B0).A B (.agg #[.bool X.N.b, .slice X.N.p X.N.n X.N.c, .bool X.D.b, .slice X.D.p X.D.n X.D.c]) w) : Okf B0 w X := by
 obtain ⟨Z, h1, h2⟩ := h
 obtain ⟨⟨a, b, c, d⟩, ⟨a', b', c', d'⟩⟩ := X
 obtain ⟨⟨e, f, g, h⟩, ⟨e', f', g', h'⟩⟩ := Z
 simp only [Value.agg.injEq, Array.mk.injEq, List.cons.injEq, Value.bool.injEq, Value.slice.injEq, and_true] at h1
 obtain ⟨rfl, ⟨rfl, rfl, rfl⟩, rfl, rfl, rfl, rfl⟩ := h1
 exact h2
theorem tellF5 {B0 : Nat} {w1 : World} {A B C D E : Fr} {K : Value → World → Prop} (hA : Okf B0 w1 A) (hB : Okf B0 w1 B) (hC : Okf B0 w1 C) (hD : Okf B0 w1 D) (hE : Okf B0 w1 E)
    (hK : ∀ v w', (Tl.fs B0 5).S v → (Tl.fs B0 5).A w1.heap.size v w' → Ext w1 w' → K v w') : K (.slice (some ⟨w1.heap.size, 0, none⟩) 5 5) (w1.alloc (.cells (#[.bool A.N.b, .slice A.N.p A.N.n A.N.c, .bool A.D.b, .slice A.D.p A.D.n A.D.c, .bool B.N.b, .slice B.N.p B.N.n B.N.c, .bool B.D.b, .slice B.D.p B.D.n B.D.c, .bool C.N.b, .slice C.N.p C.N.n C.N.c, .bool C.D.b, .slice C.D.p C.D.n C.D.c, .bool D.N.b, .slice D.N.p D.N.n D.N.c, .bool D.D.b, .slice D.D.p D.D.n D.D.c, .bool E.N.b, .slice E.N.p E.N.n E.N.c, .bool E.D.b, .slice E.D.p E.D.n E.D.c] : Array Value) 40)) :=
 hK _ _ ⟨_, rfl⟩ (fun g hg => by
  simp only [Value.slice.injEq, Option.some.injEq, Addr.mk.injEq, and_true] at hg
  subst hg
  have h := Cells.newAt (A := w1) (b := w1.heap.size) 40 (#[.bool A.N.b, .slice A.N.p A.N.n A.N.c, .bool A.D.b, .slice A.D.p A.D.n A.D.c, .bool B.N.b, .slice B.N.p B.N.n B.N.c, .bool B.D.b, .slice B.D.p B.D.n B.D.c, .bool C.N.b, .slice C.N.p C.N.n C.N.c, .bool C.D.b, .slice C.D.p C.D.n C.D.c, .bool D.N.b, .slice D.N.p D.N.n D.N.c, .bool D.D.b, .slice D.D.p D.D.n D.D.c, .bool E.N.b, .slice E.N.p E.N.n E.N.c, .bool E.D.b, .slice E.D.p E.D.n E.D.c] : Array Value) rfl
  refine ⟨fun k => match k with | 0 => A | 1 => B | 2 => C | 3 => D | _ => E, fun k hk => ?_⟩
  match k, hk with
  | 0, _ => exact ⟨⟨h.cell (k := 0) rfl, h.cell (k := 1) rfl, h.cell (k := 2) rfl, h.cell (k := 3) rfl⟩, hA.ext (ea _ _)⟩
  | 1, _ => exact ⟨⟨h.cell (k := 4) rfl, h.cell (k := 5) rfl, h.cell (k := 6) rfl, h.cell (k := 7) rfl⟩, hB.ext (ea _ _)⟩
  | 2, _ => exact ⟨⟨h.cell (k := 8) rfl, h.cell (k := 9) rfl, h.cell (k := 10) rfl, h.cell (k := 11) rfl⟩, hC.ext (ea _ _)⟩
  | 3, _ => exact ⟨⟨h.cell (k := 12) rfl, h.cell (k := 13) rfl, h.cell (k := 14) rfl, h.cell (k := 15) rfl⟩, hD.ext (ea _ _)⟩
  | 4, _ => exact ⟨⟨h.cell (k := 16) rfl, h.cell (k := 17) rfl, h.cell (k := 18) rfl, h.cell (k := 19) rfl⟩, hE.ext (ea _ _)⟩) ((Below.refl _ _).alloc (Nat.le_refl _) _)
theorem tellUf {B0 : Nat} {w1 : World} {X : Fr} {K : Value → World → Prop} (hX : Okf B0 w1 X) (hK : ∀ v w', (Tl.uf B0).S v → (Tl.uf B0).A w1.heap.size v w' → Ext w1 w' → K v w') : K (.agg #[.bool X.N.b, .slice X.N.p X.N.n X.N.c, .bool X.D.b, .slice X.D.p X.D.n X.D.c]) w1 :=
 hK _ _ ⟨X, rfl⟩ ⟨X, rfl, hX⟩ (Below.refl _ _)
theorem cases16 {I : Int} (h0 : 0 ≤ I) (h1 : I < 16) : I = 0 ∨ I = 1 ∨ I = 2 ∨ I = 3 ∨ I = 4 ∨ I = 5 ∨ I = 6 ∨ I = 7 ∨ I = 8 ∨ I = 9 ∨ I = 10 ∨ I = 11 ∨ I = 12 ∨ I = 13 ∨ I = 14 ∨ I = 15 := by omega
end Go.Proofs.YtndgaecfeaedeaaGreat
