/- Walks of package frac: on whole numbers. Walks of package frac: division. Walks of package frac: sums and products of fractions. -/
import Derived.Test.YtndgaecfeaedeaaGreatG11
set_option linter.unusedSimpArgs false
set_option linter.unusedVariables false
namespace Go.Proofs.YtndgaecfeaedeaaGreat
open Go.RowKit Lex Mth
attribute [local go_sem] run_indexAt_at add_zero_map Oper.semAt_some at_zero

/-- Package whole, in these words. -/
theorem kMul (X Y : Wh) (x y : Int) (w : World) (hx : WR w X x) (hy : WR w Y y) (b : siz x.natAbs + siz y.natAbs ≤ 1024) :
    Calls Tryz.prog 137 #[X.val, Y.val] w (Gv (.we (x * y) 0) w) :=
 (Mul_any _ _ _ _ _ _ _ _ x y w hx hy b).mono fun _ _ ⟨b, p, n, c, he, h1, h2, h3⟩ => by subst he; exact Gv.of_we (X := ⟨b, p, n, c⟩) h1 h2 h3
theorem kAdd (X Y : Wh) (x y : Int) (w : World) (hx : WR w X x) (hy : WR w Y y) (b : siz x.natAbs ≤ 1000) (b' : siz y.natAbs ≤ 1000) :
    Calls Tryz.prog 206 #[X.val, Y.val] w (Gv (.we (x + y) 0) w) :=
 (Add_any _ _ _ _ _ _ _ _ x y w hx hy b b').mono fun _ _ ⟨b, p, n, c, he, h1, h2, h3⟩ => by subst he; exact Gv.of_we (X := ⟨b, p, n, c⟩) h1 h2 h3
theorem kGcd (X Y : Wh) (x y : Int) (w : World) (hx : WR w X x) (hy : WR w Y y) (b : siz x.natAbs ≤ 1024) (b' : siz y.natAbs ≤ 1024) :
    Calls Tryz.prog 182 #[X.val, Y.val] w (Gv (.we (Int.gcd x y : Nat) 0) w) :=
 (Gcd_any _ _ _ _ _ _ _ _ x y w hx hy b b').mono fun _ _ ⟨b, p, n, c, he, h1, h2, h3⟩ => by subst he; exact Gv.of_we (X := ⟨b, p, n, c⟩) h1 h2 h3

set_option maxRecDepth 100000 in
theorem fproduct (X : Wh) (Y : Wh) (x : Int) (y : Int) (w : World) (hX : WR w X x) (hY : WR w Y y) (b : siz x.natAbs + siz y.natAbs ≤ 1024) :
    Calls Tryz.prog 76 #[.agg #[.bool X.b, .slice X.p X.n X.c], .agg #[.bool Y.b, .slice Y.p Y.n Y.c]] w (Gv (.w (x * y)) w) := by
 obtain ⟨w1, hww1, ew1, B1, zw1⟩ := alloc_at w (w.heap.size) (by omega) #[.bool X.b, .slice X.p X.n X.c] 38
 obtain ⟨w2, hww2, ew2, B2, zw2⟩ := alloc_at w1 (w.heap.size + 1) (by omega) #[.bool Y.b, .slice Y.p Y.n Y.c] 38
 obtain ⟨w3, hww3, ew3, B3, zw3⟩ := alloc_at w2 (w.heap.size + 1 + 1) (by omega) #[.bool false, .slice none 0 0] 38
 have xw1_w3 := eg ew2 ew3
 replace B1 := B1.ext xw1_w3
 have b1_w3 := B1.c2
 replace B2 := B2.ext ew3
 have b2_w3 := B2.c2
 have xw_w3 := eg (eg ew1 ew2) ew3
 replace hX := hX.ext xw_w3
 replace hY := hY.ext xw_w3
 go_enter Tryz.func76, Tryz.ntmps76
 go_wp2_with fail
 clear hww1 hww2 hww3
 replace zw1 := le2 zw1
 replace zw2 := le2 zw2
 replace zw3 := le2 zw3
 refine (kMul X Y _ _ _ (hX) (hY) (b)).mono (Gv.onWeo fun Z10 w4 hZ10 oZ10 ew4 zw4 => ?_)
 replace oZ10 := oZ10.mono xw_w3.size
 obtain ⟨w5, hww5, ew5, B4, zw5⟩ := alloc_at w4 (w4.heap.size) (by omega) #[.bool Z10.b, .slice Z10.p Z10.n Z10.c] 38
 have b4_w5 := B4.c2
 have xw3_w5 := eg ew4 ew5
 replace B3 := B3.ext xw3_w5
 have b3_w5 := B3.c2
 have fb3_w5 := B3.f2
 replace hZ10 := hZ10.ext ew5
 replace oZ10 := oZ10.ext ew5
 have xw_w5 := eg (eg xw_w3 ew4) ew5
 obtain ⟨w6, hww6, kw6, Nw6, zw6⟩ := B3.put2 (.bool Z10.b) (.slice Z10.p Z10.n Z10.c)
 have nuw6 : NoU #[.bool false, .slice none 0 0] := by simp [NoU]
 replace hZ10 := WR.kb hZ10 B3 nuw6 kw6
 replace oZ10 := OW.kb oZ10 B3 (by decide) kw6
 have xw_w6 := Ext.kb xw_w5 kw6 (by omega)
 replace B3 := Nw6
 clear Nw6 kw6
 have b3_w6 := B3.c2
 go_wp2_with fail
 clear hww5 hww6
 clear b1_w3 b2_w3 b4_w5 b3_w5 fb3_w5
 replace zw5 := le2 zw5
 replace zw6 := le2 zw6
 refine bodyPost_ret (v := .agg #[.bool Z10.b, .slice Z10.p Z10.n Z10.c]) (by simp [results, Tryz.results76, go_sem, b3_w6]) rfl ?_
 exact Gv.of_w (X := Z10) (hZ10) (oZ10) xw_w6

set_option maxRecDepth 100000 in
theorem fsum (X : Wh) (Y : Wh) (x : Int) (y : Int) (w : World) (hX : WR w X x) (hY : WR w Y y) (b : siz x.natAbs ≤ 1000) (b' : siz y.natAbs ≤ 1000) :
    Calls Tryz.prog 184 #[.agg #[.bool X.b, .slice X.p X.n X.c], .agg #[.bool Y.b, .slice Y.p Y.n Y.c]] w (Gv (.w (x + y)) w) := by
 obtain ⟨w1, hww1, ew1, B1, zw1⟩ := alloc_at w (w.heap.size) (by omega) #[.bool X.b, .slice X.p X.n X.c] 38
 obtain ⟨w2, hww2, ew2, B2, zw2⟩ := alloc_at w1 (w.heap.size + 1) (by omega) #[.bool Y.b, .slice Y.p Y.n Y.c] 38
 obtain ⟨w3, hww3, ew3, B3, zw3⟩ := alloc_at w2 (w.heap.size + 1 + 1) (by omega) #[.bool false, .slice none 0 0] 38
 have xw1_w3 := eg ew2 ew3
 replace B1 := B1.ext xw1_w3
 have b1_w3 := B1.c2
 replace B2 := B2.ext ew3
 have b2_w3 := B2.c2
 have xw_w3 := eg (eg ew1 ew2) ew3
 replace hX := hX.ext xw_w3
 replace hY := hY.ext xw_w3
 go_enter Tryz.func184, Tryz.ntmps184
 go_wp2_with fail
 clear hww1 hww2 hww3
 replace zw1 := le2 zw1
 replace zw2 := le2 zw2
 replace zw3 := le2 zw3
 refine (kAdd X Y _ _ _ (hX) (hY) (b) (b')).mono (Gv.onWeo fun Z10 w4 hZ10 oZ10 ew4 zw4 => ?_)
 replace oZ10 := oZ10.mono xw_w3.size
 obtain ⟨w5, hww5, ew5, B4, zw5⟩ := alloc_at w4 (w4.heap.size) (by omega) #[.bool Z10.b, .slice Z10.p Z10.n Z10.c] 38
 have b4_w5 := B4.c2
 have xw3_w5 := eg ew4 ew5
 replace B3 := B3.ext xw3_w5
 have b3_w5 := B3.c2
 have fb3_w5 := B3.f2
 replace hZ10 := hZ10.ext ew5
 replace oZ10 := oZ10.ext ew5
 have xw_w5 := eg (eg xw_w3 ew4) ew5
 obtain ⟨w6, hww6, kw6, Nw6, zw6⟩ := B3.put2 (.bool Z10.b) (.slice Z10.p Z10.n Z10.c)
 have nuw6 : NoU #[.bool false, .slice none 0 0] := by simp [NoU]
 replace hZ10 := WR.kb hZ10 B3 nuw6 kw6
 replace oZ10 := OW.kb oZ10 B3 (by decide) kw6
 have xw_w6 := Ext.kb xw_w5 kw6 (by omega)
 replace B3 := Nw6
 clear Nw6 kw6
 have b3_w6 := B3.c2
 go_wp2_with fail
 clear hww5 hww6
 clear b1_w3 b2_w3 b4_w5 b3_w5 fb3_w5
 replace zw5 := le2 zw5
 replace zw6 := le2 zw6
 refine bodyPost_ret (v := .agg #[.bool Z10.b, .slice Z10.p Z10.n Z10.c]) (by simp [results, Tryz.results184, go_sem, b3_w6]) rfl ?_
 exact Gv.of_w (X := Z10) (hZ10) (oZ10) xw_w6

set_option maxRecDepth 100000 in
theorem fcommon (X : Wh) (Y : Wh) (x : Int) (y : Int) (w : World) (hX : WR w X x) (hY : WR w Y y) (b : siz x.natAbs ≤ 1024) (b' : siz y.natAbs ≤ 1024) :
    Calls Tryz.prog 128 #[.agg #[.bool X.b, .slice X.p X.n X.c], .agg #[.bool Y.b, .slice Y.p Y.n Y.c]] w (Gv (.w (Int.gcd x y : Nat)) w) := by
 obtain ⟨w1, hww1, ew1, B1, zw1⟩ := alloc_at w (w.heap.size) (by omega) #[.bool X.b, .slice X.p X.n X.c] 38
 obtain ⟨w2, hww2, ew2, B2, zw2⟩ := alloc_at w1 (w.heap.size + 1) (by omega) #[.bool Y.b, .slice Y.p Y.n Y.c] 38
 obtain ⟨w3, hww3, ew3, B3, zw3⟩ := alloc_at w2 (w.heap.size + 1 + 1) (by omega) #[.bool false, .slice none 0 0] 38
 have xw1_w3 := eg ew2 ew3
 replace B1 := B1.ext xw1_w3
 have b1_w3 := B1.c2
 replace B2 := B2.ext ew3
 have b2_w3 := B2.c2
 have xw_w3 := eg (eg ew1 ew2) ew3
 replace hX := hX.ext xw_w3
 replace hY := hY.ext xw_w3
 go_enter Tryz.func128, Tryz.ntmps128
 go_wp2_with fail
 clear hww1 hww2 hww3
 replace zw1 := le2 zw1
 replace zw2 := le2 zw2
 replace zw3 := le2 zw3
 refine (kGcd X Y _ _ _ (hX) (hY) (b) (b')).mono (Gv.onWeo fun Z10 w4 hZ10 oZ10 ew4 zw4 => ?_)
 replace oZ10 := oZ10.mono xw_w3.size
 obtain ⟨w5, hww5, ew5, B4, zw5⟩ := alloc_at w4 (w4.heap.size) (by omega) #[.bool Z10.b, .slice Z10.p Z10.n Z10.c] 38
 have b4_w5 := B4.c2
 have xw3_w5 := eg ew4 ew5
 replace B3 := B3.ext xw3_w5
 have b3_w5 := B3.c2
 have fb3_w5 := B3.f2
 replace hZ10 := hZ10.ext ew5
 replace oZ10 := oZ10.ext ew5
 have xw_w5 := eg (eg xw_w3 ew4) ew5
 obtain ⟨w6, hww6, kw6, Nw6, zw6⟩ := B3.put2 (.bool Z10.b) (.slice Z10.p Z10.n Z10.c)
 have nuw6 : NoU #[.bool false, .slice none 0 0] := by simp [NoU]
 replace hZ10 := WR.kb hZ10 B3 nuw6 kw6
 replace oZ10 := OW.kb oZ10 B3 (by decide) kw6
 have xw_w6 := Ext.kb xw_w5 kw6 (by omega)
 replace B3 := Nw6
 clear Nw6 kw6
 have b3_w6 := B3.c2
 go_wp2_with fail
 clear hww5 hww6
 clear b1_w3 b2_w3 b4_w5 b3_w5 fb3_w5
 replace zw5 := le2 zw5
 replace zw6 := le2 zw6
 refine bodyPost_ret (v := .agg #[.bool Z10.b, .slice Z10.p Z10.n Z10.c]) (by simp [results, Tryz.results128, go_sem, b3_w6]) rfl ?_
 exact Gv.of_w (X := Z10) (hZ10) (oZ10) xw_w6
end Go.Proofs.YtndgaecfeaedeaaGreat
namespace Go.Proofs.YtndgaecfeaedeaaGreat
open Go.RowKit Lex Mth
attribute [local go_sem] run_indexAt_at add_zero_map Oper.semAt_some at_zero

theorem fd_unique {x y q r : Int} (hy : y ≠ 0) (h : FD x y q r) : q = Int.fdiv x y ∧ r = Int.fmod x y := by
 obtain ⟨h1, h2⟩ := h
 have e1 : Int.fmod x y + y * Int.fdiv x y = x := Int.fmod_add_mul_fdiv x y
 rcases (by omega : 0 < y ∨ y < 0) with h | h
 ·have e2 := Int.fmod_nonneg_of_pos x h
  have e3 := Int.fmod_lt_of_pos x h
  have e4 : 0 ≤ r ∧ r < y := by omega
  have e5 : r - Int.fmod x y = y * (Int.fdiv x y - q) := by rw [Int.mul_sub]; omega
  have e6 : Int.fdiv x y - q = 0 := by
   rcases (by omega : Int.fdiv x y - q = 0 ∨ 1 ≤ Int.fdiv x y - q ∨ Int.fdiv x y - q ≤ -1) with h | h | h
   ·exact h
   ·have := Int.mul_le_mul_of_nonneg_left h (Int.le_of_lt ‹0 < y›); omega
   ·have := Int.mul_le_mul_of_nonneg_left h (Int.le_of_lt ‹0 < y›); omega
  rw [e6] at e5
  omega
 ·have e0 : Int.fdiv (-x) (-y) = Int.fdiv x y := Int.neg_fdiv_neg x y
  have e9 : Int.fmod (-x) (-y) + (-y) * Int.fdiv (-x) (-y) = -x := Int.fmod_add_mul_fdiv (-x) (-y)
  rw [e0, Int.neg_mul] at e9
  have e2 := Int.fmod_nonneg_of_pos (-x) (show 0 < -y by omega)
  have e3 := Int.fmod_lt_of_pos (-x) (show 0 < -y by omega)
  have e4 : y < r ∧ r ≤ 0 := by omega
  have e5 : r - Int.fmod x y = y * (Int.fdiv x y - q) := by rw [Int.mul_sub]; omega
  have e6 : Int.fdiv x y - q = 0 := by
   have e7 : (-y) * (Int.fdiv x y - q) = -(r - Int.fmod x y) := by rw [Int.neg_mul, ← e5]
   rcases (by omega : Int.fdiv x y - q = 0 ∨ 1 ≤ Int.fdiv x y - q ∨ Int.fdiv x y - q ≤ -1) with h | h | h
   ·exact h
   ·have := Int.mul_le_mul_of_nonneg_left h (show 0 ≤ -y by omega); omega
   ·have := Int.mul_le_mul_of_nonneg_left h (show 0 ≤ -y by omega); omega
  rw [e6] at e5
  omega
theorem kDivMod (X Y : Wh) (x y : Int) (w : World) (hx : WR w X x) (hy : WR w Y y) (b : siz x.natAbs ≤ 1024) (b' : siz y.natAbs ≤ 1024) (h0 : y ≠ 0) :
    Calls Tryz.prog 205 #[X.val, Y.val] w fun e w' => ∃ Z R : Wh, e = .returned (.tuple #[.agg #[.bool Z.b, .slice Z.p Z.n Z.c], .agg #[.bool R.b, .slice R.p R.n R.c], .int .i64 0]) ∧ WR w' Z (Int.fdiv x y) ∧ WR w' R (Int.fmod x y) ∧ OW w.heap.size w' Z ∧ OW w.heap.size w' R ∧ Ext w w' :=
 (DivMod_any _ _ _ _ _ _ _ _ x y w hx hy b b' h0).mono fun _ _ ⟨b, p, n, c, b', p', n', c', q, r, he, hf, h1, h2, h3, h4, h5⟩ => by
  obtain ⟨rfl, rfl⟩ := fd_unique h0 hf
  exact ⟨⟨b, p, n, c⟩, ⟨b', p', n', c'⟩, he, h1, h2, h3, h4, h5⟩

set_option maxRecDepth 100000 in
theorem fover (X : Wh) (Y : Wh) (x : Int) (y : Int) (w : World) (hX : WR w X x) (hY : WR w Y y) (b : siz x.natAbs ≤ 1024) (b' : siz y.natAbs ≤ 1024) (h0 : y ≠ 0) :
    Calls Tryz.prog 183 #[.agg #[.bool X.b, .slice X.p X.n X.c], .agg #[.bool Y.b, .slice Y.p Y.n Y.c]] w (Gv (.w (Int.fdiv x y)) w) := by
 obtain ⟨w1, hww1, ew1, B1, zw1⟩ := alloc_at w (w.heap.size) (by omega) #[.bool X.b, .slice X.p X.n X.c] 38
 obtain ⟨w2, hww2, ew2, B2, zw2⟩ := alloc_at w1 (w.heap.size + 1) (by omega) #[.bool Y.b, .slice Y.p Y.n Y.c] 38
 obtain ⟨w3, hww3, ew3, B3, zw3⟩ := alloc_at w2 (w.heap.size + 1 + 1) (by omega) #[.bool false, .slice none 0 0] 38
 have xw1_w3 := eg ew2 ew3
 replace B1 := B1.ext xw1_w3
 have b1_w3 := B1.c2
 replace B2 := B2.ext ew3
 have b2_w3 := B2.c2
 have xw_w3 := eg (eg ew1 ew2) ew3
 replace hX := hX.ext xw_w3
 replace hY := hY.ext xw_w3
 go_enter Tryz.func183, Tryz.ntmps183
 go_wp2_with fail
 clear hww1 hww2 hww3
 replace zw1 := le2 zw1
 replace zw2 := le2 zw2
 replace zw3 := le2 zw3
 refine (kDivMod X Y _ _ _ (hX) (hY) (b) (b') (h0)).mono ?_
 intro ee w4 gg
 obtain ⟨Z11, Z11r, rfl, hZ11, -, oZ11, -, ew4⟩ := gg
 have zw4 := ew4.size
 replace oZ11 := oZ11.mono xw_w3.size
 obtain ⟨w5, hww5, ew5, B4, zw5⟩ := alloc_at w4 (w4.heap.size) (by omega) #[.bool false, .slice none 0 0] 38
 obtain ⟨w6, hww6, ew6, B5, zw6⟩ := alloc_at w5 (w4.heap.size + 1) (by omega) #[.bool false, .slice none 0 0] 38
 replace B4 := B4.ext ew6
 have b4_w6 := B4.c2
 have fb4_w6 := B4.f2
 have xw3_w6 := eg (eg ew4 ew5) ew6
 replace B3 := B3.ext xw3_w6
 have xw4_w6 := eg ew5 ew6
 replace hZ11 := hZ11.ext xw4_w6
 replace oZ11 := oZ11.ext xw4_w6
 have xw_w6 := eg (eg (eg xw_w3 ew4) ew5) ew6
 obtain ⟨w7, hww7, kw7, Nw7, zw7⟩ := B4.put2 (.bool Z11.b) (.slice Z11.p Z11.n Z11.c)
 have nuw7 : NoU #[.bool false, .slice none 0 0] := by simp [NoU]
 replace B3 := B3.kb kw7 (by omega)
 replace hZ11 := WR.kb hZ11 B4 nuw7 kw7
 replace oZ11 := OW.kb oZ11 B4 (by decide) kw7
 replace B5 := B5.kb kw7 (by omega)
 have xw_w7 := Ext.kb xw_w6 kw7 (by omega)
 replace B4 := Nw7
 clear Nw7 kw7
 have b5_w7 := B5.c2
 have fb5_w7 := B5.f2
 obtain ⟨w8, hww8, kw8, Nw8, zw8⟩ := B5.put2 (.bool Z11r.b) (.slice Z11r.p Z11r.n Z11r.c)
 have nuw8 : NoU #[.bool false, .slice none 0 0] := by simp [NoU]
 replace B3 := B3.kb kw8 (by omega)
 replace hZ11 := WR.kb hZ11 B5 nuw8 kw8
 replace oZ11 := OW.kb oZ11 B5 (by decide) kw8
 replace B4 := B4.kb kw8 (by omega)
 have xw_w8 := Ext.kb xw_w7 kw8 (by omega)
 replace B5 := Nw8
 clear Nw8 kw8
 have b4_w8 := B4.c2
 have b3_w8 := B3.c2
 have fb3_w8 := B3.f2
 obtain ⟨w9, hww9, kw9, Nw9, zw9⟩ := B3.put2 (.bool Z11.b) (.slice Z11.p Z11.n Z11.c)
 have nuw9 : NoU #[.bool false, .slice none 0 0] := by simp [NoU]
 replace hZ11 := WR.kb hZ11 B3 nuw9 kw9
 replace oZ11 := OW.kb oZ11 B3 (by decide) kw9
 have xw_w9 := Ext.kb xw_w8 kw9 (by omega)
 replace B3 := Nw9
 clear Nw9 kw9
 have b3_w9 := B3.c2
 go_wp2_with fail
 clear hww5 hww6 hww7 hww8 hww9
 clear b1_w3 b2_w3 b4_w6 fb4_w6 b5_w7 fb5_w7 b4_w8 b3_w8 fb3_w8
 replace zw5 := le2 zw5
 replace zw6 := le2 zw6
 replace zw7 := le2 zw7
 replace zw8 := le2 zw8
 replace zw9 := le2 zw9
 refine bodyPost_ret (v := .agg #[.bool Z11.b, .slice Z11.p Z11.n Z11.c]) (by simp [results, Tryz.results183, go_sem, b3_w9]) rfl ?_
 exact Gv.of_w (X := Z11) (hZ11) (oZ11) xw_w9
end Go.Proofs.YtndgaecfeaedeaaGreat
namespace Go.Proofs.YtndgaecfeaedeaaGreat
open Go.RowKit Lex Mth
attribute [local go_sem] run_indexAt_at add_zero_map Oper.semAt_some at_zero

theorem Sz.n {q : Rat} (h : Sz q) : siz q.num.natAbs ≤ 256 := h.1
theorem Sz.d {q : Rat} (h : Sz q) : siz ((q.den : Nat) : Int).natAbs ≤ 256 := h.2
theorem sp {a b : Int} {g h : Nat} (ha : siz a.natAbs ≤ 256) (hb : siz b.natAbs ≤ 256) : siz (Int.fdiv a g).natAbs + siz (Int.fdiv b h).natAbs ≤ 1024 := by
 have := siz_fdiv a (y := (g : Int)) (by omega)
 have := siz_fdiv b (y := (h : Int)) (by omega)
 omega
theorem up4 {n : Nat} (h : n ≤ 256) : n ≤ 1024 := by omega
theorem sp2 {a b : Int} {h : Nat} (ha : siz a.natAbs ≤ 256) (hb : siz b.natAbs ≤ 256) : siz a.natAbs + siz (Int.fdiv b h).natAbs ≤ 1024 := by
 have := siz_fdiv b (y := (h : Int)) (by omega)
 omega
theorem sp3 {a b : Int} {h : Nat} (ha : siz a.natAbs ≤ 256) (hb : siz b.natAbs ≤ 256) : siz (a * Int.fdiv b h).natAbs ≤ 1000 := by
 have := siz_fdiv b (y := (h : Int)) (by omega)
 have := siz_imul a (Int.fdiv b h)
 omega
theorem sp4 {x y : Rat} (hx : Sz x) (hy : Sz y) : siz (sN x y).natAbs ≤ 1024 := by
 have h1 := siz_iadd (x.num * Int.fdiv (y.den : Int) (Int.gcd x.den y.den : Nat)) (y.num * Int.fdiv (x.den : Int) (Int.gcd x.den y.den : Nat))
 have h2 := sp3 (h := Int.gcd x.den y.den) hx.n hy.d
 have h3 := sp3 (h := Int.gcd x.den y.den) hy.n hx.d
 unfold sN
 omega
theorem g2_ne (x y : Rat) : ((Int.gcd (sN x y) (Int.gcd x.den y.den : Nat) : Nat) : Int) ≠ 0 := gcd_ne_left (gcd_ne_left (den_ne y))
theorem kClone (X : Wh) (l : List Nat) (w : World) (h : U16 w X.p X.n X.c l) : Calls Tryz.prog 139 #[.slice X.p X.n X.c] w (Gv (.c l) w) :=
 (clone_any X.p X.n X.c l w h).mono fun _ _ ⟨p', c', he, h1, h2, h3⟩ => by subst he; exact Gv.of_c (X := ⟨false, p', X.n, c'⟩) h1 h2 h3

set_option maxRecDepth 100000 in
theorem fits_t (X : Fr) (w : World) (h1 : X.N.n ≤ 256) (h2 : X.D.n ≤ 256) :
    Calls Tryz.prog 125 #[.agg #[.bool X.N.b, .slice X.N.p X.N.n X.N.c, .bool X.D.b, .slice X.D.p X.D.n X.D.c]] w (Gv (.v (.bool true)) w) := by
 have d1 : decide ((X.N.n : Int) ≤ 256) = true := by simp; omega
 have d2 : decide ((X.D.n : Int) ≤ 256) = true := by simp; omega
 obtain ⟨w1, hww1, ew1, B1, zw1⟩ := alloc_at w (w.heap.size) (by omega) #[.bool X.N.b, .slice X.N.p X.N.n X.N.c, .bool X.D.b, .slice X.D.p X.D.n X.D.c] 143
 have b1_w1 := B1.c4
 go_enter Tryz.func125, Tryz.ntmps125
 go_wp2_with fail
 clear hww1
 replace zw1 := le2 zw1
 refine bodyPost_ret (v := .bool true) (by simp [results, Tryz.results125, go_sem]) rfl ?_
 exact Gv.of_v ew1

set_option maxRecDepth 100000 in
theorem fits_n (X : Fr) (w : World) (h1 : ¬ X.N.n ≤ 256) :
    Calls Tryz.prog 125 #[.agg #[.bool X.N.b, .slice X.N.p X.N.n X.N.c, .bool X.D.b, .slice X.D.p X.D.n X.D.c]] w (Gv (.v (.bool false)) w) := by
 obtain ⟨w1, hww1, ew1, B1, zw1⟩ := alloc_at w (w.heap.size) (by omega) #[.bool X.N.b, .slice X.N.p X.N.n X.N.c, .bool X.D.b, .slice X.D.p X.D.n X.D.c] 143
 have b1_w1 := B1.c4
 go_enter Tryz.func125, Tryz.ntmps125
 go_wp2_with fail
 clear hww1
 replace zw1 := le2 zw1
 refine bodyPost_ret (v := .bool false) (by simp [results, Tryz.results125, go_sem]) rfl ?_
 exact Gv.of_v ew1

set_option maxRecDepth 100000 in
theorem fits_d (X : Fr) (w : World) (h1 : X.N.n ≤ 256) (h2 : ¬ X.D.n ≤ 256) :
    Calls Tryz.prog 125 #[.agg #[.bool X.N.b, .slice X.N.p X.N.n X.N.c, .bool X.D.b, .slice X.D.p X.D.n X.D.c]] w (Gv (.v (.bool false)) w) := by
 have d1 : decide ((X.N.n : Int) ≤ 256) = true := by simp; omega
 have d2 : decide ((X.D.n : Int) ≤ 256) = false := by simp; omega
 obtain ⟨w1, hww1, ew1, B1, zw1⟩ := alloc_at w (w.heap.size) (by omega) #[.bool X.N.b, .slice X.N.p X.N.n X.N.c, .bool X.D.b, .slice X.D.p X.D.n X.D.c] 143
 have b1_w1 := B1.c4
 go_enter Tryz.func125, Tryz.ntmps125
 go_wp2_with fail
 clear hww1
 replace zw1 := le2 zw1
 refine bodyPost_ret (v := .bool false) (by simp [results, Tryz.results125, go_sem]) rfl ?_
 exact Gv.of_v ew1

set_option maxRecDepth 100000 in
theorem told_t (X : Fr) (w : World) (h1 : X.N.n ≤ 256) (h2 : X.D.n ≤ 256) :
    Calls Tryz.prog 130 #[.agg #[.bool X.N.b, .slice X.N.p X.N.n X.N.c, .bool X.D.b, .slice X.D.p X.D.n X.D.c]] w (Gv (.v (.tuple #[.agg #[.bool X.N.b, .slice X.N.p X.N.n X.N.c, .bool X.D.b, .slice X.D.p X.D.n X.D.c], .int .i64 0])) w) := by
 obtain ⟨w1, hww1, ew1, B1, zw1⟩ := alloc_at w (w.heap.size) (by omega) #[.bool X.N.b, .slice X.N.p X.N.n X.N.c, .bool X.D.b, .slice X.D.p X.D.n X.D.c] 143
 obtain ⟨w2, hww2, ew2, B2, zw2⟩ := alloc_at w1 (w.heap.size + 1) (by omega) #[.bool false, .slice none 0 0, .bool false, .slice none 0 0] 40
 replace B1 := B1.ext ew2
 have b1_w2 := B1.c4
 have xw_w2 := eg ew1 ew2
 go_enter Tryz.func130, Tryz.ntmps130
 go_wp2_with fail
 clear hww1 hww2
 replace zw1 := le2 zw1
 replace zw2 := le2 zw2
 refine (fits_t X _ (h1) (h2)).mono (Gv.onV fun w3 ew3 zw3 => ?_)
 replace B1 := B1.ext ew3
 have b1_w3 := B1.c4
 replace B2 := B2.ext ew3
 have b2_w3 := B2.c4
 have fb2_w3 := B2.f4
 have xw_w3 := eg xw_w2 ew3
 obtain ⟨w4, hww4, kw4, Nw4, zw4⟩ := B2.put4 (.bool X.N.b) (.slice X.N.p X.N.n X.N.c) (.bool X.D.b) (.slice X.D.p X.D.n X.D.c)
 have xw_w4 := Ext.kb xw_w3 kw4 (by omega)
 replace B2 := Nw4
 clear Nw4 kw4
 have b2_w4 := B2.c4
 go_wp2_with fail
 clear hww4
 clear b1_w2 b1_w3 b2_w3 fb2_w3
 replace zw4 := le2 zw4
 refine bodyPost_ret (v := .tuple #[.agg #[.bool X.N.b, .slice X.N.p X.N.n X.N.c, .bool X.D.b, .slice X.D.p X.D.n X.D.c], .int .i64 0]) (by simp [results, Tryz.results130, go_sem, b2_w4]) rfl ?_
 exact Gv.of_v xw_w4

set_option maxRecDepth 100000 in
theorem ftimes (X : Fr) (Y : Fr) (x : Rat) (y : Rat) (w : World) (hX : FR w X x) (hY : FR w Y y) (bx : Sz x) (by_ : Sz y) :
    Calls Tryz.prog 132 #[.agg #[.bool X.N.b, .slice X.N.p X.N.n X.N.c, .bool X.D.b, .slice X.D.p X.D.n X.D.c], .agg #[.bool Y.N.b, .slice Y.N.p Y.N.n Y.N.c, .bool Y.D.b, .slice Y.D.p Y.D.n Y.D.c]] w (Gv (.f (x * y)) w) := by
 obtain ⟨w1, hww1, ew1, B1, zw1⟩ := alloc_at w (w.heap.size) (by omega) #[.bool X.N.b, .slice X.N.p X.N.n X.N.c, .bool X.D.b, .slice X.D.p X.D.n X.D.c] 143
 obtain ⟨w2, hww2, ew2, B2, zw2⟩ := alloc_at w1 (w.heap.size + 1) (by omega) #[.bool Y.N.b, .slice Y.N.p Y.N.n Y.N.c, .bool Y.D.b, .slice Y.D.p Y.D.n Y.D.c] 143
 obtain ⟨w3, hww3, ew3, B3, zw3⟩ := alloc_at w2 (w.heap.size + 1 + 1) (by omega) #[.bool false, .slice none 0 0, .bool false, .slice none 0 0] 143
 have xw1_w3 := eg ew2 ew3
 replace B1 := B1.ext xw1_w3
 have b1_w3 := B1.c4
 replace B2 := B2.ext ew3
 have b2_w3 := B2.c4
 have xw_w3 := eg (eg ew1 ew2) ew3
 replace hX := hX.ext xw_w3
 replace hY := hY.ext xw_w3
 go_enter Tryz.func132, Tryz.ntmps132
 go_wp2_with fail
 clear hww1 hww2 hww3
 replace zw1 := le2 zw1
 replace zw2 := le2 zw2
 replace zw3 := le2 zw3
 refine regionT 16 (fun kk => match kk with | 6 => some (.w ((Int.gcd ((x).num) ((((y).den : Int))) : Nat))) | 13 => some (.w ((Int.gcd ((y).num) ((((x).den : Int))) : Nat))) | 14 => some (.box 38 #[.bool false, .slice none 0 0]) | 15 => some (.box 38 #[.bool false, .slice none 0 0]) | _ => none) (by as_aux_lemma => kernel_rfl) (head_of (by as_aux_lemma => kernel_rfl)) ?_
 iterate 6
  refine Walk.one (x := ?_) rfl rfl (fun w1 hI hL K hK => ?_) ?_
  rotate_left
  ·obtain ⟨hc, hf⟩ := bcell hI
   go_simp
   repeat (first | (go_ints; try go_simp) | (simp only [↓IntWalk.iteOmega]; try go_simp))
   exact hK
  simp only [Pq1]
 refine Walk.tell rfl rfl (fun w1 hI hL K hK => ?_) ?_
 ·go_simp
  exact (fcommon X.N Y.D _ _ w1 ((hX.1).ext hI) ((hY.2).ext hI) (up4 bx.n) (up4 by_.d)).mono (tell hK)
 rintro _ ⟨Z13, rfl⟩
 simp only [Pq1]
 iterate 6
  refine Walk.one (x := ?_) rfl rfl (fun w1 hI hL K hK => ?_) ?_
  rotate_left
  ·obtain ⟨hc, hf⟩ := bcell hI
   go_simp
   repeat (first | (go_ints; try go_simp) | (simp only [↓IntWalk.iteOmega]; try go_simp))
   exact hK
  simp only [Pq1]
 refine Walk.tell rfl rfl (fun w1 hI hL K hK => ?_) ?_
 ·go_simp
  exact (fcommon Y.N X.D _ _ w1 ((hY.1).ext hI) ((hX.2).ext hI) (up4 by_.n) (up4 bx.d)).mono (tell hK)
 rintro _ ⟨Z20, rfl⟩
 simp only [Pq1]
 refine Walk.tell rfl rfl (fun w1 hI hL K hK => ?_) ?_
 ·go_simp
  exact tellB hK
 rintro _ ⟨g5, rfl⟩
 simp only [Pq1]
 refine Walk.tell rfl rfl (fun w1 hI hL K hK => ?_) ?_
 ·go_simp
  exact tellB hK
 rintro _ ⟨g6, rfl⟩
 simp only [Pq1]
 refine Walk.nilF fun w4 ew4 kzL kzX => ?_
 have zw4 := ew4.size
 obtain ⟨hZ13, -⟩ := Tl.getW (kz (i := 6) (v := .agg #[.bool Z13.b, .slice Z13.p Z13.n Z13.c]) rfl (by simp) kzL)
 obtain ⟨hZ20, -⟩ := Tl.getW (kz (i := 13) (v := .agg #[.bool Z20.b, .slice Z20.p Z20.n Z20.c]) rfl (by simp) kzL)
 obtain ⟨B4, yB4⟩ := Tl.getB (kz (i := 14) (v := .pointer (some ⟨g5, 0, none⟩)) rfl (by simp) kzL)
 obtain ⟨B5, yB5⟩ := Tl.getB (kz (i := 15) (v := .pointer (some ⟨g6, 0, none⟩)) rfl (by simp) kzL)
 have dB4B5 : g5 ≠ g6 := by
  have := kzX (14, .pointer (some ⟨g5, 0, none⟩)) (by simp) (15, .pointer (some ⟨g6, 0, none⟩)) (by simp) (by simp)
  simpa [TB, Tl.box, Bl, Bl1] using this
 have lB4 := B4.lt
 have lB5 := B5.lt
 clear kzL kzX
 simp only [List.drop_succ_cons, List.drop_zero, List.drop_nil]
 have b4_w4 := B4.c2
 have fb4_w4 := B4.f2
 replace hX := hX.ext ew4
 replace hY := hY.ext ew4
 replace B1 := B1.ext ew4
 replace B2 := B2.ext ew4
 replace B3 := B3.ext ew4
 have xw_w4 := eg xw_w3 ew4
 obtain ⟨w5, hww5, kw5, Nw5, zw5⟩ := B4.put2 (.bool Z13.b) (.slice Z13.p Z13.n Z13.c)
 have nuw5 : NoU #[.bool false, .slice none 0 0] := by simp [NoU]
 replace hX := FR.kb hX B4 nuw5 kw5
 replace hY := FR.kb hY B4 nuw5 kw5
 replace B1 := B1.kb kw5 (by omega)
 replace B2 := B2.kb kw5 (by omega)
 replace B3 := B3.kb kw5 (by omega)
 replace hZ13 := WR.kb hZ13 B4 nuw5 kw5
 replace hZ20 := WR.kb hZ20 B4 nuw5 kw5
 replace B5 := B5.kb kw5 (by omega)
 have xw_w5 := Ext.kb xw_w4 kw5 (by omega)
 replace B4 := Nw5
 clear Nw5 kw5
 have b5_w5 := B5.c2
 have fb5_w5 := B5.f2
 obtain ⟨w6, hww6, kw6, Nw6, zw6⟩ := B5.put2 (.bool Z20.b) (.slice Z20.p Z20.n Z20.c)
 have nuw6 : NoU #[.bool false, .slice none 0 0] := by simp [NoU]
 replace hX := FR.kb hX B5 nuw6 kw6
 replace hY := FR.kb hY B5 nuw6 kw6
 replace B1 := B1.kb kw6 (by omega)
 replace B2 := B2.kb kw6 (by omega)
 replace B3 := B3.kb kw6 (by omega)
 replace hZ13 := WR.kb hZ13 B5 nuw6 kw6
 replace hZ20 := WR.kb hZ20 B5 nuw6 kw6
 replace B4 := B4.kb kw6 (by omega)
 have xw_w6 := Ext.kb xw_w5 kw6 (by omega)
 replace B5 := Nw6
 clear Nw6 kw6
 have b1_w6 := B1.c4
 have b4_w6 := B4.c2
 have b2_w6 := B2.c4
 have b5_w6 := B5.c2
 go_wp2_with fail
 clear hww5 hww6
 clear b1_w3 b2_w3 b4_w4 fb4_w4 b5_w5 fb5_w5
 replace zw5 := le2 zw5
 replace zw6 := le2 zw6
 refine regionT 24 (fun kk => match kk with | 4 => some (.w (Int.fdiv ((x).num) (((Int.gcd ((x).num) ((((y).den : Int))) : Nat))))) | 9 => some (.w (Int.fdiv ((y).num) (((Int.gcd ((y).num) ((((x).den : Int))) : Nat))))) | 10 => some (.w ((Int.fdiv ((x).num) (((Int.gcd ((x).num) ((((y).den : Int))) : Nat)))) * (Int.fdiv ((y).num) (((Int.gcd ((y).num) ((((x).den : Int))) : Nat)))))) | 15 => some (.w (Int.fdiv ((((x).den : Int))) (((Int.gcd ((y).num) ((((x).den : Int))) : Nat))))) | 20 => some (.w (Int.fdiv ((((y).den : Int))) (((Int.gcd ((x).num) ((((y).den : Int))) : Nat))))) | 21 => some (.w ((Int.fdiv ((((x).den : Int))) (((Int.gcd ((y).num) ((((x).den : Int))) : Nat)))) * (Int.fdiv ((((y).den : Int))) (((Int.gcd ((x).num) ((((y).den : Int))) : Nat)))))) | _ => none) (by as_aux_lemma => kernel_rfl) (head_of (by as_aux_lemma => kernel_rfl)) ?_
 iterate 4
  refine Walk.one (x := ?_) rfl rfl (fun w1 hI hL K hK => ?_) ?_
  rotate_left
  ·obtain ⟨hc, hf⟩ := bcell hI
   go_simp
   repeat (first | (go_ints; try go_simp) | (simp only [↓IntWalk.iteOmega]; try go_simp))
   exact hK
  simp only [Pq1]
 refine Walk.tell rfl rfl (fun w1 hI hL K hK => ?_) ?_
 ·go_simp
  exact (fover X.N Z13 _ _ w1 ((hX.1).ext hI) ((hZ13).ext hI) (up4 bx.n) (Nat.le_trans (siz_gcd (den_ne y)) (up4 by_.d)) (gcd_ne_left (den_ne y))).mono (tell hK)
 rintro _ ⟨Z25, rfl⟩
 simp only [Pq1]
 iterate 4
  refine Walk.one (x := ?_) rfl rfl (fun w1 hI hL K hK => ?_) ?_
  rotate_left
  ·obtain ⟨hc, hf⟩ := bcell hI
   go_simp
   repeat (first | (go_ints; try go_simp) | (simp only [↓IntWalk.iteOmega]; try go_simp))
   exact hK
  simp only [Pq1]
 refine Walk.tell rfl rfl (fun w1 hI hL K hK => ?_) ?_
 ·go_simp
  exact (fover Y.N Z20 _ _ w1 ((hY.1).ext hI) ((hZ20).ext hI) (up4 by_.n) (Nat.le_trans (siz_gcd (den_ne x)) (up4 bx.d)) (gcd_ne_left (den_ne x))).mono (tell hK)
 rintro _ ⟨Z30, rfl⟩
 simp only [Pq1]
 refine Walk.tell rfl rfl (fun w1 hI hL K hK => ?_) ?_
 ·go_simp
  exact (fproduct Z25 Z30 _ _ w1 ((Tl.getW (kn (i := 4) (v := .agg #[.bool Z25.b, .slice Z25.p Z25.n Z25.c]) rfl (by simp) (pred_of (by as_aux_lemma => kernel_rfl)) hL)).1) ((Tl.getW (kn (i := 9) (v := .agg #[.bool Z30.b, .slice Z30.p Z30.n Z30.c]) rfl (by simp) (pred_of (by as_aux_lemma => kernel_rfl)) hL)).1) (sp bx.n by_.n)).mono (tell hK)
 rintro _ ⟨Z31, rfl⟩
 simp only [Pq1]
 iterate 4
  refine Walk.one (x := ?_) rfl rfl (fun w1 hI hL K hK => ?_) ?_
  rotate_left
  ·obtain ⟨hc, hf⟩ := bcell hI
   go_simp
   repeat (first | (go_ints; try go_simp) | (simp only [↓IntWalk.iteOmega]; try go_simp))
   exact hK
  simp only [Pq1]
 refine Walk.tell rfl rfl (fun w1 hI hL K hK => ?_) ?_
 ·go_simp
  exact (fover X.D Z20 _ _ w1 ((hX.2).ext hI) ((hZ20).ext hI) (up4 bx.d) (Nat.le_trans (siz_gcd (den_ne x)) (up4 bx.d)) (gcd_ne_left (den_ne x))).mono (tell hK)
 rintro _ ⟨Z36, rfl⟩
 simp only [Pq1]
 iterate 4
  refine Walk.one (x := ?_) rfl rfl (fun w1 hI hL K hK => ?_) ?_
  rotate_left
  ·obtain ⟨hc, hf⟩ := bcell hI
   go_simp
   repeat (first | (go_ints; try go_simp) | (simp only [↓IntWalk.iteOmega]; try go_simp))
   exact hK
  simp only [Pq1]
 refine Walk.tell rfl rfl (fun w1 hI hL K hK => ?_) ?_
 ·go_simp
  exact (fover Y.D Z13 _ _ w1 ((hY.2).ext hI) ((hZ13).ext hI) (up4 by_.d) (Nat.le_trans (siz_gcd (den_ne y)) (up4 by_.d)) (gcd_ne_left (den_ne y))).mono (tell hK)
 rintro _ ⟨Z41, rfl⟩
 simp only [Pq1]
 refine Walk.tell rfl rfl (fun w1 hI hL K hK => ?_) ?_
 ·go_simp
  exact (fproduct Z36 Z41 _ _ w1 ((Tl.getW (kn (i := 15) (v := .agg #[.bool Z36.b, .slice Z36.p Z36.n Z36.c]) rfl (by simp) (pred_of (by as_aux_lemma => kernel_rfl)) hL)).1) ((Tl.getW (kn (i := 20) (v := .agg #[.bool Z41.b, .slice Z41.p Z41.n Z41.c]) rfl (by simp) (pred_of (by as_aux_lemma => kernel_rfl)) hL)).1) (sp bx.d by_.d)).mono (tell hK)
 rintro _ ⟨Z42, rfl⟩
 simp only [Pq1]
 iterate 2
  refine Walk.one (x := ?_) rfl rfl (fun w1 hI hL K hK => ?_) ?_
  rotate_left
  ·obtain ⟨hc, hf⟩ := bcell hI
   go_simp
   repeat (first | (go_ints; try go_simp) | (simp only [↓IntWalk.iteOmega]; try go_simp))
   exact hK
  simp only [Pq1]
 refine Walk.nilF fun w7 ew7 kzL kzX => ?_
 have zw7 := ew7.size
 obtain ⟨hZ31, oZ31⟩ := Tl.getW (kz (i := 10) (v := .agg #[.bool Z31.b, .slice Z31.p Z31.n Z31.c]) rfl (by simp) kzL)
 replace oZ31 := oZ31.mono xw_w6.size
 obtain ⟨hZ42, oZ42⟩ := Tl.getW (kz (i := 21) (v := .agg #[.bool Z42.b, .slice Z42.p Z42.n Z42.c]) rfl (by simp) kzL)
 replace oZ42 := oZ42.mono xw_w6.size
 have aZ31_Z42 : Apt Z31 Z42 := Apt.of (kzX (10, .agg #[.bool Z31.b, .slice Z31.p Z31.n Z31.c]) (by simp) (21, .agg #[.bool Z42.b, .slice Z42.p Z42.n Z42.c]) (by simp) (by simp))
 clear kzL kzX
 simp only [List.drop_succ_cons, List.drop_zero, List.drop_nil]
 replace B3 := B3.ext ew7
 have b3_w7 := B3.c4
 have fb3_w7 := B3.f4
 have xw_w7 := eg xw_w6 ew7
 obtain ⟨w8, hww8, kw8, Nw8, zw8⟩ := B3.put4 (.bool Z31.b) (.slice Z31.p Z31.n Z31.c) (.bool Z42.b) (.slice Z42.p Z42.n Z42.c)
 have nuw8 : NoU #[.bool false, .slice none 0 0, .bool false, .slice none 0 0] := by simp [NoU]
 replace hZ31 := WR.kb hZ31 B3 nuw8 kw8
 replace oZ31 := OW.kb oZ31 B3 (by decide) kw8
 replace hZ42 := WR.kb hZ42 B3 nuw8 kw8
 replace oZ42 := OW.kb oZ42 B3 (by decide) kw8
 have xw_w8 := Ext.kb xw_w7 kw8 (by omega)
 replace B3 := Nw8
 clear Nw8 kw8
 have b3_w8 := B3.c4
 go_wp2_with fail
 clear hww8
 clear b1_w6 b4_w6 b2_w6 b5_w6 b3_w7 fb3_w7
 replace zw8 := le2 zw8
 refine bodyPost_ret (v := .agg #[.bool Z31.b, .slice Z31.p Z31.n Z31.c, .bool Z42.b, .slice Z42.p Z42.n Z42.c]) (by simp [results, Tryz.results132, go_sem, b3_w8]) rfl ?_
 exact Gv.of_f (X := ⟨Z31, Z42⟩) (mkFR (WR.cast hZ31 (mul_num x y)) (WR.cast hZ42 (mul_den x y))) (mkOF oZ31 oZ42 aZ31_Z42) xw_w8

set_option maxRecDepth 100000 in
theorem fplus (X : Fr) (Y : Fr) (x : Rat) (y : Rat) (w : World) (hX : FR w X x) (hY : FR w Y y) (bx : Sz x) (by_ : Sz y) :
    Calls Tryz.prog 129 #[.agg #[.bool X.N.b, .slice X.N.p X.N.n X.N.c, .bool X.D.b, .slice X.D.p X.D.n X.D.c], .agg #[.bool Y.N.b, .slice Y.N.p Y.N.n Y.N.c, .bool Y.D.b, .slice Y.D.p Y.D.n Y.D.c]] w (Gv (.f (x + y)) w) := by
 obtain ⟨w1, hww1, ew1, B1, zw1⟩ := alloc_at w (w.heap.size) (by omega) #[.bool X.N.b, .slice X.N.p X.N.n X.N.c, .bool X.D.b, .slice X.D.p X.D.n X.D.c] 143
 obtain ⟨w2, hww2, ew2, B2, zw2⟩ := alloc_at w1 (w.heap.size + 1) (by omega) #[.bool Y.N.b, .slice Y.N.p Y.N.n Y.N.c, .bool Y.D.b, .slice Y.D.p Y.D.n Y.D.c] 143
 obtain ⟨w3, hww3, ew3, B3, zw3⟩ := alloc_at w2 (w.heap.size + 1 + 1) (by omega) #[.bool false, .slice none 0 0, .bool false, .slice none 0 0] 143
 have xw1_w3 := eg ew2 ew3
 replace B1 := B1.ext xw1_w3
 have b1_w3 := B1.c4
 replace B2 := B2.ext ew3
 have b2_w3 := B2.c4
 have xw_w3 := eg (eg ew1 ew2) ew3
 replace hX := hX.ext xw_w3
 replace hY := hY.ext xw_w3
 go_enter Tryz.func129, Tryz.ntmps129
 go_wp2_with fail
 clear hww1 hww2 hww3
 replace zw1 := le2 zw1
 replace zw2 := le2 zw2
 replace zw3 := le2 zw3
 refine (fcommon X.D Y.D _ _ _ (hX.2) (hY.2) (up4 bx.d) (up4 by_.d)).mono (Gv.onW fun Z15 w4 hZ15 ew4 zw4 => ?_)
 obtain ⟨w5, hww5, ew5, B4, zw5⟩ := alloc_at w4 (w4.heap.size) (by omega) #[.bool Z15.b, .slice Z15.p Z15.n Z15.c] 38
 have xw3_w5 := eg ew4 ew5
 replace B1 := B1.ext xw3_w5
 have b1_w5 := B1.c4
 have b4_w5 := B4.c2
 replace hX := hX.ext xw3_w5
 replace hZ15 := hZ15.ext ew5
 have xw_w5 := eg (eg xw_w3 ew4) ew5
 go_wp2_with fail
 clear hww5
 clear b1_w3 b2_w3
 replace zw5 := le2 zw5
 refine (fover X.D Z15 _ _ _ (hX.2) (hZ15) (up4 bx.d) (Nat.le_trans (siz_gcd (den_ne y)) (up4 by_.d)) (gcd_ne_left (den_ne y))).mono (Gv.onW fun Z20 w6 hZ20 ew6 zw6 => ?_)
 obtain ⟨w7, hww7, ew7, B5, zw7⟩ := alloc_at w6 (w6.heap.size) (by omega) #[.bool Z20.b, .slice Z20.p Z20.n Z20.c] 38
 have xw5_w7 := eg ew6 ew7
 replace B1 := B1.ext xw5_w7
 have b1_w7 := B1.c4
 have xw3_w7 := eg (eg xw3_w5 ew6) ew7
 replace B2 := B2.ext xw3_w7
 have b2_w7 := B2.c4
 replace B4 := B4.ext xw5_w7
 have b4_w7 := B4.c2
 replace hY := hY.ext xw3_w7
 replace hZ15 := hZ15.ext xw5_w7
 replace hX := hX.ext xw5_w7
 have b5_w7 := B5.c2
 replace hZ20 := hZ20.ext ew7
 have xw_w7 := eg (eg xw_w5 ew6) ew7
 go_wp2_with fail
 clear hww7
 clear b1_w5 b4_w5
 replace zw7 := le2 zw7
 refine regionT 16 (fun kk => match kk with | 7 => some (.w (Int.fdiv ((((y).den : Int))) (((Int.gcd ((((x).den : Int))) ((((y).den : Int))) : Nat))))) | 8 => some (.w ((x).num * (Int.fdiv ((((y).den : Int))) (((Int.gcd ((((x).den : Int))) ((((y).den : Int))) : Nat)))))) | 13 => some (.w ((y).num * (Int.fdiv ((((x).den : Int))) (((Int.gcd ((((x).den : Int))) ((((y).den : Int))) : Nat)))))) | 14 => some (.w (sN x y)) | 15 => some (.box 38 #[.bool false, .slice none 0 0]) | _ => none) (by as_aux_lemma => kernel_rfl) (head_of (by as_aux_lemma => kernel_rfl)) ?_
 iterate 7
  refine Walk.one (x := ?_) rfl rfl (fun w1 hI hL K hK => ?_) ?_
  rotate_left
  ·obtain ⟨hc, hf⟩ := bcell hI
   go_simp
   repeat (first | (go_ints; try go_simp) | (simp only [↓IntWalk.iteOmega]; try go_simp))
   exact hK
  simp only [Pq1]
 refine Walk.tell rfl rfl (fun w1 hI hL K hK => ?_) ?_
 ·go_simp
  exact (fover Y.D Z15 _ _ w1 ((hY.2).ext hI) ((hZ15).ext hI) (up4 by_.d) (Nat.le_trans (siz_gcd (den_ne y)) (up4 by_.d)) (gcd_ne_left (den_ne y))).mono (tell hK)
 rintro _ ⟨Z28, rfl⟩
 simp only [Pq1]
 refine Walk.tell rfl rfl (fun w1 hI hL K hK => ?_) ?_
 ·go_simp
  exact (fproduct X.N Z28 _ _ w1 ((hX.1).ext hI) ((Tl.getW (kn (i := 7) (v := .agg #[.bool Z28.b, .slice Z28.p Z28.n Z28.c]) rfl (by simp) (pred_of (by as_aux_lemma => kernel_rfl)) hL)).1) (sp2 bx.n by_.d)).mono (tell hK)
 rintro _ ⟨Z29, rfl⟩
 simp only [Pq1]
 iterate 4
  refine Walk.one (x := ?_) rfl rfl (fun w1 hI hL K hK => ?_) ?_
  rotate_left
  ·obtain ⟨hc, hf⟩ := bcell hI
   go_simp
   repeat (first | (go_ints; try go_simp) | (simp only [↓IntWalk.iteOmega]; try go_simp))
   exact hK
  simp only [Pq1]
 refine Walk.tell rfl rfl (fun w1 hI hL K hK => ?_) ?_
 ·go_simp
  exact (fproduct Y.N Z20 _ _ w1 ((hY.1).ext hI) ((hZ20).ext hI) (sp2 by_.n bx.d)).mono (tell hK)
 rintro _ ⟨Z34, rfl⟩
 simp only [Pq1]
 refine Walk.tell rfl rfl (fun w1 hI hL K hK => ?_) ?_
 ·go_simp
  exact (fsum Z29 Z34 _ _ w1 ((Tl.getW (kn (i := 8) (v := .agg #[.bool Z29.b, .slice Z29.p Z29.n Z29.c]) rfl (by simp) (pred_of (by as_aux_lemma => kernel_rfl)) hL)).1) ((Tl.getW (kn (i := 13) (v := .agg #[.bool Z34.b, .slice Z34.p Z34.n Z34.c]) rfl (by simp) (pred_of (by as_aux_lemma => kernel_rfl)) hL)).1) (sp3 bx.n by_.d) (sp3 by_.n bx.d)).mono (tell hK)
 rintro _ ⟨Z35, rfl⟩
 simp only [Pq1]
 refine Walk.tell rfl rfl (fun w1 hI hL K hK => ?_) ?_
 ·go_simp
  exact tellB hK
 rintro _ ⟨g7, rfl⟩
 simp only [Pq1]
 refine Walk.nilF fun w8 ew8 kzL kzX => ?_
 have zw8 := ew8.size
 obtain ⟨hZ35, -⟩ := Tl.getW (kz (i := 14) (v := .agg #[.bool Z35.b, .slice Z35.p Z35.n Z35.c]) rfl (by simp) kzL)
 obtain ⟨B6, yB6⟩ := Tl.getB (kz (i := 15) (v := .pointer (some ⟨g7, 0, none⟩)) rfl (by simp) kzL)
 have lB6 := B6.lt
 clear kzL kzX
 simp only [List.drop_succ_cons, List.drop_zero, List.drop_nil]
 have b6_w8 := B6.c2
 have fb6_w8 := B6.f2
 replace hY := hY.ext ew8
 replace B2 := B2.ext ew8
 have xw3_w8 := eg xw3_w7 ew8
 replace B3 := B3.ext xw3_w8
 replace hZ15 := hZ15.ext ew8
 replace B4 := B4.ext ew8
 replace hZ20 := hZ20.ext ew8
 replace B5 := B5.ext ew8
 have xw_w8 := eg xw_w7 ew8
 obtain ⟨w9, hww9, kw9, Nw9, zw9⟩ := B6.put2 (.bool Z35.b) (.slice Z35.p Z35.n Z35.c)
 have nuw9 : NoU #[.bool false, .slice none 0 0] := by simp [NoU]
 replace hY := FR.kb hY B6 nuw9 kw9
 replace B2 := B2.kb kw9 (by omega)
 replace B3 := B3.kb kw9 (by omega)
 replace hZ15 := WR.kb hZ15 B6 nuw9 kw9
 replace B4 := B4.kb kw9 (by omega)
 replace hZ20 := WR.kb hZ20 B6 nuw9 kw9
 replace B5 := B5.kb kw9 (by omega)
 replace hZ35 := WR.kb hZ35 B6 nuw9 kw9
 have xw_w9 := Ext.kb xw_w8 kw9 (by omega)
 replace B6 := Nw9
 clear Nw9 kw9
 have b6_w9 := B6.c2
 have b4_w9 := B4.c2
 go_wp2_with fail
 clear hww9
 clear b1_w7 b2_w7 b4_w7 b5_w7 b6_w8 fb6_w8
 replace zw9 := le2 zw9
 refine (fcommon Z35 Z15 _ _ _ (hZ35) (hZ15) (sp4 bx by_) (Nat.le_trans (siz_gcd (den_ne y)) (up4 by_.d))).mono (Gv.onW fun Z38 w10 hZ38 ew10 zw10 => ?_)
 obtain ⟨w11, hww11, ew11, B7, zw11⟩ := alloc_at w10 (w10.heap.size) (by omega) #[.bool Z38.b, .slice Z38.p Z38.n Z38.c] 38
 have xw9_w11 := eg ew10 ew11
 replace B6 := B6.ext xw9_w11
 have b6_w11 := B6.c2
 have b7_w11 := B7.c2
 replace hZ35 := hZ35.ext xw9_w11
 replace hZ38 := hZ38.ext ew11
 replace B5 := B5.ext xw9_w11
 have b5_w11 := B5.c2
 replace B2 := B2.ext xw9_w11
 have b2_w11 := B2.c4
 replace hY := hY.ext xw9_w11
 replace hZ20 := hZ20.ext xw9_w11
 have xw_w11 := eg (eg xw_w9 ew10) ew11
 go_wp2_with fail
 clear hww11
 clear b6_w9 b4_w9
 replace zw11 := le2 zw11
 refine regionT 12 (fun kk => match kk with | 2 => some (.w (Int.fdiv ((sN x y)) (((Int.gcd ((sN x y)) (((Int.gcd ((((x).den : Int))) ((((y).den : Int))) : Nat))) : Nat))))) | 8 => some (.w (Int.fdiv ((((y).den : Int))) (((Int.gcd ((sN x y)) (((Int.gcd ((((x).den : Int))) ((((y).den : Int))) : Nat))) : Nat))))) | 9 => some (.w ((Int.fdiv ((((x).den : Int))) (((Int.gcd ((((x).den : Int))) ((((y).den : Int))) : Nat)))) * (Int.fdiv ((((y).den : Int))) (((Int.gcd ((sN x y)) (((Int.gcd ((((x).den : Int))) ((((y).den : Int))) : Nat))) : Nat)))))) | _ => none) (by as_aux_lemma => kernel_rfl) (head_of (by as_aux_lemma => kernel_rfl)) ?_
 iterate 2
  refine Walk.one (x := ?_) rfl rfl (fun w1 hI hL K hK => ?_) ?_
  rotate_left
  ·obtain ⟨hc, hf⟩ := bcell hI
   go_simp
   repeat (first | (go_ints; try go_simp) | (simp only [↓IntWalk.iteOmega]; try go_simp))
   exact hK
  simp only [Pq1]
 refine Walk.tell rfl rfl (fun w1 hI hL K hK => ?_) ?_
 ·go_simp
  exact (fover Z35 Z38 _ _ w1 ((hZ35).ext hI) ((hZ38).ext hI) (sp4 bx by_) (Nat.le_trans (siz_gcd (gcd_ne_left (den_ne y))) (Nat.le_trans (siz_gcd (den_ne y)) (up4 by_.d))) (g2_ne x y)).mono (tell hK)
 rintro _ ⟨Z41, rfl⟩
 simp only [Pq1]
 iterate 5
  refine Walk.one (x := ?_) rfl rfl (fun w1 hI hL K hK => ?_) ?_
  rotate_left
  ·obtain ⟨hc, hf⟩ := bcell hI
   go_simp
   repeat (first | (go_ints; try go_simp) | (simp only [↓IntWalk.iteOmega]; try go_simp))
   exact hK
  simp only [Pq1]
 refine Walk.tell rfl rfl (fun w1 hI hL K hK => ?_) ?_
 ·go_simp
  exact (fover Y.D Z38 _ _ w1 ((hY.2).ext hI) ((hZ38).ext hI) (up4 by_.d) (Nat.le_trans (siz_gcd (gcd_ne_left (den_ne y))) (Nat.le_trans (siz_gcd (den_ne y)) (up4 by_.d))) (g2_ne x y)).mono (tell hK)
 rintro _ ⟨Z47, rfl⟩
 simp only [Pq1]
 refine Walk.tell rfl rfl (fun w1 hI hL K hK => ?_) ?_
 ·go_simp
  exact (fproduct Z20 Z47 _ _ w1 ((hZ20).ext hI) ((Tl.getW (kn (i := 8) (v := .agg #[.bool Z47.b, .slice Z47.p Z47.n Z47.c]) rfl (by simp) (pred_of (by as_aux_lemma => kernel_rfl)) hL)).1) (sp bx.d by_.d)).mono (tell hK)
 rintro _ ⟨Z48, rfl⟩
 simp only [Pq1]
 iterate 2
  refine Walk.one (x := ?_) rfl rfl (fun w1 hI hL K hK => ?_) ?_
  rotate_left
  ·obtain ⟨hc, hf⟩ := bcell hI
   go_simp
   repeat (first | (go_ints; try go_simp) | (simp only [↓IntWalk.iteOmega]; try go_simp))
   exact hK
  simp only [Pq1]
 refine Walk.nilF fun w12 ew12 kzL kzX => ?_
 have zw12 := ew12.size
 obtain ⟨hZ41, oZ41⟩ := Tl.getW (kz (i := 2) (v := .agg #[.bool Z41.b, .slice Z41.p Z41.n Z41.c]) rfl (by simp) kzL)
 replace oZ41 := oZ41.mono xw_w11.size
 obtain ⟨hZ48, oZ48⟩ := Tl.getW (kz (i := 9) (v := .agg #[.bool Z48.b, .slice Z48.p Z48.n Z48.c]) rfl (by simp) kzL)
 replace oZ48 := oZ48.mono xw_w11.size
 have aZ41_Z48 : Apt Z41 Z48 := Apt.of (kzX (2, .agg #[.bool Z41.b, .slice Z41.p Z41.n Z41.c]) (by simp) (9, .agg #[.bool Z48.b, .slice Z48.p Z48.n Z48.c]) (by simp) (by simp))
 clear kzL kzX
 simp only [List.drop_succ_cons, List.drop_zero, List.drop_nil]
 have xw9_w12 := eg xw9_w11 ew12
 replace B3 := B3.ext xw9_w12
 have b3_w12 := B3.c4
 have fb3_w12 := B3.f4
 have xw_w12 := eg xw_w11 ew12
 obtain ⟨w13, hww13, kw13, Nw13, zw13⟩ := B3.put4 (.bool Z41.b) (.slice Z41.p Z41.n Z41.c) (.bool Z48.b) (.slice Z48.p Z48.n Z48.c)
 have nuw13 : NoU #[.bool false, .slice none 0 0, .bool false, .slice none 0 0] := by simp [NoU]
 replace hZ41 := WR.kb hZ41 B3 nuw13 kw13
 replace oZ41 := OW.kb oZ41 B3 (by decide) kw13
 replace hZ48 := WR.kb hZ48 B3 nuw13 kw13
 replace oZ48 := OW.kb oZ48 B3 (by decide) kw13
 have xw_w13 := Ext.kb xw_w12 kw13 (by omega)
 replace B3 := Nw13
 clear Nw13 kw13
 have b3_w13 := B3.c4
 go_wp2_with fail
 clear hww13
 clear b6_w11 b7_w11 b5_w11 b2_w11 b3_w12 fb3_w12
 replace zw13 := le2 zw13
 refine bodyPost_ret (v := .agg #[.bool Z41.b, .slice Z41.p Z41.n Z41.c, .bool Z48.b, .slice Z48.p Z48.n Z48.c]) (by simp [results, Tryz.results129, go_sem, b3_w13]) rfl ?_
 exact Gv.of_f (X := ⟨Z41, Z48⟩) (mkFR (WR.cast hZ41 (add_num x y)) (WR.cast hZ48 (add_den x y))) (mkOF oZ41 oZ48 aZ41_Z48) xw_w13
end Go.Proofs.YtndgaecfeaedeaaGreat
