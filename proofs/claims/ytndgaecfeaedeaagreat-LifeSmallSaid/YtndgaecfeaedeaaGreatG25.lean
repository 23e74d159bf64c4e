/- The second table of LifeLighter: its rates, that they are short enough, that they make a valid table. No condition: plain laws. Walks of the law on lives: Large, usable. Walks of the law on lives: the examples. Walks of the law on lives: usable. -/
import Derived.Test.YtndgaecfeaedeaaGreatG22
import Derived.Test.YtndgaecfeaedeaaGreatG24
set_option linter.unusedSimpArgs false
set_option linter.unusedVariables false
namespace Go.Proofs.YtndgaecfeaedeaaGreat
open Go.RowKit Lex Mth

/-- Short enough for a rate. -/
def shQ (x : Rat) : Bool := decide (siz x.num.natAbs ≤ 1) && decide (siz x.den ≤ 1)
def upQ (p q : Rat) : Rat := q + (1 - q) * p
def upR (p q : Rat) : Rat := if shQ (upQ p q) then upQ p q else q
/-- A rate. -/
structure Rq (q : Rat) : Prop where
 sz : Sz q
 den : q.den < 65536
 nonneg : 0 ≤ q
 le : q ≤ 1
theorem Rq.sm {q : Rat} (h : Rq q) : Sm q q.den 1 := ⟨Nat.dvd_refl _, h.nonneg, by rw [natCast_one]; exact h.le⟩
structure UpS (p q : Rat) : Prop where
 sq : Sz q
 sn : Sz (1 - q)
 sp : Sz p
 sm : Sz ((1 - q) * p)
 su : Sz (upQ p q)
theorem up_sz {p q : Rat} (hp : Rq p) (hq : Rq q) : UpS p q := by
 have s1 := hq.sm
 have s2 := s1.not q.den_nz
 have s3 := hp.sm
 have s4 : Sm ((1 - q) * p) (q.den * p.den) 1 := s2.mul s3
 have hD : 0 < q.den * p.den := Nat.mul_pos (Nat.pos_of_ne_zero q.den_nz) (Nat.pos_of_ne_zero p.den_nz)
 have s5 : Sm (q + (1 - q) * p) (q.den * p.den) 2 := (s1.dvd' (Nat.dvd_mul_right _ _)).add (by omega) s4
 have z1 : siz q.den ≤ 1 := siz_one.2 hq.den
 have z2 : siz p.den ≤ 1 := siz_one.2 hp.den
 have z3 := siz_mul q.den p.den
 have z4 : siz 1 ≤ 1 := siz_one.2 (by omega)
 have z5 : siz 2 ≤ 1 := siz_one.2 (by omega)
 exact ⟨hq.sz, s2.sz (Nat.pos_of_ne_zero q.den_nz) (by omega), hp.sz, s4.sz hD (by omega), s5.sz hD (by omega)⟩
theorem upR_rq {p q : Rat} (hp : Rq p) (hq : Rq q) : Rq (upR p q) ∧ q ≤ upR p q := by
 unfold upR
 split
 ·rename_i h
  unfold shQ at h
  simp only [Bool.and_eq_true, decide_eq_true_eq] at h
  have h1 : q ≤ upQ p q := up_ge hq.le hp.nonneg
  exact ⟨⟨(up_sz hp hq).su, siz_one.1 h.2, Rat.le_trans hq.nonneg h1, up_le hq.le hp.le⟩, h1⟩
 ·exact ⟨hq, Rat.le_refl⟩
theorem upR_one (p : Rat) : upR p 1 = 1 := by
 have h : upQ p 1 = 1 := by unfold upQ; grind
 unfold upR
 rw [h]; simp
/-- What has been written when the loops stand at (i, j). -/
def Qs (p : Rat) (R : Nat → Nat → Rat) (i j k l : Nat) : Rat := if k < i ∨ (k = i ∧ l < j) then upR p (R k l) else R k l
theorem OQ.table {B : Nat} {w0 w : World} {T : Tb} {R Q : Nat → Nat → Rat} {g c : Nat} {rb rc : Nat → Nat} (hT : TQ w0 T R) (h : OQ B w T g rb rc Q) (hc : T.N ≤ c) (hQ : ∀ k, k < T.N → ∀ j, j < T.rn k → Rq (Q k j)) (h1 : Q (T.N - 1) T.sel.toNat = 1) (hle : ∀ k, k < T.N → ∀ j, j < T.rn k → R k j ≤ Q k j) :
    ∃ T' : Tb, T'.val = .agg #[.int .i64 T.first, .int .i64 T.sel, .slice (some ⟨g, 0, none⟩) T.N c] ∧ TQ w T' Q ∧ Worse T T' R Q ∧ okT T' = true := by
 obtain ⟨E, hE, hF⟩ := h
 have hb := hT.b
 have hb' := hT.b
 unfold boundsOk at hb'
 have tw := hT.tw
 let T' : Tb := ⟨T.first, T.sel, some ⟨g, 0, none⟩, T.N, c, fun k => some ⟨rb k, 0, none⟩, T.rn, rc, E, fun k j => limbs (Q k j).num.natAbs, fun k j => limbs (Q k j).den⟩
 have tw' : TW w T' := ⟨tw.f1, tw.f2, tw.s1, tw.s2, Has.some _ _, hc, tw.reach, fun k hk => by show w.cell? (at_ (some ⟨g, 0, none⟩) k) = _; rw [at_zero]; exact hE.sl k hk,
  fun k hk => ⟨Has.some _ _, hE.le k hk, by have := hT.rn k hk; show T.rn k ≤ _; omega, fun j hj => by
   obtain ⟨c0, c1, c2, c3⟩ := hE.cells hk hj
   exact ⟨by show w.cell? (at_ (some ⟨rb k, 0, none⟩) _) = _; rw [at_zero]; exact c0, by show w.cell? (at_ (some ⟨rb k, 0, none⟩) _) = _; rw [at_zero]; exact c1, by show w.cell? (at_ (some ⟨rb k, 0, none⟩) _) = _; rw [at_zero]; exact c2, by show w.cell? (at_ (some ⟨rb k, 0, none⟩) _) = _; rw [at_zero]; exact c3⟩⟩,
  fun k hk j hj => ⟨(hF k hk j hj).1.1.u16.2, (hF k hk j hj).1.2.u16.2⟩⟩
 have tq : TQ w T' Q := ⟨tw', hb, hT.rn, fun k hk j hj => (hF k hk j hj).1, fun k hk j hj => ⟨(hQ k hk j hj).sz, (hQ k hk j hj).den, (hQ k hk j hj).nonneg, (hQ k hk j hj).le⟩⟩
 refine ⟨T', rfl, tq, ⟨rfl, rfl, rfl, fun k hk j hj => hle k hk j (by have := hT.rn k hk; omega)⟩, okT_iff.2 ⟨hb, fun k hk => ⟨hT.rn k hk, fun j hj => okR_of (hF k hk j hj).1 (hQ k hk j hj).sz (hQ k hk j hj).den (hQ k hk j hj).nonneg (hQ k hk j hj).le⟩, ?_⟩⟩
 show val (limbs (Q (T.N - 1) T.sel.toNat).num.natAbs) = val (limbs (Q (T.N - 1) T.sel.toNat).den)
 rw [h1]; rfl
theorem TQ.last {w : World} {T : Tb} {R : Nat → Nat → Rat} (hT : TQ w T R) (ok : okT T = true) : R (T.N - 1) T.sel.toNat = 1 := by
 have hb := hT.b
 unfold boundsOk at hb
 have hN : T.N - 1 < T.N := by omega
 have hj : T.sel.toNat < T.rn (T.N - 1) := by have := hT.rn (T.N - 1) hN; omega
 have h := (okT_iff.1 ok).2.2
 exact eqQ_iff.1 ((eq_one_iff (hT.tw.raw _ hN _ hj) (hT.q _ hN _ hj) (hT.sz _ hN _ hj).2.2.1).2 h)
end Go.Proofs.YtndgaecfeaedeaaGreat
namespace Go.Proofs.YtndgaecfeaedeaaGreat
open Go.RowKit Lex Mth
attribute [local go_sem] run_indexAt_at add_zero_map Oper.semAt_some at_zero at_add at_mk1 at_mk2 at_mk3

/-- What Large looks at. -/
def LargeT (T : Tb) (rows width limbs : Nat) : Prop := rows < T.N ∨ ∃ k, k < T.N ∧ ∃ j, j < T.rn k ∧ (width ≤ j ∨ limbs < (T.el k j).N.n ∨ limbs < (T.el k j).D.n)
noncomputable def largeT (T : Tb) (rows width limbs : Nat) : Bool := @decide (LargeT T rows width limbs) (Classical.propDecidable _)
end Go.Proofs.YtndgaecfeaedeaaGreat
namespace Go.Proofs.YtndgaecfeaedeaaGreat
open Go.RowKit Lex Mth
attribute [local go_sem] run_indexAt_at add_zero_map Oper.semAt_some at_zero at_add at_mk1 at_mk2 at_mk3

section
variable {T : Tb} {R : Nat → Nat → Rat} (s : Sml T R)
theorem Sml.okL (s : Sml T R) {e y : Int} (h : 60 ≤ e ∧ e ≤ 62 ∧ 0 ≤ y ∧ y ≤ 300) : okL T e y = true := by
 unfold Go.Proofs.YtndgaecfeaedeaaGreat.okL
 rw [s.ok, s.first, s.N]
 simp only [Bool.true_and, Bool.and_eq_true, decide_eq_true_eq]
 omega
theorem Sml.rt_a (s : Sml T R) : rt T R 60 0 = 1 / 10 := by unfold rt; rw [s.first, s.N, s.sel]; simp [s.r00]
theorem Sml.rt_b (s : Sml T R) : rt T R 60 1 = 1 / 2 := by unfold rt; rw [s.first, s.N, s.sel]; simp [s.r11]
theorem Sml.rt_c (s : Sml T R) : rt T R 60 2 = 1 := by unfold rt; rw [s.first, s.N, s.sel]; simp [s.r21]
theorem Sml.rt_e (s : Sml T R) : rt T R 62 0 = 1 / 4 := by unfold rt; rw [s.first, s.N, s.sel]; simp [s.r20]
theorem Sml.al1 (s : Sml T R) : lal T R 60 0 1 = 9 / 10 := by simp only [lal, al]; simp only [Int.natCast_zero, Int.add_zero, s.rt_a]; grind
theorem Sml.al2 (s : Sml T R) : lal T R 60 0 2 = 9 / 20 := by
 have h1 := s.al1
 simp only [lal] at h1 ⊢
 rw [al, h1]
 have : rt T R 60 (0 + ((1 : Nat) : Int)) = 1 / 2 := s.rt_b
 rw [this]; grind
theorem Sml.al3 (s : Sml T R) : lal T R 60 0 3 = 0 := by
 have h1 := s.al2
 simp only [lal] at h1 ⊢
 rw [al, h1]
 have : rt T R 60 (0 + ((2 : Nat) : Int)) = 1 := s.rt_c
 rw [this]; grind
theorem Sml.al4 (s : Sml T R) : lal T R 60 0 4 = 0 := by
 have h1 := s.al3
 simp only [lal] at h1 ⊢
 rw [al, h1]; grind
theorem Sml.bl1 (s : Sml T R) : lal T R 62 0 1 = 3 / 4 := by simp only [lal, al]; simp only [Int.natCast_zero, Int.add_zero, s.rt_e]; grind
theorem Sml.dq1 (s : Sml T R) : ldq T R 60 0 1 = 9 / 20 := by
 unfold ldq
 rw [s.al1]
 have : rt T R 60 (0 + ((1 : Nat) : Int)) = 1 / 2 := s.rt_b
 rw [this]; grind
theorem Sml.ex (s : Sml T R) : lex T R 60 0 = 27 / 20 := by
 have h0 : yN T 60 0 = 3 := by unfold yN; rw [s.first, s.N]; rfl
 have h1 := s.al1
 have h2 := s.al2
 have h3 := s.al3
 have h4 := s.al4
 unfold lex
 rw [h0]
 simp only [es]
 simp only [lal] at h1 h2 h3 h4
 rw [h1, h2, h3, h4]; grind
end
theorem eqv {x : Rat} {n d : Int} (h : x = (n : Rat) / (d : Rat)) : eqQ x (Rat.divInt n d) = true := by rw [eqQ_iff, Rat.divInt_eq_div, h]

set_option maxRecDepth 100000 in
set_option maxHeartbeats 4000000 in
theorem nawake (w : World) :
    Calls Tryz.prog 9 #[] w (Gv (.v (.bool true)) w) := by
 go_enter Tryz.func9, Tryz.ntmps9
 go_wp2_with fail
 refine (nsmall _).mono ?_
 intro ee w1 gg
 obtain ⟨T, R, rfl, hT, sm, ew1⟩ := gg
 have zw1 := ew1.size
 obtain ⟨w2, hww2, ew2, B1, zw2⟩ := alloc_at w1 (w1.heap.size) (by omega) #[.int .i64 0, .int .i64 0, .slice none 0 0] 24
 obtain ⟨w3, hww3, ew3, B2, zw3⟩ := alloc_at w2 (w1.heap.size + 1) (by omega) #[.int .i64 0, .int .i64 0] 26
 obtain ⟨w4, hww4, ew4, B3, zw4⟩ := alloc_at w3 (w1.heap.size + 1 + 1) (by omega) #[.int .i64 0, .int .i64 0] 26
 have xw2_w4 := eg ew3 ew4
 replace B1 := B1.ext xw2_w4
 have b1_w4 := B1.c3
 have fb1_w4 := B1.f3
 replace B2 := B2.ext ew4
 have xw_w4 := eg (eg (eg ew1 ew2) ew3) ew4
 have xw1_w4 := eg (eg ew2 ew3) ew4
 obtain ⟨w5, hww5, kw5, Nw5, zw5⟩ := B1.put3 (.int .i64 T.first) (.int .i64 T.sel) (.slice T.P T.N T.C)
 replace B2 := B2.kb kw5 (by omega)
 replace B3 := B3.kb kw5 (by omega)
 have xw_w5 := Ext.kb xw_w4 kw5 (by omega)
 have xw1_w5 := Ext.kb xw1_w4 kw5 (by omega)
 replace B1 := Nw5
 clear Nw5 kw5
 have b2_w5 := B2.c2
 have fb2_w5 := B2.f2
 obtain ⟨w6, hww6, kw6, Nw6, zw6⟩ := B2.put2 (.int .i64 60) (.int .i64 0)
 replace B1 := B1.kb kw6 (by omega)
 replace B3 := B3.kb kw6 (by omega)
 have xw_w6 := Ext.kb xw_w5 kw6 (by omega)
 have xw1_w6 := Ext.kb xw1_w5 kw6 (by omega)
 replace B2 := Nw6
 clear Nw6 kw6
 have b3_w6 := B3.c2
 have fb3_w6 := B3.f2
 obtain ⟨w7, hww7, kw7, Nw7, zw7⟩ := B3.put2 (.int .i64 62) (.int .i64 0)
 replace B1 := B1.kb kw7 (by omega)
 replace B2 := B2.kb kw7 (by omega)
 have xw_w7 := Ext.kb xw_w6 kw7 (by omega)
 have xw1_w7 := Ext.kb xw1_w6 kw7 (by omega)
 replace B3 := Nw7
 clear Nw7 kw7
 have b1_w7 := B1.c3
 go_wp2_with fail
 clear hww2 hww3 hww4 hww5 hww6 hww7
 clear b1_w4 fb1_w4 b2_w5 fb2_w5 b3_w6 fb3_w6
 replace zw2 := le2 zw2
 replace zw3 := le2 zw3
 replace zw4 := le2 zw4
 replace zw5 := le2 zw5
 replace zw6 := le2 zw6
 replace zw7 := le2 zw7
 refine (lRate T R 60 1 _ (hT.ext xw1_w7) (sm.okL (by decide))).mono (Gv.onFe fun Z28 w8 hZ28 ew8 zw8 => ?_)
 obtain ⟨w9, hww9, ew9, B4, zw9⟩ := alloc_at w8 (w8.heap.size) (by omega) #[.bool Z28.N.b, .slice Z28.N.p Z28.N.n Z28.N.c, .bool Z28.D.b, .slice Z28.D.p Z28.D.n Z28.D.c] 40
 have xw7_w9 := eg ew8 ew9
 replace B1 := B1.ext xw7_w9
 have b1_w9 := B1.c3
 replace B2 := B2.ext xw7_w9
 have b2_w9 := B2.c2
 have xw1_w9 := eg (eg xw1_w7 ew8) ew9
 have xw_w9 := eg (eg xw_w7 ew8) ew9
 go_wp2_with fail
 clear hww9
 clear b1_w7
 replace zw9 := le2 zw9
 refine (lAlive T R 60 0 2 _ (hT.ext xw1_w9) (sm.okL (by decide)) (by decide)).mono (Gv.onFe fun Z34 w10 hZ34 ew10 zw10 => ?_)
 obtain ⟨w11, hww11, ew11, B5, zw11⟩ := alloc_at w10 (w10.heap.size) (by omega) #[.bool Z34.N.b, .slice Z34.N.p Z34.N.n Z34.N.c, .bool Z34.D.b, .slice Z34.D.p Z34.D.n Z34.D.c] 40
 have xw9_w11 := eg ew10 ew11
 replace B1 := B1.ext xw9_w11
 have b1_w11 := B1.c3
 replace B2 := B2.ext xw9_w11
 have b2_w11 := B2.c2
 have xw1_w11 := eg (eg xw1_w9 ew10) ew11
 have xw_w11 := eg (eg xw_w9 ew10) ew11
 go_wp2_with fail
 clear hww11
 clear b1_w9 b2_w9
 replace zw11 := le2 zw11
 refine (lAlive T R 60 0 3 _ (hT.ext xw1_w11) (sm.okL (by decide)) (by decide)).mono (Gv.onFe fun Z40 w12 hZ40 ew12 zw12 => ?_)
 obtain ⟨w13, hww13, ew13, B6, zw13⟩ := alloc_at w12 (w12.heap.size) (by omega) #[.bool Z40.N.b, .slice Z40.N.p Z40.N.n Z40.N.c, .bool Z40.D.b, .slice Z40.D.p Z40.D.n Z40.D.c] 40
 have xw11_w13 := eg ew12 ew13
 replace B1 := B1.ext xw11_w13
 have b1_w13 := B1.c3
 replace B2 := B2.ext xw11_w13
 have b2_w13 := B2.c2
 have xw1_w13 := eg (eg xw1_w11 ew12) ew13
 have xw_w13 := eg (eg xw_w11 ew12) ew13
 go_wp2_with fail
 clear hww13
 clear b1_w11 b2_w11
 replace zw13 := le2 zw13
 refine (lDies T R 60 0 1 _ (hT.ext xw1_w13) (sm.okL (by decide)) (by decide)).mono (Gv.onFe fun Z46 w14 hZ46 ew14 zw14 => ?_)
 obtain ⟨w15, hww15, ew15, B7, zw15⟩ := alloc_at w14 (w14.heap.size) (by omega) #[.bool Z46.N.b, .slice Z46.N.p Z46.N.n Z46.N.c, .bool Z46.D.b, .slice Z46.D.p Z46.D.n Z46.D.c] 40
 have xw13_w15 := eg ew14 ew15
 replace B1 := B1.ext xw13_w15
 have b1_w15 := B1.c3
 replace B2 := B2.ext xw13_w15
 have b2_w15 := B2.c2
 have xw1_w15 := eg (eg xw1_w13 ew14) ew15
 have xw_w15 := eg (eg xw_w13 ew14) ew15
 go_wp2_with fail
 clear hww15
 clear b1_w13 b2_w13
 replace zw15 := le2 zw15
 refine (lExpect T R 60 0 _ (hT.ext xw1_w15) (sm.okL (by decide))).mono (Gv.onFe fun Z52 w16 hZ52 ew16 zw16 => ?_)
 obtain ⟨w17, hww17, ew17, B8, zw17⟩ := alloc_at w16 (w16.heap.size) (by omega) #[.bool Z52.N.b, .slice Z52.N.p Z52.N.n Z52.N.c, .bool Z52.D.b, .slice Z52.D.p Z52.D.n Z52.D.c] 40
 have xw15_w17 := eg ew16 ew17
 replace B1 := B1.ext xw15_w17
 have b1_w17 := B1.c3
 have xw7_w17 := eg (eg (eg (eg (eg (eg (eg (eg xw7_w9 ew10) ew11) ew12) ew13) ew14) ew15) ew16) ew17
 replace B3 := B3.ext xw7_w17
 have b3_w17 := B3.c2
 have xw1_w17 := eg (eg xw1_w15 ew16) ew17
 have xw_w17 := eg (eg xw_w15 ew16) ew17
 go_wp2_with fail
 clear hww17
 clear b1_w15 b2_w15
 replace zw17 := le2 zw17
 refine (lRate T R 62 0 _ (hT.ext xw1_w17) (sm.okL (by decide))).mono (Gv.onFe fun Z58 w18 hZ58 ew18 zw18 => ?_)
 obtain ⟨w19, hww19, ew19, B9, zw19⟩ := alloc_at w18 (w18.heap.size) (by omega) #[.bool Z58.N.b, .slice Z58.N.p Z58.N.n Z58.N.c, .bool Z58.D.b, .slice Z58.D.p Z58.D.n Z58.D.c] 40
 have xw17_w19 := eg ew18 ew19
 replace B1 := B1.ext xw17_w19
 have b1_w19 := B1.c3
 have xw15_w19 := eg (eg xw15_w17 ew18) ew19
 replace B2 := B2.ext xw15_w19
 have b2_w19 := B2.c2
 replace B3 := B3.ext xw17_w19
 have b3_w19 := B3.c2
 have xw1_w19 := eg (eg xw1_w17 ew18) ew19
 have xw_w19 := eg (eg xw_w17 ew18) ew19
 go_wp2_with fail
 clear hww19
 clear b1_w17 b3_w17
 replace zw19 := le2 zw19
 refine (lBoth T R 60 0 62 0 1 _ (hT.ext xw1_w19) (sm.okL (by decide)) (sm.okL (by decide)) (by decide)).mono (Gv.onFe fun Z65 w20 hZ65 ew20 zw20 => ?_)
 obtain ⟨w21, hww21, ew21, B10, zw21⟩ := alloc_at w20 (w20.heap.size) (by omega) #[.bool Z65.N.b, .slice Z65.N.p Z65.N.n Z65.N.c, .bool Z65.D.b, .slice Z65.D.p Z65.D.n Z65.D.c] 40
 have xw19_w21 := eg ew20 ew21
 replace B1 := B1.ext xw19_w21
 have b1_w21 := B1.c3
 replace B2 := B2.ext xw19_w21
 have b2_w21 := B2.c2
 replace B3 := B3.ext xw19_w21
 have b3_w21 := B3.c2
 have xw1_w21 := eg (eg xw1_w19 ew20) ew21
 have xw_w21 := eg (eg xw_w19 ew20) ew21
 go_wp2_with fail
 clear hww21
 clear b1_w19 b2_w19 b3_w19
 replace zw21 := le2 zw21
 refine (lEither T R 60 0 62 0 1 _ (hT.ext xw1_w21) (sm.okL (by decide)) (sm.okL (by decide)) (by decide)).mono (Gv.onFe fun Z72 w22 hZ72 ew22 zw22 => ?_)
 obtain ⟨w23, hww23, ew23, B11, zw23⟩ := alloc_at w22 (w22.heap.size) (by omega) #[.bool Z72.N.b, .slice Z72.N.p Z72.N.n Z72.N.c, .bool Z72.D.b, .slice Z72.D.p Z72.D.n Z72.D.c] 40
 have xw21_w23 := eg ew22 ew23
 replace B1 := B1.ext xw21_w23
 have b1_w23 := B1.c3
 replace B2 := B2.ext xw21_w23
 have b2_w23 := B2.c2
 replace B3 := B3.ext xw21_w23
 have b3_w23 := B3.c2
 have xw1_w23 := eg (eg xw1_w21 ew22) ew23
 have xw_w23 := eg (eg xw_w21 ew22) ew23
 go_wp2_with fail
 clear hww23
 clear b1_w21 b2_w21 b3_w21
 replace zw23 := le2 zw23
 refine (lLeft T R 60 0 62 0 1 _ (hT.ext xw1_w23) (sm.okL (by decide)) (sm.okL (by decide)) (by decide)).mono (Gv.onFe fun Z79 w24 hZ79 ew24 zw24 => ?_)
 obtain ⟨w25, hww25, ew25, B12, zw25⟩ := alloc_at w24 (w24.heap.size) (by omega) #[.bool Z79.N.b, .slice Z79.N.p Z79.N.n Z79.N.c, .bool Z79.D.b, .slice Z79.D.p Z79.D.n Z79.D.c] 40
 have xw9_w25 := eg (eg (eg (eg (eg (eg (eg (eg (eg (eg (eg (eg (eg (eg xw9_w11 ew12) ew13) ew14) ew15) ew16) ew17) ew18) ew19) ew20) ew21) ew22) ew23) ew24) ew25
 replace B4 := B4.ext xw9_w25
 have b4_w25 := B4.c4
 have xw8_w25 := eg (eg (eg (eg (eg (eg (eg (eg (eg (eg (eg (eg (eg (eg (eg (eg ew9 ew10) ew11) ew12) ew13) ew14) ew15) ew16) ew17) ew18) ew19) ew20) ew21) ew22) ew23) ew24) ew25
 replace hZ28 := hZ28.ext xw8_w25
 have xw_w25 := eg (eg xw_w23 ew24) ew25
 go_upto_region 11 with (fail)
 clear hww25
 clear b1_w23 b2_w23 b3_w23
 replace zw25 := le2 zw25
 refine wp_region_lit ?_
 iterate 2
  refine wpList_one (x := ?_) (by as_aux_lemma => kernel_rfl) (fun K hK => ?_) ?_
  rotate_left
  ·go_simp
   repeat (first | (go_ints; try go_simp) | (simp only [↓IntWalk.iteOmega]; try go_simp))
   exact hK
  simp only [Pq1]
 refine wpList_tell (t := .v (.bool true)) (by as_aux_lemma => kernel_rfl) (fun K hK => ?_) ?_
 ·go_simp
  exact (nis Z28 1 2 _ _ (hZ28) (by decide) (by decide) (by decide) (eqv (by rw [sm.rt_b]; decide +kernel))).mono (tell hK)
 rintro _ w26 rfl - ew26
 simp only [Pq1]
 have zw26 := ew26.size
 have xw11_w26 := eg (eg (eg (eg (eg (eg (eg (eg (eg (eg (eg (eg (eg xw11_w13 ew14) ew15) ew16) ew17) ew18) ew19) ew20) ew21) ew22) ew23) ew24) ew25) ew26
 replace B5 := B5.ext xw11_w26
 have b5_w26 := B5.c4
 have xw10_w26 := eg (eg (eg (eg (eg (eg (eg (eg (eg (eg (eg (eg (eg (eg (eg ew11 ew12) ew13) ew14) ew15) ew16) ew17) ew18) ew19) ew20) ew21) ew22) ew23) ew24) ew25) ew26
 replace hZ34 := hZ34.ext xw10_w26
 have xw_w26 := eg xw_w25 ew26
 clear b4_w25
 iterate 3
  refine wpList_one (x := ?_) (by as_aux_lemma => kernel_rfl) (fun K hK => ?_) ?_
  rotate_left
  ·go_simp
   repeat (first | (go_ints; try go_simp) | (simp only [↓IntWalk.iteOmega]; try go_simp))
   exact hK
  simp only [Pq1]
 refine wpList_tell (t := .v (.bool true)) (by as_aux_lemma => kernel_rfl) (fun K hK => ?_) ?_
 ·go_simp
  exact (nis Z34 9 20 _ _ (hZ34) (by decide) (by decide) (by decide) (eqv (by rw [show lal T R 60 0 (2 : Int).toNat = _ from sm.al2]; decide +kernel))).mono (tell hK)
 rintro _ w27 rfl - ew27
 simp only [Pq1]
 have zw27 := ew27.size
 have xw13_w27 := eg (eg (eg (eg (eg (eg (eg (eg (eg (eg (eg (eg xw13_w15 ew16) ew17) ew18) ew19) ew20) ew21) ew22) ew23) ew24) ew25) ew26) ew27
 replace B6 := B6.ext xw13_w27
 have b6_w27 := B6.c4
 have xw12_w27 := eg (eg (eg (eg (eg (eg (eg (eg (eg (eg (eg (eg (eg (eg ew13 ew14) ew15) ew16) ew17) ew18) ew19) ew20) ew21) ew22) ew23) ew24) ew25) ew26) ew27
 replace hZ40 := hZ40.ext xw12_w27
 have xw_w27 := eg xw_w26 ew27
 clear b5_w26
 iterate 4
  refine wpList_one (x := ?_) (by as_aux_lemma => kernel_rfl) (fun K hK => ?_) ?_
  rotate_left
  ·go_simp
   repeat (first | (go_ints; try go_simp) | (simp only [↓IntWalk.iteOmega]; try go_simp))
   exact hK
  simp only [Pq1]
 refine wpList_tell (t := .v (.bool true)) (by as_aux_lemma => kernel_rfl) (fun K hK => ?_) ?_
 ·go_simp
  exact (nis Z40 0 1 _ _ (hZ40) (by decide) (by decide) (by decide) (eqv (by rw [show lal T R 60 0 (3 : Int).toNat = _ from sm.al3]; decide +kernel))).mono (tell hK)
 rintro _ w28 rfl - ew28
 simp only [Pq1]
 have zw28 := ew28.size
 have xw15_w28 := eg (eg (eg (eg (eg (eg (eg (eg (eg xw15_w19 ew20) ew21) ew22) ew23) ew24) ew25) ew26) ew27) ew28
 replace B7 := B7.ext xw15_w28
 have b7_w28 := B7.c4
 have xw14_w28 := eg (eg (eg (eg (eg (eg (eg (eg (eg (eg (eg (eg (eg ew15 ew16) ew17) ew18) ew19) ew20) ew21) ew22) ew23) ew24) ew25) ew26) ew27) ew28
 replace hZ46 := hZ46.ext xw14_w28
 have xw_w28 := eg xw_w27 ew28
 clear b6_w27
 iterate 4
  refine wpList_one (x := ?_) (by as_aux_lemma => kernel_rfl) (fun K hK => ?_) ?_
  rotate_left
  ·go_simp
   repeat (first | (go_ints; try go_simp) | (simp only [↓IntWalk.iteOmega]; try go_simp))
   exact hK
  simp only [Pq1]
 refine wpList_tell (t := .v (.bool true)) (by as_aux_lemma => kernel_rfl) (fun K hK => ?_) ?_
 ·go_simp
  exact (nis Z46 9 20 _ _ (hZ46) (by decide) (by decide) (by decide) (eqv (by rw [show ldq T R 60 0 (1 : Int).toNat = _ from sm.dq1]; decide +kernel))).mono (tell hK)
 rintro _ w29 rfl - ew29
 simp only [Pq1]
 have zw29 := ew29.size
 have xw17_w29 := eg (eg (eg (eg (eg (eg (eg (eg (eg (eg xw17_w19 ew20) ew21) ew22) ew23) ew24) ew25) ew26) ew27) ew28) ew29
 replace B8 := B8.ext xw17_w29
 have b8_w29 := B8.c4
 have xw16_w29 := eg (eg (eg (eg (eg (eg (eg (eg (eg (eg (eg (eg ew17 ew18) ew19) ew20) ew21) ew22) ew23) ew24) ew25) ew26) ew27) ew28) ew29
 replace hZ52 := hZ52.ext xw16_w29
 have xw_w29 := eg xw_w28 ew29
 clear b7_w28
 iterate 4
  refine wpList_one (x := ?_) (by as_aux_lemma => kernel_rfl) (fun K hK => ?_) ?_
  rotate_left
  ·go_simp
   repeat (first | (go_ints; try go_simp) | (simp only [↓IntWalk.iteOmega]; try go_simp))
   exact hK
  simp only [Pq1]
 refine wpList_tell (t := .v (.bool true)) (by as_aux_lemma => kernel_rfl) (fun K hK => ?_) ?_
 ·go_simp
  exact (nis Z52 27 20 _ _ (hZ52) (by decide) (by decide) (by decide) (eqv (by rw [sm.ex]; decide +kernel))).mono (tell hK)
 rintro _ w30 rfl - ew30
 simp only [Pq1]
 have zw30 := ew30.size
 have xw19_w30 := eg (eg (eg (eg (eg (eg (eg (eg (eg xw19_w21 ew22) ew23) ew24) ew25) ew26) ew27) ew28) ew29) ew30
 replace B9 := B9.ext xw19_w30
 have b9_w30 := B9.c4
 have xw18_w30 := eg (eg (eg (eg (eg (eg (eg (eg (eg (eg (eg ew19 ew20) ew21) ew22) ew23) ew24) ew25) ew26) ew27) ew28) ew29) ew30
 replace hZ58 := hZ58.ext xw18_w30
 have xw_w30 := eg xw_w29 ew30
 clear b8_w29
 iterate 4
  refine wpList_one (x := ?_) (by as_aux_lemma => kernel_rfl) (fun K hK => ?_) ?_
  rotate_left
  ·go_simp
   repeat (first | (go_ints; try go_simp) | (simp only [↓IntWalk.iteOmega]; try go_simp))
   exact hK
  simp only [Pq1]
 refine wpList_tell (t := .v (.bool true)) (by as_aux_lemma => kernel_rfl) (fun K hK => ?_) ?_
 ·go_simp
  exact (nis Z58 1 4 _ _ (hZ58) (by decide) (by decide) (by decide) (eqv (by rw [sm.rt_e]; decide +kernel))).mono (tell hK)
 rintro _ w31 rfl - ew31
 simp only [Pq1]
 have zw31 := ew31.size
 have xw21_w31 := eg (eg (eg (eg (eg (eg (eg (eg xw21_w23 ew24) ew25) ew26) ew27) ew28) ew29) ew30) ew31
 replace B10 := B10.ext xw21_w31
 have b10_w31 := B10.c4
 have xw20_w31 := eg (eg (eg (eg (eg (eg (eg (eg (eg (eg ew21 ew22) ew23) ew24) ew25) ew26) ew27) ew28) ew29) ew30) ew31
 replace hZ65 := hZ65.ext xw20_w31
 have xw_w31 := eg xw_w30 ew31
 clear b9_w30
 iterate 4
  refine wpList_one (x := ?_) (by as_aux_lemma => kernel_rfl) (fun K hK => ?_) ?_
  rotate_left
  ·go_simp
   repeat (first | (go_ints; try go_simp) | (simp only [↓IntWalk.iteOmega]; try go_simp))
   exact hK
  simp only [Pq1]
 refine wpList_tell (t := .v (.bool true)) (by as_aux_lemma => kernel_rfl) (fun K hK => ?_) ?_
 ·go_simp
  exact (nis Z65 27 40 _ _ (hZ65) (by decide) (by decide) (by decide) (eqv (by rw [show lal T R 60 0 (1 : Int).toNat = _ from sm.al1, show lal T R 62 0 (1 : Int).toNat = _ from sm.bl1]; decide +kernel))).mono (tell hK)
 rintro _ w32 rfl - ew32
 simp only [Pq1]
 have zw32 := ew32.size
 have xw23_w32 := eg (eg (eg (eg (eg (eg (eg (eg ew24 ew25) ew26) ew27) ew28) ew29) ew30) ew31) ew32
 replace B11 := B11.ext xw23_w32
 have b11_w32 := B11.c4
 have xw22_w32 := eg (eg (eg (eg (eg (eg (eg (eg (eg ew23 ew24) ew25) ew26) ew27) ew28) ew29) ew30) ew31) ew32
 replace hZ72 := hZ72.ext xw22_w32
 have xw_w32 := eg xw_w31 ew32
 clear b10_w31
 iterate 4
  refine wpList_one (x := ?_) (by as_aux_lemma => kernel_rfl) (fun K hK => ?_) ?_
  rotate_left
  ·go_simp
   repeat (first | (go_ints; try go_simp) | (simp only [↓IntWalk.iteOmega]; try go_simp))
   exact hK
  simp only [Pq1]
 refine wpList_tell (t := .v (.bool true)) (by as_aux_lemma => kernel_rfl) (fun K hK => ?_) ?_
 ·go_simp
  exact (nis Z72 39 40 _ _ (hZ72) (by decide) (by decide) (by decide) (eqv (by rw [show lal T R 60 0 (1 : Int).toNat = _ from sm.al1, show lal T R 62 0 (1 : Int).toNat = _ from sm.bl1]; unfold eiQ; decide +kernel))).mono (tell hK)
 rintro _ w33 rfl - ew33
 simp only [Pq1]
 have zw33 := ew33.size
 have xw25_w33 := eg (eg (eg (eg (eg (eg (eg ew26 ew27) ew28) ew29) ew30) ew31) ew32) ew33
 replace B12 := B12.ext xw25_w33
 have b12_w33 := B12.c4
 have xw24_w33 := eg (eg (eg (eg (eg (eg (eg (eg ew25 ew26) ew27) ew28) ew29) ew30) ew31) ew32) ew33
 replace hZ79 := hZ79.ext xw24_w33
 have xw_w33 := eg xw_w32 ew33
 clear b11_w32
 iterate 4
  refine wpList_one (x := ?_) (by as_aux_lemma => kernel_rfl) (fun K hK => ?_) ?_
  rotate_left
  ·go_simp
   repeat (first | (go_ints; try go_simp) | (simp only [↓IntWalk.iteOmega]; try go_simp))
   exact hK
  simp only [Pq1]
 refine wpList_tell (t := .v (.bool true)) (by as_aux_lemma => kernel_rfl) (fun K hK => ?_) ?_
 ·go_simp
  exact (nis Z79 3 40 _ _ (hZ79) (by decide) (by decide) (by decide) (eqv (by rw [show lal T R 60 0 (1 : Int).toNat = _ from sm.al1, show lal T R 62 0 (1 : Int).toNat = _ from sm.bl1]; unfold leQ; decide +kernel))).mono (tell hK)
 rintro _ w34 rfl - ew34
 simp only [Pq1]
 have zw34 := ew34.size
 have xw_w34 := eg xw_w33 ew34
 clear b12_w33
 iterate 2
  refine wpList_one (x := ?_) (by as_aux_lemma => kernel_rfl) (fun K hK => ?_) ?_
  rotate_left
  ·go_simp
   repeat (first | (go_ints; try go_simp) | (simp only [↓IntWalk.iteOmega]; try go_simp))
   exact hK
  simp only [Pq1]
 go_wp2_with fail
 refine bodyPost_ret (v := .bool true) (by simp [results, Tryz.results9, go_sem]) rfl ?_
 exact Gv.of_v xw_w34
end Go.Proofs.YtndgaecfeaedeaaGreat
namespace Go.Proofs.YtndgaecfeaedeaaGreat
open Go.RowKit Lex Mth
attribute [local go_sem] run_indexAt_at add_zero_map Oper.semAt_some at_zero at_add at_mk1 at_mk2 at_mk3

/-- What usable looks at. -/
noncomputable def okU (T : Tb) (e y : Int) : Bool := !largeT T 25 8 2 && okL T e y
theorem okL_q4 {T : Tb} {e y : Int} (ok : okL T e y = true) : T.first ≤ e ∧ e ≤ T.first + (T.N : Int) - 1 ∧ 0 ≤ y ∧ y ≤ 300 := by
 unfold okL at ok
 simp only [Bool.and_eq_true, decide_eq_true_eq] at ok
 exact ⟨ok.1.1.1.2, ok.1.1.2, ok.1.2, ok.2⟩

end Go.Proofs.YtndgaecfeaedeaaGreat
