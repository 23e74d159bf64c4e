/- Walks of the law on lives: the copy of a table. Walks of package life: Valid. -/
import Derived.Deep.AppendLies
import Derived.Deep.Onto
import Derived.Test.YtndgaecfeaedeaaGreatG13
import Derived.Test.YtndgaecfeaedeaaGreatG16
set_option linter.unusedSimpArgs false
set_option linter.unusedVariables false
namespace Go.Proofs.YtndgaecfeaedeaaGreat
open Go.RowKit Lex Mth
attribute [local go_sem] run_indexAt_at add_zero_map Oper.semAt_some at_zero at_add at_mk1 at_mk2 at_mk3

theorem Tryz.infoRw : (Tryz.prog.info? 47).map (fun i => (i.zero, i.size, i.bytes)) = some (some (.slice none 0 0), 1, 24) := by kernel_rfl
/-- Rows that are copies of a table's, each in memory of its own. -/
structure CpT (B : Nat) (w : World) (T : Tb) (vs : List Value) : Prop where
 row : ∀ i v, vs[i]? = some v → ∃ fs, fs.length = T.rn i ∧ CpF B w (T.el i) (T.ln i) (T.ld i) fs ∧ w.ownsRow B 40 4 v (T.rn i) (frC fs)
 ord : ∀ (i j : Nat) (u v : Value) (a b : Nat), i < j → vs[i]? = some u → vs[j]? = some v → u.ownBlock = some a → v.ownBlock = some b → a < b
theorem CpT.ext {B : Nat} {w w' : World} {T : Tb} {vs : List Value} (h : CpT B w T vs) (e : Ext w w') : CpT B w' T vs :=
 ⟨fun i v hv => let ⟨fs, h1, h2, h3⟩ := h.row i v hv; ⟨fs, h1, h2.ext e, ownsRow_ext h3 e⟩, h.ord⟩
theorem CpT.lt {B : Nat} {w : World} {T : Tb} {vs : List Value} (h : CpT B w T vs) {i : Nat} {v : Value} (hv : vs[i]? = some v) {a : Nat} (ha : v.ownBlock = some a) : B ≤ a ∧ a < w.heap.size := by
 obtain ⟨fs, _, _, h3⟩ := h.row i v hv
 exact h3.lt a ha
theorem ownsRow_types {w : World} {base base' : Nat} {e e' : TypeId} {size size' : Nat} {v v' : Value} {n n' : Nat} {xs xs' : List Value} (h : w.ownsRow base e size v n xs) (h' : w.ownsRow base' e' size' v' n' xs') (he : e ≠ e') : v.ownBlock = none ∨ v.ownBlock ≠ v'.ownBlock := by
 rcases h.2 with ⟨h1, _⟩ | ⟨g, cap, cur, h1, _, h3, _⟩
 ·subst h1; exact .inl rfl
 ·right
  subst h1
  rcases h'.2 with ⟨k1, _⟩ | ⟨g', cap', cur', k1, _, k3, _⟩
  ·subst k1; simp [Value.ownBlock]
  ·subst k1
   simp only [Value.ownBlock, ne_eq, Option.some.injEq]
   rintro rfl
   rw [h3] at k3
   simp only [Option.some.injEq, Obj.cells.injEq] at k3
   exact he k3.2.1
theorem CpT.grown {B : Nat} {w w' : World} {T : Tb} {vs : List Value} {base : Nat} {v : Value} {n : Nat} {xs : List Value} (h : CpT B w T vs) (ho : w.ownsRow base 47 1 v n xs) (hg : w.grownBy w' v.ownBlock) : CpT B w' T vs :=
 ⟨fun i u hu => let ⟨fs, h1, h2, h3⟩ := h.row i u hu; ⟨fs, h1, h2.grown hg (ownsRow_type ho (by decide)), h3.kept hg (ownsRow_types h3 ho (by decide))⟩, h.ord⟩
theorem CpT.snoc {B : Nat} {w : World} {T : Tb} {vs : List Value} {v : Value} {fs : List Fr} {k n : Nat} (h : CpT B w T vs) (hk : vs.length = k) (h1 : fs.length = T.rn k) (h2 : CpF B w (T.el k) (T.ln k) (T.ld k) fs) (h3 : w.ownsRow B 40 4 v (T.rn k) (frC fs))
    (hb : ∀ b, v.ownBlock = some b → n ≤ b) (ha : ∀ (i : Nat) (u : Value) (a : Nat), vs[i]? = some u → u.ownBlock = some a → a < n) : CpT B w T (vs ++ [v]) := by
 subst hk
 constructor
 ·intro i u hu
  rcases Nat.lt_trichotomy i vs.length with hl | hl | hl
  ·rw [List.getElem?_append_left hl] at hu; exact h.row i u hu
  ·subst hl
   simp at hu
   subst hu
   exact ⟨fs, h1, h2, h3⟩
  ·rw [List.getElem?_eq_none (by simp; omega)] at hu; cases hu
 ·intro i j u u' a b hij hu hu' hua hub
  have hj : j < vs.length + 1 := by have := (List.getElem?_eq_some_iff.1 hu').1; simpa using this
  rw [List.getElem?_append_left (by omega)] at hu
  rcases Nat.lt_or_ge j vs.length with hl | hl
  ·rw [List.getElem?_append_left hl] at hu'
   exact h.ord i j u u' a b hij hu hu' hua hub
  ·obtain rfl : j = vs.length := by omega
   simp at hu'
   subst hu'
   have := hb b hub
   have := ha i u a hu hua
   omega
theorem oneCell_slice {B : Nat} {w : World} {e : TypeId} {size : Nat} {v : Value} {n : Nat} {xs : List Value} (h : w.ownsRow B e size v n xs) : v.oneCell' = true ∧ v.cells = #[v] := by
 rcases h.2 with ⟨h1, _⟩ | ⟨g, cap, cur, h1, _⟩ <;> subst h1 <;> exact ⟨rfl, rfl⟩

theorem ownsRow_ne {w : World} {base : Nat} {e t : TypeId} {size : Nat} {v : Value} {n : Nat} {xs : List Value} {b : Nat} {c : Array Value} (h : w.ownsRow base e size v n xs) (hB : Cells w b t c) (he : e ≠ t) : some b ≠ v.ownBlock := fun x => by
 rcases h.2 with ⟨h1, _⟩ | ⟨g, cap, cur, h1, _, h3, _⟩
 ·subst h1; cases x
 ·subst h1
  obtain rfl : b = g := by simpa [Value.ownBlock] using x
  have := h3.symm.trans (show w.heap[b]? = _ from hB)
  simp only [Option.some.injEq, Obj.cells.injEq] at this
  exact he this.2.1
theorem grown_ext {a b c : World} {row : Option Nat} (h : a.grownBy b row) (e : Ext b c) : a.grownBy c row :=
 ⟨e.os.trans h.os, e.tape.trans h.tape, e.output.trans h.output, Nat.le_trans h.size e.size, fun k hk hr => (e.block k (Nat.lt_of_lt_of_le hk h.size)).trans (h.block k hk hr)⟩
theorem CpF.mono {B B' : Nat} {w : World} {X : Nat → Fr} {ln ld : Nat → List Nat} {fs : List Fr} (h : CpF B w X ln ld fs) (e : B' ≤ B) : CpF B' w X ln ld fs := fun j Y hj => let ⟨h1, h2, h3, h4⟩ := h j Y hj; ⟨h1, h2, h3, h4.mono e⟩
theorem upon_append {P : Program} {o : Oper} {a : Act} {w w' : World} {K : Value → World → Prop} (s x : Operand) (t : TypeId) (ho : o.op = .call { callee := .builtin .append, args := #[s, x], argTypes := #[t, t] }) {v y v' : Value} (hs : a.eval s = v) (hx : a.eval x = y)
    (hr : (Builtin.append_ #[t, t] o.type #[v, y]).run P w = .ok v' w') (h : K v' w') : Upon P K ((execOp a.eval o).run P w) := by
 unfold execOp
 simp only [ho, resolve, invoke, builtin, Sem.run_bind, Sem.run_pure, Result.andThen_ok, List.map_toArray, List.map_cons, List.map_nil, hs, hx, hr]
 exact h
theorem grown_grown {a b c : World} {row : Option Nat} (h : a.grownBy b row) (e : b.grownBy c row) : a.grownBy c row :=
 ⟨e.os.trans h.os, e.tape.trans h.tape, e.output.trans h.output, Nat.le_trans h.size e.size, fun k hk hr => (e.block k (Nat.lt_of_lt_of_le hk h.size) hr).trans (h.block k hk hr)⟩
theorem keeps_grown {w w' : World} {b : Nat} (k : Keeps (fun x => x = b) w w') : w.grownBy w' (some b) :=
 ⟨k.os, k.tape, k.output, k.size, fun i hi hne => k.block i hi (fun e => hne (by rw [e]))⟩
theorem CpT.kb {B : Nat} {w w' : World} {T : Tb} {vs : List Value} {b : Nat} {t : TypeId} {c : Array Value} (h : CpT B w T vs) (hC : Cells w b t c) (h1 : t ≠ 153) (h2 : 40 ≠ t) (k : Keeps (fun x => x = b) w w') : CpT B w' T vs :=
 ⟨fun i u hu => let ⟨fs, q1, q2, q3⟩ := h.row i u hu; ⟨fs, q1, q2.grown (keeps_grown k) (fun x hx => (Option.some.inj hx) ▸ ⟨c, t, hC, h1⟩), q3.kept (keeps_grown k) (.inr (fun e => ownsRow_ne q3 hC h2 e.symm))⟩, h.ord⟩
/-- A row that is a copy of row k. -/
structure RowF (T : Tb) (k B n : Nat) (w : World) (v : Value) : Prop where
 row : ∃ fs, fs.length = T.rn k ∧ CpF B w (T.el k) (T.ln k) (T.ld k) fs ∧ w.ownsRow B 40 4 v (T.rn k) (frC fs)
 new : ∀ b, v.ownBlock = some b → n ≤ b
theorem RowF.ext {T : Tb} {k B n : Nat} {w w' : World} {v : Value} (h : RowF T k B n w v) (e : Ext w w') : RowF T k B n w' v :=
 ⟨let ⟨fs, h1, h2, h3⟩ := h.row; ⟨fs, h1, h2.ext e, ownsRow_ext h3 e⟩, h.new⟩
theorem RowF.grown {T : Tb} {k B n : Nat} {w w' : World} {v u : Value} {base m : Nat} {xs : List Value} (h : RowF T k B n w v) (ho : w.ownsRow base 47 1 u m xs) (hg : w.grownBy w' u.ownBlock) : RowF T k B n w' v :=
 ⟨let ⟨fs, h1, h2, h3⟩ := h.row; ⟨fs, h1, h2.grown hg (ownsRow_type ho (by decide)), h3.kept hg (ownsRow_types h3 ho (by decide))⟩, h.new⟩
set_option maxRecDepth 100000 in
set_option maxHeartbeats 4000000 in
theorem nCopied (T : Tb) (w : World) (h : TW w T) (hN : T.N ≤ 1000) (hr : ∀ k, k < T.N → T.rn k ≤ 1000) :
    Calls Tryz.prog 15 #[.agg #[.int .i64 T.first, .int .i64 T.sel, .slice T.P T.N T.C]] w fun e w' => ∃ p c vs, e = .returned (.agg #[.int .i64 T.first, .int .i64 T.sel, .slice p T.N c]) ∧ vs.length = T.N ∧ CpT w.heap.size w' T vs ∧ w'.ownsRow w.heap.size 47 1 (.slice p T.N c) T.N vs ∧ Ext w w' := by
 have hhp := h.has
 obtain ⟨i0, hi, hz0, hz1, hz2⟩ := info_parts Tryz.infoRw
 have HR := Lib.hid hr
 clear hr
 obtain ⟨w1, hw1, e1, B1, z1⟩ := alloc_at w (w.heap.size) (by omega) #[.int .i64 T.first, .int .i64 T.sel, .slice T.P T.N T.C] 24
 obtain ⟨w2, hw2, e2, B2, z2⟩ := alloc_at w1 (w.heap.size + 1) (by omega) #[.int .i64 0, .int .i64 0, .slice none 0 0] 24
 obtain ⟨w3, hw3, e3, B3, z3⟩ := alloc_at w2 (w.heap.size + 1 + 1) (by omega) #[.int .i64 0, .int .i64 0, .slice none 0 0] 24
 replace B1 := B1.ext e2
 have b1 := B1.c3
 replace B1 := B1.ext e3
 replace B2 := B2.ext e3
 have c3 := B3.c3
 have f3 := B3.f3
 obtain ⟨w4, hw4, k4, N4, z4⟩ := B3.put3 (.int .i64 T.first) (.int .i64 T.sel) (.slice none 0 0)
 replace B1 := B1.kb k4 (by omega)
 replace B2 := B2.kb k4 (by omega)
 have e4 : Ext w w4 := Ext.kb (eg (eg e1 e2) e3) k4 (by omega)
 have b1' := B1.c3
 go_enter Tryz.func15, Tryz.ntmps15
 go_wp2_with fail
 clear hw1 hw2 hw3 hw4 b1 b1' c3 f3 B3 k4
 go_loopw [4] (fun v4 wr => ∃ (k : Nat) (vs : List Value) (V : Value), v4 = .int .i64 (k : Nat) ∧ k ≤ T.N ∧ vs.length = k ∧ Ext w wr ∧ Cells wr w.heap.size 24 #[.int .i64 T.first, .int .i64 T.sel, .slice T.P T.N T.C] ∧ Cells wr (w.heap.size + 1) 24 #[.int .i64 0, .int .i64 0, .slice none 0 0] ∧ Cells wr (w.heap.size + 1 + 1) 24 #[.int .i64 T.first, .int .i64 T.sel, V] ∧ CpT w.heap.size wr T vs ∧ wr.ownsRow w.heap.size 47 1 V k vs) (fun v4 _ => (T.N - intOf v4).toNat)
 case atStart => exact ⟨0, [], _, rfl, by omega, rfl, e4, B1, B2, N4, ⟨fun i v hv => by simp at hv, fun i j u v a b _ hu => by simp at hu⟩, World.ownsRow_nil _ _ _ _⟩
 case round =>
  clear B1 B2 N4
  obtain ⟨k, vs, V, rfl, hk, hlen, hE, D1, D2, D3, hC, hO⟩ := hrel
  have hs0 := hE.size
  have d1 := D1.c3
  have Hlen := Lib.hid hlen
  clear hlen
  by_cases hkn : k < T.N
  ·have d3 := D3.c3
   have f3 := D3.f3
   have hsl := cell_ext hE (h.sl k hkn)
   have hbn := HR.out k hkn
   obtain ⟨pV, cV, rfl⟩ := ownsRow_slice hO
   have n1 := ownsRow_ne hO D1 (by decide)
   have n3 := ownsRow_ne hO D3 (by decide)
   have ns : some (at_ T.P k).block ≠ (Value.slice pV k cV).ownBlock := fun x => by
    have h1 := (hO.lt _ x.symm).1
    have h2 := World.block_lt_of_cell? w _ (h.sl k hkn)
    omega
   have hgr : ∀ w', wr.grownBy w' (Value.slice pV k cV).ownBlock → Ext w w' := fun w' g => ((Keeps.of_ext (M := fun b => w.heap.size ≤ b) hE).grown g (fun b hb => (hO.lt b hb).1)).ext fun b hb => hb
   go_wp2_with fail
   refine Lex.region 11 (fun i => i == 7 || i == 8 || i == 9)
    (fun i v => if i = 7 then ∃ p c, v = .slice p (T.rn k) c else if i = 8 then ∃ g, v = .slice (some ⟨g, 0, none⟩) 1 1 else ∃ p c, v = .slice p (k + 1) c)
    (fun i v W => if i = 7 then RowF T k w.heap.size wr.heap.size W v else if i = 8 then ∀ g, v = .slice (some ⟨g, 0, none⟩) 1 1 → ∃ u, Cells W g 47 #[u] ∧ RowF T k w.heap.size wr.heap.size W u ∧ some g ≠ (Value.slice pV k cV).ownBlock else ∃ vs', vs'.length = k + 1 ∧ CpT w.heap.size W T vs' ∧ W.ownsRow w.heap.size 47 1 v (k + 1) vs')
    (fun W => wr.grownBy W (Value.slice pV k cV).ownBlock)
    (fun i _ W W' => if i = 9 then W.grownBy W' (Value.slice pV k cV).ownBlock ∧ W.ownsRow w.heap.size 47 1 (.slice pV k cV) k vs else Ext W W')
    XE (fun i W => i = 9 → W.ownsRow w.heap.size 47 1 (.slice pV k cV) k vs) (by as_aux_lemma => kernel_rfl) (head_of (by as_aux_lemma => kernel_rfl)) ?hA (fun _ _ _ _ _ _ _ _ _ _ _ _ _ => ⟨trivial, trivial⟩) ?hU ?hI ?hU0 ?_
   case hA =>
    intro i v j u W W' hij hi hj hA hC _
    by_cases h9 : j = 9
    ·rw [if_pos h9] at hC
     have hi9 : i ≠ 9 := fun e => hij (e.trans h9.symm)
     by_cases h7 : i = 7
     ·rw [if_pos h7] at hA ⊢; exact hA.grown hC.2 hC.1
     ·have h8 : i = 8 := by simp at hi; omega
      subst h8
      rw [if_neg (by decide), if_pos rfl] at hA ⊢
      intro g hg
      obtain ⟨x, h1, h2, h3⟩ := hA g hg
      exact ⟨x, (hC.1.block g h1.lt h3).trans h1, h2.grown hC.2 hC.1, h3⟩
    ·rw [if_neg h9] at hC
     by_cases h7 : i = 7
     ·rw [if_pos h7] at hA ⊢; exact hA.ext hC
     ·by_cases h8 : i = 8
      ·subst h8
       rw [if_neg (by decide), if_pos rfl] at hA ⊢
       intro g hg
       obtain ⟨x, h1, h2, h3⟩ := hA g hg
       exact ⟨x, h1.ext hC, h2.ext hC, h3⟩
      ·rw [if_neg h7, if_neg h8] at hA ⊢
       obtain ⟨vs', h1, h2, h3⟩ := hA
       exact ⟨vs', h1, h2.ext hC, ownsRow_ext h3 hC⟩
   case hU =>
    intro i j u W W' hij hi hj hA hC h9
    rw [if_neg (fun e => hij (h9.trans e.symm))] at hC
    exact ownsRow_ext (hA h9) hC
   case hI => exact ⟨rfl, rfl, rfl, Nat.le_refl _, fun _ _ _ => rfl⟩
   case hU0 => exact fun i hi h9 => ownsRow_ext hO (Below.refl _ _).drew
   refine Walk.one (x := ?_) rfl rfl (fun w1 hI hL K hK => ?_) ?_
   rotate_left
   ·go_simp
    repeat (first | (go_ints; try go_simp) | (simp only [↓IntWalk.iteOmega]; try go_simp))
    exact hK
   simp only [Pq1]
   refine Walk.one (x := ?_) rfl rfl (fun w1 hI hL K hK => ?_) ?_
   rotate_left
   ·have x0 := hI.cell d3.2.2.2 n3
    go_simp
    repeat (first | (go_ints; try go_simp) | (simp only [↓IntWalk.iteOmega]; try go_simp))
    exact hK
   simp only [Pq1]
   refine Walk.one (x := ?_) rfl rfl (fun w1 hI hL K hK => ?_) ?_
   rotate_left
   ·go_simp
    repeat (first | (go_ints; try go_simp) | (simp only [↓IntWalk.iteOmega]; try go_simp))
    exact hK
   simp only [Pq1]
   refine Walk.one (x := ?_) rfl rfl (fun w1 hI hL K hK => ?_) ?_
   rotate_left
   ·have x0 := hI.cell d1.2.2.2 n1
    go_simp
    repeat (first | (go_ints; try go_simp) | (simp only [↓IntWalk.iteOmega]; try go_simp))
    exact hK
   simp only [Pq1]
   iterate 2
    refine Walk.one (x := ?_) rfl rfl (fun w1 hI hL K hK => ?_) ?_
    rotate_left
    ·go_simp
     repeat (first | (go_ints; try go_simp) | (simp only [↓IntWalk.iteOmega]; try go_simp))
     exact hK
    simp only [Pq1]
   refine Walk.one (x := ?_) rfl rfl (fun w1 hI hL K hK => ?_) ?_
   rotate_left
   ·have x0 := hI.cell hsl ns
    go_simp
    repeat (first | (go_ints; try go_simp) | (simp only [↓IntWalk.iteOmega]; try go_simp))
    exact hK
   simp only [Pq1]
   refine Walk.toldK rfl rfl ⟨.slice none (T.rn k) 0, by rw [if_pos rfl]; exact ⟨_, _, rfl⟩⟩ (fun w1 hI hU hL K hK => ?_) ?_
   ·go_simp
    refine (cCopyFracs (T.rp k) (T.rn k) (T.rc k) (T.el k) (T.ln k) (T.ld k) w1 hbn ((h.row k hkn).ext (hgr w1 hI)) (fun j hj => (h.raw k hkn j hj).ext (hgr w1 hI))).mono ?_
    rintro _ w2 ⟨p', c', fs, rfl, g1, g2, g3, e2⟩
    have hsz := (hgr w1 hI).size
    exact ⟨_, rfl, hK _ _ (by rw [if_pos rfl]; exact ⟨p', c', rfl⟩) (by rw [if_pos rfl]; exact ⟨⟨fs, g1, g2.mono hsz, g3.mono hsz⟩, fun b hb => Nat.le_trans hI.size (g3.lt b hb).1⟩) (grown_ext hI e2) (by rw [if_neg (by decide)]; exact e2) (fun _ _ _ => ⟨trivial, trivial⟩)⟩
   rintro _ hS
   rw [if_pos rfl] at hS
   obtain ⟨p7, c7, rfl⟩ := hS
   simp only [Pq1]
   refine Walk.toldK rfl rfl ⟨.slice (some ⟨0, 0, none⟩) 1 1, by rw [if_neg (by decide), if_pos rfl]; exact ⟨_, rfl⟩⟩ (fun w1 hI hU hL K hK => ?_) ?_
   ·have a7 : RowF T k w.heap.size wr.heap.size w1 (.slice p7 (T.rn k) c7) := hL.1 (7, .slice p7 (T.rn k) c7) (by simp) (pred_of (by as_aux_lemma => kernel_rfl))
    have A7 := Lib.hid a7
    clear a7 hL
    go_simp
    refine hK _ _ (by rw [if_neg (by decide), if_pos rfl]; exact ⟨_, rfl⟩) (by
     rw [if_neg (by decide), if_pos rfl]
     intro g hg
     obtain rfl : w1.heap.size = g := by simpa using hg
     exact ⟨_, Cells.newAt _ _ rfl, A7.out.ext (ea _ _), fun e => by have h1 := (hO.lt _ e.symm).2; have h2 := hI.size; omega⟩) (grown_ext hI (ea _ _)) (by rw [if_neg (by decide)]; exact ea _ _) (fun _ _ _ => ⟨trivial, trivial⟩)
   rintro _ hS
   rw [if_neg (by decide), if_pos rfl] at hS
   obtain ⟨g8, rfl⟩ := hS
   simp only [Pq1]
   refine Walk.toldK rfl rfl ⟨.slice none (k + 1) 0, by rw [if_neg (by decide), if_neg (by decide)]; exact ⟨_, _, rfl⟩⟩ (fun w1 hI hU hL K hK => ?_) ?_
   ·have a8 : ∀ g, Value.slice (some ⟨g8, 0, none⟩) 1 1 = .slice (some ⟨g, 0, none⟩) 1 1 → ∃ u, Cells w1 g 47 #[u] ∧ RowF T k w.heap.size wr.heap.size w1 u ∧ some g ≠ (Value.slice pV k cV).ownBlock := hL.1 (8, .slice (some ⟨g8, 0, none⟩) 1 1) (by simp) (pred_of (by as_aux_lemma => kernel_rfl))
    obtain ⟨u, cu, ru, nu⟩ := a8 g8 rfl
    have oU := hU rfl
    obtain ⟨fs, q1, q2, q3⟩ := ru.row
    obtain ⟨v', w2, hr, o2, gg2, _⟩ := run_append_own (P := Tryz.prog) w1 w.heap.size 22 22 47 i0 (.slice none 0 0) 1 24 Tryz.underlying22 hi hz0 hz1 hz2 rfl (by omega) (.slice pV k cV) k vs oU ⟨g8, 0, none⟩ 1 1 [u] rfl (fun j x hj => by
     match j, hj with
     | 0, hj =>
      simp at hj; subst hj
      have := cu.cell (k := 0) (v := u) rfl
      simpa [Addr.add] using this) (fun x hx => by simp at hx; subst hx; exact (oneCell_slice q3).1) (by unfold maxLen; omega) (by omega) (hgr w1 hI).size
    have A9 : ∃ vs', vs'.length = k + 1 ∧ CpT w.heap.size w2 T vs' ∧ w2.ownsRow w.heap.size 47 1 v' (k + 1) vs' :=
     ⟨vs ++ [u], by simp [Hlen.out], ((hC.grown hO hI).snoc Hlen.out q1 q2 q3 ru.new (fun i x a hx ha => (hC.lt hx ha).2)).grown oU gg2, o2⟩
    have H9 := Lib.hid A9
    have hsl9 := ownsRow_slice o2
    have HU := Lib.hid oU
    clear hL a8 A9 cu ru nu q1 q2 q3 oU hU
    refine upon_append _ _ _ rfl rfl rfl hr ?_
    exact hK _ _ (by rw [if_neg (by decide), if_neg (by decide)]; exact hsl9) (by rw [if_neg (by decide), if_neg (by decide)]; exact H9.out) (grown_grown hI gg2) (by rw [if_pos rfl]; exact ⟨gg2, HU.out⟩) (fun _ _ _ => ⟨trivial, trivial⟩)
   rintro _ hS
   rw [if_neg (by decide), if_neg (by decide)] at hS
   obtain ⟨p9, c9, rfl⟩ := hS
   simp only [Pq1]
   refine Walk.one (x := ?_) rfl rfl (fun w1 hI hL K hK => ?_) ?_
   rotate_left
   ·go_simp
    repeat (first | (go_ints; try go_simp) | (simp only [↓IntWalk.iteOmega]; try go_simp))
    exact hK
   simp only [Pq1]
   refine Walk.nil fun w5 hI5 hL5 => ?_
   have a9 : ∃ vs', vs'.length = k + 1 ∧ CpT w.heap.size w5 T vs' ∧ w5.ownsRow w.heap.size 47 1 (.slice p9 (k + 1) c9) (k + 1) vs' := hL5 (9, .slice p9 (k + 1) c9) (by simp)
   obtain ⟨vs', m1, m2, m3⟩ := a9
   clear hL5
   simp only [List.drop_succ_cons, List.drop_zero, List.drop_nil]
   have E1 : Cells w5 w.heap.size 24 #[.int .i64 T.first, .int .i64 T.sel, .slice T.P T.N T.C] := (hI5.block _ D1.lt n1).trans D1
   have E2 : Cells w5 (w.heap.size + 1) 24 #[.int .i64 0, .int .i64 0, .slice none 0 0] := (hI5.block _ D2.lt (ownsRow_ne hO D2 (by decide))).trans D2
   have E3 : Cells w5 (w.heap.size + 1 + 1) 24 #[.int .i64 T.first, .int .i64 T.sel, .slice pV k cV] := (hI5.block _ D3.lt n3).trans D3
   have q1 := E3.c3
   have q2 := E3.f3
   obtain ⟨w6, hw6⟩ : ∃ W, w5.setCell ⟨w.heap.size + 1 + 1, 2, none⟩ (.slice p9 (k + 1) c9) = W := ⟨_, rfl⟩
   have k6 : Keeps (fun x => x = w.heap.size + 1 + 1) w5 w6 := by rw [← hw6]; exact sets_keeps (w.heap.size + 1 + 1) [.slice p9 (k + 1) c9] w5 2
   have N6 : Cells w6 (w.heap.size + 1 + 1) 24 #[.int .i64 T.first, .int .i64 T.sel, .slice p9 (k + 1) c9] := by rw [← hw6]; exact Cells.sets [.slice p9 (k + 1) c9] E3 2
   have M1 := Lib.hid m1
   clear m1 d1 d3 hsl f3
   go_wp2_with fail
   clear hw6 q1 q2
   go_roundw
   case rel => exact ⟨k + 1, vs', _, rfl, by omega, M1.out, Ext.kb (hgr w5 hI5) k6 (by omega), E1.kb k6 (by omega), E2.kb k6 (by omega), N6, m2.kb E3 (by decide) (by decide) k6, m3.kept (keeps_grown k6) (.inr (fun e => ownsRow_ne m3 E3 (by decide) e.symm))⟩
   case measure => simp [intOf] <;> omega
  ·obtain rfl : k = T.N := by omega
   have hlen := Hlen
   have d3 := D3.c3
   have f2 := D2.f3
   have d2 := D2.c3
   obtain ⟨p, c, rfl⟩ := ownsRow_slice hO
   obtain ⟨w5, hw5, k5, N5, z5⟩ := D2.put3 (.int .i64 T.first) (.int .i64 T.sel) (.slice p T.N c)
   have n3 := N5.c3
   go_wp2_with fail
   clear hw5
   refine bodyPost_ret (v := .agg #[.int .i64 T.first, .int .i64 T.sel, .slice p T.N c]) (by simp [results, Tryz.results15, go_sem, n3]) rfl ?_
   exact ⟨p, c, vs, rfl, hlen.out, hC.kb D2 (by decide) (by decide) k5, hO.kept (keeps_grown k5) (.inr (fun e => ownsRow_ne hO D2 (by decide) e.symm)), Ext.kb hE k5 (by omega)⟩
end Go.Proofs.YtndgaecfeaedeaaGreat
namespace Go.Proofs.YtndgaecfeaedeaaGreat
open Go.RowKit Lex Mth
attribute [local go_sem] run_indexAt_at add_zero_map Oper.semAt_some at_zero at_add at_mk1 at_mk2 at_mk3

theorem cf37 : ∀ args w, (callFunc 37 args).run Tryz.prog w = .ok (.enter 37 args) w := fun args w => by simp [go_sem]
theorem okT_f {T : Tb} (h : ¬ OkT T) : okT T = false := by rw [Bool.eq_false_iff]; exact fun e => h (okT_iff.1 e)

set_option maxRecDepth 100000 in
theorem lValid_no (T : Tb) (w : World) (h : TW w T) (hb : ¬ boundsOk T) : Calls Tryz.prog 10 #[T.val] w (Gv (.v (.bool false)) w) := by
 have f1 := h.f1
 have f2 := h.f2
 have s1 := h.s1
 have s2 := h.s2
 have hr := h.reach
 have hE : Ext w (w.alloc (.cells #[.int .i64 T.first, .int .i64 T.sel, .slice T.P T.N T.C] 24)) := ea _ _
 unfold boundsOk at hb
 rcases (by omega : T.first < 0 ∨ (0 ≤ T.first ∧ 150 < T.first) ∨ (0 ≤ T.first ∧ T.first ≤ 150 ∧ T.sel < 0) ∨ (0 ≤ T.first ∧ T.first ≤ 150 ∧ 0 ≤ T.sel ∧ 5 < T.sel) ∨ (0 ≤ T.first ∧ T.first ≤ 150 ∧ 0 ≤ T.sel ∧ T.sel ≤ 5 ∧ T.N < 1) ∨ (0 ≤ T.first ∧ T.first ≤ 150 ∧ 0 ≤ T.sel ∧ T.sel ≤ 5 ∧ 1 ≤ T.N ∧ 111 < T.N)) with h1 | ⟨h1, h2⟩ | ⟨h1, h2, h3⟩ | ⟨h1, h2, h3, h4⟩ | ⟨h1, h2, h3, h4, h5⟩ | ⟨h1, h2, h3, h4, h5, h6⟩
 all_goals
  clear hb
  go_enter Tryz.func10, Tryz.ntmps10
  go_wp2
  go_ret
  exact Gv.of_v hE

set_option maxRecDepth 100000 in
set_option maxHeartbeats 1000000 in
theorem lValid_yes (T : Tb) (w : World) (h : TW w T) (hb : boundsOk T) : Calls Tryz.prog 10 #[T.val] w (Gv (.v (.bool (okT T))) w) := by
 have hhp := h.has
 obtain ⟨b1, b2, b3, b4, b5, b6⟩ := id hb
 obtain ⟨w1, hw1⟩ : ∃ W, w.alloc (.cells #[.int .i64 T.first, .int .i64 T.sel, .slice T.P T.N T.C] 24) = W := ⟨_, rfl⟩
 have e1 : Ext w w1 := by rw [← hw1]; exact ea _ _
 have B1 : Cells w1 w.heap.size 24 #[.int .i64 T.first, .int .i64 T.sel, .slice T.P T.N T.C] := by rw [← hw1]; exact Cells.newAt _ _ rfl
 have c0 := B1.cell (k := 0) rfl
 have c1 := B1.cell (k := 1) rfl
 have c2 := B1.cell (k := 2) rfl
 go_enter Tryz.func10, Tryz.ntmps10
 go_wp2_with fail
 clear hw1
 go_loopw [38] (fun v wr => ∃ i : Nat, v = .int .i64 (i : Nat) ∧ i ≤ T.N ∧ Hid (∀ j, j < i → rowOk T j) ∧ Ext w1 wr) (fun v _ => (T.N - intOf v).toNat)
 case atStart => exact ⟨0, rfl, by omega, Lib.hid (fun j hj => absurd hj (Nat.not_lt_zero _)), Below.refl _ _⟩
 case round =>
  obtain ⟨i, rfl, hi, hall, hE⟩ := hrel
  have D1 := B1.ext hE
  have d0 := D1.cell (k := 0) rfl
  have d1 := D1.cell (k := 1) rfl
  have d2 := D1.cell (k := 2) rfl
  have hEr : Ext w wr := eg e1 hE
  by_cases hik : i < T.N
  ·have cs := cell_ext hEr (h.sl i hik)
   have hrow := (h.row i hik).ext hEr
   have hr1 := hrow.reach
   by_cases hlen : (T.rn i : Int) = T.sel + 1
   ·have hl : ((T.rn i : Int) != T.sel + 1) = false := by rw [bne_eq_false_iff_eq]; exact hlen
    have Hlen := Lib.hid hlen
    clear hlen
    go_wp2_with fail
    by_cases hq : ∀ j, j < T.rn i → okR (T.el i j).N.b (T.ln i j) (T.el i j).D.b (T.ld i j) = true
    ·have Hq := Lib.hid hq
     clear hq
     refine (fContains _ cf37 _ _ _ (T.el i) (fun j => !okR (T.el i j).N.b (T.ln i j) (T.el i j).D.b (T.ld i j)) wr hrow (fun j hj w2 e2 => lValid1 _ _ _ w2 ((h.raw i hik j hj).ext (eg hEr e2)) _ rfl) (b := false) ?_).mono ?_
     ·simp only [Bool.false_eq_true, false_iff]
      rintro ⟨j, hj, hv⟩
      rw [Hq.out j hj] at hv; cases hv
     ·intro ee w2 gg
      obtain ⟨rfl, e2⟩ := Gv.v gg
      go_wp2_with fail
      go_roundw
      case rel => exact ⟨i + 1, rfl, by omega, Lib.hid (fun j hj => (Nat.lt_or_eq_of_le (Nat.le_of_lt_succ hj)).elim (hall.out j) (fun e => e ▸ ⟨Hlen.out, Hq.out⟩)), eg hE e2⟩
      case measure => simp [intOf]; omega
    ·have hq' : ∃ j, j < T.rn i ∧ (!okR (T.el i j).N.b (T.ln i j) (T.el i j).D.b (T.ld i j)) = true := by
      apply Classical.byContradiction
      intro hn
      apply hq
      intro j hj
      cases hv : okR (T.el i j).N.b (T.ln i j) (T.el i j).D.b (T.ld i j)
      ·exact absurd ⟨j, hj, by rw [hv]; rfl⟩ hn
      ·rfl
     have Hq := Lib.hid hq
     have Hq' := Lib.hid hq'
     clear hq hq'
     refine (fContains _ cf37 _ _ _ (T.el i) (fun j => !okR (T.el i j).N.b (T.ln i j) (T.el i j).D.b (T.ld i j)) wr hrow (fun j hj w2 e2 => lValid1 _ _ _ w2 ((h.raw i hik j hj).ext (eg hEr e2)) _ rfl) (b := true) ?_).mono ?_
     ·simp only [true_iff]
      exact Hq'.out
     ·intro ee w2 gg
      obtain ⟨rfl, e2⟩ := Gv.v gg
      have hno : okT T = false := okT_f fun ok => Hq.out (ok.2.1 i hik).2
      have Hno := Lib.hid hno
      clear hno
      go_wp2_with fail
      go_ret
      rw [Hno.out]
      exact Gv.of_v (eg hEr e2)
   ·have hl : ((T.rn i : Int) != T.sel + 1) = true := by rw [bne_iff_ne]; exact hlen
    have hno : okT T = false := okT_f fun ok => hlen (ok.2.1 i hik).1
    have Hno := Lib.hid hno
    clear hno hlen
    go_wp2_with fail
    go_ret
    rw [Hno.out]
    exact Gv.of_v hEr
  ·obtain rfl : i = T.N := by omega
   obtain ⟨R, tq⟩ := TQ.of h hb hall.out
   have tr := tq.ext hEr
   have hN : T.N - 1 < T.N := by omega
   have hrn := tq.rn (T.N - 1) hN
   have hsel : T.sel.toNat < T.rn (T.N - 1) := by omega
   have hrow := tr.tw.row (T.N - 1) hN
   have hhr := hrow.has
   have hfr := tr.q (T.N - 1) hN T.sel.toNat hsel
   have hel := hrow.el T.sel.toNat hsel
   have hsl := tr.tw.sl (T.N - 1) hN
   have Hrn := Lib.hid hrn
   clear hrn
   go_wp2_with fail
   have hv : okT T = eqQ (R (T.N - 1) T.sel.toNat) 1 := by
    have h1 := eq_one_iff (tr.tw.raw (T.N - 1) hN T.sel.toNat hsel) hfr (tq.sz (T.N - 1) hN T.sel.toNat hsel).2.2.1
    rw [Bool.eq_iff_iff, okT_iff, h1]
    exact ⟨fun ok => ok.2.2, fun e => ⟨hb, hall.out, e⟩⟩
   have Hv := Lib.hid hv
   clear hv
   have lB := D1.lt
   have hs1 : IntKind.i64.wrap ((T.N : Int) - 1) = ((T.N - 1 : Nat) : Int) := by simp [IntKind.wrap, IntKind.bits, IntKind.signed]; omega
   have hN1 : ((T.N : Int) - 1).toNat = T.N - 1 := by omega
   refine regionT 12 (fun k => match k with | 10 => some (.f 1) | 11 => some (.v (.bool (eqQ (R (T.N - 1) T.sel.toNat) 1))) | _ => none) (by kernel_rfl) (by kernel_rfl) ?_
   iterate 10
    refine Walk.one (x := ?_) rfl rfl (fun w1 hI hL K hK => ?_) ?_
    rotate_left
    ·obtain ⟨hc, hf⟩ := bcell hI
     have x0 := cell_ext hI hsl
     have x1 := hel.ext hI
     have y0 := x1.c0
     have y1 := x1.c1
     have y2 := x1.c2
     have y3 := x1.c3
     go_simp
     repeat (first | (go_ints; try go_simp) | (simp only [↓IntWalk.iteOmega]; try go_simp))
     exact hK
    simp only [Pq1]
   refine Walk.tell rfl rfl (fun w1 hI hL K hK => ?_) ?_
   ·go_simp
    exact (fFromInt_1 w1).mono (tell hK)
   rintro _ ⟨Z63, rfl⟩
   simp only [Pq1]
   refine Walk.tell rfl rfl (fun w1 hI hL K hK => ?_) ?_
   ·have z := (Tl.getF (kn (i := 10) (v := .agg #[.bool Z63.N.b, .slice Z63.N.p Z63.N.n Z63.N.c, .bool Z63.D.b, .slice Z63.D.p Z63.D.n Z63.D.c]) rfl (by simp) (by kernel_rfl) hL)).1
    clear hL
    go_simp
    exact (fSameQ _ Z63 _ 1 w1 (hfr.ext hI) z).mono (tell hK)
   rintro _ rfl
   simp only [Pq1]
   refine Walk.nil fun w4 hI4 _ => ?_
   simp only [List.drop_succ_cons, List.drop_zero, List.drop_nil]
   go_wp2_with fail
   go_ret
   rw [Hv.out]
   exact Gv.of_v (eg hEr hI4)
theorem lValid (T : Tb) (w : World) (h : TW w T) : Calls Tryz.prog 10 #[T.val] w (Gv (.v (.bool (okT T))) w) := by
 by_cases hb : boundsOk T
 ·exact lValid_yes T w h hb
 ·rw [okT_f fun ok => hb ok.1]
  exact lValid_no T w h hb
end Go.Proofs.YtndgaecfeaedeaaGreat
