/- A table in memory of its own, whose rates may be written. No condition: laws on the model's worlds. Walks of package life: what it gives for one life and for two, whatever the arguments. Walks of the law on lives: its small functions. Walks of the law on lives: the table of the examples. -/
import Derived.Test.YtndgaecfeaedeaaGreatG17
import Derived.Test.YtndgaecfeaedeaaGreatG21
import Derived.Test.YtndgaecfeaedeaaGreatG22
import Derived.Test.YtndgaecfeaedeaaGreatG23
set_option linter.unusedSimpArgs false
set_option linter.unusedVariables false
namespace Go.Proofs.YtndgaecfeaedeaaGreat
open Go.RowKit Lex Mth

/-- The table's rows lie in blocks rb k, its slices in block g; its fractions are E. -/
structure OT (B : Nat) (w : World) (T : Tb) (g : Nat) (rb rc : Nat → Nat) (E : Nat → Nat → Fr) : Prop where
 gB : B ≤ g
 gt : ∃ gc, w.heap[g]? = some (.cells gc 47 (0, 0))
 sl : ∀ k, k < T.N → w.cell? ⟨g, k, none⟩ = some (.slice (some ⟨rb k, 0, none⟩) (T.rn k) (rc k))
 le : ∀ k, k < T.N → T.rn k ≤ rc k
 rB : ∀ k, k < T.N → B ≤ rb k
 row : ∀ k, k < T.N → ∃ cur, Cells w (rb k) 40 cur ∧ T.rn k * 4 ≤ cur.size ∧ ∀ j, j < T.rn k → ∀ i, i < 4 → cur[j * 4 + i]? = (frV (E k j))[i]?
 inj : ∀ k l, k < T.N → l < T.N → k ≠ l → rb k ≠ rb l
theorem OT.ext {B : Nat} {w w' : World} {T : Tb} {g : Nat} {rb rc : Nat → Nat} {E : Nat → Nat → Fr} (h : OT B w T g rb rc E) (e : Ext w w') : OT B w' T g rb rc E :=
 ⟨h.gB, let ⟨gc, hg⟩ := h.gt; ⟨gc, (e.block g (Array.getElem?_eq_some_iff.1 hg).1).trans hg⟩, fun k hk => cell_ext e (h.sl k hk), h.le, h.rB, fun k hk => let ⟨cur, h1, h2, h3⟩ := h.row k hk; ⟨cur, h1.ext e, h2, h3⟩, h.inj⟩
theorem OT.ne {B : Nat} {w : World} {T : Tb} {g : Nat} {rb rc : Nat → Nat} {E : Nat → Nat → Fr} (h : OT B w T g rb rc E) {k : Nat} (hk : k < T.N) : g ≠ rb k := fun e => by
 obtain ⟨gc, hg⟩ := h.gt
 obtain ⟨cur, h1, _⟩ := h.row k hk
 have h2 : w.heap[rb k]? = some (.cells cur 40 (0, 0)) := h1
 rw [e, h2] at hg
 simp only [Option.some.injEq, Obj.cells.injEq] at hg
 exact absurd hg.2.1 (by decide)
theorem OT.cells {B : Nat} {w : World} {T : Tb} {g : Nat} {rb rc : Nat → Nat} {E : Nat → Nat → Fr} (h : OT B w T g rb rc E) {k j : Nat} (hk : k < T.N) (hj : j < T.rn k) : w.cell? ⟨rb k, j * 4, none⟩ = some (.bool (E k j).N.b) ∧ w.cell? ⟨rb k, j * 4 + 1, none⟩ = some (.slice (E k j).N.p (E k j).N.n (E k j).N.c) ∧ w.cell? ⟨rb k, j * 4 + 2, none⟩ = some (.bool (E k j).D.b) ∧ w.cell? ⟨rb k, j * 4 + 3, none⟩ = some (.slice (E k j).D.p (E k j).D.n (E k j).D.c) := by
 obtain ⟨cur, h1, h2, h3⟩ := h.row k hk
 exact ⟨h1.cell (k := j * 4) (h3 j hj 0 (by decide)), h1.cell (k := j * 4 + 1) (h3 j hj 1 (by decide)), h1.cell (k := j * 4 + 2) (h3 j hj 2 (by decide)), h1.cell (k := j * 4 + 3) (h3 j hj 3 (by decide))⟩
theorem OT.free {B : Nat} {w : World} {T : Tb} {g : Nat} {rb rc : Nat → Nat} {E : Nat → Nat → Fr} (h : OT B w T g rb rc E) {k : Nat} (hk : k < T.N) (j : Nat) : w.frozen? ⟨rb k, j, none⟩ = false := by
 obtain ⟨cur, h1, _⟩ := h.row k hk
 exact h1.frozen j
theorem splice4_get (c : Array Value) (X : Fr) (o m : Nat) (ho : o + 4 ≤ c.size) : (splice c o (frV X))[m]? = if o ≤ m ∧ m < o + 4 then (frV X)[m - o]? else c[m]? := by
 simp only [frV, splice, Array.getElem?_setIfInBounds, Array.size_setIfInBounds]
 by_cases h : o ≤ m ∧ m < o + 4
 ·rw [if_pos h]
  obtain ⟨i, rfl⟩ : ∃ i, m = o + i := ⟨m - o, by omega⟩
  have hi : i < 4 := by omega
  have s0 : o < c.size := by omega
  have s1 : o + 1 < c.size := by omega
  have s2 : o + 1 + 1 < c.size := by omega
  have s3 : o + 1 + 1 + 1 < c.size := by omega
  match i, hi with
  | 0, _ => rw [if_neg (by omega), if_neg (by omega), if_neg (by omega), if_pos (by omega), if_pos (by omega)]; simp
  | 1, _ => rw [if_neg (by omega), if_neg (by omega), if_pos (by omega), if_pos (by omega)]; simp
  | 2, _ => rw [if_neg (by omega), if_pos (by omega), if_pos (by omega)]; simp
  | 3, _ => rw [if_pos (by omega), if_pos (by omega)]; simp
 ·rw [if_neg h]
  rw [if_neg (by omega), if_neg (by omega), if_neg (by omega), if_neg (by omega)]
/-- A rate is written. -/
theorem OT.put {B : Nat} {w : World} {T : Tb} {g : Nat} {rb rc : Nat → Nat} {E : Nat → Nat → Fr} (h : OT B w T g rb rc E) {i j : Nat} (hi : i < T.N) (hj : j < T.rn i) (X : Fr) : OT B (sets w (rb i) (j * 4) (frV X)) T g rb rc (fun k l => if k = i ∧ l = j then X else E k l) := by
 have k := sets_keeps (rb i) (frV X) w (j * 4)
 refine ⟨h.gB, let ⟨gc, hg⟩ := h.gt; ⟨gc, k.heap hg (h.ne hi)⟩, fun l hl => k.cell (h.sl l hl) (h.ne hi), h.le, h.rB, fun l hl => ?_, h.inj⟩
 obtain ⟨cur, h1, h2, h3⟩ := h.row l hl
 by_cases e : l = i
 ·subst e
  refine ⟨_, Cells.sets (frV X) h1 (j * 4), by rw [splice_size]; exact h2, fun m hm q hq => ?_⟩
  rw [splice4_get cur X (j * 4) (m * 4 + q) (by omega)]
  by_cases hmj : m = j
  ·subst hmj
   rw [if_pos (by omega), if_pos ⟨rfl, rfl⟩]
   congr 1; omega
  ·rw [if_neg (by omega), if_neg (by simp [hmj])]
   exact h3 m hm q hq
 ·refine ⟨cur, h1.kb k (h.inj l i hl hi e), h2, fun m hm q hq => ?_⟩
  rw [if_neg (by simp [e])]
  exact h3 m hm q hq

theorem FR.grown {B : Nat} {w w' : World} {X : Fr} {q : Rat} {row : Option Nat} (h : FR w X q) (o : OF B w X) (hg : w.grownBy w' row) (ht : ∀ k, row = some k → ∃ cur t, w.heap[k]? = some (.cells cur t (0, 0)) ∧ t ≠ 153) : FR w' X q ∧ OF B w' X := by
 obtain ⟨⟨a1, b1⟩, c1⟩ := UF.grown (X := X) ⟨h.1.u16.2, h.2.u16.2⟩ o hg ht
 exact ⟨⟨WR.mk h.1.neg a1, WR.mk h.2.neg b1⟩, c1⟩
/-- .. and its rates are Q. -/
def OQ (B : Nat) (w : World) (T : Tb) (g : Nat) (rb rc : Nat → Nat) (Q : Nat → Nat → Rat) : Prop := ∃ E, OT B w T g rb rc E ∧ ∀ k, k < T.N → ∀ l, l < T.rn k → FR w (E k l) (Q k l) ∧ OF B w (E k l)
theorem OQ.ext {B : Nat} {w w' : World} {T : Tb} {g : Nat} {rb rc : Nat → Nat} {Q : Nat → Nat → Rat} (h : OQ B w T g rb rc Q) (e : Ext w w') : OQ B w' T g rb rc Q :=
 let ⟨E, h1, h2⟩ := h; ⟨E, h1.ext e, fun k hk l hl => ⟨(h2 k hk l hl).1.ext e, (h2 k hk l hl).2.ext e⟩⟩
theorem OQ.cast {B : Nat} {w : World} {T : Tb} {g : Nat} {rb rc : Nat → Nat} {Q Q' : Nat → Nat → Rat} (h : OQ B w T g rb rc Q) (e : ∀ k, k < T.N → ∀ l, l < T.rn k → Q k l = Q' k l) : OQ B w T g rb rc Q' :=
 let ⟨E, h1, h2⟩ := h; ⟨E, h1, fun k hk l hl => ⟨(e k hk l hl) ▸ (h2 k hk l hl).1, (h2 k hk l hl).2⟩⟩
theorem OQ.put {B : Nat} {w : World} {T : Tb} {g : Nat} {rb rc : Nat → Nat} {Q Q' : Nat → Nat → Rat} (h : OQ B w T g rb rc Q) {i j : Nat} (hi : i < T.N) (hj : j < T.rn i) {X : Fr} {q : Rat} (hX : FR w X q) (oX : OF B w X) (hq : Q' i j = q) (e : ∀ k, k < T.N → ∀ l, l < T.rn k → ¬ (k = i ∧ l = j) → Q k l = Q' k l) : OQ B (sets w (rb i) (j * 4) (frV X)) T g rb rc Q' := by
 obtain ⟨E, h1, h2⟩ := h
 have kg := keeps_grown (sets_keeps (rb i) (frV X) w (j * 4))
 obtain ⟨cur, c1, _⟩ := h1.row i hi
 have ht : ∀ k, some (rb i) = some k → ∃ cur t, w.heap[k]? = some (.cells cur t (0, 0)) ∧ t ≠ 153 := fun k hk => (Option.some.inj hk) ▸ ⟨cur, _, c1, by decide⟩
 refine ⟨_, h1.put hi hj X, fun k hk l hl => ?_⟩
 by_cases hkl : k = i ∧ l = j
 ·rw [if_pos hkl, hkl.1, hkl.2, hq]
  exact FR.grown hX oX kg ht
 ·rw [if_neg hkl, ← e k hk l hl hkl]
  exact FR.grown (h2 k hk l hl).1 (h2 k hk l hl).2 kg ht
/-- A copy is such a table. -/
theorem OQ.of_copy {B : Nat} {w0 w : World} {T : Tb} {R : Nat → Nat → Rat} {p : Option Addr} {c : Nat} {vs : List Value} (hT : TQ w0 T R) (hl : vs.length = T.N) (hC : CpT B w T vs) (hO : w.ownsRow B 47 1 (.slice p T.N c) T.N vs) : ∃ g rb rc, p = some ⟨g, 0, none⟩ ∧ T.N ≤ c ∧ OQ B w T g rb rc R := by
 have hb := hT.b
 unfold boundsOk at hb
 have hO2 := hO
 rcases hO.2 with ⟨_, h0⟩ | ⟨g, cap, cur, hv, hB, hg, hle, _, _, hcur⟩
 ·omega
 ·simp only [Value.slice.injEq, true_and] at hv
  obtain ⟨rfl, rfl⟩ := hv
  have hrow : ∀ k, k < T.N → ∃ b cb fs, vs[k]? = some (.slice (some ⟨b, 0, none⟩) (T.rn k) cb) ∧ T.rn k ≤ cb ∧ fs.length = T.rn k ∧ CpF B w (T.el k) (T.ln k) (T.ld k) fs ∧ w.ownsRow B 40 4 (.slice (some ⟨b, 0, none⟩) (T.rn k) cb) (T.rn k) (frC fs) := fun k hk => by
   have hk' : k < vs.length := by omega
   obtain ⟨fs, q1, q2, q3⟩ := hC.row k vs[k] (by simp [hk'])
   have hrn := hT.rn k hk
   rcases q3.2 with ⟨_, h0⟩ | ⟨b, cb, curb, hvb, _, _, hleb, _⟩
   ·omega
   ·exact ⟨b, cb, fs, by rw [← hvb]; simp [hk'], hleb, q1, q2, hvb ▸ q3⟩
  let rb : Nat → Nat := fun k => if h : k < T.N then Classical.choose (hrow k h) else 0
  let rc : Nat → Nat := fun k => if h : k < T.N then Classical.choose (Classical.choose_spec (hrow k h)) else 0
  let F : Nat → List Fr := fun k => if h : k < T.N then Classical.choose (Classical.choose_spec (Classical.choose_spec (hrow k h))) else []
  have hs : ∀ k, k < T.N → vs[k]? = some (.slice (some ⟨rb k, 0, none⟩) (T.rn k) (rc k)) ∧ T.rn k ≤ rc k ∧ (F k).length = T.rn k ∧ CpF B w (T.el k) (T.ln k) (T.ld k) (F k) ∧ w.ownsRow B 40 4 (.slice (some ⟨rb k, 0, none⟩) (T.rn k) (rc k)) (T.rn k) (frC (F k)) := fun k hk => by
   have := Classical.choose_spec (Classical.choose_spec (Classical.choose_spec (hrow k hk)))
   simp only [rb, rc, F, dif_pos hk]
   exact this
  let E : Nat → Nat → Fr := fun k j => (F k).getD j ⟨zeroWh, zeroWh⟩
  have hE : ∀ k, k < T.N → ∀ j, j < T.rn k → (F k)[j]? = some (E k j) := fun k hk j hj => by
   have h1 := (hs k hk).2.2.1
   have : j < (F k).length := by omega
   simp only [E, List.getD_eq_getElem?_getD, List.getElem?_eq_getElem this, Option.getD_some]
  refine ⟨g, rb, rc, rfl, hle, E, ⟨hB, ⟨cur, hg⟩, fun k hk => ?_, fun k hk => (hs k hk).2.1, fun k hk => ?_, fun k hk => ?_, fun k l hk hl hne => ?_⟩, fun k hk j hj => ?_⟩
  ·have := hO2.cells (g := g) rfl k _ (hs k hk).1
   simpa [Addr.add] using (by by_cases h0 : k = 0 <;> simpa [Addr.add, h0] using this : w.cell? ⟨g, k, none⟩ = _)
  ·exact ((hs k hk).2.2.2.2.lt _ rfl).1
  ·obtain ⟨_, _, hlen, _, ho⟩ := hs k hk
   rcases ho.2 with ⟨h1, _⟩ | ⟨b, cb, curb, hvb, _, hgb, hleb, _, hsz, hpre⟩
   ·cases h1
   ·simp only [Value.slice.injEq, Option.some.injEq, Addr.mk.injEq, true_and, and_true] at hvb
    obtain ⟨e1, e2⟩ := hvb
    refine ⟨curb, by rw [e1]; exact hgb, by rw [hsz]; exact Nat.mul_le_mul_right 4 hleb, fun j hj i hi => ?_⟩
    have h2 := frC_get (F k) j (E k j) (hE k hk j hj) i hi
    rw [← h2]
    rw [← hpre, List.getElem?_take, if_pos (by omega)]
    simp
  ·intro e
   rcases Nat.lt_or_gt_of_ne hne with h | h
   ·have h9 : rb k < rb l := hC.ord k l _ _ _ _ h (hs k hk).1 (hs l hl).1 rfl rfl
    omega
   ·have h9 : rb l < rb k := hC.ord l k _ _ _ _ h (hs l hl).1 (hs k hk).1 rfl rfl
    omega
  ·obtain ⟨u1, u2, u3, u4⟩ := (hs k hk).2.2.2.1 j _ (hE k hk j hj)
   have hq := hT.q k hk j hj
   obtain ⟨l1, l2⟩ := uf_lists (hT.tw.raw k hk j hj) hq
   rw [l1, l2] at u1
   exact ⟨⟨WR.mk (u2.trans hq.1.neg) u1.1, WR.mk (u3.trans hq.2.neg) (by rw [Int.natAbs_natCast]; exact u1.2)⟩, u4⟩
end Go.Proofs.YtndgaecfeaedeaaGreat
namespace Go.Proofs.YtndgaecfeaedeaaGreat
open Go.RowKit Lex Mth
attribute [local go_sem] run_indexAt_at add_zero_map Oper.semAt_some at_zero at_add at_mk1 at_mk2 at_mk3

set_option maxRecDepth 100000 in
theorem lRate0 (T : Tb) (e y : Int) (w : World) (hT : TW w T) (ey : -9223372036854775808 ≤ e ∧ e ≤ 9223372036854775807 ∧ -9223372036854775808 ≤ y ∧ y ≤ 9223372036854775807) (ok : okL T e y = false) :
    Calls Tryz.prog 16 #[.agg #[.int .i64 T.first, .int .i64 T.sel, .slice T.P T.N T.C], .agg #[.int .i64 e, .int .i64 y]] w (Gv (.v (.tuple #[.agg #[.bool false, .slice none 0 0, .bool false, .slice none 0 0], .int .i64 2])) w) := by
 have Hok := Lib.hid ok
 clear ok
 obtain ⟨w1, hww1, ew1, B1, zw1⟩ := alloc_at w (w.heap.size) (by omega) #[.int .i64 T.first, .int .i64 T.sel, .slice T.P T.N T.C] 24
 obtain ⟨w2, hww2, ew2, B2, zw2⟩ := alloc_at w1 (w.heap.size + 1) (by omega) #[.int .i64 e, .int .i64 y] 26
 obtain ⟨w3, hww3, ew3, B3, zw3⟩ := alloc_at w2 (w.heap.size + 1 + 1) (by omega) #[.bool false, .slice none 0 0, .bool false, .slice none 0 0] 40
 have xw1_w3 := eg ew2 ew3
 replace B1 := B1.ext xw1_w3
 have b1_w3 := B1.c3
 replace B2 := B2.ext ew3
 have b2_w3 := B2.c2
 have xw_w3 := eg (eg ew1 ew2) ew3
 go_enter Tryz.func16, Tryz.ntmps16
 go_wp2_with fail
 clear hww1 hww2 hww3
 replace zw1 := le2 zw1
 replace zw2 := le2 zw2
 replace zw3 := le2 zw3
 refine (lRight T e y _ (hT.ext xw_w3) ey Hok.out).mono (Gv.onV fun w4 ew4 zw4 => ?_)
 replace B3 := B3.ext ew4
 have b3_w4 := B3.c4
 have fb3_w4 := B3.f4
 have xw_w4 := eg xw_w3 ew4
 obtain ⟨w5, hww5, kw5, Nw5, zw5⟩ := B3.put4 (.bool false) (.slice none 0 0) (.bool false) (.slice none 0 0)
 have xw_w5 := Ext.kb xw_w4 kw5 (by omega)
 replace B3 := Nw5
 clear Nw5 kw5
 have b3_w5 := B3.c4
 go_wp2_with fail
 clear hww5
 clear b1_w3 b2_w3 b3_w4 fb3_w4
 replace zw5 := le2 zw5
 refine bodyPost_ret (v := .tuple #[.agg #[.bool false, .slice none 0 0, .bool false, .slice none 0 0], .int .i64 2]) (by simp [results, Tryz.results16, go_sem, b3_w5]) rfl ?_
 exact Gv.of_v xw_w5

set_option maxRecDepth 100000 in
theorem lExpect0 (T : Tb) (e y : Int) (w : World) (hT : TW w T) (ey : -9223372036854775808 ≤ e ∧ e ≤ 9223372036854775807 ∧ -9223372036854775808 ≤ y ∧ y ≤ 9223372036854775807) (ok : okL T e y = false) :
    Calls Tryz.prog 19 #[.agg #[.int .i64 T.first, .int .i64 T.sel, .slice T.P T.N T.C], .agg #[.int .i64 e, .int .i64 y]] w (Gv (.v (.tuple #[.agg #[.bool false, .slice none 0 0, .bool false, .slice none 0 0], .int .i64 2])) w) := by
 have Hok := Lib.hid ok
 clear ok
 obtain ⟨w1, hww1, ew1, B1, zw1⟩ := alloc_at w (w.heap.size) (by omega) #[.int .i64 T.first, .int .i64 T.sel, .slice T.P T.N T.C] 24
 obtain ⟨w2, hww2, ew2, B2, zw2⟩ := alloc_at w1 (w.heap.size + 1) (by omega) #[.int .i64 e, .int .i64 y] 26
 obtain ⟨w3, hww3, ew3, B3, zw3⟩ := alloc_at w2 (w.heap.size + 1 + 1) (by omega) #[.bool false, .slice none 0 0, .bool false, .slice none 0 0] 40
 have xw1_w3 := eg ew2 ew3
 replace B1 := B1.ext xw1_w3
 have b1_w3 := B1.c3
 replace B2 := B2.ext ew3
 have b2_w3 := B2.c2
 have xw_w3 := eg (eg ew1 ew2) ew3
 go_enter Tryz.func19, Tryz.ntmps19
 go_wp2_with fail
 clear hww1 hww2 hww3
 replace zw1 := le2 zw1
 replace zw2 := le2 zw2
 replace zw3 := le2 zw3
 refine (lRight T e y _ (hT.ext xw_w3) ey Hok.out).mono (Gv.onV fun w4 ew4 zw4 => ?_)
 replace B3 := B3.ext ew4
 have b3_w4 := B3.c4
 have fb3_w4 := B3.f4
 have xw_w4 := eg xw_w3 ew4
 obtain ⟨w5, hww5, kw5, Nw5, zw5⟩ := B3.put4 (.bool false) (.slice none 0 0) (.bool false) (.slice none 0 0)
 have xw_w5 := Ext.kb xw_w4 kw5 (by omega)
 replace B3 := Nw5
 clear Nw5 kw5
 have b3_w5 := B3.c4
 go_wp2_with fail
 clear hww5
 clear b1_w3 b2_w3 b3_w4 fb3_w4
 replace zw5 := le2 zw5
 refine bodyPost_ret (v := .tuple #[.agg #[.bool false, .slice none 0 0, .bool false, .slice none 0 0], .int .i64 2]) (by simp [results, Tryz.results19, go_sem, b3_w5]) rfl ?_
 exact Gv.of_v xw_w5

set_option maxRecDepth 100000 in
theorem lAlive0 (T : Tb) (e y : Int) (n : Int) (w : World) (hT : TW w T) (ey : -9223372036854775808 ≤ e ∧ e ≤ 9223372036854775807 ∧ -9223372036854775808 ≤ y ∧ y ≤ 9223372036854775807) (hb : (okL T e y && decide (0 ≤ n)) = false) :
    Calls Tryz.prog 17 #[.agg #[.int .i64 T.first, .int .i64 T.sel, .slice T.P T.N T.C], .agg #[.int .i64 e, .int .i64 y], .int .i64 n] w (Gv (.v (.tuple #[.agg #[.bool false, .slice none 0 0, .bool false, .slice none 0 0], .int .i64 2])) w) := by
 obtain ⟨w1, hww1, ew1, B1, zw1⟩ := alloc_at w (w.heap.size) (by omega) #[.int .i64 T.first, .int .i64 T.sel, .slice T.P T.N T.C] 24
 obtain ⟨w2, hww2, ew2, B2, zw2⟩ := alloc_at w1 (w.heap.size + 1) (by omega) #[.int .i64 e, .int .i64 y] 26
 obtain ⟨w3, hww3, ew3, B3, zw3⟩ := alloc_at w2 (w.heap.size + 1 + 1) (by omega) #[.bool false, .slice none 0 0, .bool false, .slice none 0 0] 40
 go_enter Tryz.func17, Tryz.ntmps17
 rcases (by cases ok : okL T e y; exact .inl rfl; exact .inr ⟨rfl, by simpa [ok] using hb⟩ : okL T e y = false ∨ (okL T e y = true ∧ n < 0)) with ok | ⟨ok, hn0⟩
 ·skip
  have xw1_w3 := eg ew2 ew3
  replace B1 := B1.ext xw1_w3
  have b1_w3 := B1.c3
  replace B2 := B2.ext ew3
  have b2_w3 := B2.c2
  have xw_w3 := eg (eg ew1 ew2) ew3
  have Hb := Lib.hid hb
  clear hb
  have Hok := Lib.hid ok
  clear ok
  go_wp2_with fail
  clear hww1 hww2 hww3
  replace zw1 := le2 zw1
  replace zw2 := le2 zw2
  replace zw3 := le2 zw3
  refine (lRight T e y _ (hT.ext xw_w3) ey Hok.out).mono (Gv.onV fun w4 ew4 zw4 => ?_)
  replace B3 := B3.ext ew4
  have b3_w4 := B3.c4
  have fb3_w4 := B3.f4
  replace B1 := B1.ext ew4
  replace B2 := B2.ext ew4
  have xw_w4 := eg xw_w3 ew4
  obtain ⟨w5, hww5, kw5, Nw5, zw5⟩ := B3.put4 (.bool false) (.slice none 0 0) (.bool false) (.slice none 0 0)
  replace B1 := B1.kb kw5 (by omega)
  replace B2 := B2.kb kw5 (by omega)
  have xw_w5 := Ext.kb xw_w4 kw5 (by omega)
  replace B3 := Nw5
  clear Nw5 kw5
  have b3_w5 := B3.c4
  go_wp2_with fail
  clear hww5
  clear b1_w3 b2_w3 b3_w4 fb3_w4
  replace zw5 := le2 zw5
  refine bodyPost_ret (v := .tuple #[.agg #[.bool false, .slice none 0 0, .bool false, .slice none 0 0], .int .i64 2]) (by simp [results, Tryz.results17, go_sem, b3_w5]) rfl ?_
  exact Gv.of_v xw_w5
 ·skip
  have xw1_w3 := eg ew2 ew3
  replace B1 := B1.ext xw1_w3
  have b1_w3 := B1.c3
  replace B2 := B2.ext ew3
  have b2_w3 := B2.c2
  have xw_w3 := eg (eg ew1 ew2) ew3
  have Hb := Lib.hid hb
  clear hb
  have Hok := Lib.hid ok
  clear ok
  go_wp2_with fail
  clear hww1 hww2 hww3
  replace zw1 := le2 zw1
  replace zw2 := le2 zw2
  replace zw3 := le2 zw3
  refine (lRight T e y _ (hT.ext xw_w3) ey Hok.out).mono (Gv.onV fun w6 ew6 zw6 => ?_)
  replace B3 := B3.ext ew6
  have b3_w6 := B3.c4
  have fb3_w6 := B3.f4
  have xw_w6 := eg xw_w3 ew6
  obtain ⟨w7, hww7, kw7, Nw7, zw7⟩ := B3.put4 (.bool false) (.slice none 0 0) (.bool false) (.slice none 0 0)
  have xw_w7 := Ext.kb xw_w6 kw7 (by omega)
  replace B3 := Nw7
  clear Nw7 kw7
  have b3_w7 := B3.c4
  go_wp2_with fail
  clear hww7
  clear b1_w3 b2_w3 b3_w6 fb3_w6
  replace zw7 := le2 zw7
  refine bodyPost_ret (v := .tuple #[.agg #[.bool false, .slice none 0 0, .bool false, .slice none 0 0], .int .i64 2]) (by simp [results, Tryz.results17, go_sem, b3_w7]) rfl ?_
  exact Gv.of_v xw_w7

set_option maxRecDepth 100000 in
theorem lDies0 (T : Tb) (e y : Int) (n : Int) (w : World) (hT : TW w T) (ey : -9223372036854775808 ≤ e ∧ e ≤ 9223372036854775807 ∧ -9223372036854775808 ≤ y ∧ y ≤ 9223372036854775807) (hb : (okL T e y && decide (0 ≤ n)) = false) :
    Calls Tryz.prog 18 #[.agg #[.int .i64 T.first, .int .i64 T.sel, .slice T.P T.N T.C], .agg #[.int .i64 e, .int .i64 y], .int .i64 n] w (Gv (.v (.tuple #[.agg #[.bool false, .slice none 0 0, .bool false, .slice none 0 0], .int .i64 2])) w) := by
 obtain ⟨w1, hww1, ew1, B1, zw1⟩ := alloc_at w (w.heap.size) (by omega) #[.int .i64 T.first, .int .i64 T.sel, .slice T.P T.N T.C] 24
 obtain ⟨w2, hww2, ew2, B2, zw2⟩ := alloc_at w1 (w.heap.size + 1) (by omega) #[.int .i64 e, .int .i64 y] 26
 obtain ⟨w3, hww3, ew3, B3, zw3⟩ := alloc_at w2 (w.heap.size + 1 + 1) (by omega) #[.int .i64 n] 3
 obtain ⟨w4, hww4, ew4, B4, zw4⟩ := alloc_at w3 (w.heap.size + 1 + 1 + 1) (by omega) #[.bool false, .slice none 0 0, .bool false, .slice none 0 0] 40
 obtain ⟨w5, hww5, ew5, B5, zw5⟩ := alloc_at w4 (w.heap.size + 1 + 1 + 1 + 1) (by omega) #[.int .i64 0] 41
 go_enter Tryz.func18, Tryz.ntmps18
 rcases (by cases ok : okL T e y; exact .inl rfl; exact .inr ⟨rfl, by simpa [ok] using hb⟩ : okL T e y = false ∨ (okL T e y = true ∧ n < 0)) with ok | ⟨ok, hn0⟩
 ·skip
  have xw1_w5 := eg (eg (eg ew2 ew3) ew4) ew5
  replace B1 := B1.ext xw1_w5
  have b1_w5 := B1.c3
  have xw2_w5 := eg (eg ew3 ew4) ew5
  replace B2 := B2.ext xw2_w5
  have b2_w5 := B2.c2
  have xw_w5 := eg (eg (eg (eg ew1 ew2) ew3) ew4) ew5
  have Hb := Lib.hid hb
  clear hb
  have Hok := Lib.hid ok
  clear ok
  go_wp2_with fail
  clear hww1 hww2 hww3 hww4 hww5
  replace zw1 := le2 zw1
  replace zw2 := le2 zw2
  replace zw3 := le2 zw3
  replace zw4 := le2 zw4
  replace zw5 := le2 zw5
  refine (lRight T e y _ (hT.ext xw_w5) ey Hok.out).mono (Gv.onV fun w6 ew6 zw6 => ?_)
  have xw4_w6 := eg ew5 ew6
  replace B4 := B4.ext xw4_w6
  have b4_w6 := B4.c4
  have fb4_w6 := B4.f4
  replace B1 := B1.ext ew6
  replace B2 := B2.ext ew6
  have xw3_w6 := eg (eg ew4 ew5) ew6
  replace B3 := B3.ext xw3_w6
  replace B5 := B5.ext ew6
  have xw_w6 := eg xw_w5 ew6
  obtain ⟨w7, hww7, kw7, Nw7, zw7⟩ := B4.put4 (.bool false) (.slice none 0 0) (.bool false) (.slice none 0 0)
  replace B1 := B1.kb kw7 (by omega)
  replace B2 := B2.kb kw7 (by omega)
  replace B3 := B3.kb kw7 (by omega)
  replace B5 := B5.kb kw7 (by omega)
  have xw_w7 := Ext.kb xw_w6 kw7 (by omega)
  replace B4 := Nw7
  clear Nw7 kw7
  have b5_w7 := B5.c1
  have fb5_w7 := B5.f1
  obtain ⟨w8, hww8, kw8, Nw8, zw8⟩ := B5.put1 (.int .i64 2)
  replace B1 := B1.kb kw8 (by omega)
  replace B2 := B2.kb kw8 (by omega)
  replace B3 := B3.kb kw8 (by omega)
  replace B4 := B4.kb kw8 (by omega)
  have xw_w8 := Ext.kb xw_w7 kw8 (by omega)
  replace B5 := Nw8
  clear Nw8 kw8
  have b4_w8 := B4.c4
  have b5_w8 := B5.c1
  go_wp2_with fail
  clear hww7 hww8
  clear b1_w5 b2_w5 b4_w6 fb4_w6 b5_w7 fb5_w7
  replace zw7 := le2 zw7
  replace zw8 := le2 zw8
  refine bodyPost_ret (v := .tuple #[.agg #[.bool false, .slice none 0 0, .bool false, .slice none 0 0], .int .i64 2]) (by simp [results, Tryz.results18, go_sem, b4_w8, b5_w8]) rfl ?_
  exact Gv.of_v xw_w8
 ·skip
  have xw1_w5 := eg (eg (eg ew2 ew3) ew4) ew5
  replace B1 := B1.ext xw1_w5
  have b1_w5 := B1.c3
  have xw2_w5 := eg (eg ew3 ew4) ew5
  replace B2 := B2.ext xw2_w5
  have b2_w5 := B2.c2
  have xw_w5 := eg (eg (eg (eg ew1 ew2) ew3) ew4) ew5
  have Hb := Lib.hid hb
  clear hb
  have Hok := Lib.hid ok
  clear ok
  go_wp2_with fail
  clear hww1 hww2 hww3 hww4 hww5
  replace zw1 := le2 zw1
  replace zw2 := le2 zw2
  replace zw3 := le2 zw3
  replace zw4 := le2 zw4
  replace zw5 := le2 zw5
  refine (lRight T e y _ (hT.ext xw_w5) ey Hok.out).mono (Gv.onV fun w9 ew9 zw9 => ?_)
  have xw3_w9 := eg (eg ew4 ew5) ew9
  replace B3 := B3.ext xw3_w9
  have b3_w9 := B3.c1
  have xw4_w9 := eg ew5 ew9
  replace B4 := B4.ext xw4_w9
  have b4_w9 := B4.c4
  have fb4_w9 := B4.f4
  replace B5 := B5.ext ew9
  have xw_w9 := eg xw_w5 ew9
  obtain ⟨w10, hww10, kw10, Nw10, zw10⟩ := B4.put4 (.bool false) (.slice none 0 0) (.bool false) (.slice none 0 0)
  replace B5 := B5.kb kw10 (by omega)
  have xw_w10 := Ext.kb xw_w9 kw10 (by omega)
  replace B4 := Nw10
  clear Nw10 kw10
  have b5_w10 := B5.c1
  have fb5_w10 := B5.f1
  obtain ⟨w11, hww11, kw11, Nw11, zw11⟩ := B5.put1 (.int .i64 2)
  replace B4 := B4.kb kw11 (by omega)
  have xw_w11 := Ext.kb xw_w10 kw11 (by omega)
  replace B5 := Nw11
  clear Nw11 kw11
  have b4_w11 := B4.c4
  have b5_w11 := B5.c1
  go_wp2_with fail
  clear hww10 hww11
  clear b1_w5 b2_w5 b3_w9 b4_w9 fb4_w9 b5_w10 fb5_w10
  replace zw10 := le2 zw10
  replace zw11 := le2 zw11
  refine bodyPost_ret (v := .tuple #[.agg #[.bool false, .slice none 0 0, .bool false, .slice none 0 0], .int .i64 2]) (by simp [results, Tryz.results18, go_sem, b4_w11, b5_w11]) rfl ?_
  exact Gv.of_v xw_w11

set_option maxRecDepth 100000 in
theorem lpair0 (T : Tb) (e y : Int) (e2 y2 : Int) (n : Int) (g : Value) (w : World) (hT : TW w T) (ey : -9223372036854775808 ≤ e ∧ e ≤ 9223372036854775807 ∧ -9223372036854775808 ≤ y ∧ y ≤ 9223372036854775807) (ey2 : -9223372036854775808 ≤ e2 ∧ e2 ≤ 9223372036854775807 ∧ -9223372036854775808 ≤ y2 ∧ y2 ≤ 9223372036854775807) (hb : (okL T e y && okL T e2 y2 && decide (0 ≤ n)) = false) :
    Calls Tryz.prog 62 #[.agg #[.int .i64 T.first, .int .i64 T.sel, .slice T.P T.N T.C], .agg #[.int .i64 e, .int .i64 y], .agg #[.int .i64 e2, .int .i64 y2], .int .i64 n, g] w (Gv (.v (.tuple #[.agg #[.bool false, .slice none 0 0, .bool false, .slice none 0 0], .int .i64 2])) w) := by
 obtain ⟨w1, hww1, ew1, B1, zw1⟩ := alloc_at w (w.heap.size) (by omega) #[.int .i64 T.first, .int .i64 T.sel, .slice T.P T.N T.C] 24
 obtain ⟨w2, hww2, ew2, B2, zw2⟩ := alloc_at w1 (w.heap.size + 1) (by omega) #[.int .i64 e, .int .i64 y] 26
 obtain ⟨w3, hww3, ew3, B3, zw3⟩ := alloc_at w2 (w.heap.size + 1 + 1) (by omega) #[.int .i64 e2, .int .i64 y2] 26
 obtain ⟨w4, hww4, ew4, B4, zw4⟩ := alloc_at w3 (w.heap.size + 1 + 1 + 1) (by omega) #[.bool false, .slice none 0 0, .bool false, .slice none 0 0] 40
 go_enter Tryz.func62, Tryz.ntmps62
 rcases (by cases ok : okL T e y; exact .inl rfl; cases ok2 : okL T e2 y2; exact .inr (.inl ⟨rfl, rfl⟩); exact .inr (.inr ⟨rfl, rfl, by simpa [ok, ok2] using hb⟩) : okL T e y = false ∨ (okL T e y = true ∧ okL T e2 y2 = false) ∨ (okL T e y = true ∧ okL T e2 y2 = true ∧ n < 0)) with ok | ⟨ok, ok2⟩ | ⟨ok, ok2, hn0⟩
 ·skip
  have xw1_w4 := eg (eg ew2 ew3) ew4
  replace B1 := B1.ext xw1_w4
  have b1_w4 := B1.c3
  have xw2_w4 := eg ew3 ew4
  replace B2 := B2.ext xw2_w4
  have b2_w4 := B2.c2
  have xw_w4 := eg (eg (eg ew1 ew2) ew3) ew4
  have Hb := Lib.hid hb
  clear hb
  have Hok := Lib.hid ok
  clear ok
  go_wp2_with fail
  clear hww1 hww2 hww3 hww4
  replace zw1 := le2 zw1
  replace zw2 := le2 zw2
  replace zw3 := le2 zw3
  replace zw4 := le2 zw4
  refine (lRight T e y _ (hT.ext xw_w4) ey Hok.out).mono (Gv.onV fun w5 ew5 zw5 => ?_)
  replace B4 := B4.ext ew5
  have b4_w5 := B4.c4
  have fb4_w5 := B4.f4
  replace B1 := B1.ext ew5
  replace B2 := B2.ext ew5
  have xw3_w5 := eg ew4 ew5
  replace B3 := B3.ext xw3_w5
  have xw_w5 := eg xw_w4 ew5
  obtain ⟨w6, hww6, kw6, Nw6, zw6⟩ := B4.put4 (.bool false) (.slice none 0 0) (.bool false) (.slice none 0 0)
  replace B1 := B1.kb kw6 (by omega)
  replace B2 := B2.kb kw6 (by omega)
  replace B3 := B3.kb kw6 (by omega)
  have xw_w6 := Ext.kb xw_w5 kw6 (by omega)
  replace B4 := Nw6
  clear Nw6 kw6
  have b4_w6 := B4.c4
  go_wp2_with fail
  clear hww6
  clear b1_w4 b2_w4 b4_w5 fb4_w5
  replace zw6 := le2 zw6
  refine bodyPost_ret (v := .tuple #[.agg #[.bool false, .slice none 0 0, .bool false, .slice none 0 0], .int .i64 2]) (by simp [results, Tryz.results62, go_sem, b4_w6]) rfl ?_
  exact Gv.of_v xw_w6
 ·skip
  have xw1_w4 := eg (eg ew2 ew3) ew4
  replace B1 := B1.ext xw1_w4
  have b1_w4 := B1.c3
  have xw2_w4 := eg ew3 ew4
  replace B2 := B2.ext xw2_w4
  have b2_w4 := B2.c2
  have xw_w4 := eg (eg (eg ew1 ew2) ew3) ew4
  have Hb := Lib.hid hb
  clear hb
  have Hok := Lib.hid ok
  clear ok
  have Hok2 := Lib.hid ok2
  clear ok2
  go_wp2_with fail
  clear hww1 hww2 hww3 hww4
  replace zw1 := le2 zw1
  replace zw2 := le2 zw2
  replace zw3 := le2 zw3
  replace zw4 := le2 zw4
  refine (lRight T e y _ (hT.ext xw_w4) ey Hok.out).mono (Gv.onV fun w7 ew7 zw7 => ?_)
  replace B1 := B1.ext ew7
  have b1_w7 := B1.c3
  have xw3_w7 := eg ew4 ew7
  replace B3 := B3.ext xw3_w7
  have b3_w7 := B3.c2
  have xw_w7 := eg xw_w4 ew7
  go_wp2_with fail
  clear b1_w4 b2_w4
  refine (lRight T e2 y2 _ (hT.ext xw_w7) ey2 Hok2.out).mono (Gv.onV fun w8 ew8 zw8 => ?_)
  have xw4_w8 := eg ew7 ew8
  replace B4 := B4.ext xw4_w8
  have b4_w8 := B4.c4
  have fb4_w8 := B4.f4
  replace B1 := B1.ext ew8
  replace B2 := B2.ext xw4_w8
  replace B3 := B3.ext ew8
  have xw_w8 := eg xw_w7 ew8
  obtain ⟨w9, hww9, kw9, Nw9, zw9⟩ := B4.put4 (.bool false) (.slice none 0 0) (.bool false) (.slice none 0 0)
  replace B1 := B1.kb kw9 (by omega)
  replace B2 := B2.kb kw9 (by omega)
  replace B3 := B3.kb kw9 (by omega)
  have xw_w9 := Ext.kb xw_w8 kw9 (by omega)
  replace B4 := Nw9
  clear Nw9 kw9
  have b4_w9 := B4.c4
  go_wp2_with fail
  clear hww9
  clear b1_w7 b3_w7 b4_w8 fb4_w8
  replace zw9 := le2 zw9
  refine bodyPost_ret (v := .tuple #[.agg #[.bool false, .slice none 0 0, .bool false, .slice none 0 0], .int .i64 2]) (by simp [results, Tryz.results62, go_sem, b4_w9]) rfl ?_
  exact Gv.of_v xw_w9
 ·skip
  have xw1_w4 := eg (eg ew2 ew3) ew4
  replace B1 := B1.ext xw1_w4
  have b1_w4 := B1.c3
  have xw2_w4 := eg ew3 ew4
  replace B2 := B2.ext xw2_w4
  have b2_w4 := B2.c2
  have xw_w4 := eg (eg (eg ew1 ew2) ew3) ew4
  have Hb := Lib.hid hb
  clear hb
  have Hok := Lib.hid ok
  clear ok
  have Hok2 := Lib.hid ok2
  clear ok2
  go_wp2_with fail
  clear hww1 hww2 hww3 hww4
  replace zw1 := le2 zw1
  replace zw2 := le2 zw2
  replace zw3 := le2 zw3
  replace zw4 := le2 zw4
  refine (lRight T e y _ (hT.ext xw_w4) ey Hok.out).mono (Gv.onV fun w10 ew10 zw10 => ?_)
  replace B1 := B1.ext ew10
  have b1_w10 := B1.c3
  have xw3_w10 := eg ew4 ew10
  replace B3 := B3.ext xw3_w10
  have b3_w10 := B3.c2
  have xw_w10 := eg xw_w4 ew10
  go_wp2_with fail
  clear b1_w4 b2_w4
  refine (lRight T e2 y2 _ (hT.ext xw_w10) ey2 Hok2.out).mono (Gv.onV fun w11 ew11 zw11 => ?_)
  have xw4_w11 := eg ew10 ew11
  replace B4 := B4.ext xw4_w11
  have b4_w11 := B4.c4
  have fb4_w11 := B4.f4
  have xw_w11 := eg xw_w10 ew11
  obtain ⟨w12, hww12, kw12, Nw12, zw12⟩ := B4.put4 (.bool false) (.slice none 0 0) (.bool false) (.slice none 0 0)
  have xw_w12 := Ext.kb xw_w11 kw12 (by omega)
  replace B4 := Nw12
  clear Nw12 kw12
  have b4_w12 := B4.c4
  go_wp2_with fail
  clear hww12
  clear b1_w10 b3_w10 b4_w11 fb4_w11
  replace zw12 := le2 zw12
  refine bodyPost_ret (v := .tuple #[.agg #[.bool false, .slice none 0 0, .bool false, .slice none 0 0], .int .i64 2]) (by simp [results, Tryz.results62, go_sem, b4_w12]) rfl ?_
  exact Gv.of_v xw_w12

set_option maxRecDepth 100000 in
theorem lBoth0 (T : Tb) (e y : Int) (e2 y2 : Int) (n : Int) (w : World) (hT : TW w T) (ey : -9223372036854775808 ≤ e ∧ e ≤ 9223372036854775807 ∧ -9223372036854775808 ≤ y ∧ y ≤ 9223372036854775807) (ey2 : -9223372036854775808 ≤ e2 ∧ e2 ≤ 9223372036854775807 ∧ -9223372036854775808 ≤ y2 ∧ y2 ≤ 9223372036854775807) (hb : (okL T e y && okL T e2 y2 && decide (0 ≤ n)) = false) :
    Calls Tryz.prog 20 #[.agg #[.int .i64 T.first, .int .i64 T.sel, .slice T.P T.N T.C], .agg #[.int .i64 e, .int .i64 y], .agg #[.int .i64 e2, .int .i64 y2], .int .i64 n] w (Gv (.v (.tuple #[.agg #[.bool false, .slice none 0 0, .bool false, .slice none 0 0], .int .i64 2])) w) := by
 have Hb := Lib.hid hb
 clear hb
 obtain ⟨w1, hww1, ew1, B1, zw1⟩ := alloc_at w (w.heap.size) (by omega) #[.int .i64 T.first, .int .i64 T.sel, .slice T.P T.N T.C] 24
 obtain ⟨w2, hww2, ew2, B2, zw2⟩ := alloc_at w1 (w.heap.size + 1) (by omega) #[.int .i64 e, .int .i64 y] 26
 obtain ⟨w3, hww3, ew3, B3, zw3⟩ := alloc_at w2 (w.heap.size + 1 + 1) (by omega) #[.int .i64 e2, .int .i64 y2] 26
 obtain ⟨w4, hww4, ew4, B4, zw4⟩ := alloc_at w3 (w.heap.size + 1 + 1 + 1) (by omega) #[.bool false, .slice none 0 0, .bool false, .slice none 0 0] 40
 have xw1_w4 := eg (eg ew2 ew3) ew4
 replace B1 := B1.ext xw1_w4
 have b1_w4 := B1.c3
 have xw2_w4 := eg ew3 ew4
 replace B2 := B2.ext xw2_w4
 have b2_w4 := B2.c2
 replace B3 := B3.ext ew4
 have b3_w4 := B3.c2
 have xw_w4 := eg (eg (eg ew1 ew2) ew3) ew4
 go_enter Tryz.func20, Tryz.ntmps20
 go_wp2_with fail
 clear hww1 hww2 hww3 hww4
 replace zw1 := le2 zw1
 replace zw2 := le2 zw2
 replace zw3 := le2 zw3
 replace zw4 := le2 zw4
 refine (lpair0 T e y e2 y2 n (.func (.func 59) #[] #[]) _ (hT.ext xw_w4) ey ey2 Hb.out).mono (Gv.onV fun w5 ew5 zw5 => ?_)
 replace B4 := B4.ext ew5
 have b4_w5 := B4.c4
 have fb4_w5 := B4.f4
 have xw_w5 := eg xw_w4 ew5
 obtain ⟨w6, hww6, kw6, Nw6, zw6⟩ := B4.put4 (.bool false) (.slice none 0 0) (.bool false) (.slice none 0 0)
 have xw_w6 := Ext.kb xw_w5 kw6 (by omega)
 replace B4 := Nw6
 clear Nw6 kw6
 have b4_w6 := B4.c4
 go_wp2_with fail
 clear hww6
 clear b1_w4 b2_w4 b3_w4 b4_w5 fb4_w5
 replace zw6 := le2 zw6
 refine bodyPost_ret (v := .tuple #[.agg #[.bool false, .slice none 0 0, .bool false, .slice none 0 0], .int .i64 2]) (by simp [results, Tryz.results20, go_sem, b4_w6]) rfl ?_
 exact Gv.of_v xw_w6

set_option maxRecDepth 100000 in
theorem lEither0 (T : Tb) (e y : Int) (e2 y2 : Int) (n : Int) (w : World) (hT : TW w T) (ey : -9223372036854775808 ≤ e ∧ e ≤ 9223372036854775807 ∧ -9223372036854775808 ≤ y ∧ y ≤ 9223372036854775807) (ey2 : -9223372036854775808 ≤ e2 ∧ e2 ≤ 9223372036854775807 ∧ -9223372036854775808 ≤ y2 ∧ y2 ≤ 9223372036854775807) (hb : (okL T e y && okL T e2 y2 && decide (0 ≤ n)) = false) :
    Calls Tryz.prog 21 #[.agg #[.int .i64 T.first, .int .i64 T.sel, .slice T.P T.N T.C], .agg #[.int .i64 e, .int .i64 y], .agg #[.int .i64 e2, .int .i64 y2], .int .i64 n] w (Gv (.v (.tuple #[.agg #[.bool false, .slice none 0 0, .bool false, .slice none 0 0], .int .i64 2])) w) := by
 have Hb := Lib.hid hb
 clear hb
 obtain ⟨w1, hww1, ew1, B1, zw1⟩ := alloc_at w (w.heap.size) (by omega) #[.int .i64 T.first, .int .i64 T.sel, .slice T.P T.N T.C] 24
 obtain ⟨w2, hww2, ew2, B2, zw2⟩ := alloc_at w1 (w.heap.size + 1) (by omega) #[.int .i64 e, .int .i64 y] 26
 obtain ⟨w3, hww3, ew3, B3, zw3⟩ := alloc_at w2 (w.heap.size + 1 + 1) (by omega) #[.int .i64 e2, .int .i64 y2] 26
 obtain ⟨w4, hww4, ew4, B4, zw4⟩ := alloc_at w3 (w.heap.size + 1 + 1 + 1) (by omega) #[.bool false, .slice none 0 0, .bool false, .slice none 0 0] 40
 have xw1_w4 := eg (eg ew2 ew3) ew4
 replace B1 := B1.ext xw1_w4
 have b1_w4 := B1.c3
 have xw2_w4 := eg ew3 ew4
 replace B2 := B2.ext xw2_w4
 have b2_w4 := B2.c2
 replace B3 := B3.ext ew4
 have b3_w4 := B3.c2
 have xw_w4 := eg (eg (eg ew1 ew2) ew3) ew4
 go_enter Tryz.func21, Tryz.ntmps21
 go_wp2_with fail
 clear hww1 hww2 hww3 hww4
 replace zw1 := le2 zw1
 replace zw2 := le2 zw2
 replace zw3 := le2 zw3
 replace zw4 := le2 zw4
 refine (lpair0 T e y e2 y2 n (.func (.func 63) #[] #[]) _ (hT.ext xw_w4) ey ey2 Hb.out).mono (Gv.onV fun w5 ew5 zw5 => ?_)
 replace B4 := B4.ext ew5
 have b4_w5 := B4.c4
 have fb4_w5 := B4.f4
 have xw_w5 := eg xw_w4 ew5
 obtain ⟨w6, hww6, kw6, Nw6, zw6⟩ := B4.put4 (.bool false) (.slice none 0 0) (.bool false) (.slice none 0 0)
 have xw_w6 := Ext.kb xw_w5 kw6 (by omega)
 replace B4 := Nw6
 clear Nw6 kw6
 have b4_w6 := B4.c4
 go_wp2_with fail
 clear hww6
 clear b1_w4 b2_w4 b3_w4 b4_w5 fb4_w5
 replace zw6 := le2 zw6
 refine bodyPost_ret (v := .tuple #[.agg #[.bool false, .slice none 0 0, .bool false, .slice none 0 0], .int .i64 2]) (by simp [results, Tryz.results21, go_sem, b4_w6]) rfl ?_
 exact Gv.of_v xw_w6

set_option maxRecDepth 100000 in
theorem lLeft0 (T : Tb) (e y : Int) (e2 y2 : Int) (n : Int) (w : World) (hT : TW w T) (ey : -9223372036854775808 ≤ e ∧ e ≤ 9223372036854775807 ∧ -9223372036854775808 ≤ y ∧ y ≤ 9223372036854775807) (ey2 : -9223372036854775808 ≤ e2 ∧ e2 ≤ 9223372036854775807 ∧ -9223372036854775808 ≤ y2 ∧ y2 ≤ 9223372036854775807) (hb : (okL T e y && okL T e2 y2 && decide (0 ≤ n)) = false) :
    Calls Tryz.prog 22 #[.agg #[.int .i64 T.first, .int .i64 T.sel, .slice T.P T.N T.C], .agg #[.int .i64 e, .int .i64 y], .agg #[.int .i64 e2, .int .i64 y2], .int .i64 n] w (Gv (.v (.tuple #[.agg #[.bool false, .slice none 0 0, .bool false, .slice none 0 0], .int .i64 2])) w) := by
 have Hb := Lib.hid hb
 clear hb
 obtain ⟨w1, hww1, ew1, B1, zw1⟩ := alloc_at w (w.heap.size) (by omega) #[.int .i64 T.first, .int .i64 T.sel, .slice T.P T.N T.C] 24
 obtain ⟨w2, hww2, ew2, B2, zw2⟩ := alloc_at w1 (w.heap.size + 1) (by omega) #[.int .i64 e, .int .i64 y] 26
 obtain ⟨w3, hww3, ew3, B3, zw3⟩ := alloc_at w2 (w.heap.size + 1 + 1) (by omega) #[.int .i64 e2, .int .i64 y2] 26
 obtain ⟨w4, hww4, ew4, B4, zw4⟩ := alloc_at w3 (w.heap.size + 1 + 1 + 1) (by omega) #[.bool false, .slice none 0 0, .bool false, .slice none 0 0] 40
 have xw1_w4 := eg (eg ew2 ew3) ew4
 replace B1 := B1.ext xw1_w4
 have b1_w4 := B1.c3
 have xw2_w4 := eg ew3 ew4
 replace B2 := B2.ext xw2_w4
 have b2_w4 := B2.c2
 replace B3 := B3.ext ew4
 have b3_w4 := B3.c2
 have xw_w4 := eg (eg (eg ew1 ew2) ew3) ew4
 go_enter Tryz.func22, Tryz.ntmps22
 go_wp2_with fail
 clear hww1 hww2 hww3 hww4
 replace zw1 := le2 zw1
 replace zw2 := le2 zw2
 replace zw3 := le2 zw3
 replace zw4 := le2 zw4
 refine (lpair0 T e y e2 y2 n (.func (.func 64) #[] #[]) _ (hT.ext xw_w4) ey ey2 Hb.out).mono (Gv.onV fun w5 ew5 zw5 => ?_)
 replace B4 := B4.ext ew5
 have b4_w5 := B4.c4
 have fb4_w5 := B4.f4
 have xw_w5 := eg xw_w4 ew5
 obtain ⟨w6, hww6, kw6, Nw6, zw6⟩ := B4.put4 (.bool false) (.slice none 0 0) (.bool false) (.slice none 0 0)
 have xw_w6 := Ext.kb xw_w5 kw6 (by omega)
 replace B4 := Nw6
 clear Nw6 kw6
 have b4_w6 := B4.c4
 go_wp2_with fail
 clear hww6
 clear b1_w4 b2_w4 b3_w4 b4_w5 fb4_w5
 replace zw6 := le2 zw6
 refine bodyPost_ret (v := .tuple #[.agg #[.bool false, .slice none 0 0, .bool false, .slice none 0 0], .int .i64 2]) (by simp [results, Tryz.results22, go_sem, b4_w6]) rfl ?_
 exact Gv.of_v xw_w6

theorem lRateO (T : Tb) (R : Nat → Nat → Rat) (e y : Int) (w : World) (hT : TW w T) (hR : TVR w T R) (ey : -9223372036854775808 ≤ e ∧ e ≤ 9223372036854775807 ∧ -9223372036854775808 ≤ y ∧ y ≤ 9223372036854775807) : Calls Tryz.prog 16 #[.agg #[.int .i64 T.first, .int .i64 T.sel, .slice T.P T.N T.C], .agg #[.int .i64 e, .int .i64 y]] w (Gv (.ro (oL (okL T e y) (rt T R e y))) w) := by
 cases ok : okL T e y
 ·exact (lRate0 T e y w hT ey ok).mono fun _ _ h => Gv.v_ro h rfl
 ·exact (lRate T R e y w (hR (okL_b ok).1) ok).mono fun _ _ h => Gv.fn_ro (Gv.fe_fn h) rfl

theorem lExpectO (T : Tb) (R : Nat → Nat → Rat) (e y : Int) (w : World) (hT : TW w T) (hR : TVR w T R) (ey : -9223372036854775808 ≤ e ∧ e ≤ 9223372036854775807 ∧ -9223372036854775808 ≤ y ∧ y ≤ 9223372036854775807) : Calls Tryz.prog 19 #[.agg #[.int .i64 T.first, .int .i64 T.sel, .slice T.P T.N T.C], .agg #[.int .i64 e, .int .i64 y]] w (Gv (.ro (oL (okL T e y) (lex T R e y))) w) := by
 cases ok : okL T e y
 ·exact (lExpect0 T e y w hT ey ok).mono fun _ _ h => Gv.v_ro h rfl
 ·exact (lExpect T R e y w (hR (okL_b ok).1) ok).mono fun _ _ h => Gv.fn_ro (Gv.fe_fn h) rfl

theorem lAliveO (T : Tb) (R : Nat → Nat → Rat) (e y n : Int) (w : World) (hT : TW w T) (hR : TVR w T R) (ey : -9223372036854775808 ≤ e ∧ e ≤ 9223372036854775807 ∧ -9223372036854775808 ≤ y ∧ y ≤ 9223372036854775807) : Calls Tryz.prog 17 #[.agg #[.int .i64 T.first, .int .i64 T.sel, .slice T.P T.N T.C], .agg #[.int .i64 e, .int .i64 y], .int .i64 n] w (Gv (.ro (oL (okL T e y && decide (0 ≤ n)) (lal T R e y n.toNat))) w) := by
 cases hb : (okL T e y && decide (0 ≤ n))
 ·exact (lAlive0 T e y n w hT ey hb).mono fun _ _ h => Gv.v_ro h rfl
 ·obtain ⟨ok, hn0⟩ : okL T e y = true ∧ 0 ≤ n := by simpa only [Bool.and_eq_true, decide_eq_true_eq] using hb
  exact (lAlive T R e y n w (hR (okL_b ok).1) ok hn0).mono fun _ _ h => Gv.fn_ro (Gv.fe_fn h) rfl

theorem lDiesO (T : Tb) (R : Nat → Nat → Rat) (e y n : Int) (w : World) (hT : TW w T) (hR : TVR w T R) (ey : -9223372036854775808 ≤ e ∧ e ≤ 9223372036854775807 ∧ -9223372036854775808 ≤ y ∧ y ≤ 9223372036854775807) : Calls Tryz.prog 18 #[.agg #[.int .i64 T.first, .int .i64 T.sel, .slice T.P T.N T.C], .agg #[.int .i64 e, .int .i64 y], .int .i64 n] w (Gv (.ro (oL (okL T e y && decide (0 ≤ n)) (ldq T R e y n.toNat))) w) := by
 cases hb : (okL T e y && decide (0 ≤ n))
 ·exact (lDies0 T e y n w hT ey hb).mono fun _ _ h => Gv.v_ro h rfl
 ·obtain ⟨ok, hn0⟩ : okL T e y = true ∧ 0 ≤ n := by simpa only [Bool.and_eq_true, decide_eq_true_eq] using hb
  exact (lDies T R e y n w (hR (okL_b ok).1) ok hn0).mono fun _ _ h => Gv.fn_ro (Gv.fe_fn h) rfl

theorem lBothO (T : Tb) (R : Nat → Nat → Rat) (e y e2 y2 n : Int) (w : World) (hT : TW w T) (hR : TVR w T R) (ey : -9223372036854775808 ≤ e ∧ e ≤ 9223372036854775807 ∧ -9223372036854775808 ≤ y ∧ y ≤ 9223372036854775807) (ey2 : -9223372036854775808 ≤ e2 ∧ e2 ≤ 9223372036854775807 ∧ -9223372036854775808 ≤ y2 ∧ y2 ≤ 9223372036854775807) : Calls Tryz.prog 20 #[.agg #[.int .i64 T.first, .int .i64 T.sel, .slice T.P T.N T.C], .agg #[.int .i64 e, .int .i64 y], .agg #[.int .i64 e2, .int .i64 y2], .int .i64 n] w (Gv (.ro (oL (okL T e y && okL T e2 y2 && decide (0 ≤ n)) (lal T R e y n.toNat * lal T R e2 y2 n.toNat))) w) := by
 cases hb : (okL T e y && okL T e2 y2 && decide (0 ≤ n))
 ·exact (lBoth0 T e y e2 y2 n w hT ey ey2 hb).mono fun _ _ h => Gv.v_ro h rfl
 ·obtain ⟨⟨ok, ok2⟩, hn0⟩ : (okL T e y = true ∧ okL T e2 y2 = true) ∧ 0 ≤ n := by simpa only [Bool.and_eq_true, decide_eq_true_eq] using hb
  exact (lBoth T R e y e2 y2 n w (hR (okL_b ok).1) ok ok2 hn0).mono fun _ _ h => Gv.fn_ro (Gv.fe_fn h) rfl

theorem lEitherO (T : Tb) (R : Nat → Nat → Rat) (e y e2 y2 n : Int) (w : World) (hT : TW w T) (hR : TVR w T R) (ey : -9223372036854775808 ≤ e ∧ e ≤ 9223372036854775807 ∧ -9223372036854775808 ≤ y ∧ y ≤ 9223372036854775807) (ey2 : -9223372036854775808 ≤ e2 ∧ e2 ≤ 9223372036854775807 ∧ -9223372036854775808 ≤ y2 ∧ y2 ≤ 9223372036854775807) : Calls Tryz.prog 21 #[.agg #[.int .i64 T.first, .int .i64 T.sel, .slice T.P T.N T.C], .agg #[.int .i64 e, .int .i64 y], .agg #[.int .i64 e2, .int .i64 y2], .int .i64 n] w (Gv (.ro (oL (okL T e y && okL T e2 y2 && decide (0 ≤ n)) (eiQ (lal T R e y n.toNat) (lal T R e2 y2 n.toNat)))) w) := by
 cases hb : (okL T e y && okL T e2 y2 && decide (0 ≤ n))
 ·exact (lEither0 T e y e2 y2 n w hT ey ey2 hb).mono fun _ _ h => Gv.v_ro h rfl
 ·obtain ⟨⟨ok, ok2⟩, hn0⟩ : (okL T e y = true ∧ okL T e2 y2 = true) ∧ 0 ≤ n := by simpa only [Bool.and_eq_true, decide_eq_true_eq] using hb
  exact (lEither T R e y e2 y2 n w (hR (okL_b ok).1) ok ok2 hn0).mono fun _ _ h => Gv.fn_ro (Gv.fe_fn h) rfl

theorem lLeftO (T : Tb) (R : Nat → Nat → Rat) (e y e2 y2 n : Int) (w : World) (hT : TW w T) (hR : TVR w T R) (ey : -9223372036854775808 ≤ e ∧ e ≤ 9223372036854775807 ∧ -9223372036854775808 ≤ y ∧ y ≤ 9223372036854775807) (ey2 : -9223372036854775808 ≤ e2 ∧ e2 ≤ 9223372036854775807 ∧ -9223372036854775808 ≤ y2 ∧ y2 ≤ 9223372036854775807) : Calls Tryz.prog 22 #[.agg #[.int .i64 T.first, .int .i64 T.sel, .slice T.P T.N T.C], .agg #[.int .i64 e, .int .i64 y], .agg #[.int .i64 e2, .int .i64 y2], .int .i64 n] w (Gv (.ro (oL (okL T e y && okL T e2 y2 && decide (0 ≤ n)) (leQ (lal T R e y n.toNat) (lal T R e2 y2 n.toNat)))) w) := by
 cases hb : (okL T e y && okL T e2 y2 && decide (0 ≤ n))
 ·exact (lLeft0 T e y e2 y2 n w hT ey ey2 hb).mono fun _ _ h => Gv.v_ro h rfl
 ·obtain ⟨⟨ok, ok2⟩, hn0⟩ : (okL T e y = true ∧ okL T e2 y2 = true) ∧ 0 ≤ n := by simpa only [Bool.and_eq_true, decide_eq_true_eq] using hb
  exact (lLeft T R e y e2 y2 n w (hR (okL_b ok).1) ok ok2 hn0).mono fun _ _ h => Gv.fn_ro (Gv.fe_fn h) rfl
end Go.Proofs.YtndgaecfeaedeaaGreat
namespace Go.Proofs.YtndgaecfeaedeaaGreat
open Go.RowKit Lex Mth
attribute [local go_sem] run_indexAt_at add_zero_map Oper.semAt_some at_zero at_add at_mk1 at_mk2 at_mk3

theorem rSameQ_b (X Y : Fr) (x y : Rat) (w : World) (hX : FR w X x) (hY : FR w Y y) {b : Bool} (hb : eqQ x y = b) : Calls Tryz.prog 44 #[X.val, Y.val] w (Gv (.v (.bool b)) w) := hb ▸ rSameQ X Y x y w hX hY

set_option maxRecDepth 100000 in
theorem nquick (x : Int) (y : Int) (w : World) (hy0 : y ≠ 0) (bx : (-9223372036854775808 ≤ x ∧ x ≤ 9223372036854775807)) (by_ : (-9223372036854775808 ≤ y ∧ y ≤ 9223372036854775807)) :
    Calls Tryz.prog 26 #[.int .i64 x, .int .i64 y] w (Gv (.f0 (Rat.divInt x y)) w) := by
 have Hy := Lib.hid hy0
 clear hy0
 obtain ⟨w1, hww1, ew1, B1, zw1⟩ := alloc_at w (w.heap.size) (by omega) #[.bool false, .slice none 0 0, .bool false, .slice none 0 0] 40
 go_enter Tryz.func26, Tryz.ntmps26
 go_wp2_with fail
 clear hww1
 replace zw1 := le2 zw1
 refine (rQuick (x) (y) _ (Hy.out) (bx) (by_)).mono (Gv.onF0 fun Z7 w2 hZ7 ew2 zw2 => ?_)
 replace B1 := B1.ext ew2
 have b1_w2 := B1.c4
 have fb1_w2 := B1.f4
 have xw_w2 := eg ew1 ew2
 obtain ⟨w3, hww3, kw3, Nw3, zw3⟩ := B1.put4 (.bool Z7.N.b) (.slice Z7.N.p Z7.N.n Z7.N.c) (.bool Z7.D.b) (.slice Z7.D.p Z7.D.n Z7.D.c)
 have nuw3 : NoU #[.bool false, .slice none 0 0, .bool false, .slice none 0 0] := by simp [NoU]
 replace hZ7 := FR.kb hZ7 B1 nuw3 kw3
 have xw_w3 := Ext.kb xw_w2 kw3 (by omega)
 replace B1 := Nw3
 clear Nw3 kw3
 have b1_w3 := B1.c4
 go_wp2_with fail
 clear hww3
 clear b1_w2 fb1_w2
 replace zw3 := le2 zw3
 refine bodyPost_ret (v := .agg #[.bool Z7.N.b, .slice Z7.N.p Z7.N.n Z7.N.c, .bool Z7.D.b, .slice Z7.D.p Z7.D.n Z7.D.c]) (by simp [results, Tryz.results26, go_sem, b1_w3]) rfl ?_
 exact Gv.of_f0 (X := Z7) (hZ7) xw_w3

set_option maxRecDepth 100000 in
theorem nis (A : Fr) (x : Int) (y : Int) (a : Rat) (w : World) (hA : FR w A a) (hy0 : y ≠ 0) (bx : (-9223372036854775808 ≤ x ∧ x ≤ 9223372036854775807)) (by_ : (-9223372036854775808 ≤ y ∧ y ≤ 9223372036854775807)) (he : eqQ a (Rat.divInt x y) = true) :
    Calls Tryz.prog 35 #[.agg #[.bool A.N.b, .slice A.N.p A.N.n A.N.c, .bool A.D.b, .slice A.D.p A.D.n A.D.c], .int .i64 0, .int .i64 x, .int .i64 y] w (Gv (.v (.bool true)) w) := by
 have Hy := Lib.hid hy0
 have He := Lib.hid he
 clear hy0 he
 obtain ⟨w1, hww1, ew1, B1, zw1⟩ := alloc_at w (w.heap.size) (by omega) #[.bool A.N.b, .slice A.N.p A.N.n A.N.c, .bool A.D.b, .slice A.D.p A.D.n A.D.c] 40
 have b1_w1 := B1.c4
 replace hA := hA.ext ew1
 go_enter Tryz.func35, Tryz.ntmps35
 go_wp2_with fail
 clear hww1
 replace zw1 := le2 zw1
 refine regionT 9 (fun kk => match kk with | 6 => some (.f0 (Rat.divInt (x) (y))) | 7 => some (.v (.bool true)) | _ => none) (by as_aux_lemma => kernel_rfl) (head_of (by as_aux_lemma => kernel_rfl)) ?_
 iterate 3
  refine Walk.one (x := ?_) rfl rfl (fun w1 hI hL K hK => ?_) ?_
  rotate_left
  ·obtain ⟨hc, hf⟩ := bcell hI
   go_simp
   repeat (first | (go_ints; try go_simp) | (simp only [↓IntWalk.iteOmega]; try go_simp))
   exact hK
  simp only [Pq1]
 refine Walk.oneG (x := ?_) rfl (by as_aux_lemma => kernel_rfl) (fun w1 hI hL K hK => ?_) ?_
 rotate_left
 ·obtain ⟨hc, hf⟩ := bcell hI
  go_simp
  repeat (first | (go_ints; try go_simp) | (simp only [↓IntWalk.iteOmega]; try go_simp))
  exact hK
 simp only [Pq1]
 refine Walk.oneG (x := ?_) rfl (by as_aux_lemma => kernel_rfl) (fun w1 hI hL K hK => ?_) ?_
 rotate_left
 ·obtain ⟨hc, hf⟩ := bcell hI
  go_simp
  repeat (first | (go_ints; try go_simp) | (simp only [↓IntWalk.iteOmega]; try go_simp))
  exact hK
 simp only [Pq1]
 refine Walk.oneG (x := ?_) rfl (by as_aux_lemma => kernel_rfl) (fun w1 hI hL K hK => ?_) ?_
 rotate_left
 ·obtain ⟨hc, hf⟩ := bcell hI
  go_simp
  repeat (first | (go_ints; try go_simp) | (simp only [↓IntWalk.iteOmega]; try go_simp))
  exact hK
 simp only [Pq1]
 refine Walk.tellG rfl (by as_aux_lemma => kernel_rfl) (fun w1 hI hL K hK => ?_) ?_
 ·go_simp
  exact (nquick (x) (y) w1 (Hy.out) (bx) (by_)).mono (tell hK)
 rintro _ ⟨Z15, rfl⟩
 simp only [Pq1]
 refine Walk.tellG rfl (by as_aux_lemma => kernel_rfl) (fun w1 hI hL K hK => ?_) ?_
 ·go_simp
  exact (rSameQ_b A Z15 _ _ w1 ((hA).ext hI) ((Tl.getF0 (kn (i := 6) (v := .agg #[.bool Z15.N.b, .slice Z15.N.p Z15.N.n Z15.N.c, .bool Z15.D.b, .slice Z15.D.p Z15.D.n Z15.D.c]) rfl (by simp) (pred_of (by as_aux_lemma => kernel_rfl)) hL))) He.out).mono (tell hK)
 rintro _ rfl
 simp only [Pq1]
 refine Walk.one (x := ?_) rfl rfl (fun w1 hI hL K hK => ?_) ?_
 rotate_left
 ·obtain ⟨hc, hf⟩ := bcell hI
  go_simp
  repeat (first | (go_ints; try go_simp) | (simp only [↓IntWalk.iteOmega]; try go_simp))
  exact hK
 simp only [Pq1]
 refine Walk.nilF fun w2 ew2 kzL kzX => ?_
 have zw2 := ew2.size
 clear kzL kzX
 simp only [List.drop_succ_cons, List.drop_zero, List.drop_nil]
 have xw_w2 := eg ew1 ew2
 go_wp2_with fail
 clear b1_w1
 refine bodyPost_ret (v := .bool true) (by simp [results, Tryz.results35, go_sem]) rfl ?_
 exact Gv.of_v xw_w2

end Go.Proofs.YtndgaecfeaedeaaGreat
namespace Go.Proofs.YtndgaecfeaedeaaGreat
open Go.RowKit Lex Mth
attribute [local go_sem] run_indexAt_at add_zero_map Oper.semAt_some at_zero at_add at_mk1 at_mk2 at_mk3

theorem okR_of {w : World} {X : Fr} {q : Rat} (h : FR w X q) (s : Sz q) (hd : q.den < 65536) (h0 : 0 ≤ q) (h1 : q ≤ 1) : okR X.N.b (limbs q.num.natAbs) X.D.b (limbs q.den) = true := by
 have hn := Rat.num_nonneg.2 h0
 rw [Rat.le_iff] at h1
 have e1 : (1 : Rat).num = 1 := rfl
 have e2 : (1 : Rat).den = 1 := rfl
 rw [e1, e2] at h1
 have hb : X.N.b = false := by rw [h.1.neg]; simp; omega
 have s1 : (limbs q.num.natAbs).length ≤ 1 := siz_one.2 (by omega)
 have s2 : (limbs q.den).length ≤ 1 := siz_one.2 hd
 unfold okR
 rw [okF_of h s, hb, val_limbs, val_limbs]
 simp only [s1, s2, decide_true, Bool.not_false, Bool.true_and, decide_eq_true_eq]
 omega
/-- The table of the examples. -/
structure Sml (T : Tb) (R : Nat → Nat → Rat) : Prop where
 first : T.first = 60
 sel : T.sel = 1
 N : T.N = 3
 ok : okT T = true
 r00 : R 0 0 = 1 / 10
 r01 : R 0 1 = 1 / 5
 r10 : R 1 0 = 1 / 8
 r11 : R 1 1 = 1 / 2
 r20 : R 2 0 = 1 / 4
 r21 : R 2 1 = 1
def smlR (k j : Nat) : Rat := match k, j with
 | 0, 0 => Rat.divInt 1 10
 | 0, _ => Rat.divInt 1 5
 | 1, 0 => Rat.divInt 1 8
 | 1, _ => Rat.divInt 1 2
 | _, 0 => Rat.divInt 1 4
 | _, _ => Rat.divInt 1 1
theorem smlR_ok (k j : Nat) : Sz (smlR k j) ∧ (smlR k j).den < 65536 ∧ 0 ≤ smlR k j ∧ smlR k j ≤ 1 := by
 have h : ∀ q : Rat, q.num = 1 → q.den < 65536 → Sz q ∧ q.den < 65536 ∧ 0 ≤ q ∧ q ≤ 1 := fun q h1 h2 => by
  have h3 : siz q.den ≤ 1 := siz_one.2 h2
  have h4 : siz q.num.natAbs ≤ 1 := siz_one.2 (by rw [h1]; decide)
  have := q.den_nz
  refine ⟨⟨by omega, by omega⟩, h2, Rat.num_nonneg.1 (by omega), ?_⟩
  rw [Rat.le_iff, h1]
  have e1 : (1 : Rat).num = 1 := rfl
  have e2 : (1 : Rat).den = 1 := rfl
  rw [e1, e2]; omega
 unfold smlR
 split <;> exact h _ (by decide) (by decide)
def smlT (Z1 Z2 Z4 Z5 Z7 Z8 : Fr) (a b c P : Option Addr) : Tb where
 first := 60
 sel := 1
 P := P
 N := 3
 C := 3
 rp k := match k with | 0 => a | 1 => b | _ => c
 rn _ := 2
 rc _ := 2
 el k j := match k, j with | 0, 0 => Z1 | 0, _ => Z2 | 1, 0 => Z4 | 1, _ => Z5 | _, 0 => Z7 | _, _ => Z8
 ln k j := limbs (smlR k j).num.natAbs
 ld k j := limbs (smlR k j).den
theorem sml_of {w : World} {Z1 Z2 Z4 Z5 Z7 Z8 : Fr} {a b c g : Nat} (h1 : FR w Z1 (Rat.divInt 1 10)) (h2 : FR w Z2 (Rat.divInt 1 5)) (h4 : FR w Z4 (Rat.divInt 1 8)) (h5 : FR w Z5 (Rat.divInt 1 2)) (h7 : FR w Z7 (Rat.divInt 1 4)) (h8 : FR w Z8 (Rat.divInt 1 1))
    (ca : Cells w a 40 #[.bool Z1.N.b, .slice Z1.N.p Z1.N.n Z1.N.c, .bool Z1.D.b, .slice Z1.D.p Z1.D.n Z1.D.c, .bool Z2.N.b, .slice Z2.N.p Z2.N.n Z2.N.c, .bool Z2.D.b, .slice Z2.D.p Z2.D.n Z2.D.c])
    (cb : Cells w b 40 #[.bool Z4.N.b, .slice Z4.N.p Z4.N.n Z4.N.c, .bool Z4.D.b, .slice Z4.D.p Z4.D.n Z4.D.c, .bool Z5.N.b, .slice Z5.N.p Z5.N.n Z5.N.c, .bool Z5.D.b, .slice Z5.D.p Z5.D.n Z5.D.c])
    (cc : Cells w c 40 #[.bool Z7.N.b, .slice Z7.N.p Z7.N.n Z7.N.c, .bool Z7.D.b, .slice Z7.D.p Z7.D.n Z7.D.c, .bool Z8.N.b, .slice Z8.N.p Z8.N.n Z8.N.c, .bool Z8.D.b, .slice Z8.D.p Z8.D.n Z8.D.c])
    (cg : Cells w g 47 #[.slice (some ⟨a, 0, none⟩) 2 2, .slice (some ⟨b, 0, none⟩) 2 2, .slice (some ⟨c, 0, none⟩) 2 2]) :
    ∃ T R, T.val = .agg #[.int .i64 60, .int .i64 1, .slice (some ⟨g, 0, none⟩) 3 3] ∧ TQ w T R ∧ Sml T R := by
 have hq : ∀ k, k < 3 → ∀ j, j < 2 → FR w ((smlT Z1 Z2 Z4 Z5 Z7 Z8 (some ⟨a, 0, none⟩) (some ⟨b, 0, none⟩) (some ⟨c, 0, none⟩) (some ⟨g, 0, none⟩)).el k j) (smlR k j) := fun k hk j hj => by
  match k, hk, j, hj with
  | 0, _, 0, _ => exact h1
  | 0, _, 1, _ => exact h2
  | 1, _, 0, _ => exact h4
  | 1, _, 1, _ => exact h5
  | 2, _, 0, _ => exact h7
  | 2, _, 1, _ => exact h8
 have tw : TW w (smlT Z1 Z2 Z4 Z5 Z7 Z8 (some ⟨a, 0, none⟩) (some ⟨b, 0, none⟩) (some ⟨c, 0, none⟩) (some ⟨g, 0, none⟩)) := by
  refine ⟨by simp [smlT], by simp [smlT], by simp [smlT], by simp [smlT], Has.some _ _, Nat.le_refl _, by simp [smlT], fun k hk => ?_, fun k hk => ?_, fun k hk j hj => ?_⟩
  ·match k, hk with
   | 0, _ => rw [show (smlT Z1 Z2 Z4 Z5 Z7 Z8 (some ⟨a, 0, none⟩) (some ⟨b, 0, none⟩) (some ⟨c, 0, none⟩) (some ⟨g, 0, none⟩)).P = some ⟨g, 0, none⟩ from rfl, at_zero]; exact cg.cell rfl
   | 1, _ => rw [show (smlT Z1 Z2 Z4 Z5 Z7 Z8 (some ⟨a, 0, none⟩) (some ⟨b, 0, none⟩) (some ⟨c, 0, none⟩) (some ⟨g, 0, none⟩)).P = some ⟨g, 0, none⟩ from rfl, at_zero]; exact cg.cell rfl
   | 2, _ => rw [show (smlT Z1 Z2 Z4 Z5 Z7 Z8 (some ⟨a, 0, none⟩) (some ⟨b, 0, none⟩) (some ⟨c, 0, none⟩) (some ⟨g, 0, none⟩)).P = some ⟨g, 0, none⟩ from rfl, at_zero]; exact cg.cell rfl
  ·have fr : ∀ (x : Nat) (U V : Fr) (E : Nat → Fr), Cells w x 40 #[.bool U.N.b, .slice U.N.p U.N.n U.N.c, .bool U.D.b, .slice U.D.p U.D.n U.D.c, .bool V.N.b, .slice V.N.p V.N.n V.N.c, .bool V.D.b, .slice V.D.p V.D.n V.D.c] → E 0 = U → E 1 = V → FRow w (some ⟨x, 0, none⟩) 2 2 E := fun x U V E hc e0 e1 =>
    ⟨Has.some _ _, Nat.le_refl _, by decide, fun j hj => by
     match j, hj with
     | 0, _ => rw [e0]; exact ⟨by rw [at_zero]; exact hc.cell rfl, by rw [at_zero]; exact hc.cell rfl, by rw [at_zero]; exact hc.cell rfl, by rw [at_zero]; exact hc.cell rfl⟩
     | 1, _ => rw [e1]; exact ⟨by rw [at_zero]; exact hc.cell rfl, by rw [at_zero]; exact hc.cell rfl, by rw [at_zero]; exact hc.cell rfl, by rw [at_zero]; exact hc.cell rfl⟩⟩
   match k, hk with
   | 0, _ => exact fr _ _ _ _ ca rfl rfl
   | 1, _ => exact fr _ _ _ _ cb rfl rfl
   | 2, _ => exact fr _ _ _ _ cc rfl rfl
  ·have h := hq k hk j hj
   exact ⟨h.1.u16.2, h.2.u16.2⟩
 have tq : TQ w (smlT Z1 Z2 Z4 Z5 Z7 Z8 (some ⟨a, 0, none⟩) (some ⟨b, 0, none⟩) (some ⟨c, 0, none⟩) (some ⟨g, 0, none⟩)) smlR :=
  ⟨tw, by unfold boundsOk; simp [smlT], fun _ _ => rfl, hq, fun k _ j _ => smlR_ok k j⟩
 refine ⟨_, smlR, rfl, tq, rfl, rfl, rfl, okT_iff.2 ⟨tq.b, fun k hk => ⟨rfl, fun j hj => ?_⟩, by show val (limbs (smlR 2 1).num.natAbs) = val (limbs (smlR 2 1).den); rw [val_limbs, val_limbs]; decide +kernel⟩, by decide +kernel, by decide +kernel, by decide +kernel, by decide +kernel, by decide +kernel, by decide +kernel⟩
 have h := hq k hk j hj
 have o := smlR_ok k j
 exact okR_of h o.1 o.2.1 o.2.2.1 o.2.2.2

set_option maxRecDepth 100000 in
theorem nsmall (w : World) :
    Calls Tryz.prog 25 #[] w (fun en w' => ∃ (T : Tb) (R : Nat → Nat → Rat), en = .returned T.val ∧ TQ w' T R ∧ Sml T R ∧ Ext w w') := by
 obtain ⟨w1, hww1, ew1, B1, zw1⟩ := alloc_at w (w.heap.size) (by omega) #[.int .i64 0, .int .i64 0, .slice none 0 0] 24
 go_enter Tryz.func25, Tryz.ntmps25
 go_wp2_with fail
 clear hww1
 replace zw1 := le2 zw1
 refine (nquick (1) (10) _ (by decide) (by decide) (by decide)).mono (Gv.onF0 fun Z1 w2 hZ1 ew2 zw2 => ?_)
 have xw_w2 := eg ew1 ew2
 go_wp2_with fail
 refine (nquick (1) (5) _ (by decide) (by decide) (by decide)).mono (Gv.onF0 fun Z2 w3 hZ2 ew3 zw3 => ?_)
 obtain ⟨w4, hww4, ew4, B2, zw4⟩ := alloc_at w3 (w3.heap.size) (by omega) #[.bool Z1.N.b, .slice Z1.N.p Z1.N.n Z1.N.c, .bool Z1.D.b, .slice Z1.D.p Z1.D.n Z1.D.c, .bool Z2.N.b, .slice Z2.N.p Z2.N.n Z2.N.c, .bool Z2.D.b, .slice Z2.D.p Z2.D.n Z2.D.c] 40
 have xw_w4 := eg (eg xw_w2 ew3) ew4
 go_wp2_with fail
 clear hww4
 replace zw4 := le2 zw4
 refine (nquick (1) (8) _ (by decide) (by decide) (by decide)).mono (Gv.onF0 fun Z4 w5 hZ4 ew5 zw5 => ?_)
 have xw_w5 := eg xw_w4 ew5
 go_wp2_with fail
 refine (nquick (1) (2) _ (by decide) (by decide) (by decide)).mono (Gv.onF0 fun Z5 w6 hZ5 ew6 zw6 => ?_)
 obtain ⟨w7, hww7, ew7, B3, zw7⟩ := alloc_at w6 (w6.heap.size) (by omega) #[.bool Z4.N.b, .slice Z4.N.p Z4.N.n Z4.N.c, .bool Z4.D.b, .slice Z4.D.p Z4.D.n Z4.D.c, .bool Z5.N.b, .slice Z5.N.p Z5.N.n Z5.N.c, .bool Z5.D.b, .slice Z5.D.p Z5.D.n Z5.D.c] 40
 have xw_w7 := eg (eg xw_w5 ew6) ew7
 go_wp2_with fail
 clear hww7
 replace zw7 := le2 zw7
 refine (nquick (1) (4) _ (by decide) (by decide) (by decide)).mono (Gv.onF0 fun Z7 w8 hZ7 ew8 zw8 => ?_)
 have xw_w8 := eg xw_w7 ew8
 go_wp2_with fail
 refine (nquick (1) (1) _ (by decide) (by decide) (by decide)).mono (Gv.onF0 fun Z8 w9 hZ8 ew9 zw9 => ?_)
 obtain ⟨w10, hww10, ew10, B4, zw10⟩ := alloc_at w9 (w9.heap.size) (by omega) #[.bool Z7.N.b, .slice Z7.N.p Z7.N.n Z7.N.c, .bool Z7.D.b, .slice Z7.D.p Z7.D.n Z7.D.c, .bool Z8.N.b, .slice Z8.N.p Z8.N.n Z8.N.c, .bool Z8.D.b, .slice Z8.D.p Z8.D.n Z8.D.c] 40
 obtain ⟨w11, hww11, ew11, B5, zw11⟩ := alloc_at w10 (w9.heap.size + 1) (by omega) #[.slice (some ⟨w3.heap.size, 0, none⟩) 2 2, .slice (some ⟨w6.heap.size, 0, none⟩) 2 2, .slice (some ⟨w9.heap.size, 0, none⟩) 2 2] 47
 have xw1_w11 := eg (eg (eg (eg (eg (eg (eg (eg (eg ew2 ew3) ew4) ew5) ew6) ew7) ew8) ew9) ew10) ew11
 replace B1 := B1.ext xw1_w11
 have b1_w11 := B1.c3
 have fb1_w11 := B1.f3
 have xw2_w11 := eg (eg (eg (eg (eg (eg (eg (eg ew3 ew4) ew5) ew6) ew7) ew8) ew9) ew10) ew11
 replace hZ1 := hZ1.ext xw2_w11
 have xw3_w11 := eg (eg (eg (eg (eg (eg (eg ew4 ew5) ew6) ew7) ew8) ew9) ew10) ew11
 replace hZ2 := hZ2.ext xw3_w11
 have xw4_w11 := eg (eg (eg (eg (eg (eg ew5 ew6) ew7) ew8) ew9) ew10) ew11
 replace B2 := B2.ext xw4_w11
 have xw5_w11 := eg (eg (eg (eg (eg ew6 ew7) ew8) ew9) ew10) ew11
 replace hZ4 := hZ4.ext xw5_w11
 have xw6_w11 := eg (eg (eg (eg ew7 ew8) ew9) ew10) ew11
 replace hZ5 := hZ5.ext xw6_w11
 have xw7_w11 := eg (eg (eg ew8 ew9) ew10) ew11
 replace B3 := B3.ext xw7_w11
 have xw8_w11 := eg (eg ew9 ew10) ew11
 replace hZ7 := hZ7.ext xw8_w11
 have xw9_w11 := eg ew10 ew11
 replace hZ8 := hZ8.ext xw9_w11
 replace B4 := B4.ext ew11
 have xw_w11 := eg (eg (eg xw_w8 ew9) ew10) ew11
 obtain ⟨w12, hww12, kw12, Nw12, zw12⟩ := B1.put3 (.int .i64 60) (.int .i64 1) (.slice (some ⟨w9.heap.size + 1, 0, none⟩) 3 3)
 have nuw12 : NoU #[.int .i64 0, .int .i64 0, .slice none 0 0] := by simp [NoU]
 replace hZ1 := FR.kb hZ1 B1 nuw12 kw12
 replace hZ2 := FR.kb hZ2 B1 nuw12 kw12
 replace B2 := B2.kb kw12 (by omega)
 replace hZ4 := FR.kb hZ4 B1 nuw12 kw12
 replace hZ5 := FR.kb hZ5 B1 nuw12 kw12
 replace B3 := B3.kb kw12 (by omega)
 replace hZ7 := FR.kb hZ7 B1 nuw12 kw12
 replace hZ8 := FR.kb hZ8 B1 nuw12 kw12
 replace B4 := B4.kb kw12 (by omega)
 replace B5 := B5.kb kw12 (by omega)
 have xw_w12 := Ext.kb xw_w11 kw12 (by omega)
 replace B1 := Nw12
 clear Nw12 kw12
 have b1_w12 := B1.c3
 go_wp2_with fail
 clear hww10 hww11 hww12
 clear b1_w11 fb1_w11
 replace zw10 := le2 zw10
 replace zw11 := le2 zw11
 replace zw12 := le2 zw12
 refine bodyPost_ret (v := .agg #[.int .i64 60, .int .i64 1, .slice (some ⟨w9.heap.size + 1, 0, none⟩) 3 3]) (by simp [results, Tryz.results25, go_sem, b1_w12]) rfl ?_
 obtain ⟨T, R, hv, tq, sm⟩ := sml_of hZ1 hZ2 hZ4 hZ5 hZ7 hZ8 B2 B3 B4 B5
 exact ⟨T, R, by rw [hv], tq, sm, xw_w12⟩
end Go.Proofs.YtndgaecfeaedeaaGreat
