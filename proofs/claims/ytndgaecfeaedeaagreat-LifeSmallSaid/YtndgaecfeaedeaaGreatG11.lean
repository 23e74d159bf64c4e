/- Short words for walks: an alloc, a store, what a call gives, each in one line. No condition: laws on the model's worlds. Walks of the document's answer on absolute values: Times. Walks of the kit's copies: limbs. Walks of the kit's copies: numbers, fractions. Walks of the document's answer on numbers: products, sums. Fractions: what the program's ways of adding and multiplying come to; sizes. No condition: plain laws of numbers. -/
import Derived.Test.YtndgaecfeaedeaaGreatG10
set_option linter.unusedSimpArgs false
set_option linter.unusedVariables false
namespace Go.Proofs.YtndgaecfeaedeaaGreat
open Go.RowKit Lex Mth

theorem le2 {a b : Nat} (h : a = b) : a ≤ b ∧ b ≤ a := ⟨Nat.le_of_eq h, Nat.le_of_eq h.symm⟩
theorem alloc_at (w : World) (n : Nat) (hn : n = w.heap.size) (c : Array Value) (t : TypeId) : ∃ W, w.alloc (.cells c t) = W ∧ Ext w W ∧ Cells W n t c ∧ W.heap.size = n + 1 := by
 subst hn
 exact ⟨_, rfl, ea _ _, Cells.newAt _ _ rfl, by simp⟩
theorem Ext.kb {w w1 w2 : World} {b : Nat} (h : Ext w w1) (k : Keeps (fun x => x = b) w1 w2) (hb : w.heap.size ≤ b) : Ext w w2 :=
 ((Keeps.of_ext (M := fun x => w.heap.size ≤ x) h).trans (k.mono fun x _ hx => by omega)).ext fun _ h => h
theorem Cells.kb {w w' : World} {b b' : Nat} {t : TypeId} {c : Array Value} (h : Cells w b t c) (k : Keeps (fun x => x = b') w w') (hb : b ≠ b') : Cells w' b t c := h.keeps k hb
theorem UW.kb {w w' : World} {X : Wh} {u : List Nat} (h : UW w X u) {b : Nat} {t : TypeId} {c : Array Value} (hC : Cells w b t c) (hv : NoU c) (k : Keeps (fun x => x = b) w w') : UW w' X u :=
 k.u16 h fun _ hj => U16.offU h hC hv hj
theorem WR.kb {w w' : World} {X : Wh} {z : Int} (h : WR w X z) {b : Nat} {t : TypeId} {c : Array Value} (hC : Cells w b t c) (hv : NoU c) (k : Keeps (fun x => x = b) w w') : WR w' X z := WR.mk h.neg (UW.kb h.u16.2 hC hv k)
theorem FR.kb {w w' : World} {X : Fr} {q : Rat} (h : FR w X q) {b : Nat} {t : TypeId} {c : Array Value} (hC : Cells w b t c) (hv : NoU c) (k : Keeps (fun x => x = b) w w') : FR w' X q := ⟨WR.kb h.1 hC hv k, WR.kb h.2 hC hv k⟩
theorem PR.kb {w w' : World} {X : Fr} {p q : Int} (h : PR w X p q) {b : Nat} {t : TypeId} {c : Array Value} (hC : Cells w b t c) (hv : NoU c) (k : Keeps (fun x => x = b) w w') : PR w' X p q := ⟨WR.kb h.1 hC hv k, WR.kb h.2 hC hv k⟩
theorem UF.kb {w w' : World} {X : Fr} {l m : List Nat} (h : UF w X l m) {b : Nat} {t : TypeId} {c : Array Value} (hC : Cells w b t c) (hv : NoU c) (k : Keeps (fun x => x = b) w w') : UF w' X l m := ⟨UW.kb h.1 hC hv k, UW.kb h.2 hC hv k⟩
theorem RO.kb {w w' : World} {X : Fr} : ∀ {o : Option Rat}, RO w X o → ∀ {b : Nat} {t : TypeId} {c : Array Value} (_ : Cells w b t c) (_ : NoU c) (_ : Keeps (fun x => x = b) w w'), RO w' X o
 | some _, h, _, _, _, hC, hv, k => FR.kb h hC hv k
 | none, h, _, _, _, _, _, _ => h
theorem OW.kb {B : Nat} {w w' : World} {X : Wh} (h : OW B w X) {b : Nat} {t : TypeId} {c : Array Value} (hC : Cells w b t c) (ht : t ≠ 153) (k : Keeps (fun x => x = b) w w') : OW B w' X := Own.cells h hC ht k
theorem OF.kb {B : Nat} {w w' : World} {X : Fr} (h : OF B w X) {b : Nat} {t : TypeId} {c : Array Value} (hC : Cells w b t c) (ht : t ≠ 153) (k : Keeps (fun x => x = b) w w') : OF B w' X := ⟨OW.kb h.1 hC ht k, OW.kb h.2.1 hC ht k, h.2.2⟩

theorem Cells.c1 {w : World} {b : Nat} {t : TypeId} {v0 : Value} (h : Cells w b t #[v0]) : b < w.heap.size ∧ w.cell? ⟨b, 0, none⟩ = Option.some v0 :=
 ⟨h.lt, h.cell (k := 0) rfl⟩
theorem Cells.f1 {w : World} {b : Nat} {t : TypeId} {c : Array Value} (h : Cells w b t c) : w.frozen? ⟨b, 0, none⟩ = false :=
 h.frozen 0
theorem Cells.c2 {w : World} {b : Nat} {t : TypeId} {v0 v1 : Value} (h : Cells w b t #[v0, v1]) : b < w.heap.size ∧ w.cell? ⟨b, 0, none⟩ = Option.some v0 ∧ w.cell? ⟨b, 1, none⟩ = Option.some v1 :=
 ⟨h.lt, h.cell (k := 0) rfl, h.cell (k := 1) rfl⟩
theorem Cells.f2 {w : World} {b : Nat} {t : TypeId} {c : Array Value} (h : Cells w b t c) : w.frozen? ⟨b, 0, none⟩ = false ∧ w.frozen? ⟨b, 1, none⟩ = false :=
 ⟨h.frozen 0, h.frozen 1⟩
theorem Cells.c3 {w : World} {b : Nat} {t : TypeId} {v0 v1 v2 : Value} (h : Cells w b t #[v0, v1, v2]) : b < w.heap.size ∧ w.cell? ⟨b, 0, none⟩ = Option.some v0 ∧ w.cell? ⟨b, 1, none⟩ = Option.some v1 ∧ w.cell? ⟨b, 2, none⟩ = Option.some v2 :=
 ⟨h.lt, h.cell (k := 0) rfl, h.cell (k := 1) rfl, h.cell (k := 2) rfl⟩
theorem Cells.f3 {w : World} {b : Nat} {t : TypeId} {c : Array Value} (h : Cells w b t c) : w.frozen? ⟨b, 0, none⟩ = false ∧ w.frozen? ⟨b, 1, none⟩ = false ∧ w.frozen? ⟨b, 2, none⟩ = false :=
 ⟨h.frozen 0, h.frozen 1, h.frozen 2⟩
theorem Cells.c4 {w : World} {b : Nat} {t : TypeId} {v0 v1 v2 v3 : Value} (h : Cells w b t #[v0, v1, v2, v3]) : b < w.heap.size ∧ w.cell? ⟨b, 0, none⟩ = Option.some v0 ∧ w.cell? ⟨b, 1, none⟩ = Option.some v1 ∧ w.cell? ⟨b, 2, none⟩ = Option.some v2 ∧ w.cell? ⟨b, 3, none⟩ = Option.some v3 :=
 ⟨h.lt, h.cell (k := 0) rfl, h.cell (k := 1) rfl, h.cell (k := 2) rfl, h.cell (k := 3) rfl⟩
theorem Cells.f4 {w : World} {b : Nat} {t : TypeId} {c : Array Value} (h : Cells w b t c) : w.frozen? ⟨b, 0, none⟩ = false ∧ w.frozen? ⟨b, 1, none⟩ = false ∧ w.frozen? ⟨b, 2, none⟩ = false ∧ w.frozen? ⟨b, 3, none⟩ = false :=
 ⟨h.frozen 0, h.frozen 1, h.frozen 2, h.frozen 3⟩
theorem Cells.c5 {w : World} {b : Nat} {t : TypeId} {v0 v1 v2 v3 v4 : Value} (h : Cells w b t #[v0, v1, v2, v3, v4]) : b < w.heap.size ∧ w.cell? ⟨b, 0, none⟩ = Option.some v0 ∧ w.cell? ⟨b, 1, none⟩ = Option.some v1 ∧ w.cell? ⟨b, 2, none⟩ = Option.some v2 ∧ w.cell? ⟨b, 3, none⟩ = Option.some v3 ∧ w.cell? ⟨b, 4, none⟩ = Option.some v4 :=
 ⟨h.lt, h.cell (k := 0) rfl, h.cell (k := 1) rfl, h.cell (k := 2) rfl, h.cell (k := 3) rfl, h.cell (k := 4) rfl⟩
theorem Cells.f5 {w : World} {b : Nat} {t : TypeId} {c : Array Value} (h : Cells w b t c) : w.frozen? ⟨b, 0, none⟩ = false ∧ w.frozen? ⟨b, 1, none⟩ = false ∧ w.frozen? ⟨b, 2, none⟩ = false ∧ w.frozen? ⟨b, 3, none⟩ = false ∧ w.frozen? ⟨b, 4, none⟩ = false :=
 ⟨h.frozen 0, h.frozen 1, h.frozen 2, h.frozen 3, h.frozen 4⟩
theorem Cells.c6 {w : World} {b : Nat} {t : TypeId} {v0 v1 v2 v3 v4 v5 : Value} (h : Cells w b t #[v0, v1, v2, v3, v4, v5]) : b < w.heap.size ∧ w.cell? ⟨b, 0, none⟩ = Option.some v0 ∧ w.cell? ⟨b, 1, none⟩ = Option.some v1 ∧ w.cell? ⟨b, 2, none⟩ = Option.some v2 ∧ w.cell? ⟨b, 3, none⟩ = Option.some v3 ∧ w.cell? ⟨b, 4, none⟩ = Option.some v4 ∧ w.cell? ⟨b, 5, none⟩ = Option.some v5 :=
 ⟨h.lt, h.cell (k := 0) rfl, h.cell (k := 1) rfl, h.cell (k := 2) rfl, h.cell (k := 3) rfl, h.cell (k := 4) rfl, h.cell (k := 5) rfl⟩
theorem Cells.f6 {w : World} {b : Nat} {t : TypeId} {c : Array Value} (h : Cells w b t c) : w.frozen? ⟨b, 0, none⟩ = false ∧ w.frozen? ⟨b, 1, none⟩ = false ∧ w.frozen? ⟨b, 2, none⟩ = false ∧ w.frozen? ⟨b, 3, none⟩ = false ∧ w.frozen? ⟨b, 4, none⟩ = false ∧ w.frozen? ⟨b, 5, none⟩ = false :=
 ⟨h.frozen 0, h.frozen 1, h.frozen 2, h.frozen 3, h.frozen 4, h.frozen 5⟩
theorem Cells.c8 {w : World} {b : Nat} {t : TypeId} {v0 v1 v2 v3 v4 v5 v6 v7 : Value} (h : Cells w b t #[v0, v1, v2, v3, v4, v5, v6, v7]) : b < w.heap.size ∧ w.cell? ⟨b, 0, none⟩ = Option.some v0 ∧ w.cell? ⟨b, 1, none⟩ = Option.some v1 ∧ w.cell? ⟨b, 2, none⟩ = Option.some v2 ∧ w.cell? ⟨b, 3, none⟩ = Option.some v3 ∧ w.cell? ⟨b, 4, none⟩ = Option.some v4 ∧ w.cell? ⟨b, 5, none⟩ = Option.some v5 ∧ w.cell? ⟨b, 6, none⟩ = Option.some v6 ∧ w.cell? ⟨b, 7, none⟩ = Option.some v7 :=
 ⟨h.lt, h.cell (k := 0) rfl, h.cell (k := 1) rfl, h.cell (k := 2) rfl, h.cell (k := 3) rfl, h.cell (k := 4) rfl, h.cell (k := 5) rfl, h.cell (k := 6) rfl, h.cell (k := 7) rfl⟩
theorem Cells.f8 {w : World} {b : Nat} {t : TypeId} {c : Array Value} (h : Cells w b t c) : w.frozen? ⟨b, 0, none⟩ = false ∧ w.frozen? ⟨b, 1, none⟩ = false ∧ w.frozen? ⟨b, 2, none⟩ = false ∧ w.frozen? ⟨b, 3, none⟩ = false ∧ w.frozen? ⟨b, 4, none⟩ = false ∧ w.frozen? ⟨b, 5, none⟩ = false ∧ w.frozen? ⟨b, 6, none⟩ = false ∧ w.frozen? ⟨b, 7, none⟩ = false :=
 ⟨h.frozen 0, h.frozen 1, h.frozen 2, h.frozen 3, h.frozen 4, h.frozen 5, h.frozen 6, h.frozen 7⟩
theorem Cells.put1 {w : World} {b : Nat} {t : TypeId} {v0 : Value} (h : Cells w b t #[v0]) (a0 : Value) : ∃ W, (w).setCell ⟨b, 0, none⟩ a0 = W ∧ Keeps (fun x => x = b) w W ∧ Cells W b t #[a0] ∧ W.heap.size = w.heap.size :=
 ⟨_, rfl, sets_keeps b [a0] w 0, Cells.sets [a0] h 0, size_sets b [a0] w 0⟩
theorem Cells.put2 {w : World} {b : Nat} {t : TypeId} {v0 v1 : Value} (h : Cells w b t #[v0, v1]) (a0 a1 : Value) : ∃ W, ((w).setCell ⟨b, 0, none⟩ a0).setCell ⟨b, 1, none⟩ a1 = W ∧ Keeps (fun x => x = b) w W ∧ Cells W b t #[a0, a1] ∧ W.heap.size = w.heap.size :=
 ⟨_, rfl, sets_keeps b [a0, a1] w 0, Cells.sets [a0, a1] h 0, size_sets b [a0, a1] w 0⟩
theorem Cells.put3 {w : World} {b : Nat} {t : TypeId} {v0 v1 v2 : Value} (h : Cells w b t #[v0, v1, v2]) (a0 a1 a2 : Value) : ∃ W, (((w).setCell ⟨b, 0, none⟩ a0).setCell ⟨b, 1, none⟩ a1).setCell ⟨b, 2, none⟩ a2 = W ∧ Keeps (fun x => x = b) w W ∧ Cells W b t #[a0, a1, a2] ∧ W.heap.size = w.heap.size :=
 ⟨_, rfl, sets_keeps b [a0, a1, a2] w 0, Cells.sets [a0, a1, a2] h 0, size_sets b [a0, a1, a2] w 0⟩
theorem Cells.put4 {w : World} {b : Nat} {t : TypeId} {v0 v1 v2 v3 : Value} (h : Cells w b t #[v0, v1, v2, v3]) (a0 a1 a2 a3 : Value) : ∃ W, ((((w).setCell ⟨b, 0, none⟩ a0).setCell ⟨b, 1, none⟩ a1).setCell ⟨b, 2, none⟩ a2).setCell ⟨b, 3, none⟩ a3 = W ∧ Keeps (fun x => x = b) w W ∧ Cells W b t #[a0, a1, a2, a3] ∧ W.heap.size = w.heap.size :=
 ⟨_, rfl, sets_keeps b [a0, a1, a2, a3] w 0, Cells.sets [a0, a1, a2, a3] h 0, size_sets b [a0, a1, a2, a3] w 0⟩
theorem Gv.onV {x : Value} {w : World} {K : Ending → World → Prop} (h : ∀ (w' : World), Ext w w' → w.heap.size ≤ w'.heap.size → K (.returned x) w') : ∀ e w', Gv (.v x) w e w' → K e w' := fun _ _ g => by
 obtain ⟨rfl, h3⟩ := Gv.v g
 exact h _ h3 h3.size
theorem Gv.onF {q : Rat} {w : World} {K : Ending → World → Prop} (h : ∀ (X : Fr) (w' : World), FR w' X q → Ext w w' → w.heap.size ≤ w'.heap.size → K (.returned (.agg #[.bool X.N.b, .slice X.N.p X.N.n X.N.c, .bool X.D.b, .slice X.D.p X.D.n X.D.c])) w') : ∀ e w', Gv (.f q) w e w' → K e w' := fun _ _ g => by
 obtain ⟨X, rfl, h1, h2, h3⟩ := Gv.f g
 exact h X _ h1 h3 h3.size
theorem Gv.onFo {q : Rat} {w : World} {K : Ending → World → Prop} (h : ∀ (X : Fr) (w' : World), FR w' X q → OF w.heap.size w' X → Ext w w' → w.heap.size ≤ w'.heap.size → K (.returned (.agg #[.bool X.N.b, .slice X.N.p X.N.n X.N.c, .bool X.D.b, .slice X.D.p X.D.n X.D.c])) w') : ∀ e w', Gv (.f q) w e w' → K e w' := fun _ _ g => by
 obtain ⟨X, rfl, h1, h2, h3⟩ := Gv.f g
 exact h X _ h1 h2 h3 h3.size
theorem Gv.onFe {q : Rat} {n : Int} {w : World} {K : Ending → World → Prop} (h : ∀ (X : Fr) (w' : World), FR w' X q → Ext w w' → w.heap.size ≤ w'.heap.size → K (.returned (.tuple #[.agg #[.bool X.N.b, .slice X.N.p X.N.n X.N.c, .bool X.D.b, .slice X.D.p X.D.n X.D.c], .int .i64 n])) w') : ∀ e w', Gv (.fe q n) w e w' → K e w' := fun _ _ g => by
 obtain ⟨X, rfl, h1, h2, h3⟩ := Gv.fe g
 exact h X _ h1 h3 h3.size
theorem Gv.onFeo {q : Rat} {n : Int} {w : World} {K : Ending → World → Prop} (h : ∀ (X : Fr) (w' : World), FR w' X q → OF w.heap.size w' X → Ext w w' → w.heap.size ≤ w'.heap.size → K (.returned (.tuple #[.agg #[.bool X.N.b, .slice X.N.p X.N.n X.N.c, .bool X.D.b, .slice X.D.p X.D.n X.D.c], .int .i64 n])) w') : ∀ e w', Gv (.fe q n) w e w' → K e w' := fun _ _ g => by
 obtain ⟨X, rfl, h1, h2, h3⟩ := Gv.fe g
 exact h X _ h1 h2 h3 h3.size
theorem Gv.onF0 {q : Rat} {w : World} {K : Ending → World → Prop} (h : ∀ (X : Fr) (w' : World), FR w' X q → Ext w w' → w.heap.size ≤ w'.heap.size → K (.returned (.agg #[.bool X.N.b, .slice X.N.p X.N.n X.N.c, .bool X.D.b, .slice X.D.p X.D.n X.D.c])) w') : ∀ e w', Gv (.f0 q) w e w' → K e w' := fun _ _ g => by
 obtain ⟨X, rfl, h1, h3⟩ := Gv.f0 g
 exact h X _ h1 h3 h3.size
theorem Gv.onRo {q : Option Rat} {w : World} {K : Ending → World → Prop} (h : ∀ (X : Fr) (w' : World), RO w' X q → Ext w w' → w.heap.size ≤ w'.heap.size → K (.returned (.tuple #[.agg #[.bool X.N.b, .slice X.N.p X.N.n X.N.c, .bool X.D.b, .slice X.D.p X.D.n X.D.c], .int .i64 (erO q)])) w') : ∀ e w', Gv (.ro q) w e w' → K e w' := fun _ _ g => by
 obtain ⟨X, rfl, h1, h3⟩ := Gv.ro g
 exact h X _ h1 h3 h3.size
theorem Gv.onW {z : Int} {w : World} {K : Ending → World → Prop} (h : ∀ (X : Wh) (w' : World), WR w' X z → Ext w w' → w.heap.size ≤ w'.heap.size → K (.returned (.agg #[.bool X.b, .slice X.p X.n X.c])) w') : ∀ e w', Gv (.w z) w e w' → K e w' := fun _ _ g => by
 obtain ⟨X, rfl, h1, h2, h3⟩ := Gv.w g
 exact h X _ h1 h3 h3.size
theorem Gv.onWo {z : Int} {w : World} {K : Ending → World → Prop} (h : ∀ (X : Wh) (w' : World), WR w' X z → OW w.heap.size w' X → Ext w w' → w.heap.size ≤ w'.heap.size → K (.returned (.agg #[.bool X.b, .slice X.p X.n X.c])) w') : ∀ e w', Gv (.w z) w e w' → K e w' := fun _ _ g => by
 obtain ⟨X, rfl, h1, h2, h3⟩ := Gv.w g
 exact h X _ h1 h2 h3 h3.size
theorem Gv.onWeo {z n : Int} {w : World} {K : Ending → World → Prop} (h : ∀ (X : Wh) (w' : World), WR w' X z → OW w.heap.size w' X → Ext w w' → w.heap.size ≤ w'.heap.size → K (.returned (.tuple #[.agg #[.bool X.b, .slice X.p X.n X.c], .int .i64 n])) w') : ∀ e w', Gv (.we z n) w e w' → K e w' := fun _ _ g => by
 obtain ⟨X, rfl, h1, h2, h3⟩ := Gv.we g
 exact h X _ h1 h2 h3 h3.size
theorem Gv.onW0 {z : Int} {w : World} {K : Ending → World → Prop} (h : ∀ (X : Wh) (w' : World), WR w' X z → Ext w w' → w.heap.size ≤ w'.heap.size → K (.returned (.agg #[.bool X.b, .slice X.p X.n X.c])) w') : ∀ e w', Gv (.w0 z) w e w' → K e w' := fun _ _ g => by
 obtain ⟨X, rfl, h1, h3⟩ := Gv.w0 g
 exact h X _ h1 h3 h3.size
theorem Gv.onCo {l : List Nat} {w : World} {K : Ending → World → Prop} (h : ∀ (X : Wh) (w' : World), UW w' X l → OW w.heap.size w' X → Ext w w' → w.heap.size ≤ w'.heap.size → K (.returned (.slice X.p X.n X.c)) w') : ∀ e w', Gv (.c l) w e w' → K e w' := fun _ _ g => by
 obtain ⟨X, rfl, h1, h2, h3⟩ := Gv.c g
 exact h X _ h1 h2 h3 h3.size
theorem Gv.onC0 {l : List Nat} {w : World} {K : Ending → World → Prop} (h : ∀ (X : Wh) (w' : World), UW w' X l → Ext w w' → w.heap.size ≤ w'.heap.size → K (.returned (.slice X.p X.n X.c)) w') : ∀ e w', Gv (.c0 l) w e w' → K e w' := fun _ _ g => by
 obtain ⟨X, rfl, h1, h3⟩ := Gv.c0 g
 exact h X _ h1 h3 h3.size
end Go.Proofs.YtndgaecfeaedeaaGreat
namespace Go.Proofs.YtndgaecfeaedeaaGreat
open Go.RowKit Lex Mth
attribute [local go_sem] run_indexAt_at add_zero_map Oper.semAt_some at_zero

theorem MulIn.ext {x y n m g i k : Nat} {w wr w' : World} {c : Nat} {l : List Nat} (h : MulIn x y n m g i k w wr c l) (e : Ext wr w') : MulIn x y n m g i k w w' c l :=
 ⟨h.len, h.lim, h.hc, h.v, h.hi, h.row.ext e, h.keep.trans (Keeps.of_ext e)⟩
theorem cellE {w w' : World} {a : Addr} {v : Value} (h : w.cell? a = some v) (e : Ext w w') : w'.cell? a = some v := (e.cell (World.block_lt_of_cell? w _ h)).trans h

set_option maxRecDepth 100000 in
set_option maxHeartbeats 1000000 in
theorem Times_any (p q : Option Addr) (n cp m cq : Nat) (x y : Nat) (w : World) (hp : U16 w p n cp (limbs x)) (hq : U16 w q m cq (limbs y)) (hb : n ≤ 1048576) (hb' : m ≤ 1048576) :
    Calls Tryz.prog 145 #[.slice p n cp, .slice q m cq] w fun e w' =>
     ∃ p' n' c', e = .returned (.slice p' n' c') ∧ U16 w' p' n' c' (limbs (x * y)) ∧ Own w.heap.size w' p' c' ∧ Ext w w' := by
 have hhp := hp.has
 have hhq := hq.has
 have Hsx : Hid (siz x = n) := hp.len
 have Hsy : Hid (siz y = m) := hq.len
 go_enter Tryz.func145, Tryz.ntmps145
 have hmk := run_make16 w ((n : Int) + m) ((n : Int) + m) (n + m) (n + m) (by omega) (by omega) (by omega) (by omega)
 have hho : Has (some ⟨w.heap.size, 0, none⟩) (n + m) := Has.some _ _
 go_wp2
 clear hmk
 have hA0 : MulAt x y n m w.heap.size 0 w (w.alloc (.cells (zrow (n + m)) 153)) (List.replicate (n + m) 0) :=
  ⟨by simp, lim_replicate _, by simp [val_replicate, val], fun j _ => by simp [dig, List.getD_eq_getElem?_getD, List.getElem?_replicate]; split <;> rfl, Row.zeros _ _, (Keeps.refl _ _).alloc _⟩
 go_loopw [6] (fun v wr => ∃ i l, v = .int .i64 (i : Nat) ∧ i ≤ n ∧ MulAt x y n m w.heap.size i w wr l) (fun v _ => (n - intOf v).toNat)
 case atStart => exact ⟨0, _, rfl, by omega, hA0⟩
 case round =>
  obtain ⟨i, l, rfl, hi, hA⟩ := hrel
  clear hA0
  by_cases hin : i < n
  ·have cx := hA.keep.cell (hp.cell i hin) (by have := hp.block hin; omega)
   have lx := hp.lt i
   go_wp2
   go_loopw [8, 7] (fun v cv wr => ∃ k c l, v = .int .i64 (k : Nat) ∧ cv = .int .i64 (c : Nat) ∧ k ≤ m ∧ MulIn x y n m w.heap.size i k w wr c l) (fun v _ _ => (m - intOf v).toNat)
   case atStart => exact ⟨0, 0, l, rfl, rfl, by omega, hA.start⟩
   case round =>
    clear hA cx
    obtain ⟨k, c, l, rfl, rfl, hk, hB⟩ := hrel
    by_cases hkm : k < m
    ·have cx := hB.keep.cell (hp.cell i hin) (by have := hp.block hin; omega)
     have cy := hB.keep.cell (hq.cell k hkm) (by have := hq.block hkm; omega)
     have cl := hB.row.cell (j := i + k) (by rw [hB.len]; omega)
     have e1 : ∀ w1, Ext wr w1 → w1.cell? (at_ p i) = some (.int .u16 (dig (limbs x) i : Nat)) := fun w1 e => cellE cx e
     have e2 : ∀ w1, Ext wr w1 → w1.cell? (at_ q k) = some (.int .u16 (dig (limbs y) k : Nat)) := fun w1 e => cellE cy e
     have e3 : ∀ w1, Ext wr w1 → w1.cell? ⟨w.heap.size, i + k, none⟩ = some (.int .u16 (dig l (i + k) : Nat)) := fun w1 e => cellE cl e
     have E1 := Lib.hid e1
     have E2 := Lib.hid e2
     have E3 := Lib.hid e3
     clear e1 e2 e3 cx cy cl
     have ly := hq.lt k
     have ll : dig l (i + k) < 65536 := hB.lim.getD _
     have hc := hB.hc
     have hxy : dig (limbs x) i * dig (limbs y) k ≤ 4294836225 := by have h : dig (limbs x) i * dig (limbs y) k ≤ 65535 * 65535 := Nat.mul_le_mul (by omega) (by omega)
                                                                     exact h
     obtain ⟨s, hs⟩ : ∃ s, s = dig (limbs x) i * dig (limbs y) k + dig l (i + k) + c := ⟨_, rfl⟩
     have hsI : (c : Int) + (dig (limbs x) i : Int) * (dig (limbs y) k : Int) + (dig l (i + k) : Int) = (s : Int) := by rw [hs]; push_cast; omega
     have hxyI : (dig (limbs x) i : Int) * (dig (limbs y) k : Int) ≤ 4294836225 := by rw [← Int.natCast_mul]; omega
     have hxyJ : 0 ≤ (dig (limbs x) i : Int) * (dig (limbs y) k : Int) := Int.mul_nonneg (by omega) (by omega)
     have hsb : s < 4294967296 := by omega
     have hw16 : IntKind.u16.wrap ((s : Int) % 65536) = ((s % 65536 : Nat) : Int) := by simp [IntKind.wrap, IntKind.bits, IntKind.signed]
     have Hs := Lib.hid hs
     clear hs
     go_wp2_with fail
     refine Lex.regionE 21 (fun _ => false) (fun _ _ => True) (fun _ _ _ => True) (by kernel_rfl) (by kernel_rfl) (fun _ _ _ _ h _ => h) ?_
     iterate 4
      refine Walk.one (x := ?_) rfl rfl (fun w1 hI hL K hK => ?_) ?_
      rotate_left
      ·go_simp
       repeat (first | (go_ints; try go_simp) | (simp only [↓IntWalk.iteOmega]; try go_simp))
       exact hK
      simp only [Pq1]
     refine Walk.one (x := ?_) rfl rfl (fun w1 hI hL K hK => ?_) ?_
     rotate_left
     ·have c := E1.out w1 hI
      go_simp
      repeat (first | (go_ints; try go_simp) | (simp only [↓IntWalk.iteOmega]; try go_simp))
      exact hK
     simp only [Pq1]
     iterate 4
      refine Walk.one (x := ?_) rfl rfl (fun w1 hI hL K hK => ?_) ?_
      rotate_left
      ·go_simp
       repeat (first | (go_ints; try go_simp) | (simp only [↓IntWalk.iteOmega]; try go_simp))
       exact hK
      simp only [Pq1]
     refine Walk.one (x := ?_) rfl rfl (fun w1 hI hL K hK => ?_) ?_
     rotate_left
     ·have c := E2.out w1 hI
      go_simp
      repeat (first | (go_ints; try go_simp) | (simp only [↓IntWalk.iteOmega]; try go_simp))
      exact hK
     simp only [Pq1]
     iterate 8
      refine Walk.one (x := ?_) rfl rfl (fun w1 hI hL K hK => ?_) ?_
      rotate_left
      ·go_simp
       repeat (first | (go_ints; try go_simp) | (simp only [↓IntWalk.iteOmega]; try go_simp))
       exact hK
      simp only [Pq1]
     refine Walk.one (x := ?_) rfl rfl (fun w1 hI hL K hK => ?_) ?_
     rotate_left
     ·have c := E3.out w1 hI
      go_simp
      repeat (first | (go_ints; try go_simp) | (simp only [↓IntWalk.iteOmega]; try go_simp))
      exact hK
     simp only [Pq1]
     iterate 2
      refine Walk.one (x := ?_) rfl rfl (fun w1 hI hL K hK => ?_) ?_
      rotate_left
      ·go_simp
       repeat (first | (go_ints; try go_simp) | (simp only [↓IntWalk.iteOmega]; try go_simp))
       exact hK
      simp only [Pq1]
     refine Walk.nil fun w3 hI3 _ => ?_
     simp only [List.drop_succ_cons, List.drop_zero, List.drop_nil]
     have hB3 := hB.ext hI3
     have fl := hB3.row.free (i + k)
     have cl3 := hB3.row.cell (j := i + k) (by rw [hB3.len]; omega)
     go_wp2
     go_roundw
     case rel => exact ⟨k + 1, _, _, rfl, rfl, by omega, by have := hB3.step hin (by rw [Hsy.out]; exact hkm) Hsy.out (by omega) Hs.out; exact this⟩
     case measure => simp [intOf] <;> omega
    ·obtain rfl : k = m := by omega
     have hc := hB.hc
     have fl := hB.row.free (i + k)
     have cl := hB.row.cell (j := i + k) (by rw [hB.len]; omega)
     have hw16 : IntKind.u16.wrap (c : Int) = (c : Int) := by simp [IntKind.wrap, IntKind.bits, IntKind.signed]; omega
     go_wp2
     go_roundw
     case rel => exact ⟨i + 1, _, rfl, by omega, hB.done (by rw [Hsx.out]; exact hin) Hsx.out Hsy.out (by omega)⟩
     case measure => simp [intOf] <;> omega
  ·obtain rfl : i = n := by omega
   have hv := hA.v
   rw [List.take_of_length_le (l := limbs x) (by show siz x ≤ i; rw [Hsx.out]; omega), val_limbs] at hv
   have Hv := Lib.hid hv
   clear hv
   have hU := hA.row.u16 hA.lim (n := i + m) (cap := i + m) (by rw [hA.len]; omega) (by omega) (by omega)
   have hO := hA.row.own (B := w.heap.size) (cap := i + m) (by omega) (by rw [hA.len]; omega)
   rw [List.take_of_length_le (by rw [hA.len]; omega)] at hU
   go_wp2_with fail
   refine (Trim_any _ _ _ _ _ hU).mono ?_
   rintro e w' ⟨rfl, rfl⟩
   go_wp2
   go_ret
   exact ⟨_, _, _, rfl, by rw [← Hv.out]; exact hU.trim, hO, hA.keep.ext fun b hb => hb⟩
end Go.Proofs.YtndgaecfeaedeaaGreat
namespace Go.Proofs.YtndgaecfeaedeaaGreat
open Go.RowKit Lex Mth
attribute [local go_sem] run_indexAt_at add_zero_map Oper.semAt_some at_some

theorem ownsRow_ext {w w' : World} {base : Nat} {e : TypeId} {size : Nat} {v : Value} {n : Nat} {xs : List Value} (h : w.ownsRow base e size v n xs) (x : Ext w w') : w'.ownsRow base e size v n xs := by
 obtain ⟨h1, h2⟩ := h
 refine ⟨h1, h2.imp id ?_⟩
 rintro ⟨g, cap, cur, hv, hb, hg, h3⟩
 exact ⟨g, cap, cur, hv, hb, (x.block g (Array.getElem?_eq_some_iff.1 hg).1).trans hg, h3⟩

set_option maxRecDepth 100000 in
theorem cCopyLimbs_any (p : Option Addr) (n cap : Nat) (l : List Nat) (w : World) (h : U16 w p n cap l) :
    Calls Tryz.prog 196 #[.slice p n cap] w fun e w' => ∃ p' c', e = .returned (.slice p' n c') ∧ U16 w' p' n c' l ∧ Own w.heap.size w' p' c' ∧ Ext w w' := by
 obtain ⟨i0, hi, hz0, hz1, hz2⟩ := info_parts Tryz.info16
 cases p with
 | none =>
  have h0 : n = 0 := by have := h.has; unfold Has at this; simpa using this
  subst h0
  go_enter Tryz.func196, Tryz.ntmps196
  go_wp2
  go_ret
  refine ⟨_, _, rfl, ⟨h.len, Nat.le_refl _, by omega, ?_, h.lim, fun j hj => absurd hj (Nat.not_lt_zero _)⟩, .inl rfl, Below.refl _ _⟩
  unfold Has; exact .inl rfl
 | some ad =>
  have hr := h.reach
  have hlen := h.len
  have hcell := h.cell
  go_enter Tryz.func196, Tryz.ntmps196
  have hlt : ∀ j u, (u16s l)[j]? = some u → w.cell? (ad.add j) = some u := by
   intro j u hj
   rw [List.getElem?_map, Option.map_eq_some_iff] at hj
   obtain ⟨x, hx, rfl⟩ := hj
   obtain ⟨hjl, hx'⟩ := List.getElem?_eq_some_iff.1 hx
   have hc := hcell j (by omega)
   have e : at_ (some ad) j = ad.add j := by unfold at_; rfl
   rw [e] at hc
   have hd : dig l j = x := by unfold dig; rw [List.getD_eq_getElem?_getD, hx]; rfl
   rw [hd] at hc
   exact hc
  go_wp2_with (at_builtin; refine wpList_append_own _ rfl (.tmp 4) (.tmp 5) 36 rfl w.heap.size 153 i0 (.int .u16 0) 1 2 Tryz.underlying36 hi hz0 hz1 hz2 rfl (by omega) (.slice none 0 0) 0 [] rfl (World.ownsRow_nil _ _ _ _) ad n cap (u16s l) rfl (by simp [hlen]) hlt (by intro u hu; obtain ⟨x, _, rfl⟩ := List.mem_map.1 hu; rfl) (by unfold maxLen; omega) (by omega) (by simp) ?_)
  intro v' w' hown hgrow hnil
  have he : Below w.heap.size w w' := (Below.refl _ w).grown hgrow (by simp) (fun b hb => by simp [Value.ownBlock] at hb)
  clear hnil
  go_wp2
  go_ret
  obtain ⟨p', c', rfl, hU, hO⟩ := U16.of_owns hown h.lim hr
  exact ⟨p', c', rfl, hU, hO, he⟩
theorem cCopyLimbs (X : Wh) (l : List Nat) (w : World) (h : U16 w X.p X.n X.c l) : Calls Tryz.prog 196 #[.slice X.p X.n X.c] w (Gv (.c l) w) :=
 (cCopyLimbs_any X.p X.n X.c l w h).mono fun _ _ ⟨p', c', he, h1, h2, h3⟩ => by subst he; exact Gv.of_c (X := ⟨false, p', X.n, c'⟩) h1 h2 h3
end Go.Proofs.YtndgaecfeaedeaaGreat
namespace Go.Proofs.YtndgaecfeaedeaaGreat
open Go.RowKit Lex Mth
attribute [local go_sem] run_indexAt_at add_zero_map Oper.semAt_some at_zero

set_option maxRecDepth 100000 in
theorem cCopyWhole (X : Wh) (l : List Nat) (w : World) (hX : UW w X l) :
    Calls Tryz.prog 146 #[.agg #[.bool X.b, .slice X.p X.n X.c]] w (fun e w' => ∃ Z : Wh, e = .returned (.agg #[.bool X.b, .slice Z.p Z.n Z.c]) ∧ UW w' Z l ∧ OW w.heap.size w' Z ∧ Ext w w') := by
 obtain ⟨w1, hww1, ew1, B1, zw1⟩ := alloc_at w (w.heap.size) (by omega) #[.bool X.b, .slice X.p X.n X.c] 38
 obtain ⟨w2, hww2, ew2, B2, zw2⟩ := alloc_at w1 (w.heap.size + 1) (by omega) #[.bool false, .slice none 0 0] 38
 replace B1 := B1.ext ew2
 have b1_w2 := B1.c2
 have xw_w2 := eg ew1 ew2
 replace hX := hX.ext xw_w2
 go_enter Tryz.func146, Tryz.ntmps146
 go_wp2_with fail
 clear hww1 hww2
 replace zw1 := le2 zw1
 replace zw2 := le2 zw2
 refine (cCopyLimbs X _ _ (hX)).mono (Gv.onCo fun Z5 w3 hZ5 oZ5 ew3 zw3 => ?_)
 replace B1 := B1.ext ew3
 have b1_w3 := B1.c2
 have fb1_w3 := B1.f2
 replace B2 := B2.ext ew3
 have xw_w3 := eg xw_w2 ew3
 replace oZ5 := oZ5.mono xw_w2.size
 obtain ⟨w4, hww4⟩ : ∃ W, (w3).setCell ⟨w.heap.size, 1, none⟩ (.slice Z5.p Z5.n Z5.c) = W := ⟨_, rfl⟩
 have kw4 : Keeps (fun x => x = w.heap.size) w3 w4 := by rw [← hww4]; exact sets_keeps (w.heap.size) [.slice Z5.p Z5.n Z5.c] w3 1
 have Nw4 : Cells w4 (w.heap.size) 38 #[.bool X.b, .slice Z5.p Z5.n Z5.c] := by rw [← hww4]; exact Cells.sets [.slice Z5.p Z5.n Z5.c] B1 1
 have zw4 : w4.heap.size = w3.heap.size := by rw [← hww4]; exact size_sets (w.heap.size) [.slice Z5.p Z5.n Z5.c] w3 1
 have nuw4 : NoU #[.bool X.b, .slice X.p X.n X.c] := by simp [NoU]
 replace B2 := B2.kb kw4 (by omega)
 replace hZ5 := UW.kb hZ5 B1 nuw4 kw4
 replace oZ5 := OW.kb oZ5 B1 (by decide) kw4
 have xw_w4 := Ext.kb xw_w3 kw4 (by omega)
 replace B1 := Nw4
 clear Nw4 kw4
 have b1_w4 := B1.c2
 have b2_w4 := B2.c2
 have fb2_w4 := B2.f2
 obtain ⟨w5, hww5, kw5, Nw5, zw5⟩ := B2.put2 (.bool X.b) (.slice Z5.p Z5.n Z5.c)
 have nuw5 : NoU #[.bool false, .slice none 0 0] := by simp [NoU]
 replace hZ5 := UW.kb hZ5 B2 nuw5 kw5
 replace oZ5 := OW.kb oZ5 B2 (by decide) kw5
 have xw_w5 := Ext.kb xw_w4 kw5 (by omega)
 replace B2 := Nw5
 clear Nw5 kw5
 have b2_w5 := B2.c2
 go_wp2_with fail
 clear hww4 hww5
 clear b1_w2 b1_w3 fb1_w3 b1_w4 b2_w4 fb2_w4
 replace zw4 := le2 zw4
 replace zw5 := le2 zw5
 refine bodyPost_ret (v := .agg #[.bool X.b, .slice Z5.p Z5.n Z5.c]) (by simp [results, Tryz.results146, go_sem, b2_w5]) rfl ?_
 exact ⟨Z5, rfl, hZ5, oZ5, xw_w5⟩

set_option maxRecDepth 100000 in
theorem cCopyFrac (X : Fr) (l m : List Nat) (w : World) (hX : UF w X l m) :
    Calls Tryz.prog 96 #[.agg #[.bool X.N.b, .slice X.N.p X.N.n X.N.c, .bool X.D.b, .slice X.D.p X.D.n X.D.c]] w (fun e w' => ∃ Z : Fr, e = .returned (.agg #[.bool Z.N.b, .slice Z.N.p Z.N.n Z.N.c, .bool Z.D.b, .slice Z.D.p Z.D.n Z.D.c]) ∧ Z.N.b = X.N.b ∧ Z.D.b = X.D.b ∧ UF w' Z l m ∧ OF w.heap.size w' Z ∧ Ext w w') := by
 obtain ⟨w1, hww1, ew1, B1, zw1⟩ := alloc_at w (w.heap.size) (by omega) #[.bool X.N.b, .slice X.N.p X.N.n X.N.c, .bool X.D.b, .slice X.D.p X.D.n X.D.c] 40
 obtain ⟨w2, hww2, ew2, B2, zw2⟩ := alloc_at w1 (w.heap.size + 1) (by omega) #[.bool false, .slice none 0 0, .bool false, .slice none 0 0] 40
 replace B1 := B1.ext ew2
 have b1_w2 := B1.c4
 have xw_w2 := eg ew1 ew2
 replace hX := hX.ext xw_w2
 go_enter Tryz.func96, Tryz.ntmps96
 go_wp2_with fail
 clear hww1 hww2
 replace zw1 := le2 zw1
 replace zw2 := le2 zw2
 refine (cCopyWhole X.N _ _ (hX.1)).mono ?_
 intro ee w3 gg
 obtain ⟨Z5, rfl, hZ5, oZ5, ew3⟩ := gg
 have zw3 := ew3.size
 replace B1 := B1.ext ew3
 have b1_w3 := B1.c4
 have fb1_w3 := B1.f4
 replace hX := hX.ext ew3
 replace B2 := B2.ext ew3
 have xw_w3 := eg xw_w2 ew3
 replace oZ5 := oZ5.mono xw_w2.size
 obtain ⟨w4, hww4⟩ : ∃ W, ((w3).setCell ⟨w.heap.size, 0, none⟩ (.bool X.N.b)).setCell ⟨w.heap.size, 1, none⟩ (.slice Z5.p Z5.n Z5.c) = W := ⟨_, rfl⟩
 have kw4 : Keeps (fun x => x = w.heap.size) w3 w4 := by rw [← hww4]; exact sets_keeps (w.heap.size) [.bool X.N.b, .slice Z5.p Z5.n Z5.c] w3 0
 have Nw4 : Cells w4 (w.heap.size) 40 #[.bool X.N.b, .slice Z5.p Z5.n Z5.c, .bool X.D.b, .slice X.D.p X.D.n X.D.c] := by rw [← hww4]; exact Cells.sets [.bool X.N.b, .slice Z5.p Z5.n Z5.c] B1 0
 have zw4 : w4.heap.size = w3.heap.size := by rw [← hww4]; exact size_sets (w.heap.size) [.bool X.N.b, .slice Z5.p Z5.n Z5.c] w3 0
 have nuw4 : NoU #[.bool X.N.b, .slice X.N.p X.N.n X.N.c, .bool X.D.b, .slice X.D.p X.D.n X.D.c] := by simp [NoU]
 replace hX := UF.kb hX B1 nuw4 kw4
 replace B2 := B2.kb kw4 (by omega)
 replace hZ5 := UW.kb hZ5 B1 nuw4 kw4
 replace oZ5 := OW.kb oZ5 B1 (by decide) kw4
 have xw_w4 := Ext.kb xw_w3 kw4 (by omega)
 replace B1 := Nw4
 clear Nw4 kw4
 have b1_w4 := B1.c4
 go_wp2_with fail
 clear hww4
 clear b1_w2 b1_w3 fb1_w3
 replace zw4 := le2 zw4
 have pZ5_Z9 := oZ5
 refine (cCopyWhole X.D _ _ (hX.2)).mono ?_
 intro ee w5 gg
 obtain ⟨Z9, rfl, hZ9, oZ9, ew5⟩ := gg
 have zw5 := ew5.size
 replace B1 := B1.ext ew5
 have b1_w5 := B1.c4
 have fb1_w5 := B1.f4
 replace B2 := B2.ext ew5
 replace hZ5 := hZ5.ext ew5
 replace oZ5 := oZ5.ext ew5
 have xw_w5 := eg xw_w4 ew5
 have aZ5_Z9 : Apt Z5 Z9 := Apt.seq pZ5_Z9 oZ9
 clear pZ5_Z9
 replace oZ9 := oZ9.mono xw_w4.size
 obtain ⟨w6, hww6⟩ : ∃ W, ((w5).setCell ⟨w.heap.size, 2, none⟩ (.bool X.D.b)).setCell ⟨w.heap.size, 3, none⟩ (.slice Z9.p Z9.n Z9.c) = W := ⟨_, rfl⟩
 have kw6 : Keeps (fun x => x = w.heap.size) w5 w6 := by rw [← hww6]; exact sets_keeps (w.heap.size) [.bool X.D.b, .slice Z9.p Z9.n Z9.c] w5 2
 have Nw6 : Cells w6 (w.heap.size) 40 #[.bool X.N.b, .slice Z5.p Z5.n Z5.c, .bool X.D.b, .slice Z9.p Z9.n Z9.c] := by rw [← hww6]; exact Cells.sets [.bool X.D.b, .slice Z9.p Z9.n Z9.c] B1 2
 have zw6 : w6.heap.size = w5.heap.size := by rw [← hww6]; exact size_sets (w.heap.size) [.bool X.D.b, .slice Z9.p Z9.n Z9.c] w5 2
 have nuw6 : NoU #[.bool X.N.b, .slice Z5.p Z5.n Z5.c, .bool X.D.b, .slice X.D.p X.D.n X.D.c] := by simp [NoU]
 replace B2 := B2.kb kw6 (by omega)
 replace hZ5 := UW.kb hZ5 B1 nuw6 kw6
 replace oZ5 := OW.kb oZ5 B1 (by decide) kw6
 replace hZ9 := UW.kb hZ9 B1 nuw6 kw6
 replace oZ9 := OW.kb oZ9 B1 (by decide) kw6
 have xw_w6 := Ext.kb xw_w5 kw6 (by omega)
 replace B1 := Nw6
 clear Nw6 kw6
 have b1_w6 := B1.c4
 have b2_w6 := B2.c4
 have fb2_w6 := B2.f4
 obtain ⟨w7, hww7, kw7, Nw7, zw7⟩ := B2.put4 (.bool X.N.b) (.slice Z5.p Z5.n Z5.c) (.bool X.D.b) (.slice Z9.p Z9.n Z9.c)
 have nuw7 : NoU #[.bool false, .slice none 0 0, .bool false, .slice none 0 0] := by simp [NoU]
 replace hZ5 := UW.kb hZ5 B2 nuw7 kw7
 replace oZ5 := OW.kb oZ5 B2 (by decide) kw7
 replace hZ9 := UW.kb hZ9 B2 nuw7 kw7
 replace oZ9 := OW.kb oZ9 B2 (by decide) kw7
 have xw_w7 := Ext.kb xw_w6 kw7 (by omega)
 replace B2 := Nw7
 clear Nw7 kw7
 have b2_w7 := B2.c4
 go_wp2_with fail
 clear hww6 hww7
 clear b1_w4 b1_w5 fb1_w5 b1_w6 b2_w6 fb2_w6
 replace zw6 := le2 zw6
 replace zw7 := le2 zw7
 refine bodyPost_ret (v := .agg #[.bool X.N.b, .slice Z5.p Z5.n Z5.c, .bool X.D.b, .slice Z9.p Z9.n Z9.c]) (by simp [results, Tryz.results96, go_sem, b2_w7]) rfl ?_
 exact ⟨⟨⟨X.N.b, Z5.p, Z5.n, Z5.c⟩, ⟨X.D.b, Z9.p, Z9.n, Z9.c⟩⟩, rfl, rfl, rfl, ⟨hZ5, hZ9⟩, ⟨oZ5, oZ9, aZ5_Z9⟩, xw_w7⟩
end Go.Proofs.YtndgaecfeaedeaaGreat
namespace Go.Proofs.YtndgaecfeaedeaaGreat
open Go.RowKit Lex Mth
attribute [local go_sem] run_indexAt_at add_zero_map Oper.semAt_some at_zero

/-- The document's answer on absolute values, in these words. -/
theorem rTimes (X Y : Wh) (l m : List Nat) (w : World) (hX : U16 w X.p X.n X.c l) (hY : U16 w Y.p Y.n Y.c m) (x y : Nat) (hl : l = limbs x) (hm : m = limbs y) (b : X.n ≤ 1048576) (b' : Y.n ≤ 1048576) :
    Calls Tryz.prog 145 #[.slice X.p X.n X.c, .slice Y.p Y.n Y.c] w (Gv (.c (limbs (x * y))) w) := by
 subst hl hm
 exact (Times_any _ _ _ _ _ _ x y w hX hY b b').mono fun _ _ ⟨p, n, c, he, h1, h2, h3⟩ => by subst he; exact Gv.of_c (X := ⟨false, p, n, c⟩) h1 h2 h3
theorem rPlusN (X Y : Wh) (l m : List Nat) (w : World) (hX : U16 w X.p X.n X.c l) (hY : U16 w Y.p Y.n Y.c m) (x y : Nat) (hl : l = limbs x) (hm : m = limbs y) (b : X.n ≤ 4194304) (b' : Y.n ≤ 4194304) :
    Calls Tryz.prog 192 #[.slice X.p X.n X.c, .slice Y.p Y.n Y.c] w (Gv (.c (limbs (x + y))) w) := by
 subst hl hm
 exact (Plus_any _ _ _ _ _ _ x y w hX hY b b').mono fun _ _ ⟨p, n, c, he, h1, h2, h3⟩ => by subst he; exact Gv.of_c (X := ⟨false, p, n, c⟩) h1 h2 h3
theorem rMinusN (X Y : Wh) (l m : List Nat) (w : World) (hX : U16 w X.p X.n X.c l) (hY : U16 w Y.p Y.n Y.c m) (x y : Nat) (hl : l = limbs x) (hm : m = limbs y) (hxy : y ≤ x) (b : X.n ≤ 4194304) :
    Calls Tryz.prog 194 #[.slice X.p X.n X.c, .slice Y.p Y.n Y.c] w (Gv (.c (limbs (x - y))) w) := by
 subst hl hm
 exact (Minus_any _ _ _ _ _ _ x y w hX hY hxy b).mono fun _ _ ⟨p, n, c, he, h1, h2, h3⟩ => by subst he; exact Gv.of_c (X := ⟨false, p, n, c⟩) h1 h2 h3
theorem rLess (X Y : Wh) (l m : List Nat) (w : World) (hX : U16 w X.p X.n X.c l) (hY : U16 w Y.p Y.n Y.c m) (x y : Nat) (hl : l = limbs x) (hm : m = limbs y) {b : Bool} (hb : decide (x < y) = b) :
    Calls Tryz.prog 191 #[.slice X.p X.n X.c, .slice Y.p Y.n Y.c] w (Gv (.v (.bool b)) w) := by
 subst hl hm hb
 exact (Less_any _ _ _ _ _ _ x y w hX hY).mono fun _ _ ⟨he, h3⟩ => by subst he; exact Gv.of_v h3
theorem rMakeW (b : Bool) (X : Wh) (l : List Nat) (w : World) (h : U16 w X.p X.n X.c l) (z : Int) (hl : l = limbs z.natAbs) (hs : (b && decide (0 < X.n)) = decide (z < 0)) : Calls Tryz.prog 144 #[.bool b, .slice X.p X.n X.c] w (Gv (.w0 z) w) := by
 subst hl
 exact (Make_any b X.p X.n X.c w h.reach).mono fun _ _ ⟨he, h3⟩ => by subst he; exact Gv.of_w0 (X := ⟨b && decide (0 < X.n), X.p, X.n, X.c⟩) (WR.mk hs (h.ext h3)) h3
theorem neg_R0 {w : World} {X : Wh} {x : Int} (h : WR w X x) : ((!X.b) && decide (0 < X.n)) = decide (-x < 0) := by
 rw [h.neg, h.n]
 by_cases h0 : x = 0
 ·subst h0; simp [siz_zero]
 ·have := siz_pos (n := x.natAbs) (by omega)
  by_cases h1 : x < 0
  ·simp [h1]; omega
  ·have h2 : -x < 0 := by omega
   simp [h1, this]; omega
theorem mul_sign {w w' : World} {X Y Z : Wh} {x y : Int} (hx : WR w X x) (hy : WR w Y y) (u : U16 w' Z.p Z.n Z.c (limbs (x.natAbs * y.natAbs))) : ((X.b != Y.b) && decide (0 < Z.n)) = decide (x * y < 0) := by
 have h1 : siz (x.natAbs * y.natAbs) = Z.n := u.len
 rw [hx.neg, hy.neg, ← h1, ← sgn_neg, sgn_mul]
theorem WR.natAbs_n {w : World} {X : Wh} {x : Int} (h : WR w X x) (b : siz x.natAbs ≤ 4096) : X.n ≤ 1048576 := by rw [h.n]; omega
theorem WR.natAbs_n4 {w : World} {X : Wh} {x : Int} (h : WR w X x) (b : siz x.natAbs ≤ 4096) : X.n ≤ 4194304 := by rw [h.n]; omega
theorem sum_sign {w w' : World} {X Y Z : Wh} {x y : Int} (hx : WR w X x) (hy : WR w Y y) (h : (X.b == Y.b) = true) (u : U16 w' Z.p Z.n Z.c (limbs (x.natAbs + y.natAbs))) : (X.b && decide (0 < Z.n)) = decide (x + y < 0) ∧ (x + y).natAbs = x.natAbs + y.natAbs := by
 have h1 : siz (x.natAbs + y.natAbs) = Z.n := u.len
 rw [← h1]
 have e1 := hx.neg
 have e2 := hy.neg
 rw [beq_iff_eq, e1, e2, decide_eq_decide] at h
 rw [e1]
 by_cases h0 : x < 0
 ·have := h.1 h0
  have h3 := siz_pos (n := x.natAbs + y.natAbs) (by omega)
  simp [h0, h3]; omega
 ·have : ¬ y < 0 := fun e => h0 (h.2 e)
  simp [h0]; omega
theorem dif_sign {w w' : World} {X Y Z : Wh} {x y : Int} (hx : WR w X x) (hy : WR w Y y) (h : (X.b == Y.b) = false) (hl : y.natAbs ≤ x.natAbs) (u : U16 w' Z.p Z.n Z.c (limbs (x.natAbs - y.natAbs))) : (X.b && decide (0 < Z.n)) = decide (x + y < 0) ∧ (x + y).natAbs = x.natAbs - y.natAbs := by
 have h1 : siz (x.natAbs - y.natAbs) = Z.n := u.len
 rw [← h1]
 have e1 := hx.neg
 have e2 := hy.neg
 rw [Bool.eq_false_iff, ne_eq, beq_iff_eq, e1, e2, decide_eq_decide] at h
 rw [e1]
 have h5 : x < 0 ∧ ¬ y < 0 ∨ ¬ x < 0 ∧ y < 0 := by omega
 by_cases h0 : x.natAbs = y.natAbs
 ·rw [h0, Nat.sub_self, siz_zero]; simp; omega
 ·have h3 := siz_pos (n := x.natAbs - y.natAbs) (by omega)
  rcases h5 with ⟨h5, h6⟩ | ⟨h5, h6⟩
  ·simp [h5, h3]; omega
  ·simp [h5]; omega

set_option maxRecDepth 100000 in
theorem rProduct (X : Wh) (Y : Wh) (x : Int) (y : Int) (w : World) (hX : WR w X x) (hY : WR w Y y) (b : siz x.natAbs ≤ 4096) (b' : siz y.natAbs ≤ 4096) :
    Calls Tryz.prog 85 #[.agg #[.bool X.b, .slice X.p X.n X.c], .agg #[.bool Y.b, .slice Y.p Y.n Y.c]] w (Gv (.w0 (x * y)) w) := by
 obtain ⟨w1, hww1, ew1, B1, zw1⟩ := alloc_at w (w.heap.size) (by omega) #[.bool X.b, .slice X.p X.n X.c] 38
 obtain ⟨w2, hww2, ew2, B2, zw2⟩ := alloc_at w1 (w.heap.size + 1) (by omega) #[.bool Y.b, .slice Y.p Y.n Y.c] 38
 obtain ⟨w3, hww3, ew3, B3, zw3⟩ := alloc_at w2 (w.heap.size + 1 + 1) (by omega) #[.bool false, .slice none 0 0] 38
 have xw1_w3 := eg ew2 ew3
 replace B1 := B1.ext xw1_w3
 have b1_w3 := B1.c2
 replace B2 := B2.ext ew3
 have b2_w3 := B2.c2
 have xw_w3 := eg (eg ew1 ew2) ew3
 replace hX := hX.ext xw_w3
 replace hY := hY.ext xw_w3
 go_enter Tryz.func85, Tryz.ntmps85
 go_wp2_with fail
 clear hww1 hww2 hww3
 replace zw1 := le2 zw1
 replace zw2 := le2 zw2
 replace zw3 := le2 zw3
 refine regionT 11 (fun kk => match kk with | 9 => some (.c (limbs (x.natAbs * y.natAbs))) | 10 => some (.w0 (x * y)) | _ => none) (by as_aux_lemma => kernel_rfl) (head_of (by as_aux_lemma => kernel_rfl)) ?_
 iterate 9
  refine Walk.one (x := ?_) rfl rfl (fun w1 hI hL K hK => ?_) ?_
  rotate_left
  ·obtain ⟨hc, hf⟩ := bcell hI
   go_simp
   repeat (first | (go_ints; try go_simp) | (simp only [↓IntWalk.iteOmega]; try go_simp))
   exact hK
  simp only [Pq1]
 refine Walk.tell rfl rfl (fun w1 hI hL K hK => ?_) ?_
 ·go_simp
  exact (rTimes X Y _ _ w1 (((hX).ext hI).u16.2) (((hY).ext hI).u16.2) (x.natAbs) (y.natAbs) (rfl) (rfl) (WR.natAbs_n ((hX).ext hI) b) (WR.natAbs_n ((hY).ext hI) b')).mono (tell hK)
 rintro _ ⟨Z14, rfl⟩
 simp only [Pq1]
 refine Walk.tell rfl rfl (fun w1 hI hL K hK => ?_) ?_
 ·go_simp
  exact (rMakeW ((X.b != Y.b)) Z14 _ w1 ((Tl.getC (kn (i := 9) (v := .slice Z14.p Z14.n Z14.c) rfl (by simp) (pred_of (by as_aux_lemma => kernel_rfl)) hL)).1) (x * y) (by rw [Int.natAbs_mul]) (mul_sign ((hX).ext hI) ((hY).ext hI) ((Tl.getC (kn (i := 9) (v := .slice Z14.p Z14.n Z14.c) rfl (by simp) (pred_of (by as_aux_lemma => kernel_rfl)) hL)).1))).mono (tell hK)
 rintro _ ⟨Z15, rfl⟩
 simp only [Pq1]
 refine Walk.nilF fun w4 ew4 kzL kzX => ?_
 have zw4 := ew4.size
 have hZ15 := Tl.getW0 (kz (i := 10) (v := .agg #[.bool Z15.b, .slice Z15.p Z15.n Z15.c]) rfl (by simp) kzL)
 clear kzL kzX
 simp only [List.drop_succ_cons, List.drop_zero, List.drop_nil]
 replace B3 := B3.ext ew4
 have b3_w4 := B3.c2
 have fb3_w4 := B3.f2
 have xw_w4 := eg xw_w3 ew4
 obtain ⟨w5, hww5, kw5, Nw5, zw5⟩ := B3.put2 (.bool Z15.b) (.slice Z15.p Z15.n Z15.c)
 have nuw5 : NoU #[.bool false, .slice none 0 0] := by simp [NoU]
 replace hZ15 := WR.kb hZ15 B3 nuw5 kw5
 have xw_w5 := Ext.kb xw_w4 kw5 (by omega)
 replace B3 := Nw5
 clear Nw5 kw5
 have b3_w5 := B3.c2
 go_wp2_with fail
 clear hww5
 clear b1_w3 b2_w3 b3_w4 fb3_w4
 replace zw5 := le2 zw5
 refine bodyPost_ret (v := .agg #[.bool Z15.b, .slice Z15.p Z15.n Z15.c]) (by simp [results, Tryz.results85, go_sem, b3_w5]) rfl ?_
 exact Gv.of_w0 (X := Z15) (hZ15) xw_w5

set_option maxRecDepth 100000 in
theorem rNeg (X : Wh) (x : Int) (w : World) (hX : WR w X x) :
    Calls Tryz.prog 143 #[.agg #[.bool X.b, .slice X.p X.n X.c]] w (Gv (.w0 (-x)) w) := by
 obtain ⟨w1, hww1, ew1, B1, zw1⟩ := alloc_at w (w.heap.size) (by omega) #[.bool X.b, .slice X.p X.n X.c] 38
 obtain ⟨w2, hww2, ew2, B2, zw2⟩ := alloc_at w1 (w.heap.size + 1) (by omega) #[.bool false, .slice none 0 0] 38
 replace B1 := B1.ext ew2
 have b1_w2 := B1.c2
 have xw_w2 := eg ew1 ew2
 replace hX := hX.ext xw_w2
 go_enter Tryz.func143, Tryz.ntmps143
 go_wp2_with fail
 clear hww1 hww2
 replace zw1 := le2 zw1
 replace zw2 := le2 zw2
 refine (rMakeW ((!X.b)) X _ _ ((hX).u16.2) ((-x)) (by rw [Int.natAbs_neg]) (neg_R0 (hX))).mono (Gv.onW0 fun Z8 w3 hZ8 ew3 zw3 => ?_)
 replace B2 := B2.ext ew3
 have b2_w3 := B2.c2
 have fb2_w3 := B2.f2
 have xw_w3 := eg xw_w2 ew3
 obtain ⟨w4, hww4, kw4, Nw4, zw4⟩ := B2.put2 (.bool Z8.b) (.slice Z8.p Z8.n Z8.c)
 have nuw4 : NoU #[.bool false, .slice none 0 0] := by simp [NoU]
 replace hZ8 := WR.kb hZ8 B2 nuw4 kw4
 have xw_w4 := Ext.kb xw_w3 kw4 (by omega)
 replace B2 := Nw4
 clear Nw4 kw4
 have b2_w4 := B2.c2
 go_wp2_with fail
 clear hww4
 clear b1_w2 b2_w3 fb2_w3
 replace zw4 := le2 zw4
 refine bodyPost_ret (v := .agg #[.bool Z8.b, .slice Z8.p Z8.n Z8.c]) (by simp [results, Tryz.results143, go_sem, b2_w4]) rfl ?_
 exact Gv.of_w0 (X := Z8) (hZ8) xw_w4

set_option maxRecDepth 100000 in
theorem rSum (X : Wh) (Y : Wh) (x : Int) (y : Int) (w : World) (hX : WR w X x) (hY : WR w Y y) (b : siz x.natAbs ≤ 4096) (b' : siz y.natAbs ≤ 4096) :
    Calls Tryz.prog 142 #[.agg #[.bool X.b, .slice X.p X.n X.c], .agg #[.bool Y.b, .slice Y.p Y.n Y.c]] w (Gv (.w0 (x + y)) w) := by
 obtain ⟨w1, hww1, ew1, B1, zw1⟩ := alloc_at w (w.heap.size) (by omega) #[.bool X.b, .slice X.p X.n X.c] 38
 obtain ⟨w2, hww2, ew2, B2, zw2⟩ := alloc_at w1 (w.heap.size + 1) (by omega) #[.bool Y.b, .slice Y.p Y.n Y.c] 38
 obtain ⟨w3, hww3, ew3, B3, zw3⟩ := alloc_at w2 (w.heap.size + 1 + 1) (by omega) #[.bool false, .slice none 0 0] 38
 have xw1_w3 := eg ew2 ew3
 replace B1 := B1.ext xw1_w3
 have b1_w3 := B1.c2
 replace B2 := B2.ext ew3
 have b2_w3 := B2.c2
 go_enter Tryz.func142, Tryz.ntmps142
 cases hb : (X.b == Y.b)
 ·skip
  cases hl : decide (x.natAbs < y.natAbs)
  ·skip
   have xw_w3 := eg (eg ew1 ew2) ew3
   replace hX := hX.ext xw_w3
   replace hY := hY.ext xw_w3
   go_wp2_with fail
   clear hww1 hww2 hww3
   replace zw1 := le2 zw1
   replace zw2 := le2 zw2
   replace zw3 := le2 zw3
   refine (rLess X Y _ _ _ (hX).u16.2 (hY).u16.2 x.natAbs y.natAbs rfl rfl hl).mono (Gv.onV fun w4 ew4 zw4 => ?_)
   replace B1 := B1.ext ew4
   have b1_w4 := B1.c2
   replace B2 := B2.ext ew4
   have b2_w4 := B2.c2
   replace hX := hX.ext ew4
   replace hY := hY.ext ew4
   have xw_w4 := eg xw_w3 ew4
   go_wp2_with fail
   clear b1_w3 b2_w3
   refine regionT 8 (fun kk => match kk with | 6 => some (.c (limbs (x.natAbs - y.natAbs))) | 7 => some (.w0 (x + y)) | _ => none) (by as_aux_lemma => kernel_rfl) (head_of (by as_aux_lemma => kernel_rfl)) ?_
   iterate 6
    refine Walk.one (x := ?_) rfl rfl (fun w1 hI hL K hK => ?_) ?_
    rotate_left
    ·obtain ⟨hc, hf⟩ := bcell hI
     go_simp
     repeat (first | (go_ints; try go_simp) | (simp only [↓IntWalk.iteOmega]; try go_simp))
     exact hK
    simp only [Pq1]
   refine Walk.tell rfl rfl (fun w1 hI hL K hK => ?_) ?_
   ·go_simp
    exact (rMinusN X Y _ _ w1 (((hX).ext hI).u16.2) (((hY).ext hI).u16.2) (x.natAbs) (y.natAbs) (rfl) (rfl) (Nat.le_of_not_lt (of_decide_eq_false hl)) (WR.natAbs_n4 ((hX).ext hI) b)).mono (tell hK)
   rintro _ ⟨Z37, rfl⟩
   simp only [Pq1]
   refine Walk.tell rfl rfl (fun w1 hI hL K hK => ?_) ?_
   ·go_simp
    exact (rMakeW (X.b) Z37 _ w1 ((Tl.getC (kn (i := 6) (v := .slice Z37.p Z37.n Z37.c) rfl (by simp) (pred_of (by as_aux_lemma => kernel_rfl)) hL)).1) (x + y) (by rw [(dif_sign ((hX).ext hI) ((hY).ext hI) hb (Nat.le_of_not_lt (of_decide_eq_false hl)) ((Tl.getC (kn (i := 6) (v := .slice Z37.p Z37.n Z37.c) rfl (by simp) (pred_of (by as_aux_lemma => kernel_rfl)) hL)).1)).2]) (by exact (dif_sign ((hX).ext hI) ((hY).ext hI) hb (Nat.le_of_not_lt (of_decide_eq_false hl)) ((Tl.getC (kn (i := 6) (v := .slice Z37.p Z37.n Z37.c) rfl (by simp) (pred_of (by as_aux_lemma => kernel_rfl)) hL)).1)).1)).mono (tell hK)
   rintro _ ⟨Z38, rfl⟩
   simp only [Pq1]
   refine Walk.nilF fun w5 ew5 kzL kzX => ?_
   have zw5 := ew5.size
   have hZ38 := Tl.getW0 (kz (i := 7) (v := .agg #[.bool Z38.b, .slice Z38.p Z38.n Z38.c]) rfl (by simp) kzL)
   clear kzL kzX
   simp only [List.drop_succ_cons, List.drop_zero, List.drop_nil]
   have xw3_w5 := eg ew4 ew5
   replace B3 := B3.ext xw3_w5
   have b3_w5 := B3.c2
   have fb3_w5 := B3.f2
   replace hX := hX.ext ew5
   replace hY := hY.ext ew5
   replace B1 := B1.ext ew5
   replace B2 := B2.ext ew5
   have xw_w5 := eg xw_w4 ew5
   obtain ⟨w6, hww6, kw6, Nw6, zw6⟩ := B3.put2 (.bool Z38.b) (.slice Z38.p Z38.n Z38.c)
   have nuw6 : NoU #[.bool false, .slice none 0 0] := by simp [NoU]
   replace hX := WR.kb hX B3 nuw6 kw6
   replace hY := WR.kb hY B3 nuw6 kw6
   replace B1 := B1.kb kw6 (by omega)
   replace B2 := B2.kb kw6 (by omega)
   replace hZ38 := WR.kb hZ38 B3 nuw6 kw6
   have xw_w6 := Ext.kb xw_w5 kw6 (by omega)
   replace B3 := Nw6
   clear Nw6 kw6
   have b3_w6 := B3.c2
   go_wp2_with fail
   clear hww6
   clear b1_w4 b2_w4 b3_w5 fb3_w5
   replace zw6 := le2 zw6
   refine bodyPost_ret (v := .agg #[.bool Z38.b, .slice Z38.p Z38.n Z38.c]) (by simp [results, Tryz.results142, go_sem, b3_w6]) rfl ?_
   exact Gv.of_w0 (X := Z38) (hZ38) xw_w6
  ·skip
   have xw_w3 := eg (eg ew1 ew2) ew3
   replace hX := hX.ext xw_w3
   replace hY := hY.ext xw_w3
   go_wp2_with fail
   clear hww1 hww2 hww3
   replace zw1 := le2 zw1
   replace zw2 := le2 zw2
   replace zw3 := le2 zw3
   refine (rLess X Y _ _ _ (hX).u16.2 (hY).u16.2 x.natAbs y.natAbs rfl rfl hl).mono (Gv.onV fun w7 ew7 zw7 => ?_)
   replace B2 := B2.ext ew7
   have b2_w7 := B2.c2
   replace B1 := B1.ext ew7
   have b1_w7 := B1.c2
   replace hY := hY.ext ew7
   replace hX := hX.ext ew7
   have xw_w7 := eg xw_w3 ew7
   go_wp2_with fail
   clear b1_w3 b2_w3
   refine regionT 8 (fun kk => match kk with | 6 => some (.c (limbs (y.natAbs - x.natAbs))) | 7 => some (.w0 (x + y)) | _ => none) (by as_aux_lemma => kernel_rfl) (head_of (by as_aux_lemma => kernel_rfl)) ?_
   iterate 6
    refine Walk.one (x := ?_) rfl rfl (fun w1 hI hL K hK => ?_) ?_
    rotate_left
    ·obtain ⟨hc, hf⟩ := bcell hI
     go_simp
     repeat (first | (go_ints; try go_simp) | (simp only [↓IntWalk.iteOmega]; try go_simp))
     exact hK
    simp only [Pq1]
   refine Walk.tell rfl rfl (fun w1 hI hL K hK => ?_) ?_
   ·go_simp
    exact (rMinusN Y X _ _ w1 (((hY).ext hI).u16.2) (((hX).ext hI).u16.2) (y.natAbs) (x.natAbs) (rfl) (rfl) (Nat.le_of_lt (of_decide_eq_true hl)) (WR.natAbs_n4 ((hY).ext hI) b')).mono (tell hK)
   rintro _ ⟨Z29, rfl⟩
   simp only [Pq1]
   refine Walk.tell rfl rfl (fun w1 hI hL K hK => ?_) ?_
   ·go_simp
    exact (rMakeW (Y.b) Z29 _ w1 ((Tl.getC (kn (i := 6) (v := .slice Z29.p Z29.n Z29.c) rfl (by simp) (pred_of (by as_aux_lemma => kernel_rfl)) hL)).1) (x + y) (by rw [Int.add_comm x y, (dif_sign ((hY).ext hI) ((hX).ext hI) (by rw [BEq.comm]; exact hb) (Nat.le_of_lt (of_decide_eq_true hl)) ((Tl.getC (kn (i := 6) (v := .slice Z29.p Z29.n Z29.c) rfl (by simp) (pred_of (by as_aux_lemma => kernel_rfl)) hL)).1)).2]) (by rw [Int.add_comm x y]; exact (dif_sign ((hY).ext hI) ((hX).ext hI) (by rw [BEq.comm]; exact hb) (Nat.le_of_lt (of_decide_eq_true hl)) ((Tl.getC (kn (i := 6) (v := .slice Z29.p Z29.n Z29.c) rfl (by simp) (pred_of (by as_aux_lemma => kernel_rfl)) hL)).1)).1)).mono (tell hK)
   rintro _ ⟨Z30, rfl⟩
   simp only [Pq1]
   refine Walk.nilF fun w8 ew8 kzL kzX => ?_
   have zw8 := ew8.size
   have hZ30 := Tl.getW0 (kz (i := 7) (v := .agg #[.bool Z30.b, .slice Z30.p Z30.n Z30.c]) rfl (by simp) kzL)
   clear kzL kzX
   simp only [List.drop_succ_cons, List.drop_zero, List.drop_nil]
   have xw3_w8 := eg ew7 ew8
   replace B3 := B3.ext xw3_w8
   have b3_w8 := B3.c2
   have fb3_w8 := B3.f2
   replace hX := hX.ext ew8
   replace hY := hY.ext ew8
   have xw_w8 := eg xw_w7 ew8
   obtain ⟨w9, hww9, kw9, Nw9, zw9⟩ := B3.put2 (.bool Z30.b) (.slice Z30.p Z30.n Z30.c)
   have nuw9 : NoU #[.bool false, .slice none 0 0] := by simp [NoU]
   replace hX := WR.kb hX B3 nuw9 kw9
   replace hY := WR.kb hY B3 nuw9 kw9
   replace hZ30 := WR.kb hZ30 B3 nuw9 kw9
   have xw_w9 := Ext.kb xw_w8 kw9 (by omega)
   replace B3 := Nw9
   clear Nw9 kw9
   have b3_w9 := B3.c2
   go_wp2_with fail
   clear hww9
   clear b2_w7 b1_w7 b3_w8 fb3_w8
   replace zw9 := le2 zw9
   refine bodyPost_ret (v := .agg #[.bool Z30.b, .slice Z30.p Z30.n Z30.c]) (by simp [results, Tryz.results142, go_sem, b3_w9]) rfl ?_
   exact Gv.of_w0 (X := Z30) (hZ30) xw_w9
 ·skip
  have xw_w3 := eg (eg ew1 ew2) ew3
  replace hX := hX.ext xw_w3
  replace hY := hY.ext xw_w3
  go_wp2_with fail
  clear hww1 hww2 hww3
  replace zw1 := le2 zw1
  replace zw2 := le2 zw2
  replace zw3 := le2 zw3
  refine regionT 8 (fun kk => match kk with | 6 => some (.c (limbs (x.natAbs + y.natAbs))) | 7 => some (.w0 (x + y)) | _ => none) (by as_aux_lemma => kernel_rfl) (head_of (by as_aux_lemma => kernel_rfl)) ?_
  iterate 6
   refine Walk.one (x := ?_) rfl rfl (fun w1 hI hL K hK => ?_) ?_
   rotate_left
   ·obtain ⟨hc, hf⟩ := bcell hI
    go_simp
    repeat (first | (go_ints; try go_simp) | (simp only [↓IntWalk.iteOmega]; try go_simp))
    exact hK
   simp only [Pq1]
  refine Walk.tell rfl rfl (fun w1 hI hL K hK => ?_) ?_
  ·go_simp
   exact (rPlusN X Y _ _ w1 (((hX).ext hI).u16.2) (((hY).ext hI).u16.2) (x.natAbs) (y.natAbs) (rfl) (rfl) (WR.natAbs_n4 ((hX).ext hI) b) (WR.natAbs_n4 ((hY).ext hI) b')).mono (tell hK)
  rintro _ ⟨Z16, rfl⟩
  simp only [Pq1]
  refine Walk.tell rfl rfl (fun w1 hI hL K hK => ?_) ?_
  ·go_simp
   exact (rMakeW (X.b) Z16 _ w1 ((Tl.getC (kn (i := 6) (v := .slice Z16.p Z16.n Z16.c) rfl (by simp) (pred_of (by as_aux_lemma => kernel_rfl)) hL)).1) (x + y) (by rw [(sum_sign ((hX).ext hI) ((hY).ext hI) hb ((Tl.getC (kn (i := 6) (v := .slice Z16.p Z16.n Z16.c) rfl (by simp) (pred_of (by as_aux_lemma => kernel_rfl)) hL)).1)).2]) (by exact (sum_sign ((hX).ext hI) ((hY).ext hI) hb ((Tl.getC (kn (i := 6) (v := .slice Z16.p Z16.n Z16.c) rfl (by simp) (pred_of (by as_aux_lemma => kernel_rfl)) hL)).1)).1)).mono (tell hK)
  rintro _ ⟨Z17, rfl⟩
  simp only [Pq1]
  refine Walk.nilF fun w10 ew10 kzL kzX => ?_
  have zw10 := ew10.size
  have hZ17 := Tl.getW0 (kz (i := 7) (v := .agg #[.bool Z17.b, .slice Z17.p Z17.n Z17.c]) rfl (by simp) kzL)
  clear kzL kzX
  simp only [List.drop_succ_cons, List.drop_zero, List.drop_nil]
  replace B3 := B3.ext ew10
  have b3_w10 := B3.c2
  have fb3_w10 := B3.f2
  have xw_w10 := eg xw_w3 ew10
  obtain ⟨w11, hww11, kw11, Nw11, zw11⟩ := B3.put2 (.bool Z17.b) (.slice Z17.p Z17.n Z17.c)
  have nuw11 : NoU #[.bool false, .slice none 0 0] := by simp [NoU]
  replace hZ17 := WR.kb hZ17 B3 nuw11 kw11
  have xw_w11 := Ext.kb xw_w10 kw11 (by omega)
  replace B3 := Nw11
  clear Nw11 kw11
  have b3_w11 := B3.c2
  go_wp2_with fail
  clear hww11
  clear b1_w3 b2_w3 b3_w10 fb3_w10
  replace zw11 := le2 zw11
  refine bodyPost_ret (v := .agg #[.bool Z17.b, .slice Z17.p Z17.n Z17.c]) (by simp [results, Tryz.results142, go_sem, b3_w11]) rfl ?_
  exact Gv.of_w0 (X := Z17) (hZ17) xw_w11
end Go.Proofs.YtndgaecfeaedeaaGreat
namespace Go.Proofs.YtndgaecfeaedeaaGreat
open Go.RowKit Lex Mth

/-- A fraction whose parts are short enough. -/
def Sz (q : Rat) : Prop := siz q.num.natAbs ≤ 256 ∧ siz q.den ≤ 256
theorem WR.cast {w : World} {X : Wh} {z z' : Int} (h : WR w X z) (e : z = z') : WR w X z' := e ▸ h
theorem den_ne (q : Rat) : ((q.den : Nat) : Int) ≠ 0 := by have := q.den_nz; omega

theorem mul_num (x y : Rat) : Int.fdiv x.num (Int.gcd x.num y.den : Nat) * Int.fdiv y.num (Int.gcd y.num x.den : Nat) = (x * y).num := by
 show _ = (Rat.mul x y).num
 unfold Rat.mul
 simp only [Int.divExact_eq_ediv]
 rw [Int.fdiv_eq_ediv_of_nonneg _ (by omega), Int.fdiv_eq_ediv_of_nonneg _ (by omega)]
 rfl
theorem mul_den (x y : Rat) : Int.fdiv (x.den : Int) (Int.gcd y.num x.den : Nat) * Int.fdiv (y.den : Int) (Int.gcd x.num y.den : Nat) = ((x * y).den : Int) := by
 show _ = ((Rat.mul x y).den : Int)
 unfold Rat.mul
 simp only [Nat.divExact_eq_div]
 rw [Int.fdiv_eq_ediv_of_nonneg _ (by omega), Int.fdiv_eq_ediv_of_nonneg _ (by omega)]
 rfl

/-- The sum's numerator before it is brought to lowest terms. -/
def sN (x y : Rat) : Int := x.num * Int.fdiv (y.den : Int) (Int.gcd x.den y.den : Nat) + y.num * Int.fdiv (x.den : Int) (Int.gcd x.den y.den : Nat)
theorem add_eq (x y : Rat) : (x + y).num = Int.fdiv (sN x y) (Int.gcd (sN x y) (Int.gcd x.den y.den : Nat) : Nat) ∧ ((x + y).den : Int) = Int.fdiv (x.den : Int) (Int.gcd x.den y.den : Nat) * Int.fdiv (y.den : Int) (Int.gcd (sN x y) (Int.gcd x.den y.den : Nat) : Nat) := by
 have hs : sN x y = x.num * ((y.den / Nat.gcd x.den y.den : Nat) : Int) + y.num * ((x.den / Nat.gcd x.den y.den : Nat) : Int) := by
  unfold sN
  rw [Int.fdiv_eq_ediv_of_nonneg _ (by omega), Int.fdiv_eq_ediv_of_nonneg _ (by omega)]
  rfl
 rw [Int.fdiv_eq_ediv_of_nonneg _ (by omega), Int.fdiv_eq_ediv_of_nonneg _ (by omega), Int.fdiv_eq_ediv_of_nonneg _ (by omega)]
 have hg : Int.gcd (sN x y) (Int.gcd x.den y.den : Nat) = Nat.gcd (sN x y).natAbs (Nat.gcd x.den y.den) := rfl
 rw [hg]
 show (Rat.add x y).num = _ ∧ ((Rat.add x y).den : Int) = _
 unfold Rat.add
 by_cases h1 : x.den.gcd y.den = 1
 ·simp only [h1, dif_pos]
  rw [hs, h1]
  simp only [Nat.div_one, Nat.gcd_one_right]
  have h1' : Int.gcd (x.den : Int) (y.den : Int) = 1 := h1
  rw [h1']
  constructor
  ·simp
  ·simp
 ·simp only [h1, dif_neg, not_false_eq_true]
  rw [Rat.maybeNormalize_eq]
  simp only [Int.divExact_eq_ediv, Nat.divExact_eq_div]
  rw [← hs]
  constructor
  ·rfl
  ·have e : (x.den / x.den.gcd y.den * y.den) / ((sN x y).natAbs.gcd (x.den.gcd y.den)) = (x.den / x.den.gcd y.den) * (y.den / ((sN x y).natAbs.gcd (x.den.gcd y.den))) :=
    Nat.mul_div_assoc _ (Nat.dvd_trans (Nat.gcd_dvd_right _ _) (Nat.gcd_dvd_right _ _))
   rw [e]
   rfl
theorem add_num (x y : Rat) : Int.fdiv (sN x y) (Int.gcd (sN x y) (Int.gcd x.den y.den : Nat) : Nat) = (x + y).num := (add_eq x y).1.symm
theorem add_den (x y : Rat) : Int.fdiv (x.den : Int) (Int.gcd x.den y.den : Nat) * Int.fdiv (y.den : Int) (Int.gcd (sN x y) (Int.gcd x.den y.den : Nat) : Nat) = ((x + y).den : Int) := (add_eq x y).2.symm

theorem gcd_ne_left {x : Int} {y : Int} (h : y ≠ 0) : ((Int.gcd x y : Nat) : Int) ≠ 0 := by
 have := Int.gcd_eq_zero_iff (a := x) (b := y)
 omega
theorem siz_gcd {x y : Int} (h : y ≠ 0) : siz (((Int.gcd x y : Nat) : Int)).natAbs ≤ siz y.natAbs := by
 rw [Int.natAbs_natCast]
 exact siz_mono (Nat.le_of_dvd (by omega) (Int.gcd_dvd_natAbs_right x y))
theorem fdiv_le (x : Int) {y : Int} (h : 0 ≤ y) : (Int.fdiv x y).natAbs ≤ x.natAbs := by
 rw [Int.fdiv_eq_ediv_of_nonneg _ h]
 exact Int.natAbs_ediv_le_natAbs x y
theorem siz_fdiv (x : Int) {y : Int} (h : 0 ≤ y) : siz (Int.fdiv x y).natAbs ≤ siz x.natAbs := siz_mono (fdiv_le x h)
theorem siz_imul (x y : Int) : siz (x * y).natAbs ≤ siz x.natAbs + siz y.natAbs := by rw [Int.natAbs_mul]; exact siz_mul _ _
theorem siz_iadd (x y : Int) : siz (x + y).natAbs ≤ max (siz x.natAbs) (siz y.natAbs) + 1 := Nat.le_trans (siz_mono (Int.natAbs_add_le x y)) (siz_add _ _)
end Go.Proofs.YtndgaecfeaedeaaGreat
