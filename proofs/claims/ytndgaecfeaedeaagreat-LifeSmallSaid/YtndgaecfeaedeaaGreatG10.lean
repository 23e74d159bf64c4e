/- Words for walks over whole numbers and fractions: what a call gives, a region whose order is open, boxes that are written. No condition: laws on the model's worlds and on the calculus of walks. A region whose order is open in which a new box is filled before all has been carried out. No condition: a law on the calculus of walks. A kind of result: a fraction and an error's number, wherever the fraction lies. No condition. The checks of a region whose order is open, by bit masks: what comes before an operation is computed once. No condition: laws on lists. A kind of result: a fraction, or the error that an argument is not valid. No condition. -/
import Derived.Test.YtndgaecfeaedeaaGreatG8
import Derived.Test.YtndgaecfeaedeaaGreatG9
set_option linter.unusedSimpArgs false
set_option linter.unusedVariables false
namespace Go.Proofs.YtndgaecfeaedeaaGreat
open Go.RowKit Lex Mth

/-- A whole number's parts: sign, address, length, room. -/
structure Wh where
 b : Bool
 p : Option Addr
 n : Nat
 c : Nat
abbrev Wh.val (X : Wh) : Value := .agg #[.bool X.b, .slice X.p X.n X.c]
structure Fr where
 N : Wh
 D : Wh
abbrev Fr.val (X : Fr) : Value := .agg #[.bool X.N.b, .slice X.N.p X.N.n X.N.c, .bool X.D.b, .slice X.D.p X.D.n X.D.c]
/-- X is the number z, in the world w. -/
def WR (w : World) (X : Wh) (z : Int) : Prop := RW w X.val z
/-- X is the fraction q, in the world w. -/
def FR (w : World) (X : Fr) (q : Rat) : Prop := WR w X.N q.num ∧ WR w X.D q.den
theorem WR.ext {w w' : World} {X : Wh} {z : Int} (h : WR w X z) (e : Ext w w') : WR w' X z := RW.ext h e
theorem FR.ext {w w' : World} {X : Fr} {q : Rat} (h : FR w X q) (e : Ext w w') : FR w' X q := ⟨h.1.ext e, h.2.ext e⟩
theorem WR.u16 {w : World} {X : Wh} {z : Int} (h : WR w X z) : X.b = decide (z < 0) ∧ U16 w X.p X.n X.c (limbs z.natAbs) := RawW.u16 h
theorem WR.neg {w : World} {X : Wh} {z : Int} (h : WR w X z) : X.b = decide (z < 0) := h.u16.1
theorem WR.n {w : World} {X : Wh} {z : Int} (h : WR w X z) : X.n = siz z.natAbs := h.u16.2.len.symm
theorem WR.mk {w : World} {X : Wh} {z : Int} (h : X.b = decide (z < 0)) (u : U16 w X.p X.n X.c (limbs z.natAbs)) : WR w X z := RW.mk u h

/-- The blocks of what a value holds: the boxes and the rooms. -/
def Bl1 : Value → List Nat
 | .pointer (some a) => [a.block]
 | .slice (some a) _ (_ + 1) => [a.block]
 | _ => []
def Bl : Value → List Nat
 | .agg cs => cs.toList.flatMap Bl1
 | .tuple cs => cs.toList.flatMap fun | .agg ds => ds.toList.flatMap Bl1 | v => Bl1 v
 | v => Bl1 v
/-- The number's room is its own, from block B on. -/
def OW (B : Nat) (w : World) (X : Wh) : Prop := Own B w X.p X.c
def Apt (X Y : Wh) : Prop := ∀ b ∈ Bl X.val, b ∉ Bl Y.val
def ApF (X : Fr) : Prop := Apt X.N X.D
def OF (B : Nat) (w : World) (X : Fr) : Prop := OW B w X.N ∧ OW B w X.D ∧ ApF X
theorem OW.ext {B : Nat} {w w' : World} {X : Wh} (h : OW B w X) (e : Ext w w') : OW B w' X := Own.ext h e
theorem OW.mono {B B' : Nat} {w : World} {X : Wh} (h : OW B w X) (e : B' ≤ B) : OW B' w X := Own.mono h e
theorem OF.ext {B : Nat} {w w' : World} {X : Fr} (h : OF B w X) (e : Ext w w') : OF B w' X := ⟨h.1.ext e, h.2.1.ext e, h.2.2⟩
theorem OF.mono {B B' : Nat} {w : World} {X : Fr} (h : OF B w X) (e : B' ≤ B) : OF B' w X := ⟨h.1.mono e, h.2.1.mono e, h.2.2⟩
theorem OW.bl {B : Nat} {w : World} {X : Wh} (h : OW B w X) : ∀ b ∈ Bl X.val, B ≤ b ∧ b < w.heap.size := by
 obtain ⟨nb, p, n, c⟩ := X
 intro b hb
 rcases h with h | ⟨g, cur, h1, h2, h3, h4⟩
 ·simp only at h
  subst h
  simp [Bl, Bl1] at hb
 ·simp only at h1
  subst h1
  have hg : g < w.heap.size := (Array.getElem?_eq_some_iff.1 h3).1
  cases c with
  | zero => simp [Bl, Bl1] at hb
  | succ c => simp [Bl, Bl1] at hb; subst hb; exact ⟨h2, hg⟩
theorem bl_fr (X : Fr) : Bl X.val = Bl X.N.val ++ Bl X.D.val := by
 simp only [Bl, List.flatMap_cons, List.flatMap_nil, List.append_nil]
 simp [List.append_assoc]
theorem OF.bl {B : Nat} {w : World} {X : Fr} (h : OF B w X) : ∀ b ∈ Bl X.val, B ≤ b ∧ b < w.heap.size := by
 intro b hb
 rw [bl_fr, List.mem_append] at hb
 exact hb.elim (h.1.bl b) (h.2.1.bl b)

/-- A kind of result: its shape, and what is known of it. -/
structure Tl where
 S : Value → Prop
 Bs : Value → List Nat
 A : Nat → Value → World → Prop
 wit : ∃ v, S v
 ext : ∀ {B v w w'}, A B v w → Ext w w' → A B v w'
 mono : ∀ {B B' v w}, A B v w → B' ≤ B → A B' v w
 bl : ∀ {B v w}, S v → A B v w → ∀ b ∈ Bs v, B ≤ b ∧ b < w.heap.size

/-- A known value. -/
def Tl.v (x : Value) : Tl where
 S v := v = x
 Bs _ := []
 A _ _ _ := True
 wit := ⟨x, rfl⟩
 ext _ _ := trivial
 mono _ _ := trivial
 bl _ _ b hb := by cases hb
/-- A whole number. -/
def Tl.w (z : Int) : Tl where
 S v := ∃ X : Wh, v = X.val
 Bs := Bl
 A B v w := ∀ X : Wh, v = X.val → WR w X z ∧ OW B w X
 wit := ⟨_, ⟨false, none, 0, 0⟩, rfl⟩
 ext h e X hX := ⟨(h X hX).1.ext e, (h X hX).2.ext e⟩
 mono h e X hX := ⟨(h X hX).1, (h X hX).2.mono e⟩
 bl := by rintro B _ w ⟨X, rfl⟩ h b hb; exact (h X rfl).2.bl b hb
/-- A whole number and an error's number. -/
def Tl.we (z : Int) (n : Int) : Tl where
 S v := ∃ X : Wh, v = .tuple #[X.val, .int .i64 n]
 Bs := Bl
 A B v w := ∀ X : Wh, v = .tuple #[X.val, .int .i64 n] → WR w X z ∧ OW B w X
 wit := ⟨_, ⟨false, none, 0, 0⟩, rfl⟩
 ext h e X hX := ⟨(h X hX).1.ext e, (h X hX).2.ext e⟩
 mono h e X hX := ⟨(h X hX).1, (h X hX).2.mono e⟩
 bl := by
  rintro B _ w ⟨X, rfl⟩ h b hb
  refine (h X rfl).2.bl b ?_
  simpa [Bl, Bl1] using hb
/-- A fraction. -/
def Tl.f (q : Rat) : Tl where
 S v := ∃ X : Fr, v = X.val
 Bs := Bl
 A B v w := ∀ X : Fr, v = X.val → FR w X q ∧ OF B w X
 wit := ⟨_, ⟨⟨false, none, 0, 0⟩, ⟨false, none, 0, 0⟩⟩, rfl⟩
 ext h e X hX := ⟨(h X hX).1.ext e, (h X hX).2.ext e⟩
 mono h e X hX := ⟨(h X hX).1, (h X hX).2.mono e⟩
 bl := by rintro B _ w ⟨X, rfl⟩ h b hb; exact (h X rfl).2.bl b hb
/-- A fraction and an error's number. -/
def Tl.fe (q : Rat) (n : Int) : Tl where
 S v := ∃ X : Fr, v = .tuple #[X.val, .int .i64 n]
 Bs := Bl
 A B v w := ∀ X : Fr, v = .tuple #[X.val, .int .i64 n] → FR w X q ∧ OF B w X
 wit := ⟨_, ⟨⟨false, none, 0, 0⟩, ⟨false, none, 0, 0⟩⟩, rfl⟩
 ext h e X hX := ⟨(h X hX).1.ext e, (h X hX).2.ext e⟩
 mono h e X hX := ⟨(h X hX).1, (h X hX).2.mono e⟩
 bl := by
  rintro B _ w ⟨X, rfl⟩ h b hb
  refine (h X rfl).2.bl b ?_
  simpa [Bl, Bl1] using hb
/-- The same, of a fraction that was there before. -/
def Tl.fe0 (q : Rat) (n : Int) : Tl where
 S v := ∃ X : Fr, v = .tuple #[X.val, .int .i64 n]
 Bs _ := []
 A B v w := ∀ X : Fr, v = .tuple #[X.val, .int .i64 n] → FR w X q ∧ OF B w X
 wit := ⟨_, ⟨⟨false, none, 0, 0⟩, ⟨false, none, 0, 0⟩⟩, rfl⟩
 ext h e X hX := ⟨(h X hX).1.ext e, (h X hX).2.ext e⟩
 mono h e X hX := ⟨(h X hX).1, (h X hX).2.mono e⟩
 bl := by rintro B _ w _ h b hb; cases hb
/-- A whole number, a slice of limbs, a fraction: wherever they lie. -/
def Tl.w0 (z : Int) : Tl where
 S v := ∃ X : Wh, v = X.val
 Bs _ := []
 A _ v w := ∀ X : Wh, v = X.val → WR w X z
 wit := ⟨_, ⟨false, none, 0, 0⟩, rfl⟩
 ext h e X hX := (h X hX).ext e
 mono h _ := h
 bl := by rintro B _ w _ h b hb; cases hb
def Tl.c0 (l : List Nat) : Tl where
 S v := ∃ X : Wh, v = .slice X.p X.n X.c
 Bs _ := []
 A _ v w := ∀ X : Wh, v = .slice X.p X.n X.c → U16 w X.p X.n X.c l
 wit := ⟨_, ⟨false, none, 0, 0⟩, rfl⟩
 ext h e X hX := (h X hX).ext e
 mono h _ := h
 bl := by rintro B _ w _ h b hb; cases hb
def Tl.f0 (q : Rat) : Tl where
 S v := ∃ X : Fr, v = X.val
 Bs _ := []
 A _ v w := ∀ X : Fr, v = X.val → FR w X q
 wit := ⟨_, ⟨⟨false, none, 0, 0⟩, ⟨false, none, 0, 0⟩⟩, rfl⟩
 ext h e X hX := (h X hX).ext e
 mono h _ := h
 bl := by rintro B _ w _ h b hb; cases hb
/-- A slice of limbs (a whole number's without its sign). -/
def Tl.c (l : List Nat) : Tl where
 S v := ∃ X : Wh, v = .slice X.p X.n X.c
 Bs := Bl
 A B v w := ∀ X : Wh, v = .slice X.p X.n X.c → U16 w X.p X.n X.c l ∧ OW B w X
 wit := ⟨_, ⟨false, none, 0, 0⟩, rfl⟩
 ext h e X hX := ⟨(h X hX).1.ext e, (h X hX).2.ext e⟩
 mono h e X hX := ⟨(h X hX).1, (h X hX).2.mono e⟩
 bl := by
  rintro B _ w ⟨X, rfl⟩ h b hb
  refine (h X rfl).2.bl b ?_
  obtain ⟨s, p, n, c⟩ := X
  cases p <;> cases c <;> simp_all [Bl, Bl1]
/-- A box that is new. -/
def Tl.box (t : TypeId) (c : Array Value) : Tl where
 S v := ∃ g, v = .pointer (some ⟨g, 0, none⟩)
 Bs := Bl
 A B v w := ∀ g, v = .pointer (some ⟨g, 0, none⟩) → Cells w g t c ∧ B ≤ g
 wit := ⟨_, 0, rfl⟩
 ext h e X hX := ⟨(h X hX).1.ext e, (h X hX).2⟩
 mono h e X hX := ⟨(h X hX).1, Nat.le_trans e (h X hX).2⟩
 bl := by
  rintro B _ w ⟨g, rfl⟩ h b hb
  have := h g rfl
  simp [Bl, Bl1] at hb
  subst hb
  exact ⟨this.2, this.1.lt⟩

theorem Tl.getW {z : Int} {B : Nat} {w : World} {X : Wh} (h : (Tl.w z).A B (.agg #[.bool X.b, .slice X.p X.n X.c]) w) : WR w X z ∧ OW B w X := h X rfl
theorem Tl.getF {q : Rat} {B : Nat} {w : World} {X : Fr} (h : (Tl.f q).A B (.agg #[.bool X.N.b, .slice X.N.p X.N.n X.N.c, .bool X.D.b, .slice X.D.p X.D.n X.D.c]) w) : FR w X q ∧ OF B w X := h X rfl
theorem Tl.getFe {q : Rat} {n : Int} {B : Nat} {w : World} {X : Fr} (h : (Tl.fe q n).A B (.tuple #[.agg #[.bool X.N.b, .slice X.N.p X.N.n X.N.c, .bool X.D.b, .slice X.D.p X.D.n X.D.c], .int .i64 n]) w) : FR w X q ∧ OF B w X := h X rfl
theorem Tl.getC {l : List Nat} {B : Nat} {w : World} {X : Wh} (h : (Tl.c l).A B (.slice X.p X.n X.c) w) : U16 w X.p X.n X.c l ∧ OW B w X := h X rfl
theorem Tl.putC {l : List Nat} {B : Nat} {w : World} {X : Wh} (h : U16 w X.p X.n X.c l) (o : OW B w X) : (Tl.c l).A B (.slice X.p X.n X.c) w := by
 intro Y hY
 obtain ⟨a, b, c, d⟩ := X
 obtain ⟨a', b', c', d'⟩ := Y
 simp only [Value.slice.injEq] at hY
 obtain ⟨rfl, rfl, rfl⟩ := hY
 exact ⟨h, o⟩
theorem Tl.getFe0 {q : Rat} {n : Int} {B : Nat} {w : World} {X : Fr} (h : (Tl.fe0 q n).A B (.tuple #[.agg #[.bool X.N.b, .slice X.N.p X.N.n X.N.c, .bool X.D.b, .slice X.D.p X.D.n X.D.c], .int .i64 n]) w) : FR w X q ∧ OF B w X := h X rfl
theorem Tl.getW0 {z : Int} {B : Nat} {w : World} {X : Wh} (h : (Tl.w0 z).A B (.agg #[.bool X.b, .slice X.p X.n X.c]) w) : WR w X z := h X rfl
theorem Tl.getF0 {q : Rat} {B : Nat} {w : World} {X : Fr} (h : (Tl.f0 q).A B (.agg #[.bool X.N.b, .slice X.N.p X.N.n X.N.c, .bool X.D.b, .slice X.D.p X.D.n X.D.c]) w) : FR w X q := h X rfl
theorem Tl.getB {t : TypeId} {c : Array Value} {B : Nat} {w : World} {g : Nat} (h : (Tl.box t c).A B (.pointer (some ⟨g, 0, none⟩)) w) : Cells w g t c ∧ B ≤ g := h g rfl
theorem Tl.putW {z : Int} {B : Nat} {w : World} {X : Wh} (h : WR w X z) (o : OW B w X) : (Tl.w z).A B X.val w := by
 intro Y hY
 obtain ⟨a, b, c, d⟩ := X
 obtain ⟨a', b', c', d'⟩ := Y
 simp only [Wh.val, Value.agg.injEq, Array.mk.injEq, List.cons.injEq, Value.bool.injEq, Value.slice.injEq, and_true] at hY
 obtain ⟨rfl, rfl, rfl, rfl⟩ := hY
 exact ⟨h, o⟩
theorem wh_inj {X Y : Wh} (h : X.val = Y.val) : X = Y := by
 obtain ⟨a, b, c, d⟩ := X
 obtain ⟨a', b', c', d'⟩ := Y
 simp only [Wh.val, Value.agg.injEq, Array.mk.injEq, List.cons.injEq, Value.bool.injEq, Value.slice.injEq, and_true] at h
 obtain ⟨rfl, rfl, rfl, rfl⟩ := h
 rfl
theorem Tl.putWe {z n : Int} {B : Nat} {w : World} {X : Wh} (h : WR w X z) (o : OW B w X) : (Tl.we z n).A B (.tuple #[X.val, .int .i64 n]) w := by
 intro Y hY
 have : X.val = Y.val := by
  simp only [Value.tuple.injEq, Array.mk.injEq, List.cons.injEq, and_true] at hY
  exact hY
 obtain rfl := wh_inj this
 exact ⟨h, o⟩
theorem fr_inj {X Y : Fr} (h : X.val = Y.val) : X = Y := by
 obtain ⟨⟨a, b, c, d⟩, ⟨a2, b2, c2, d2⟩⟩ := X
 obtain ⟨⟨a', b', c', d'⟩, ⟨a2', b2', c2', d2'⟩⟩ := Y
 simp only [Fr.val, Value.agg.injEq, Array.mk.injEq, List.cons.injEq, Value.bool.injEq, Value.slice.injEq, and_true] at h
 obtain ⟨rfl, ⟨rfl, rfl, rfl⟩, rfl, rfl, rfl, rfl⟩ := h
 rfl
theorem Tl.putF {q : Rat} {B : Nat} {w : World} {X : Fr} (h : FR w X q) (o : OF B w X) : (Tl.f q).A B X.val w := by
 intro Y hY
 obtain rfl := fr_inj hY
 exact ⟨h, o⟩
theorem Tl.putFe {q : Rat} {n : Int} {B : Nat} {w : World} {X : Fr} (h : FR w X q) (o : OF B w X) : (Tl.fe q n).A B (.tuple #[X.val, .int .i64 n]) w := by
 intro Y hY
 have : X.val = Y.val := by
  simp only [Value.tuple.injEq, Array.mk.injEq, List.cons.injEq, and_true] at hY
  exact hY
 obtain rfl := fr_inj this
 exact ⟨h, o⟩

theorem Tl.putFe0 {q : Rat} {n : Int} {B : Nat} {w : World} {X : Fr} (h : FR w X q) (o : OF B w X) : (Tl.fe0 q n).A B (.tuple #[X.val, .int .i64 n]) w := by
 intro Y hY
 have : X.val = Y.val := by
  simp only [Value.tuple.injEq, Array.mk.injEq, List.cons.injEq, and_true] at hY
  exact hY
 obtain rfl := fr_inj this
 exact ⟨h, o⟩
/-- What a call gives: a value of the kind; what was there stays. -/
def Gv (t : Tl) (w : World) (e : Ending) (w' : World) : Prop := ∃ v, e = .returned v ∧ t.S v ∧ t.A w.heap.size v w' ∧ Ext w w'
theorem Gv.v {x : Value} {w : World} {e : Ending} {w' : World} (h : Gv (.v x) w e w') : e = .returned x ∧ Ext w w' := by
 obtain ⟨v, rfl, h1, _, h3⟩ := h; exact ⟨by rw [h1], h3⟩
theorem Gv.w {z : Int} {w : World} {e : Ending} {w' : World} (h : Gv (.w z) w e w') : ∃ X : Wh, e = .returned (.agg #[.bool X.b, .slice X.p X.n X.c]) ∧ WR w' X z ∧ OW w.heap.size w' X ∧ Ext w w' := by
 obtain ⟨v, rfl, ⟨X, rfl⟩, h2, h3⟩ := h; exact ⟨X, rfl, (h2 X rfl).1, (h2 X rfl).2, h3⟩
theorem Gv.we {z n : Int} {w : World} {e : Ending} {w' : World} (h : Gv (.we z n) w e w') : ∃ X : Wh, e = .returned (.tuple #[.agg #[.bool X.b, .slice X.p X.n X.c], .int .i64 n]) ∧ WR w' X z ∧ OW w.heap.size w' X ∧ Ext w w' := by
 obtain ⟨v, rfl, ⟨X, rfl⟩, h2, h3⟩ := h; exact ⟨X, rfl, (h2 X rfl).1, (h2 X rfl).2, h3⟩
theorem Gv.of_we {z n : Int} {X : Wh} {w w' : World} (h : WR w' X z) (o : OW w.heap.size w' X) (e : Ext w w') : Gv (.we z n) w (.returned (.tuple #[.agg #[.bool X.b, .slice X.p X.n X.c], .int .i64 n])) w' := ⟨_, rfl, ⟨X, rfl⟩, Tl.putWe h o, e⟩
theorem Gv.f {q : Rat} {w : World} {e : Ending} {w' : World} (h : Gv (.f q) w e w') : ∃ X : Fr, e = .returned (.agg #[.bool X.N.b, .slice X.N.p X.N.n X.N.c, .bool X.D.b, .slice X.D.p X.D.n X.D.c]) ∧ FR w' X q ∧ OF w.heap.size w' X ∧ Ext w w' := by
 obtain ⟨v, rfl, ⟨X, rfl⟩, h2, h3⟩ := h; exact ⟨X, rfl, (h2 X rfl).1, (h2 X rfl).2, h3⟩
theorem Gv.fe {q : Rat} {n : Int} {w : World} {e : Ending} {w' : World} (h : Gv (.fe q n) w e w') : ∃ X : Fr, e = .returned (.tuple #[.agg #[.bool X.N.b, .slice X.N.p X.N.n X.N.c, .bool X.D.b, .slice X.D.p X.D.n X.D.c], .int .i64 n]) ∧ FR w' X q ∧ OF w.heap.size w' X ∧ Ext w w' := by
 obtain ⟨v, rfl, ⟨X, rfl⟩, h2, h3⟩ := h; exact ⟨X, rfl, (h2 X rfl).1, (h2 X rfl).2, h3⟩
theorem Gv.c {l : List Nat} {w : World} {e : Ending} {w' : World} (h : Gv (.c l) w e w') : ∃ X : Wh, e = .returned (.slice X.p X.n X.c) ∧ U16 w' X.p X.n X.c l ∧ OW w.heap.size w' X ∧ Ext w w' := by
 obtain ⟨v, rfl, ⟨X, rfl⟩, h2, h3⟩ := h; exact ⟨X, rfl, (h2 X rfl).1, (h2 X rfl).2, h3⟩
theorem Gv.of_c {l : List Nat} {X : Wh} {w w' : World} (h : U16 w' X.p X.n X.c l) (o : OW w.heap.size w' X) (e : Ext w w') : Gv (.c l) w (.returned (.slice X.p X.n X.c)) w' := ⟨_, rfl, ⟨X, rfl⟩, Tl.putC h o, e⟩
theorem Gv.w0 {z : Int} {w : World} {e : Ending} {w' : World} (h : Gv (.w0 z) w e w') : ∃ X : Wh, e = .returned (.agg #[.bool X.b, .slice X.p X.n X.c]) ∧ WR w' X z ∧ Ext w w' := by
 obtain ⟨v, rfl, ⟨X, rfl⟩, h2, h3⟩ := h; exact ⟨X, rfl, h2 X rfl, h3⟩
theorem Gv.c0 {l : List Nat} {w : World} {e : Ending} {w' : World} (h : Gv (.c0 l) w e w') : ∃ X : Wh, e = .returned (.slice X.p X.n X.c) ∧ U16 w' X.p X.n X.c l ∧ Ext w w' := by
 obtain ⟨v, rfl, ⟨X, rfl⟩, h2, h3⟩ := h; exact ⟨X, rfl, h2 X rfl, h3⟩
theorem Gv.f0 {q : Rat} {w : World} {e : Ending} {w' : World} (h : Gv (.f0 q) w e w') : ∃ X : Fr, e = .returned (.agg #[.bool X.N.b, .slice X.N.p X.N.n X.N.c, .bool X.D.b, .slice X.D.p X.D.n X.D.c]) ∧ FR w' X q ∧ Ext w w' := by
 obtain ⟨v, rfl, ⟨X, rfl⟩, h2, h3⟩ := h; exact ⟨X, rfl, h2 X rfl, h3⟩
theorem Gv.of_w0 {z : Int} {X : Wh} {w w' : World} (h : WR w' X z) (e : Ext w w') : Gv (.w0 z) w (.returned (.agg #[.bool X.b, .slice X.p X.n X.c])) w' := ⟨_, rfl, ⟨X, rfl⟩, fun _ hY => by obtain rfl := wh_inj hY; exact h, e⟩
theorem Gv.of_c0 {l : List Nat} {X : Wh} {w w' : World} (h : U16 w' X.p X.n X.c l) (e : Ext w w') : Gv (.c0 l) w (.returned (.slice X.p X.n X.c)) w' := ⟨_, rfl, ⟨X, rfl⟩, fun Y hY => by
 obtain ⟨a, b, c, d⟩ := X
 obtain ⟨a', b', c', d'⟩ := Y
 simp only [Value.slice.injEq] at hY
 obtain ⟨rfl, rfl, rfl⟩ := hY
 exact h, e⟩
theorem Gv.of_f0 {q : Rat} {X : Fr} {w w' : World} (h : FR w' X q) (e : Ext w w') : Gv (.f0 q) w (.returned (.agg #[.bool X.N.b, .slice X.N.p X.N.n X.N.c, .bool X.D.b, .slice X.D.p X.D.n X.D.c])) w' := ⟨_, rfl, ⟨X, rfl⟩, fun _ hY => by obtain rfl := fr_inj hY; exact h, e⟩
theorem Gv.of_v {x : Value} {w w' : World} (h : Ext w w') : Gv (.v x) w (.returned x) w' := ⟨x, rfl, rfl, trivial, h⟩
theorem Gv.of_w {z : Int} {X : Wh} {w w' : World} (h : WR w' X z) (o : OW w.heap.size w' X) (e : Ext w w') : Gv (.w z) w (.returned (.agg #[.bool X.b, .slice X.p X.n X.c])) w' := ⟨_, rfl, ⟨X, rfl⟩, Tl.putW h o, e⟩
theorem Gv.of_f {q : Rat} {X : Fr} {w w' : World} (h : FR w' X q) (o : OF w.heap.size w' X) (e : Ext w w') : Gv (.f q) w (.returned (.agg #[.bool X.N.b, .slice X.N.p X.N.n X.N.c, .bool X.D.b, .slice X.D.p X.D.n X.D.c])) w' := ⟨_, rfl, ⟨X, rfl⟩, Tl.putF h o, e⟩
theorem Gv.of_fe {q : Rat} {n : Int} {X : Fr} {w w' : World} (h : FR w' X q) (o : OF w.heap.size w' X) (e : Ext w w') : Gv (.fe q n) w (.returned (.tuple #[.agg #[.bool X.N.b, .slice X.N.p X.N.n X.N.c, .bool X.D.b, .slice X.D.p X.D.n X.D.c], .int .i64 n])) w' := ⟨_, rfl, ⟨X, rfl⟩, Tl.putFe h o, e⟩

section
variable {P : Program} {ops : Array Oper} {T : Nat → Option Tl} {I : World → Prop} {Fin : Act → World → Prop}

def TS (T : Nat → Option Tl) (k : Nat) (v : Value) : Prop := match T k with | some t => t.S v | none => True
def TA (T : Nat → Option Tl) (B : Nat) (k : Nat) (v : Value) (w : World) : Prop := match T k with | some t => t.S v ∧ t.A B v w | none => True
def TB (T : Nat → Option Tl) (k : Nat) (v : Value) : List Nat := match T k with | some t => t.Bs v | none => []
abbrev TR (T : Nat → Option Tl) (k : Nat) : Bool := (T k).isSome
abbrev WalkT (P : Program) (ops : Array Oper) (T : Nat → Option Tl) (w : World) (Fin : Act → World → Prop) : List (Nat × Value) → Nat → List Oper → Act → Prop :=
 Walk P ops (TR T) (TS T) (AF (TB T) (TA T w.heap.size)) (Ext w) (ChF (TB T)) (XF (TB T)) UE Fin

/-- A region whose order is open; what some operations give is told by a kind. -/
theorem regionT (N : Nat) (T : Nat → Option Tl) {id : Nat} {l : List Oper} {Q : Exit → Act → World → Prop} {a : Act} {w : World}
    (hm : P.follows .mixedOrders = true) (hB : headB l.toArray N a.tmps.size = true)
    (hW : WalkT P l.toArray T w (wpList P l.toArray Q (l.drop N)) [] 0 (l.take N) a) : (Code.region id l.toArray true).wp P Q a w := by
 refine regionF N (TR T) (TS T) (TA T w.heap.size) (TB T) hm hB ?_ hW
 intro i v w1 w2 h e
 unfold TA at *
 split <;> rename_i ht <;> simp only [ht] at h
 ·exact ⟨h.1, Tl.ext _ h.2 e⟩
 ·trivial
theorem regionInT (N : Nat) (T : Nat → Option Tl) {F : Fence} (hF : WideF F) {id n : Nat} {l : List Oper} {Q : Exit → Act → World → Prop} {a : Act} {w : World}
    (hm : P.follows .mixedOrders = true) (hd : noDefer l.toArray = true) (hB : headB l.toArray N a.tmps.size = true)
    (hW : WalkT P l.toArray T w (wpListIn F n P l.toArray Q (l.drop N)) [] 0 (l.take N) a) : (Code.region id l.toArray true).wpIn F n P Q a w := by
 refine regionInF N (TR T) (TS T) (TA T w.heap.size) (TB T) hF hm hd hB ?_ hW
 intro i v w1 w2 h e
 unfold TA at *
 split <;> rename_i ht <;> simp only [ht] at h
 ·exact ⟨h.1, Tl.ext _ h.2 e⟩
 ·trivial

theorem Walk.oneG {R : Nat → Bool} {S : Nat → Value → Prop} {A : Nat → Value → World → Prop} {Ch : Nat → Value → World → World → Prop} {X : Nat → Value → Nat → Value → Prop} {U : Nat → World → Prop} {L : List (Nat × Value)} {k : Nat} {o : Oper} {rest : List Oper} {a : Act} {x : Value} (hR : R k = false) (hg : Region.wanted o (yielded ops a.tmps) = true)
    (h : ∀ w, I w → Knows ops A L k w → ∀ K : Value → World → Prop, K x w → UponV K ((execOp a.eval o).run P w))
    (hr : Walk P ops R S A I Ch X U Fin L (k + 1) rest (a.put o.dst x)) : Walk P ops R S A I Ch X U Fin L k (o :: rest) a := by
 unfold Walk
 rw [if_neg (by simp [hR])]
 refine ⟨x, fun w hI hL => ?_, hr⟩
 rw [if_pos hg]
 exact uponV_one (h w hI hL.1)
theorem Walk.tellG {t : Tl} {w : World} {L : List (Nat × Value)} {k : Nat} {o : Oper} {rest : List Oper} {a : Act} (hT : T k = some t) (hg : Region.wanted o (yielded ops a.tmps) = true)
    (h : ∀ w1, Ext w w1 → Knows ops (TA T w.heap.size) L k w1 → ∀ K : Value → World → Prop, (∀ v w', t.S v → t.A w1.heap.size v w' → Ext w1 w' → K v w') → Upon P K ((execOp a.eval o).run P w1))
    (hr : ∀ v, t.S v → WalkT P ops T w Fin ((k, v) :: L) (k + 1) rest (a.put o.dst v)) : WalkT P ops T w Fin L k (o :: rest) a := by
 unfold WalkT Walk
 rw [if_pos (by simp [TR, hT])]
 refine ⟨by simp only [TS, hT]; exact t.wit, fun w1 hI _ hL => ?_, fun v hv => hr v (by simpa only [TS, hT] using hv)⟩
 rw [if_pos hg]
 refine upon_eff (h w1 hI (fun p hp hpr => (hL.1 p hp hpr).1) _ (fun v w' h1 h2 h3 => ?_))
 have hb : ∀ b ∈ TB T k v, w1.heap.size ≤ b ∧ b < w'.heap.size := by simp only [TB, hT]; exact t.bl h1 h2
 have hc : ChF (TB T) k v w1 w' := ⟨h3, fun b h => (hb b h).1⟩
 exact ⟨by simpa only [TS, hT] using h1, ⟨by simp only [TA, hT]; exact ⟨h1, t.mono h2 hI.size⟩, fun b h => (hb b h).2⟩, hI.trans (h3.mono hI.size), hc, fun p hp hpr => xF (hL.1 p hp hpr) hc⟩
theorem Walk.tell {t : Tl} {w : World} {L : List (Nat × Value)} {k : Nat} {o : Oper} {rest : List Oper} {a : Act} (hT : T k = some t) (hg : o.guard = none)
    (h : ∀ w1, Ext w w1 → Knows ops (TA T w.heap.size) L k w1 → ∀ K : Value → World → Prop, (∀ v w', t.S v → t.A w1.heap.size v w' → Ext w1 w' → K v w') → Upon P K ((execOp a.eval o).run P w1))
    (hr : ∀ v, t.S v → WalkT P ops T w Fin ((k, v) :: L) (k + 1) rest (a.put o.dst v)) : WalkT P ops T w Fin L k (o :: rest) a := by
 refine Walk.toldF (by simp [TR, hT]) hg (by simp only [TS, hT]; exact t.wit) (fun w1 hI hL K hK => ?_) (fun v hv => hr v (by simpa only [TS, hT] using hv))
 refine h w1 hI hL K (fun v w' h1 h2 h3 => hK v w' (by simpa only [TS, hT] using h1) (by simp only [TA, hT]; exact ⟨h1, t.mono h2 hI.size⟩) (hI.trans (h3.mono hI.size)) h3 (by simp only [TB, hT]; exact t.bl h1 h2))

theorem Walk.tell0 {t : Tl} {w : World} {L : List (Nat × Value)} {k : Nat} {o : Oper} {rest : List Oper} {a : Act} (hT : T k = some t) (hBs : t.Bs = fun _ => []) (hg : o.guard = none)
    (h : ∀ w1, Ext w w1 → Knows ops (TA T w.heap.size) L k w1 → ∀ K : Value → World → Prop, (∀ v w', t.S v → t.A w.heap.size v w' → Ext w1 w' → K v w') → Upon P K ((execOp a.eval o).run P w1))
    (hr : ∀ v, t.S v → WalkT P ops T w Fin ((k, v) :: L) (k + 1) rest (a.put o.dst v)) : WalkT P ops T w Fin L k (o :: rest) a := by
 refine Walk.toldF (by simp [TR, hT]) hg (by simp only [TS, hT]; exact t.wit) (fun w1 hI hL K hK => ?_) (fun v hv => hr v (by simpa only [TS, hT] using hv))
 refine h w1 hI hL K (fun v w' h1 h2 h3 => hK v w' (by simpa only [TS, hT] using h1) (by simp only [TA, hT]; exact ⟨h1, h2⟩) (hI.trans (h3.mono hI.size)) h3 (by simp only [TB, hT, hBs]; intro b hb; cases hb))
theorem tellTold {q : Rat} {X : Fr} {B : Nat} {w1 : World} {K : Value → World → Prop} (hK : ∀ v w', (Tl.fe0 q 0).S v → (Tl.fe0 q 0).A B v w' → Ext w1 w' → K v w') (h : FR w1 X q) (o : OF B w1 X) :
    ∀ e w', Gv (.v (.tuple #[X.val, .int .i64 0])) w1 e w' → ∃ v, e = .returned v ∧ K v w' :=
 fun _ _ g => ⟨_, (Gv.v g).1, hK _ _ ⟨X, rfl⟩ (Tl.putFe0 (h.ext (Gv.v g).2) (o.ext (Gv.v g).2)) (Gv.v g).2⟩
theorem tell {t : Tl} {w1 : World} {K : Value → World → Prop} (hK : ∀ v w', t.S v → t.A w1.heap.size v w' → Ext w1 w' → K v w') : ∀ e w', Gv t w1 e w' → ∃ v, e = .returned v ∧ K v w' :=
 fun _ _ ⟨v, he, h1, h2, h3⟩ => ⟨v, he, hK v _ h1 h2 h3⟩
theorem tellB {t : TypeId} {c : Array Value} {w1 : World} {K : Value → World → Prop} (hK : ∀ v w', (Tl.box t c).S v → (Tl.box t c).A w1.heap.size v w' → Ext w1 w' → K v w') : K (.pointer (some ⟨w1.heap.size, 0, none⟩)) (w1.alloc (.cells c t)) :=
 hK _ _ ⟨_, rfl⟩ (fun g hg => by
  simp only [Value.pointer.injEq, Option.some.injEq, Addr.mk.injEq, and_true] at hg
  subst hg
  exact ⟨Cells.newAt _ _ rfl, Nat.le_refl _⟩) ((Below.refl _ _).alloc (Nat.le_refl _) _)

/-- What is known of a told one, in the middle. -/
theorem kn {k i : Nat} {v : Value} {t : Tl} {B : Nat} {L : List (Nat × Value)} {w1 : World} (hT : T i = some t) (hm : (i, v) ∈ L) (hp : pred ops k i = true) (h : Knows ops (TA T B) L k w1) : t.A B v w1 := by
 have := h (i, v) hm hp
 simp only [TA, hT] at this
 exact this.2
/-- .. and at the end. -/
theorem kz {i : Nat} {v : Value} {t : Tl} {B : Nat} {L : List (Nat × Value)} {w1 : World} (hT : T i = some t) (hm : (i, v) ∈ L) (h : ∀ p ∈ L, TA T B p.1 p.2 w1) : t.A B v w1 := by
 have := h (i, v) hm
 simp only [TA, hT] at this
 exact this.2
end

/-- A box of a call's own, written from cell k on. -/
def sets (w : World) (b : Nat) : Nat → List Value → World
 | _, [] => w
 | k, v :: r => sets (w.setCell ⟨b, k, none⟩ v) b (k + 1) r
def splice (c : Array Value) : Nat → List Value → Array Value
 | _, [] => c
 | k, v :: r => splice (c.setIfInBounds k v) (k + 1) r
theorem Cells.setOne {w : World} {b : Nat} {t : TypeId} {c : Array Value} (h : Cells w b t c) (k : Nat) (v : Value) : Cells (w.setCell ⟨b, k, none⟩ v) b t (c.setIfInBounds k v) := by
 unfold Cells
 simp only [World.setCell, Array.getElem?_modify]
 rw [if_pos trivial, show w.heap[b]? = _ from h]
 simp
theorem Cells.sets {b : Nat} {t : TypeId} : ∀ (l : List Value) {w : World} {c : Array Value} (_ : Cells w b t c) (k : Nat), Cells (sets w b k l) b t (splice c k l)
 | [], _, _, h, _ => h
 | v :: r, _, _, h, k => Cells.sets r (h.setOne k v) (k + 1)
theorem sets_keeps (b : Nat) : ∀ (l : List Value) (w : World) (k : Nat), Keeps (fun x => x = b) w (sets w b k l)
 | [], w, _ => Keeps.refl _ w
 | v :: r, w, k => (Keeps.setCell (M := fun x => x = b) (Keeps.refl _ w) (p := ⟨b, k, none⟩) rfl v).trans (sets_keeps b r _ (k + 1))
theorem Cells.off {w : World} {b b' : Nat} {t : TypeId} {c : Array Value} (h : Cells w b t c) (hb : b ≠ b') (k : Nat) (l : List Value) : Cells (Go.Proofs.YtndgaecfeaedeaaGreat.sets w b' k l) b t c := h.keeps (sets_keeps b' l w k) hb
/-- No limb lies in a box. -/
def NoU (c : Array Value) : Prop := ∀ v ∈ c.toList, ∀ i, v ≠ .int .u16 i
theorem U16.offU {w : World} {p : Option Addr} {n cap b : Nat} {l : List Nat} {t : TypeId} {c : Array Value} (h : U16 w p n cap l) (hC : Cells w b t c) (hv : NoU c) {j : Nat} (hj : j < n) : (at_ p j).block ≠ b := fun e => by
 have hc := h.cell j hj
 unfold World.cell? at hc
 rw [e, show w.heap[b]? = _ from hC] at hc
 simp only at hc
 split at hc
 ·cases hc
 ·rw [← Array.getElem?_toList] at hc
  exact hv _ (List.mem_of_getElem? hc) _ rfl
theorem WR.sets {w : World} {X : Wh} {z : Int} (h : WR w X z) {b : Nat} {t : TypeId} {c : Array Value} (hC : Cells w b t c) (hv : NoU c) (k : Nat) (l : List Value) : WR (Go.Proofs.YtndgaecfeaedeaaGreat.sets w b k l) X z :=
 WR.mk h.neg ((sets_keeps b l w k).u16 h.u16.2 fun _ hj => h.u16.2.offU hC hv hj)
theorem FR.sets {w : World} {X : Fr} {q : Rat} (h : FR w X q) {b : Nat} {t : TypeId} {c : Array Value} (hC : Cells w b t c) (hv : NoU c) (k : Nat) (l : List Value) : FR (Go.Proofs.YtndgaecfeaedeaaGreat.sets w b k l) X q := ⟨WR.sets h.1 hC hv k l, WR.sets h.2 hC hv k l⟩
theorem OW.sets {B : Nat} {w : World} {X : Wh} (h : OW B w X) {b : Nat} {t : TypeId} {c : Array Value} (hC : Cells w b t c) (ht : t ≠ 153) (k : Nat) (l : List Value) : OW B (Go.Proofs.YtndgaecfeaedeaaGreat.sets w b k l) X := Own.cells h hC ht (sets_keeps b l w k)
theorem OF.sets {B : Nat} {w : World} {X : Fr} (h : OF B w X) {b : Nat} {t : TypeId} {c : Array Value} (hC : Cells w b t c) (ht : t ≠ 153) (k : Nat) (l : List Value) : OF B (Go.Proofs.YtndgaecfeaedeaaGreat.sets w b k l) X := ⟨OW.sets h.1 hC ht k l, OW.sets h.2.1 hC ht k l, h.2.2⟩
theorem Ext.sets {w w' : World} (h : Ext w w') {b : Nat} (hb : w.heap.size ≤ b) (k : Nat) (l : List Value) : Ext w (Go.Proofs.YtndgaecfeaedeaaGreat.sets w' b k l) :=
 ((Keeps.of_ext (M := fun x => w.heap.size ≤ x) h).trans ((sets_keeps b l w' k).mono fun x _ hx => by omega)).ext fun _ h => h
theorem size_sets (b : Nat) : ∀ (l : List Value) (w : World) (k : Nat), (sets w b k l).heap.size = w.heap.size
 | [], _, _ => rfl
 | v :: r, w, k => by rw [sets, size_sets b r]; simp
theorem ea (w : World) (o : Obj) : Ext w (w.alloc o) := (Below.refl _ _).alloc (Nat.le_refl _) _
theorem eg {w w1 w2 : World} (h : Ext w w1) (k : Ext w1 w2) : Ext w w2 := h.trans (k.mono h.size)
theorem mkFR {w : World} {X Y : Wh} {q : Rat} (h : WR w X q.num) (k : WR w Y q.den) : FR w ⟨X, Y⟩ q := ⟨h, k⟩
theorem mkOF {B : Nat} {w : World} {X Y : Wh} (h : OW B w X) (k : OW B w Y) (a : ApF ⟨X, Y⟩) : OF B w ⟨X, Y⟩ := ⟨h, k, a⟩
/-- The number 0, as Go lays it out. -/
abbrev zeroWh : Wh := ⟨false, none, 0, 0⟩
theorem zeroWh_R (w : World) : WR w zeroWh 0 := WR.mk (by simp) ⟨by simp [limbs_zero], Nat.le_refl _, by simp, by unfold Has; exact .inl rfl, by simp only [Int.natAbs_zero, limbs_zero]; exact Lim.nil, fun j hj => absurd hj (Nat.not_lt_zero _)⟩
theorem zeroWh_O (B : Nat) (w : World) : OW B w zeroWh := .inl rfl
/-- Both parts, as numbers. -/
def PR (w : World) (X : Fr) (a d : Int) : Prop := WR w X.N a ∧ WR w X.D d
theorem PR.ext {w w' : World} {X : Fr} {a d : Int} (h : PR w X a d) (e : Ext w w') : PR w' X a d := ⟨h.1.ext e, h.2.ext e⟩
theorem PR.sets {w : World} {X : Fr} {a d : Int} (h : PR w X a d) {b : Nat} {t : TypeId} {c : Array Value} (hC : Cells w b t c) (hv : NoU c) (k : Nat) (l : List Value) : PR (Go.Proofs.YtndgaecfeaedeaaGreat.sets w b k l) X a d := ⟨WR.sets h.1 hC hv k l, WR.sets h.2 hC hv k l⟩
theorem FR.pr {w : World} {X : Fr} {q : Rat} (h : FR w X q) : PR w X q.num q.den := h
theorem Apt.of {X Y : Wh} (h : ∀ b ∈ Bl X.val, b ∉ Bl Y.val) : Apt X Y := h
theorem Apt.seq {B : Nat} {w w' : World} {X Y : Wh} (h : OW B w X) (k : OW w.heap.size w' Y) : Apt X Y := fun b h1 h2 => by have := (h.bl b h1).2; have := (k.bl b h2).1; omega
theorem Apt.swap {X Y : Wh} (h : Apt X Y) : Apt Y X := fun b h1 h2 => h b h2 h1
theorem Apt.zero (X : Wh) : Apt zeroWh X := fun b h1 _ => by simp [Bl, Bl1] at h1
/-- Limbs, whatever they are. -/
def UW (w : World) (X : Wh) (l : List Nat) : Prop := U16 w X.p X.n X.c l
def UF (w : World) (X : Fr) (l m : List Nat) : Prop := UW w X.N l ∧ UW w X.D m
theorem UW.ext {w w' : World} {X : Wh} {l : List Nat} (h : UW w X l) (e : Ext w w') : UW w' X l := U16.ext h e
theorem UF.ext {w w' : World} {X : Fr} {l m : List Nat} (h : UF w X l m) (e : Ext w w') : UF w' X l m := ⟨h.1.ext e, h.2.ext e⟩
theorem UW.sets {w : World} {X : Wh} {u : List Nat} (h : UW w X u) {b : Nat} {t : TypeId} {c : Array Value} (hC : Cells w b t c) (hv : NoU c) (k : Nat) (l : List Value) : UW (Go.Proofs.YtndgaecfeaedeaaGreat.sets w b k l) X u :=
 (sets_keeps b l w k).u16 h fun _ hj => U16.offU h hC hv hj
theorem UF.sets {w : World} {X : Fr} {u m : List Nat} (h : UF w X u m) {b : Nat} {t : TypeId} {c : Array Value} (hC : Cells w b t c) (hv : NoU c) (k : Nat) (l : List Value) : UF (Go.Proofs.YtndgaecfeaedeaaGreat.sets w b k l) X u m := ⟨UW.sets h.1 hC hv k l, UW.sets h.2 hC hv k l⟩
end Go.Proofs.YtndgaecfeaedeaaGreat
namespace Go.Proofs.YtndgaecfeaedeaaGreat
open Go.RowKit Lex Mth

/-- What a kind tells stays when a box is written. -/
def Tl.St (t : Tl) : Prop := ∀ {B v w b ty c}, t.A B v w → Cells w b ty c → NoU c → ty ≠ 153 → ∀ k l, NoU l.toArray → t.A B v (sets w b k l)
theorem st_v (x : Value) : (Tl.v x).St := fun _ _ _ _ _ _ _ => trivial
theorem st_w (z : Int) : (Tl.w z).St := fun h hC hn ht k l _ X hX => ⟨WR.sets (h X hX).1 hC hn k l, OW.sets (h X hX).2 hC ht k l⟩
theorem st_we (z n : Int) : (Tl.we z n).St := fun h hC hn ht k l _ X hX => ⟨WR.sets (h X hX).1 hC hn k l, OW.sets (h X hX).2 hC ht k l⟩
theorem st_f (q : Rat) : (Tl.f q).St := fun h hC hn ht k l _ X hX => ⟨FR.sets (h X hX).1 hC hn k l, OF.sets (h X hX).2 hC ht k l⟩
theorem st_fe (q : Rat) (n : Int) : (Tl.fe q n).St := fun h hC hn ht k l _ X hX => ⟨FR.sets (h X hX).1 hC hn k l, OF.sets (h X hX).2 hC ht k l⟩
theorem st_f0 (q : Rat) : (Tl.f0 q).St := fun h hC hn _ k l _ X hX => FR.sets (h X hX) hC hn k l
theorem st_w0 (q : Int) : (Tl.w0 q).St := fun h hC hn _ k l _ X hX => WR.sets (h X hX) hC hn k l

/-- A new box, whatever it holds. -/
def Tl.boxS (t : TypeId) (n : Nat) : Tl where
 S v := ∃ g, v = .pointer (some ⟨g, 0, none⟩)
 Bs := Bl
 A B v w := ∀ g, v = .pointer (some ⟨g, 0, none⟩) → (∃ c, Cells w g t c ∧ c.size = n ∧ NoU c) ∧ B ≤ g
 wit := ⟨_, 0, rfl⟩
 ext h e X hX := ⟨let ⟨c, h1, h2⟩ := (h X hX).1; ⟨c, h1.ext e, h2⟩, (h X hX).2⟩
 mono h e X hX := ⟨(h X hX).1, Nat.le_trans e (h X hX).2⟩
 bl := by
  rintro B _ w ⟨g, rfl⟩ h b hb
  obtain ⟨⟨c, h1, _⟩, h2⟩ := h g rfl
  simp [Bl, Bl1] at hb
  subst hb
  exact ⟨h2, h1.lt⟩
theorem Tl.getBS {t : TypeId} {n : Nat} {B : Nat} {w : World} {g : Nat} (h : (Tl.boxS t n).A B (.pointer (some ⟨g, 0, none⟩)) w) : (∃ c, Cells w g t c ∧ c.size = n ∧ NoU c) ∧ B ≤ g := h g rfl
theorem tellBS {t : TypeId} {n : Nat} {c : Array Value} {w1 : World} {K : Value → World → Prop} (hn : c.size = n) (hu : NoU c) (hK : ∀ v w', (Tl.boxS t n).S v → (Tl.boxS t n).A w1.heap.size v w' → Ext w1 w' → K v w') : K (.pointer (some ⟨w1.heap.size, 0, none⟩)) (w1.alloc (.cells c t)) :=
 hK _ _ ⟨_, rfl⟩ (fun g hg => by
  simp only [Value.pointer.injEq, Option.some.injEq, Addr.mk.injEq, and_true] at hg
  subst hg
  exact ⟨⟨c, Cells.newAt _ _ rfl, hn, hu⟩, Nat.le_refl _⟩) ((Below.refl _ _).alloc (Nat.le_refl _) _)

theorem splice_size : ∀ (l : List Value) (c : Array Value) (k : Nat), (splice c k l).size = c.size
 | [], _, _ => rfl
 | v :: r, c, k => by rw [splice, splice_size r]; simp
theorem NoU.splice : ∀ (l : List Value) {c : Array Value} (k : Nat), NoU c → NoU l.toArray → NoU (Go.Proofs.YtndgaecfeaedeaaGreat.splice c k l)
 | [], _, _, h, _ => h
 | v :: r, c, k, h, hl => by
  refine NoU.splice r (k + 1) ?_ (fun x hx => hl x (by simpa using List.mem_cons_of_mem _ (by simpa using hx)))
  intro x hx i e
  rw [Array.toList_setIfInBounds] at hx
  rcases List.mem_or_eq_of_mem_set hx with h' | h'
  ·exact h x h' i e
  ·exact hl v (by simp) i (h' ▸ e)
theorem st_bs (t : TypeId) (n : Nat) : (Tl.boxS t n).St := fun {B v w b ty c} h hC hn _ k l hl g hg => by
 obtain ⟨⟨c0, h1, h2, h3⟩, h4⟩ := h g hg
 by_cases e : g = b
 ·subst e
  have e2 : t = ty ∧ c0 = c := by
   have := h1.symm.trans (show w.heap[g]? = _ from hC)
   simp only [Option.some.injEq, Obj.cells.injEq, and_true] at this
   exact ⟨this.2, this.1⟩
  obtain ⟨rfl, rfl⟩ := e2
  exact ⟨⟨_, Cells.sets l h1 k, by rw [splice_size, h2], NoU.splice l k h3 hl⟩, h4⟩
 ·exact ⟨⟨c0, Cells.off h1 e k l, h2, h3⟩, h4⟩
section
variable {P : Program} {ops : Array Oper}

/-- The leaves of a pair's first part. -/
def lvT (v : Value) : List Value := match v with
 | .tuple vs => match vs.toList with
  | .agg cs :: _ => cs.toList
  | _ => []
 | _ => []
/-- The store ks fills the box of ka with what the call kc has given (its leaves: lv). -/
structure St1 where
 ks : Nat
 ka : Nat
 kc : Nat
 t : TypeId
 n : Nat
 lv : Value → List Value

def SR (s : St1) (T : Nat → Option Tl) (k : Nat) : Bool := (T k).isSome || k == s.ks
def SS (s : St1) (T : Nat → Option Tl) (k : Nat) (v : Value) : Prop := if k = s.ks then True else TS T k v
def SA (s : St1) (T : Nat → Option Tl) (B : Nat) (k : Nat) (v : Value) (w : World) : Prop :=
 if k = s.ks then ∀ g y, v = .tuple #[.pointer (some ⟨g, 0, none⟩), y] → Cells w g s.t (s.lv y).toArray ∧ B ≤ g else TA T B k v w ∧ ∀ b ∈ TB T k v, b < w.heap.size
def SC (s : St1) (T : Nat → Option Tl) (k : Nat) (u : Value) (w w' : World) : Prop :=
 if k = s.ks then ∃ g c l, Cells w g s.t c ∧ NoU c ∧ NoU l.toArray ∧ w' = sets w g 0 l else ChF (TB T) k u w w'
def SX (s : St1) (T : Nat → Option Tl) (i : Nat) (v : Value) (k : Nat) (u : Value) : Prop :=
 (i = s.ka → k = s.ks → ∃ y, u = .tuple #[v, y]) ∧ (i = s.kc → k = s.ks → ∃ x, u = .tuple #[x, v]) ∧ (i ≠ s.ks → k ≠ s.ks → XF (TB T) i v k u)
abbrev WalkS (s : St1) (P : Program) (ops : Array Oper) (T : Nat → Option Tl) (w : World) (Fin : Act → World → Prop) : List (Nat × Value) → Nat → List Oper → Act → Prop :=
 Walk P ops (SR s T) (SS s T) (SA s T w.heap.size) (Ext w) (SC s T) (SX s T) UE Fin

theorem regionS (s : St1) (N : Nat) (T : Nat → Option Tl) {id : Nat} {l : List Oper} {Q : Exit → Act → World → Prop} {a : Act} {w : World}
    (hm : P.follows .mixedOrders = true) (hB : headB l.toArray N a.tmps.size = true) (ht : s.t ≠ 153)
    (hT : ∀ k t, T k = some t → t.St) (hks : T s.ks = none) (hpa : pred l.toArray s.ks s.ka = true) (hpc : pred l.toArray s.ks s.kc = true)
    (hW : WalkS s P l.toArray T w (wpList P l.toArray Q (l.drop N)) [] 0 (l.take N) a) : (Code.region id l.toArray true).wp P Q a w := by
 refine region N (SR s T) (SS s T) (SA s T w.heap.size) (Ext w) (SC s T) (SX s T) UE hm hB ?_ ?_ (fun _ _ _ _ _ _ _ _ _ _ => trivial) (Below.refl _ _).drew (fun _ _ => trivial) hW
 ·intro i v k u w1 w2 hik _ _ h hc _
  unfold SA SC at *
  by_cases hi : i = s.ks
  ·rw [if_pos hi] at h ⊢
   rw [if_neg (fun e => hik (hi.trans e.symm))] at hc
   intro g y hg
   exact ⟨(h g y hg).1.ext hc.1, (h g y hg).2⟩
  ·rw [if_neg hi] at h ⊢
   by_cases hk : k = s.ks
   ·rw [if_pos hk] at hc
    obtain ⟨g, c, l', h1, h2, h3, rfl⟩ := hc
    refine ⟨?_, fun b hb => by rw [size_sets]; exact h.2 b hb⟩
    have h0 := h.1
    unfold TA at *
    split <;> rename_i hte <;> simp only [hte] at h0
    ·exact ⟨h0.1, hT _ _ hte h0.2 h1 h2 ht _ _ h3⟩
    ·trivial
   ·rw [if_neg hk] at hc
    refine ⟨?_, fun b hb => Nat.lt_of_lt_of_le (h.2 b hb) hc.1.size⟩
    have h0 := h.1
    unfold TA at *
    split <;> rename_i hte <;> simp only [hte] at h0
    ·exact ⟨h0.1, Tl.ext _ h0.2 hc.1⟩
    ·trivial
 ·intro i v k u w1 w2 hik _ _ p1 p2 h hc
  unfold SA SC at *
  refine ⟨⟨fun e1 e2 => ?_, fun e1 e2 => ?_, fun e1 e2 => ?_⟩, ⟨fun e1 e2 => ?_, fun e1 e2 => ?_, fun e1 e2 => ?_⟩⟩
  ·subst e1 e2; rw [hpa] at p1; cases p1
  ·subst e1 e2; rw [hpc] at p1; cases p1
  ·rw [if_neg e1] at h; rw [if_neg e2] at hc
   exact (xF (A := TA T w.heap.size) h hc).1
  ·subst e1 e2; rw [hpa] at p2; cases p2
  ·subst e1 e2; rw [hpc] at p2; cases p2
  ·rw [if_neg e2] at h; rw [if_neg e1] at hc
   exact (xF (A := TA T w.heap.size) h hc).2

variable {s : St1} {T : Nat → Option Tl} {Fin : Act → World → Prop} {w : World} {L : List (Nat × Value)} {k : Nat} {o : Oper} {rest : List Oper} {a : Act}

theorem Walk.tellS {t : Tl} (hT : T k = some t) (hk : (k == s.ks) = false) (hz : (∀ p ∈ L, p.1 ≠ s.ks) ∨ (k ≠ s.ka ∧ k ≠ s.kc)) (hg : o.guard = none)
    (h : ∀ w1, Ext w w1 → Knows ops (SA s T w.heap.size) L k w1 → ∀ K : Value → World → Prop, (∀ v w', t.S v → t.A w1.heap.size v w' → Ext w1 w' → K v w') → Upon P K ((execOp a.eval o).run P w1))
    (hr : ∀ v, t.S v → WalkS s P ops T w Fin ((k, v) :: L) (k + 1) rest (a.put o.dst v)) : WalkS s P ops T w Fin L k (o :: rest) a := by
 have hk' : k ≠ s.ks := by simpa using hk
 refine Walk.toldX (by simp [SR, hT]) hg (by simp only [SS, if_neg hk', TS, hT]; exact t.wit) (fun w1 hI _ hL => upon_eff (h w1 hI hL.1 _ (fun v w' h1 h2 h3 => ?_))) (fun v hv => hr v (by simpa only [SS, if_neg hk', TS, hT] using hv))
 have hb : ∀ b ∈ TB T k v, w1.heap.size ≤ b ∧ b < w'.heap.size := by simp only [TB, hT]; exact t.bl h1 h2
 have hc : ChF (TB T) k v w1 w' := ⟨h3, fun b h => (hb b h).1⟩
 refine ⟨by simpa only [SS, if_neg hk', TS, hT] using h1, ?_, hI.trans (h3.mono hI.size), by unfold SC; rw [if_neg hk']; exact hc, fun p hp hpr => ?_⟩
 ·unfold SA; rw [if_neg hk']
  exact ⟨by simp only [TA, hT]; exact ⟨h1, t.mono h2 hI.size⟩, fun b h => (hb b h).2⟩
 ·have hp' := hL.1 p hp hpr
  unfold SA at hp'
  refine ⟨⟨fun _ e => absurd e hk', fun _ e => absurd e hk', fun e1 _ => ?_⟩, ⟨fun e1 e2 => ?_, fun e1 e2 => ?_, fun _ e1 => ?_⟩⟩
  ·rw [if_neg e1] at hp'; exact (xF (A := TA T w.heap.size) hp' hc).1
  ·exact hz.elim (fun z => absurd e2 (z p hp)) (fun z => absurd e1 z.1)
  ·exact hz.elim (fun z => absurd e2 (z p hp)) (fun z => absurd e1 z.2)
  ·rw [if_neg e1] at hp'; exact (xF (A := TA T w.heap.size) hp' hc).2

/-- What is known of a told one. -/
theorem knS {i : Nat} {v : Value} {t : Tl} {B : Nat} {w1 : World} (hT : T i = some t) (hi : (i == s.ks) = false) (hm : (i, v) ∈ L) (hp : pred ops k i = true) (h : Knows ops (SA s T B) L k w1) : t.A B v w1 := by
 have := h (i, v) hm hp
 have hi' : i ≠ s.ks := by simpa using hi
 unfold SA at this
 rw [if_neg hi'] at this
 have h1 := this.1
 simp only [TA, hT] at h1
 exact h1.2
theorem kzS {i : Nat} {v : Value} {t : Tl} {B : Nat} {w1 : World} (hT : T i = some t) (hi : (i == s.ks) = false) (hm : (i, v) ∈ L) (h : ∀ p ∈ L, SA s T B p.1 p.2 w1) : t.A B v w1 := by
 have := h (i, v) hm
 have hi' : i ≠ s.ks := by simpa using hi
 unfold SA at this
 rw [if_neg hi'] at this
 have h1 := this.1
 simp only [TA, hT] at h1
 exact h1.2

theorem Walk.storeS {g : Nat} {vc : Value} (hk : k = s.ks) (hg : o.guard = none) (hd : o.dst = none)
    (hTa : T s.ka = some (.boxS s.t s.n)) (hka : (s.ka == s.ks) = false) (hma : (s.ka, .pointer (some ⟨g, 0, none⟩)) ∈ L) (hpa : pred ops s.ks s.ka = true)
    (hua : ∀ p ∈ L, p.1 = s.ka → p.2 = .pointer (some ⟨g, 0, none⟩)) (huc : ∀ p ∈ L, p.1 = s.kc → p.2 = vc) (hnk : ∀ p ∈ L, p.1 ≠ s.ks)
    (hsp : ∀ c : Array Value, c.size = s.n → splice c 0 (s.lv vc) = (s.lv vc).toArray) (hnu : NoU (s.lv vc).toArray)
    (h : ∀ w1 c, Ext w w1 → Cells w1 g s.t c → c.size = s.n → Knows ops (SA s T w.heap.size) L k w1 → ∀ K : World → Prop, K (sets w1 g 0 (s.lv vc)) → UponS K ((execOp a.eval o).run P w1))
    (hr : ∀ v, WalkS s P ops T w Fin ((k, v) :: L) (k + 1) rest (a.put o.dst v)) : WalkS s P ops T w Fin L k (o :: rest) a := by
 subst hk
 refine Walk.toldX (by simp [SR]) hg ⟨undef, by unfold SS; rw [if_pos rfl]; trivial⟩ (fun w1 hI _ hL => ?_) (fun v _ => hr v)
 obtain ⟨⟨c, hC, hn, hu⟩, hB⟩ := Tl.getBS (knS hTa hka hma hpa hL.1)
 refine eff_store (.tuple #[.pointer (some ⟨g, 0, none⟩), vc]) hd (h w1 c hI hC hn hL.1 _ ?_)
 refine ⟨by unfold SS; rw [if_pos rfl]; trivial, ?_, Ext.sets hI hB 0 _, ?_, fun p hp _ => ?_⟩
 ·unfold SA
  rw [if_pos rfl]
  intro g' y e
  simp only [Value.tuple.injEq, Array.mk.injEq, List.cons.injEq, Value.pointer.injEq, Option.some.injEq, Addr.mk.injEq, and_true] at e
  obtain ⟨rfl, rfl⟩ := e
  refine ⟨?_, hB⟩
  have := Cells.sets (s.lv vc) hC 0
  rwa [hsp c hn] at this
 ·unfold SC
  rw [if_pos rfl]
  exact ⟨g, c, _, hC, hu, hnu, rfl⟩
 ·have hpk := hnk p hp
  refine ⟨⟨fun e _ => ?_, fun e _ => ?_, fun _ e => absurd rfl e⟩, ⟨fun _ e => absurd e hpk, fun _ e => absurd e hpk, fun e _ => absurd rfl e⟩⟩
  ·rw [hua p hp e]; exact ⟨_, rfl⟩
  ·rw [huc p hp e]; exact ⟨_, rfl⟩

/-- The end: what is known of each told one, of the box, and how any two stand to each other. -/
theorem Walk.nilS {g : Nat} {vc : Value} (hma : (s.ka, .pointer (some ⟨g, 0, none⟩)) ∈ L) (hmc : (s.kc, vc) ∈ L) {vs : Value} (hms : (s.ks, vs) ∈ L) (ha : s.ka ≠ s.ks) (hc : s.kc ≠ s.ks)
    (h : ∀ w1, Ext w w1 → (∀ p ∈ L, SA s T w.heap.size p.1 p.2 w1) → Cells w1 g s.t (s.lv vc).toArray ∧ w.heap.size ≤ g → (∀ p ∈ L, ∀ q ∈ L, p.1 ≠ q.1 → p.1 ≠ s.ks → q.1 ≠ s.ks → ∀ b ∈ TB T p.1 p.2, b ∉ TB T q.1 q.2) → Fin a w1) : WalkS s P ops T w Fin L k [] a :=
 Walk.nilX fun w1 hI hL hX => h w1 hI hL (by
  obtain ⟨y, e1⟩ := (hX _ hma _ hms ha).1 rfl rfl
  obtain ⟨x, e2⟩ := (hX _ hmc _ hms hc).2.1 rfl rfl
  have := hL _ hms
  unfold SA at this
  rw [if_pos rfl] at this
  have e1' : vs = .tuple #[.pointer (some ⟨g, 0, none⟩), y] := e1
  have e2' : vs = .tuple #[x, vc] := e2
  rw [e1'] at e2'
  simp only [Value.tuple.injEq, Array.mk.injEq, List.cons.injEq, and_true] at e2'
  obtain ⟨_, rfl⟩ := e2'
  exact this g y e1') (fun p hp q hq hne hp' hq' => (hX p hp q hq hne).2.2 hp' hq')
end
/-! ### A list of operations, one by one -/
section
variable {P : Program} {ops : Array Oper} {Q : Exit → Act → World → Prop} {a : Act} {w : World} {o : Oper} {rest : List Oper}
theorem wpList_one {x : Value} (hg : Region.wanted o (yielded ops a.tmps) = true) (h : ∀ K : Value → World → Prop, K x w → UponV K ((execOp a.eval o).run P w)) (hr : wpList P ops Q rest (a.put o.dst x) w) : wpList P ops Q (o :: rest) a w := by
 unfold wpList
 rw [if_pos hg]
 left
 unfold Oper.wp
 rw [uponV_one h]
 exact hr
theorem wpList_tell {t : Tl} (hg : Region.wanted o (yielded ops a.tmps) = true)
    (h : ∀ K : Value → World → Prop, (∀ v w', t.S v → t.A w.heap.size v w' → Ext w w' → K v w') → Upon P K ((execOp a.eval o).run P w))
    (hr : ∀ v w', t.S v → t.A w.heap.size v w' → Ext w w' → wpList P ops Q rest (a.put o.dst v) w') : wpList P ops Q (o :: rest) a w := by
 unfold wpList
 rw [if_pos hg]
 left
 have := h (fun v w' => wpList P ops Q rest (a.put o.dst v) w') hr
 unfold Oper.wp
 generalize (execOp a.eval o).run P w = r at *
 cases r with
 | ok n w' =>
  cases n with
  | value v => exact this
  | enter f args =>
   refine Calls.mono (this : Calls P f args w' _) ?_
   rintro e w'' ⟨v, rfl, hv⟩
   exact hv
  | skip => exact this
  | _ => exact (this : False).elim
 | halt x w' => exact (this : False).elim
end
theorem splice4 (a b c d : Value) (x : Array Value) (h : x.size = 4) : splice x 0 [a, b, c, d] = #[a, b, c, d] := by
 obtain ⟨l⟩ := x
 match l, h with
 | [_, _, _, _], _ => rfl
theorem Cells.some {w : World} {b : Nat} {t : TypeId} {c : Array Value} (h : Cells w b t c) {k : Nat} (hk : k < c.size) : ∃ v, w.cell? ⟨b, k, none⟩ = Option.some v := ⟨c[k], h.cell (by simp [hk])⟩
end Go.Proofs.YtndgaecfeaedeaaGreat
namespace Go.Proofs.YtndgaecfeaedeaaGreat
open Go.RowKit Lex Mth

def Tl.fn (q : Rat) (n : Int) : Tl where
 S v := ∃ X : Fr, v = .tuple #[X.val, .int .i64 n]
 Bs _ := []
 A _ v w := ∀ X : Fr, v = .tuple #[X.val, .int .i64 n] → FR w X q
 wit := ⟨_, ⟨⟨false, none, 0, 0⟩, ⟨false, none, 0, 0⟩⟩, rfl⟩
 ext h e X hX := (h X hX).ext e
 mono h _ := h
 bl := by rintro B _ w _ h b hb; cases hb
theorem Tl.putFn {q : Rat} {n : Int} {B : Nat} {w : World} {X : Fr} (h : FR w X q) : (Tl.fn q n).A B (.tuple #[X.val, .int .i64 n]) w := by
 intro Y hY
 have : X.val = Y.val := by
  simp only [Value.tuple.injEq, Array.mk.injEq, List.cons.injEq, and_true] at hY
  exact hY
 obtain rfl := fr_inj this
 exact h
theorem st_fn (q : Rat) (n : Int) : (Tl.fn q n).St := fun h hC hn _ k l _ X hX => FR.sets (h X hX) hC hn k l
theorem Gv.fn {q : Rat} {n : Int} {w : World} {e : Ending} {w' : World} (h : Gv (.fn q n) w e w') : ∃ X : Fr, e = .returned (.tuple #[.agg #[.bool X.N.b, .slice X.N.p X.N.n X.N.c, .bool X.D.b, .slice X.D.p X.D.n X.D.c], .int .i64 n]) ∧ FR w' X q ∧ Ext w w' := by
 obtain ⟨v, rfl, ⟨X, rfl⟩, h2, h3⟩ := h; exact ⟨X, rfl, h2 X rfl, h3⟩
theorem Gv.of_fn {q : Rat} {n : Int} {X : Fr} {w w' : World} (h : FR w' X q) (e : Ext w w') : Gv (.fn q n) w (.returned (.tuple #[.agg #[.bool X.N.b, .slice X.N.p X.N.n X.N.c, .bool X.D.b, .slice X.D.p X.D.n X.D.c], .int .i64 n])) w' := ⟨_, rfl, ⟨X, rfl⟩, Tl.putFn h, e⟩
theorem Gv.fe_fn {q : Rat} {n : Int} {w : World} {e : Ending} {w' : World} (h : Gv (.fe q n) w e w') : Gv (.fn q n) w e w' := by
 obtain ⟨X, rfl, h1, _, h3⟩ := Gv.fe h; exact Gv.of_fn h1 h3
end Go.Proofs.YtndgaecfeaedeaaGreat
namespace Go.Proofs.YtndgaecfeaedeaaGreat
namespace Lex

/-- What comes before an operation, out of what comes before those ahead of it. -/
def maskOf (rs : List Nat) : List Edge → Nat
 | [] => 0
 | e :: l => if Region.binds .any e then (1 <<< e.on ||| rs.getD e.on 0) ||| maskOf rs l else maskOf rs l
def rowsM : List Nat → List Oper → List Nat
 | rs, [] => rs
 | rs, o :: l => rowsM (rs ++ [maskOf rs o.after.toList]) l
def predM (ops : Array Oper) (i j : Nat) : Bool := ((rowsM [] ops.toList).getD i 0).testBit j

theorem maskOf_bit {rs : List Nat} {j : Nat} : ∀ {l : List Edge}, (maskOf rs l).testBit j = true → ∃ e ∈ l, Region.binds .any e = true ∧ (e.on = j ∨ (rs.getD e.on 0).testBit j = true)
 | [], h => by simp [maskOf] at h
 | e :: l, h => by
  unfold maskOf at h
  split at h
  ·rename_i hb
   rw [Nat.testBit_or, Nat.testBit_or, Bool.or_eq_true, Bool.or_eq_true] at h
   rcases h with (h | h) | h
   ·rw [Nat.testBit_shiftLeft] at h
    simp only [Bool.and_eq_true, decide_eq_true_eq] at h
    have h2 := h.2
    rw [Nat.testBit_one_eq_true_iff_self_eq_zero] at h2
    exact ⟨e, List.mem_cons_self .., hb, .inl (by omega)⟩
   ·exact ⟨e, List.mem_cons_self .., hb, .inr h⟩
   ·obtain ⟨e', h1, h2⟩ := maskOf_bit h
    exact ⟨e', List.mem_cons_of_mem _ h1, h2⟩
  ·obtain ⟨e', h1, h2⟩ := maskOf_bit h
   exact ⟨e', List.mem_cons_of_mem _ h1, h2⟩

theorem predF_mono {ops : Array Oper} : ∀ {f g i j : Nat}, f ≤ g → predF ops f i j = true → predF ops g i j = true
 | 0, _, _, _, _, h => by simp [predF] at h
 | f + 1, 0, _, _, hg, _ => by omega
 | f + 1, g + 1, i, j, hg, h => by
  simp only [predF] at h ⊢
  split at h
  ·exact h
  ·rename_i o ho
   simp only [Array.any_eq_true', Bool.and_eq_true, Bool.or_eq_true] at h ⊢
   obtain ⟨e, he, hb, h⟩ := h
   exact ⟨e, he, hb, h.imp id (predF_mono (by omega))⟩

/-- The rows so far are sound. -/
def Sound (ops : Array Oper) (rs : List Nat) : Prop := ∀ i j, (rs.getD i 0).testBit j = true → predF ops (i + 1) i j = true
theorem rowsM_sound {ops : Array Oper} : ∀ (l : List Oper) (rs : List Nat), Sound ops rs → (∀ k, l[k]? = ops[rs.length + k]?) → Sound ops (rowsM rs l)
 | [], rs, h, _ => h
 | o :: l, rs, h, hl => by
  refine rowsM_sound l _ ?_ (fun k => ?_)
  ·intro i j hb
   rcases Nat.lt_trichotomy i rs.length with hi | hi | hi
   ·rw [List.getD_eq_getElem?_getD, List.getElem?_append_left hi, ← List.getD_eq_getElem?_getD] at hb
    exact h i j hb
   ·subst hi
    rw [List.getD_eq_getElem?_getD, List.getElem?_append_right (Nat.le_refl _)] at hb
    simp only [Nat.sub_self, List.getElem?_cons_zero, Option.getD_some] at hb
    obtain ⟨e, he, hbe, h2⟩ := maskOf_bit hb
    have ho : ops[rs.length]? = some o := by have := hl 0; simpa using this.symm
    simp only [predF, ho, Array.any_eq_true', Bool.and_eq_true, Bool.or_eq_true]
    refine ⟨e, by simpa using he, hbe, ?_⟩
    rcases h2 with h2 | h2
    ·exact .inl (beq_iff_eq.2 h2)
    ·right
     have hlt : e.on < rs.length := by
      apply Decidable.byContradiction
      intro hn
      rw [List.getD_eq_getElem?_getD, List.getElem?_eq_none (by omega)] at h2
      simp at h2
     exact predF_mono (by omega) (h e.on j h2)
   ·rw [List.getD_eq_getElem?_getD, List.getElem?_eq_none (by simp; omega)] at hb
    simp at hb
  ·have := hl (k + 1)
   simp only [List.getElem?_cons_succ] at this
   rw [this, List.length_append]
   congr 1
   simp; omega
theorem pred_of {ops : Array Oper} {i j : Nat} (h : predM ops i j = true) : pred ops i j = true := by
 have hs : Sound ops (rowsM [] ops.toList) := rowsM_sound _ _ (fun i j h => by simp at h) (fun k => by simp)
 have h1 := hs i j h
 by_cases hi : i < ops.size
 ·exact predF_mono (by omega) h1
 ·simp [predF, Array.getElem?_eq_none (show ops.size ≤ i by omega)] at h1

def looksM (ops : Array Oper) (N : Nat) : Bool :=
 (List.range N).all fun i => match ops[i]? with
  | none => false
  | some o =>
   (o.after.all fun e => !Region.binds .any e || decide (e.on < i)) &&
   (List.range N).all fun j => match (ops[j]?).bind (·.dst) with
    | none => true
    | some d => (j == i || (o.dst != some d)) && (!(o.looksAt ops).contains d || (decide (j < i) && predM ops i j))
theorem looks_of {ops : Array Oper} {N : Nat} (h : looksM ops N = true) : looksOk ops N = true := by
 unfold looksM at h
 unfold looksOk
 rw [List.all_eq_true] at h ⊢
 intro i hi
 have hx := h i hi
 cases ho : ops[i]? with
 | none => rw [ho] at hx; simp at hx
 | some o =>
  rw [ho] at hx
  simp only [Bool.and_eq_true] at hx ⊢
  refine ⟨hx.1, ?_⟩
  rw [List.all_eq_true]
  have h2 := List.all_eq_true.1 hx.2
  intro j hj
  have hy := h2 j hj
  cases hd : (ops[j]?).bind (·.dst) with
  | none => rfl
  | some d =>
   rw [hd] at hy
   simp only [Bool.and_eq_true, Bool.or_eq_true] at hy ⊢
   exact ⟨hy.1, hy.2.imp id fun h3 => ⟨h3.1, pred_of h3.2⟩⟩
def headM (ops : Array Oper) (N size : Nat) : Bool :=
 Region.noSelect ops && decide (N ≤ ops.size) && looksM ops N && dstsOk ops N size &&
 (decide (N = ops.size) || (decide (N < ops.size) && Region.sinkB .any ops N && Region.chainB .any ops N)) &&
 Region.seqB .any ops (ops.size - N) N (Array.replicate N true ++ Array.replicate (ops.size - N) false)
theorem head_of {ops : Array Oper} {N size : Nat} (h : headM ops N size = true) : headB ops N size = true := by
 unfold headM at h
 unfold headB
 simp only [Bool.and_eq_true] at h ⊢
 obtain ⟨⟨⟨⟨⟨h1, h2⟩, h3⟩, h4⟩, h5⟩, h6⟩ := h
 exact ⟨⟨⟨⟨⟨h1, h2⟩, looks_of h3⟩, h4⟩, h5⟩, h6⟩
end Lex
end Go.Proofs.YtndgaecfeaedeaaGreat
namespace Go.Proofs.YtndgaecfeaedeaaGreat
open Go.RowKit Lex Mth

def erO : Option Rat → Int
 | some _ => 0
 | none => 2
/-- A fraction if the arguments are right. -/
def oL (b : Bool) (q : Rat) : Option Rat := if b then some q else none
def RO (w : World) (X : Fr) : Option Rat → Prop
 | some q => FR w X q
 | none => X = ⟨zeroWh, zeroWh⟩
theorem RO.ext {w w' : World} {X : Fr} : ∀ {o : Option Rat}, RO w X o → Ext w w' → RO w' X o
 | some _, h, e => FR.ext h e
 | none, h, _ => h
theorem RO.sets {w : World} {X : Fr} : ∀ {o : Option Rat}, RO w X o → ∀ {b : Nat} {t : TypeId} {c : Array Value} (_ : Cells w b t c) (_ : NoU c) (k : Nat) (l : List Value), RO (Go.Proofs.YtndgaecfeaedeaaGreat.sets w b k l) X o
 | some _, h, _, _, _, hC, hv, k, l => FR.sets h hC hv k l
 | none, h, _, _, _, _, _, _, _ => h
/-- As numbers: the same option gives the same parts. -/
theorem RO.pr {w : World} {X : Fr} : ∀ {o : Option Rat}, RO w X o → PR w X (match o with | some q => q.num | none => 0) (match o with | some q => q.den | none => 0)
 | some _, h => h
 | none, h => by rw [h]; exact ⟨zeroWh_R _, zeroWh_R _⟩
def Tl.ro (o : Option Rat) : Tl where
 S v := ∃ X : Fr, v = .tuple #[X.val, .int .i64 (erO o)]
 Bs _ := []
 A _ v w := ∀ X : Fr, v = .tuple #[X.val, .int .i64 (erO o)] → RO w X o
 wit := ⟨_, ⟨⟨false, none, 0, 0⟩, ⟨false, none, 0, 0⟩⟩, rfl⟩
 ext h e X hX := (h X hX).ext e
 mono h _ := h
 bl := by rintro B _ w _ h b hb; cases hb
theorem Tl.putRo {o : Option Rat} {B : Nat} {w : World} {X : Fr} (h : RO w X o) : (Tl.ro o).A B (.tuple #[X.val, .int .i64 (erO o)]) w := by
 intro Y hY
 have : X.val = Y.val := by
  simp only [Value.tuple.injEq, Array.mk.injEq, List.cons.injEq, and_true] at hY
  exact hY
 obtain rfl := fr_inj this
 exact h
theorem Gv.ro {o : Option Rat} {w : World} {e : Ending} {w' : World} (h : Gv (.ro o) w e w') : ∃ X : Fr, e = .returned (.tuple #[.agg #[.bool X.N.b, .slice X.N.p X.N.n X.N.c, .bool X.D.b, .slice X.D.p X.D.n X.D.c], .int .i64 (erO o)]) ∧ RO w' X o ∧ Ext w w' := by
 obtain ⟨v, rfl, ⟨X, rfl⟩, h2, h3⟩ := h; exact ⟨X, rfl, h2 X rfl, h3⟩
theorem Gv.of_ro {o : Option Rat} {X : Fr} {w w' : World} (h : RO w' X o) (e : Ext w w') : Gv (.ro o) w (.returned (.tuple #[.agg #[.bool X.N.b, .slice X.N.p X.N.n X.N.c, .bool X.D.b, .slice X.D.p X.D.n X.D.c], .int .i64 (erO o)])) w' := ⟨_, rfl, ⟨X, rfl⟩, Tl.putRo h, e⟩
theorem Gv.fn_ro {b : Bool} {q : Rat} {w : World} {e : Ending} {w' : World} (h : Gv (.fn q 0) w e w') (hb : b = true) : Gv (.ro (oL b q)) w e w' := by
 subst hb
 obtain ⟨X, rfl, h1, h3⟩ := Gv.fn h
 exact Gv.of_ro (o := some q) (X := X) h1 h3
theorem Gv.v_ro {b : Bool} {q : Rat} {w : World} {e : Ending} {w' : World} (h : Gv (.v (.tuple #[.agg #[.bool false, .slice none 0 0, .bool false, .slice none 0 0], .int .i64 2])) w e w') (hb : b = false) : Gv (.ro (oL b q)) w e w' := by
 subst hb
 obtain ⟨rfl, h3⟩ := Gv.v h
 exact Gv.of_ro (o := none) (X := ⟨zeroWh, zeroWh⟩) rfl h3
theorem st_ro (o : Option Rat) : (Tl.ro o).St := fun h hC hn _ k l _ X hX => RO.sets (h X hX) hC hn k l
end Go.Proofs.YtndgaecfeaedeaaGreat
