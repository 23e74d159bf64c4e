/- Words for what memory holds: slices of limbs, whole numbers, fractions; what was there stays. No condition: laws on the model's worlds. Worlds that differ in named blocks alone; a range over an iterator that hands on what memory holds. No condition: laws on the calculus of walks. Walks of the functions of package whole on absolute values, the plain ones. Walks of package whole: limbs from the top on, and the order of absolute values. -/
import Derived.WalkLawsBesides
import Derived.WalkSpells
import Derived.Lib.Hide
import Derived.RangeFuncNested
import Derived.RangeFuncBound
import Derived.RangeFuncCalls
import Derived.RangeFuncLeaves
import Derived.Shelf.Abstract
import Derived.Shelf.RegionOpen
import Derived.OwnWalkIn
import Derived.TacticsInMore
import Derived.LoopNIn
import Derived.LoopIn
import Derived.Test.YtndgaecfeaedeaaGreatProg
import Derived.Test.YtndgaecfeaedeaaGreatG1
import Derived.Test.YtndgaecfeaedeaaGreatG2
set_option linter.unusedSimpArgs false
set_option linter.unusedVariables false
namespace Go.Proofs.YtndgaecfeaedeaaGreat
open Go.RowKit Lex Mth

/-- Limb number k. -/
def dig (l : List Nat) (k : Nat) : Nat := l.getD k 0
/-- Where number k of a slice of one-cell elements lies. -/
def at_ (p : Option Addr) (k : Nat) : Addr := (p.getD default).add k
/-- A slice that is not empty has an address. -/
def Has (p : Option Addr) (n : Nat) : Prop := n = 0 ∨ p.isSome = true

theorem at_some (b o k : Nat) : at_ (some ⟨b, o, none⟩) k = ⟨b, o + k, none⟩ := by
 unfold at_ Addr.add
 by_cases h : k = 0 <;> simp [h]
theorem at_zero (g k : Nat) : at_ (some ⟨g, 0, none⟩) k = ⟨g, k, none⟩ := by rw [at_some, Nat.zero_add]
theorem Has.some (a : Addr) (n : Nat) : Has (some a) n := .inr rfl

section
variable {P : Program} (w : World)
theorem run_indexAt_at (t : TypeId) (p : Option Addr) (len cap : Nat) (k : IntKind) (i : Int) (h : P.underlying t = some (.slice (P.elem t))) (hp : Has p len) :
    (Instr.indexAt t (.slice p len cap) (.int k i)).run P w =
     if 0 ≤ i ∧ i < len then ((sizeOf (P.elem t)).run P w).andThen fun s w => .ok (.pointer (some (at_ p (i.toNat * s)))) w
     else (boundsPanic k i len .index).run P w := by
 cases p with
 | some a => rw [run_indexAt_slice w t a len cap k i h]; rfl
 | none =>
  rcases hp with rfl | hp
  ·simp [Instr.indexAt, run_underlying h, asIntOf]
   intro h1 h2
   exact absurd h2 (by omega)
  ·cases hp
end
theorem add_zero_map (p : Option Addr) : p.map (fun a => a.add 0) = p := by cases p <;> simp [Addr.add]

attribute [irreducible] at_ Has

theorem or_nat (r x : Nat) (h : x < 65536) : r * 65536 ||| x = r * 65536 + x := by
 have := Nat.shiftLeft_add_eq_or_of_lt (i := 16) (b := x) (by simpa using h) r
 rw [Nat.shiftLeft_eq] at this
 exact this.symm
theorem bits_or_nat (a b : Nat) (ha : a < 4294967296) (hb : b < 4294967296) (hab : a ||| b < 4294967296) : bits .or .u32 (a : Int) (b : Int) = ((a ||| b : Nat) : Int) := by
 have e : (BitVec.ofInt 32 (a : Int) ||| BitVec.ofInt 32 (b : Int)).toNat = a ||| b := by
  rw [BitVec.ofInt_natCast, BitVec.ofInt_natCast, BitVec.toNat_or, BitVec.toNat_ofNat, BitVec.toNat_ofNat, Nat.mod_eq_of_lt (by simpa using ha), Nat.mod_eq_of_lt (by simpa using hb)]
 show IntKind.u32.wrap ((BitVec.ofInt 32 (a : Int) ||| BitVec.ofInt 32 (b : Int)).toNat : Int) = _
 rw [e]
 simp only [IntKind.wrap, IntKind.bits, IntKind.signed]
 generalize a ||| b = c at *
 simp
 omega
theorem or_low (r x : Nat) (h : x < 65536) (hr : r < 65536) : bits .or .u32 ((r : Int) * 65536) (x : Int) = ((r * 65536 + x : Nat) : Int) := by
 rw [← or_nat r x h]
 exact bits_or_nat (r * 65536) x (by omega) (by omega) (by rw [or_nat r x h]; omega)

/-- A slice of uint16, n long, reads as the list l. -/
structure U16 (w : World) (p : Option Addr) (n cap : Nat) (l : List Nat) : Prop where
 len : l.length = n
 le : n ≤ cap
 reach : n ≤ 70368744177664
 has : Has p n
 lim : Lim l
 cell : ∀ j, j < n → w.cell? (at_ p j) = some (.int .u16 (dig l j : Nat))

theorem U16.ext {w w' : World} {p : Option Addr} {n cap : Nat} {l : List Nat} (h : U16 w p n cap l) (e : Ext w w') : U16 w' p n cap l :=
 ⟨h.len, h.le, h.reach, h.has, h.lim, fun j hj => (e.cell (World.block_lt_of_cell? w _ (h.cell j hj))).trans (h.cell j hj)⟩
theorem U16.reachN {w : World} {p : Option Addr} {n cap : Nat} {l : List Nat} (h : U16 w p n cap l) : n ≤ 70368744177664 := h.reach
theorem U16.lt {w : World} {p : Option Addr} {n cap : Nat} {l : List Nat} (h : U16 w p n cap l) (j : Nat) : dig l j < 65536 := h.lim.getD j
theorem U16.block {w : World} {p : Option Addr} {n cap : Nat} {l : List Nat} (h : U16 w p n cap l) {j : Nat} (hj : j < n) : (at_ p j).block < w.heap.size := World.block_lt_of_cell? w _ (h.cell j hj)

theorem U16.take {w : World} {p : Option Addr} {n cap : Nat} {l : List Nat} (h : U16 w p n cap l) {k : Nat} (hk : k ≤ n) : U16 w p k cap (l.take k) := by
 refine ⟨by simp [h.len]; omega, by have := h.le; omega, by have := h.reach; omega, ?_, h.lim.take k, fun j hj => ?_⟩
 ·have := h.has
  unfold Has at *
  exact this.imp (fun e => by omega) id
 ·rw [h.cell j (by omega)]
  simp [dig, List.getD_eq_getElem?_getD, hj]
/-- Without the idle limbs at the end it reads as the limbs of the number. -/
theorem U16.trim {w : World} {p : Option Addr} {n cap : Nat} {l : List Nat} (h : U16 w p n cap l) : U16 w p (siz (val l)) cap (limbs (val l)) := by
 rw [← trim_take h.lim]
 exact h.take (by have := limbs_siz_le h.lim; rw [h.len] at this; exact this)

/-- The slice's room lies in a block of its own, from B on; or there is none. -/
def Own (B : Nat) (w : World) (p : Option Addr) (cap : Nat) : Prop :=
 cap = 0 ∨ ∃ g cur, p = some ⟨g, 0, none⟩ ∧ B ≤ g ∧ w.heap[g]? = some (.cells cur 153 (0, 0)) ∧ cap ≤ cur.size
theorem Own.ext {B : Nat} {w w' : World} {p : Option Addr} {cap : Nat} (h : Own B w p cap) (e : Ext w w') : Own B w' p cap := by
 rcases h with h | ⟨g, cur, h1, h2, h3, h4⟩
 ·exact .inl h
 ·exact .inr ⟨g, cur, h1, h2, (e.block g (Array.getElem?_eq_some_iff.1 h3).1).trans h3, h4⟩
theorem Own.mono {B B' : Nat} {w : World} {p : Option Addr} {cap : Nat} (h : Own B w p cap) (hB : B' ≤ B) : Own B' w p cap := by
 rcases h with h | ⟨g, cur, h1, h2, h3⟩
 ·exact .inl h
 ·exact .inr ⟨g, cur, h1, by omega, h3⟩

/-- A whole number, as its sign and its limbs, whatever they are. -/
def RawW (w : World) (v : Value) (neg : Bool) (l : List Nat) : Prop := ∃ p n cap, v = .agg #[.bool neg, .slice p n cap] ∧ U16 w p n cap l
/-- A whole number in normal form. -/
def RW (w : World) (v : Value) (z : Int) : Prop := RawW w v (decide (z < 0)) (limbs z.natAbs)
/-- .. whose room is its own, from block B on. -/
def OwnW (B : Nat) (w : World) (v : Value) : Prop := ∃ b p n cap, v = .agg #[b, .slice p n cap] ∧ Own B w p cap
def ShW (v : Value) : Prop := ∃ neg p n cap, v = .agg #[.bool neg, .slice p n cap]

theorem RawW.ext {w w' : World} {v : Value} {neg : Bool} {l : List Nat} (h : RawW w v neg l) (e : Ext w w') : RawW w' v neg l := by
 obtain ⟨p, n, cap, rfl, hu⟩ := h; exact ⟨p, n, cap, rfl, hu.ext e⟩
theorem RW.ext {w w' : World} {v : Value} {z : Int} (h : RW w v z) (e : Ext w w') : RW w' v z := RawW.ext h e
theorem OwnW.ext {B : Nat} {w w' : World} {v : Value} (h : OwnW B w v) (e : Ext w w') : OwnW B w' v := by
 obtain ⟨b, p, n, cap, rfl, hu⟩ := h; exact ⟨b, p, n, cap, rfl, hu.ext e⟩
theorem OwnW.mono {B B' : Nat} {w : World} {v : Value} (h : OwnW B w v) (hB : B' ≤ B) : OwnW B' w v := by
 obtain ⟨b, p, n, cap, rfl, hu⟩ := h; exact ⟨b, p, n, cap, rfl, hu.mono hB⟩
/-- A whole number whose cells are at hand. -/
theorem RawW.u16 {w : World} {neg neg' : Bool} {p : Option Addr} {n cap : Nat} {l : List Nat} (h : RawW w (.agg #[.bool neg, .slice p n cap]) neg' l) : neg = neg' ∧ U16 w p n cap l := by
 obtain ⟨p', n', cap', he, hu⟩ := h
 simp only [Value.agg.injEq, Array.mk.injEq, List.cons.injEq, Value.bool.injEq, Value.slice.injEq, and_true] at he
 obtain ⟨rfl, rfl, rfl, rfl⟩ := he
 exact ⟨rfl, hu⟩
theorem RawW.mk {w : World} {neg : Bool} {p : Option Addr} {n cap : Nat} {l : List Nat} (h : U16 w p n cap l) : RawW w (.agg #[.bool neg, .slice p n cap]) neg l := ⟨p, n, cap, rfl, h⟩
theorem RW.mk {w : World} {neg : Bool} {p : Option Addr} {n cap : Nat} {z : Int} (h : U16 w p n cap (limbs z.natAbs)) (hn : neg = decide (z < 0)) : RW w (.agg #[.bool neg, .slice p n cap]) z := by
 subst hn; exact RawW.mk h

/-- A fraction, as its four parts. -/
def RF (w : World) (v : Value) (q : Rat) : Prop :=
 ∃ n1 p1 l1 c1 n2 p2 l2 c2, v = .agg #[.bool n1, .slice p1 l1 c1, .bool n2, .slice p2 l2 c2] ∧ RW w (.agg #[.bool n1, .slice p1 l1 c1]) q.num ∧ RW w (.agg #[.bool n2, .slice p2 l2 c2]) q.den
def RawF (w : World) (v : Value) (n : Bool) (l : List Nat) (n' : Bool) (l' : List Nat) : Prop :=
 ∃ p1 l1 c1 p2 l2 c2, v = .agg #[.bool n, .slice p1 l1 c1, .bool n', .slice p2 l2 c2] ∧ U16 w p1 l1 c1 l ∧ U16 w p2 l2 c2 l'
def ShF (v : Value) : Prop := ∃ n1 p1 l1 c1 n2 p2 l2 c2, v = .agg #[.bool n1, .slice p1 l1 c1, .bool n2, .slice p2 l2 c2]
def OwnF (B : Nat) (w : World) (v : Value) : Prop := ∃ n1 p1 l1 c1 n2 p2 l2 c2, v = .agg #[n1, .slice p1 l1 c1, n2, .slice p2 l2 c2] ∧ Own B w p1 c1 ∧ Own B w p2 c2 ∧ (c1 = 0 ∨ c2 = 0 ∨ (p1.map (·.block)) ≠ (p2.map (·.block)))
theorem RF.ext {w w' : World} {v : Value} {q : Rat} (h : RF w v q) (e : Ext w w') : RF w' v q := by
 obtain ⟨n1, p1, l1, c1, n2, p2, l2, c2, rfl, h1, h2⟩ := h; exact ⟨n1, p1, l1, c1, n2, p2, l2, c2, rfl, h1.ext e, h2.ext e⟩
theorem RawF.ext {w w' : World} {v : Value} {n n' : Bool} {l l' : List Nat} (h : RawF w v n l n' l') (e : Ext w w') : RawF w' v n l n' l' := by
 obtain ⟨p1, l1, c1, p2, l2, c2, rfl, h1, h2⟩ := h; exact ⟨p1, l1, c1, p2, l2, c2, rfl, h1.ext e, h2.ext e⟩
theorem OwnF.ext {B : Nat} {w w' : World} {v : Value} (h : OwnF B w v) (e : Ext w w') : OwnF B w' v := by
 obtain ⟨n1, p1, l1, c1, n2, p2, l2, c2, rfl, h1, h2, h3⟩ := h; exact ⟨n1, p1, l1, c1, n2, p2, l2, c2, rfl, h1.ext e, h2.ext e, h3⟩
theorem OwnF.mono {B B' : Nat} {w : World} {v : Value} (h : OwnF B w v) (hB : B' ≤ B) : OwnF B' w v := by
 obtain ⟨n1, p1, l1, c1, n2, p2, l2, c2, rfl, h1, h2, h3⟩ := h; exact ⟨n1, p1, l1, c1, n2, p2, l2, c2, rfl, h1.mono hB, h2.mono hB, h3⟩
/-- A row of uint16 that the call itself has made. -/
def Row (w : World) (g : Nat) (l : List Nat) : Prop := w.heap[g]? = some (.cells (l.map (fun x => Value.int .u16 (x : Nat))).toArray 153 (0, 0))
theorem Row.lt {w : World} {g : Nat} {l : List Nat} (h : Row w g l) : g < w.heap.size := (Array.getElem?_eq_some_iff.1 h).1
theorem Row.cell {w : World} {g : Nat} {l : List Nat} (h : Row w g l) {j : Nat} (hj : j < l.length) : w.cell? ⟨g, j, none⟩ = some (.int .u16 (dig l j : Nat)) := by
 simp only [World.cell?, show w.heap[g]? = _ from h]
 simp [dig, List.getD_eq_getElem?_getD, hj]
theorem Row.free {w : World} {g : Nat} {l : List Nat} (h : Row w g l) (j : Nat) : w.frozen? ⟨g, j, none⟩ = false := by
 simp [World.frozen?, show w.heap[g]? = _ from h]
theorem Row.set {w : World} {g : Nat} {l : List Nat} (h : Row w g l) (j x : Nat) : Row (w.setCell ⟨g, j, none⟩ (.int .u16 (x : Nat))) g (l.set j x) := by
 unfold Row
 simp only [World.setCell, Array.getElem?_modify]
 rw [if_pos trivial, show w.heap[g]? = _ from h]
 simp [List.map_set]
theorem Row.other {w : World} {g : Nat} {l : List Nat} (h : Row w g l) {a : Addr} (ha : a.block ≠ g) (v : Value) : Row (w.setCell a v) g l :=
 (Below.heap_setCell w a v g (Ne.symm ha)).trans h
theorem Row.alloc {w : World} {g : Nat} {l : List Nat} (h : Row w g l) (o : Obj) : Row (w.alloc o) g l := (Below.heap_alloc w o g h.lt).trans h
theorem Row.ext {w w' : World} {g : Nat} {l : List Nat} (h : Row w g l) (e : Ext w w') : Row w' g l := (e.block g h.lt).trans h
theorem Row.below {B : Nat} {w w' : World} {g : Nat} {l : List Nat} (h : Row w g l) (e : Below B w w') (hg : g < B) : Row w' g l := (e.block g hg).trans h
theorem Row.u16 {w : World} {g : Nat} {l : List Nat} (h : Row w g l) (hl : Lim l) {n cap : Nat} (hn : n ≤ l.length) (hc : n ≤ cap) (hr : n ≤ 70368744177664) : U16 w (some ⟨g, 0, none⟩) n cap (l.take n) := by
 refine ⟨by simp [hn], hc, hr, Has.some _ _, hl.take n, fun j hj => ?_⟩
 rw [at_zero, h.cell (by omega)]
 simp [dig, List.getD_eq_getElem?_getD, hj]
theorem Row.own {w : World} {g : Nat} {l : List Nat} (h : Row w g l) {B cap : Nat} (hB : B ≤ g) (hc : cap ≤ l.length) : Own B w (some ⟨g, 0, none⟩) cap := .inr ⟨g, _, rfl, hB, h, by simpa using hc⟩
theorem Row.new (w : World) (l : List Nat) : Row (w.alloc (.cells (l.map (fun x => Value.int .u16 (x : Nat))).toArray 153)) w.heap.size l := by
 show (w.heap.push _)[w.heap.size]? = _
 simp
theorem Row.of_owns {w : World} {base g n cap : Nat} {xs : List Value} {l : List Nat} (h : w.ownsRow base 153 1 (.slice (some ⟨g, 0, none⟩) n n) n xs) (_ : cap = n) (hx : xs = l.map (fun x => Value.int .u16 (x : Nat))) : Row w g l := by
 rcases h.2 with ⟨h1, _⟩ | ⟨g', cap', cur, h1, _, h3, _, _, h6, h7⟩
 ·cases h1
 ·simp only [Value.slice.injEq, Option.some.injEq, Addr.mk.injEq, and_true, true_and] at h1
  obtain ⟨rfl, rfl⟩ := h1
  unfold Row
  rw [h3]
  have : cur = (l.map (fun x => Value.int .u16 (x : Nat))).toArray := by
   rw [← hx, ← h7]
   simp only [Nat.mul_one] at h6 ⊢
   rw [List.take_of_length_le (by simp [h6])]
  rw [this]

/-- What an append has gathered reads as a slice of limbs. -/
theorem U16.of_owns {w : World} {base : Nat} {v : Value} {n : Nat} {l : List Nat} (h : w.ownsRow base 153 1 v n (l.map (fun x => Value.int .u16 (x : Nat)))) (hl : Lim l) (hr : n ≤ 70368744177664) :
    ∃ p cap, v = .slice p n cap ∧ U16 w p n cap l ∧ Own base w p cap := by
 have hlen : l.length = n := by have := h.1; simpa using this
 rcases h.2 with ⟨h1, h2⟩ | ⟨g, cap, cur, h1, h2, h3, h4, _, h6, h7⟩
 ·subst h1 h2
  have : l = [] := List.eq_nil_of_length_eq_zero hlen
  subst this
  exact ⟨none, 0, rfl, ⟨rfl, Nat.le_refl _, by omega, by unfold Has; exact .inl rfl, Lim.nil, fun j hj => absurd hj (Nat.not_lt_zero _)⟩, .inl rfl⟩
 ·subst h1
  refine ⟨_, cap, rfl, ⟨hlen, h4, hr, Has.some _ _, hl, fun j hj => ?_⟩, .inr ⟨g, cur, rfl, h2, h3, by omega⟩⟩
  rw [at_zero]
  simp only [World.cell?, h3]
  have hj' : j < cur.toList.length := by simp; omega
  have e : (cur.toList.take (n * 1))[j]? = (l.map (fun x => Value.int .u16 (x : Nat)))[j]? := by rw [h7]
  rw [List.getElem?_take] at e
  simp only [Nat.mul_one, hj, if_true, Array.getElem?_toList, List.getElem?_map] at e
  simp only [Option.isSome_none, Bool.false_eq_true, if_false]
  rw [e]
  simp [dig, List.getD_eq_getElem?_getD, show j < l.length by omega]
end Go.Proofs.YtndgaecfeaedeaaGreat
namespace Go.Proofs.YtndgaecfeaedeaaGreat
open Go.RowKit Lex Mth

@[go_sem] theorem wide_fn (f : FuncId) : Fence.wide.fn f = True := rfl
/-- A contract, used at the wide fence; and in a round. -/
theorem Go_wide {P : Program} {n : Nat} {f : FuncId} {args : Array Value} {w : World} {R R' : Ending → World → Prop} (h : Calls P f args w R) (hr : ∀ e w', R e w' → R' e w') : CallsIn Fence.wide n P f args w R' := (callsIn_wide (n := n)).2 (h.mono hr)
theorem Go_round {P : Program} {n l : Nat} {f : FuncId} {args : Array Value} {w : World} {R R' : Ending → World → Prop} (h : Calls P f args w R) (hr : ∀ e w', R e w' → R' e w') : CallsIn (Fence.wide.inRound l) n P f args w R' := (callsIn_wide (n := n)).2 (h.mono hr)

/-- The world w' is as w was, but for new blocks and for blocks of which M holds. -/
structure Keeps (M : Nat → Prop) (w w' : World) : Prop where
 os : w'.os = w.os
 tape : w'.tape = w.tape
 output : w'.output = w.output
 size : w.heap.size ≤ w'.heap.size
 block : ∀ b, b < w.heap.size → ¬ M b → w'.heap[b]? = w.heap[b]?

theorem Keeps.refl (M : Nat → Prop) (w : World) : Keeps M w w := ⟨rfl, rfl, rfl, Nat.le_refl _, fun _ _ _ => rfl⟩
theorem Keeps.trans {M : Nat → Prop} {a b c : World} (h : Keeps M a b) (k : Keeps M b c) : Keeps M a c :=
 ⟨k.os.trans h.os, k.tape.trans h.tape, k.output.trans h.output, Nat.le_trans h.size k.size, fun i hi hm => (k.block i (Nat.lt_of_lt_of_le hi h.size) hm).trans (h.block i hi hm)⟩
theorem Keeps.mono {M M' : Nat → Prop} {w w' : World} (h : Keeps M w w') (hM : ∀ b, b < w.heap.size → M b → M' b) : Keeps M' w w' :=
 ⟨h.os, h.tape, h.output, h.size, fun b hb hm => h.block b hb fun h' => hm (hM b hb h')⟩
theorem Keeps.of_ext {M : Nat → Prop} {w w' : World} (h : Ext w w') : Keeps M w w' := ⟨h.os, h.tape, h.output, h.size, fun b hb _ => h.block b hb⟩
theorem Keeps.ext {M : Nat → Prop} {w w' : World} (h : Keeps M w w') (hM : ∀ b, M b → w.heap.size ≤ b) : Ext w w' := ⟨h.os, h.tape, h.output, h.size, fun b hb => h.block b hb fun h' => by have := hM b h'; omega⟩
theorem Keeps.below {M : Nat → Prop} {w w' : World} {B : Nat} (h : Keeps M w w') (hB : B ≤ w.heap.size) (hM : ∀ b, M b → B ≤ b) : Below B w w' := ⟨h.os, h.tape, h.output, h.size, fun b hb => h.block b (by omega) fun h' => by have := hM b h'; omega⟩
theorem Keeps.alloc {M : Nat → Prop} {a w : World} (h : Keeps M a w) (o : Obj) : Keeps M a (w.alloc o) := h.trans (.of_ext ((Below.refl _ _).alloc (Nat.le_refl _) o))
theorem Keeps.drew {M : Nat → Prop} {a w : World} (h : Keeps M a w) : Keeps M a w.drew := ⟨h.os, h.tape, h.output, h.size, h.block⟩
theorem Keeps.setCell {M : Nat → Prop} {a w : World} (h : Keeps M a w) {p : Addr} (hp : M p.block) (v : Value) : Keeps M a (w.setCell p v) :=
 h.trans ⟨rfl, rfl, rfl, by simp, fun b _ hm => Below.heap_setCell _ _ _ _ (fun e => hm (e ▸ hp))⟩
theorem Keeps.putObj {M : Nat → Prop} {a w : World} (h : Keeps M a w) {l : Nat} (hl : M l) (o : Obj) : Keeps M a (w.putObj l o) :=
 h.trans ⟨rfl, rfl, rfl, by simp, fun b _ hm => World.putObj_heap_other (fun e => hm (e ▸ hl))⟩
theorem Keeps.grown {M : Nat → Prop} {a w w' : World} {row : Option Nat} (h : Keeps M a w) (hg : w.grownBy w' row) (hr : ∀ k, row = some k → M k) : Keeps M a w' :=
 h.trans ⟨hg.os, hg.tape, hg.output, hg.size, fun b hb hm => hg.block b hb (fun e => hm (hr b e.symm))⟩
theorem Keeps.cell {M : Nat → Prop} {w w' : World} (h : Keeps M w w') {a : Addr} {v : Value} (hc : w.cell? a = some v) (hm : ¬ M a.block) : w'.cell? a = some v :=
 (World.cell?_of_block (h.block _ (World.block_lt_of_cell? w a hc) hm)).trans hc
theorem Keeps.u16 {M : Nat → Prop} {w w' : World} {p : Option Addr} {n cap : Nat} {l : List Nat} (k : Keeps M w w') (h : U16 w p n cap l) (hm : ∀ j, j < n → ¬ M (at_ p j).block) : U16 w' p n cap l :=
 ⟨h.len, h.le, h.reach, h.has, h.lim, fun j hj => k.cell (h.cell j hj) (hm j hj)⟩
theorem Keeps.heap {M : Nat → Prop} {w w' : World} (h : Keeps M w w') {b : Nat} {o : Obj} (ho : w.heap[b]? = some o) (hm : ¬ M b) : w'.heap[b]? = some o :=
 (h.block b (Array.getElem?_eq_some_iff.1 ho).1 hm).trans ho

theorem Keeps.own {M : Nat → Prop} {w w' : World} {B cap : Nat} {p : Option Addr} (k : Keeps M w w') (h : Own B w p cap) (hm : ∀ g, p = some ⟨g, 0, none⟩ → ¬ M g) : Own B w' p cap := by
 rcases h with h | ⟨g, cur, h1, h2, h3, h4⟩
 ·exact .inl h
 ·exact .inr ⟨g, cur, h1, h2, k.heap h3 (hm g h1), h4⟩
theorem Boxed.newAt {A : World} {b : Nat} (t : TypeId) (v : Value) (h : b = A.heap.size) : Boxed (A.alloc (.cells #[v] t)) b t v := by subst h; exact Boxed.new _ _ _
theorem Row.keeps {M : Nat → Prop} {w w' : World} {g : Nat} {l : List Nat} (h : Row w g l) (k : Keeps M w w') (hm : ¬ M g) : Row w' g l := k.heap h hm
theorem Boxed.keeps {M : Nat → Prop} {w w' : World} {b : Nat} {t : TypeId} {v : Value} (h : Boxed w b t v) (k : Keeps M w w') (hm : ¬ M b) : Boxed w' b t v := k.heap h hm
theorem Boxed.ext {w w' : World} {b : Nat} {t : TypeId} {v : Value} (h : Boxed w b t v) (e : Ext w w') : Boxed w' b t v := (e.block b h.lt).trans h

theorem U16.off {w : World} {p : Option Addr} {n cap b : Nat} {l : List Nat} {t : TypeId} {v : Value} (h : U16 w p n cap l) (hb : Boxed w b t v) (hv : ∀ k i, v ≠ .int k i) {j : Nat} (hj : j < n) : (at_ p j).block ≠ b := fun e => by
 have hc := h.cell j hj
 unfold World.cell? at hc
 rw [e, show w.heap[b]? = _ from hb] at hc
 simp only at hc
 split at hc
 ·cases hc
 ·rw [List.getElem?_toArray] at hc
  have hm := List.mem_of_getElem? hc
  simp only [List.mem_singleton] at hm
  exact hv _ _ hm.symm
theorem U16.box {w : World} {p : Option Addr} {n cap b : Nat} {l : List Nat} {t : TypeId} {v : Value} (h : U16 w p n cap l) (hb : Boxed w b t v) (hv : ∀ k i, v ≠ .int k i) (u : Value) : U16 (w.setCell ⟨b, 0, none⟩ u) p n cap l :=
 (Keeps.setCell (M := fun x => x = b) (Keeps.refl _ w) (p := ⟨b, 0, none⟩) rfl u).u16 h (fun _ hj => h.off hb hv hj)
theorem Own.box {B : Nat} {w : World} {p : Option Addr} {cap b : Nat} {t : TypeId} {v : Value} (h : Own B w p cap) (hb : Boxed w b t v) (ht : t ≠ 153) (u : Value) : Own B (w.setCell ⟨b, 0, none⟩ u) p cap := by
 rcases h with h | ⟨g, cur, h1, h2, h3, h4⟩
 ·exact .inl h
 ·have hne : b ≠ g := fun e => by
   subst e
   rw [show w.heap[b]? = _ from hb] at h3
   simp only [Option.some.injEq, Obj.cells.injEq] at h3
   exact ht h3.2.1
  exact .inr ⟨g, cur, h1, h2, (Below.heap_setCell w _ u g (Ne.symm hne)).trans h3, h4⟩
theorem U16.mark {w : World} {p : Option Addr} {n cap d : Nat} {l : List Nat} {q : Option (List Deferred)} (h : U16 w p n cap l) (hD : w.heap[d]? = some (.deferred q)) (o : Obj) : U16 (w.putObj d o) p n cap l :=
 (Keeps.putObj (M := fun x => x = d) (Keeps.refl _ w) rfl o).u16 h (fun j hj e => by
  have hc := h.cell j hj
  unfold World.cell? at hc
  rw [e, hD] at hc
  cases hc)
theorem Own.mark {B : Nat} {w : World} {p : Option Addr} {cap d : Nat} {q : Option (List Deferred)} (h : Own B w p cap) (hD : w.heap[d]? = some (.deferred q)) (o : Obj) : Own B (w.putObj d o) p cap := by
 rcases h with h | ⟨g, cur, h1, h2, h3, h4⟩
 ·exact .inl h
 ·exact .inr ⟨g, cur, h1, h2, (World.putObj_heap_other (fun e => by subst e; rw [hD] at h3; cases h3)).trans h3, h4⟩
/-- A box of a call's own is written: what was there before the call is as it was. -/
theorem Ext.box {w w' : World} (h : Ext w w') {b : Nat} (hb : w.heap.size ≤ b) (u : Value) : Ext w (w'.setCell ⟨b, 0, none⟩ u) :=
 ((Keeps.of_ext (M := fun x => w.heap.size ≤ x) h).setCell (p := ⟨b, 0, none⟩) hb u).ext fun _ h => h

section
variable {P : Program}

theorem roundIn_depth {n d l : Nat} {f : FuncId} {tmps : Array Value} {assign body : Code} {w : World} {R : Ending → World → Prop} (h : RoundIn Fence.wide n P l f tmps assign body w R) : RoundIn Fence.wide d P l f tmps assign body w R :=
 ⟨h.1, fun c cs _ => h.2 c cs (room_wide _)⟩

/-- An iterator: a function value that, called with yield, hands on N times values of which V speaks, and stops where yield says no. It keeps m blocks of its own; whatever is in Mut the loop's body may write. -/
def Gives (P : Program) (gf : Nat) (lb : Array Value) (N m : Nat) (V : Nat → Nat → Array Value → World → Prop) (Mut : Nat → Prop) (w : World) (Rd : World → Prop := fun _ => True) : Prop :=
 ∀ (l : Nat) (J : Nat → World → Prop) (Jx : World → Prop) (W : World), Ext w W →
  (∀ b, Mut b → b < W.heap.size ∨ W.heap.size + m ≤ b) →
  (∀ k A C, J k A → Keeps (fun b => W.heap.size ≤ b ∧ b < W.heap.size + m) A C → J k C) →
  (∀ A C, Jx A → Keeps (fun b => W.heap.size ≤ b ∧ b < W.heap.size + m) A C → Jx C) →
  (∀ k vs W1, J k W1 → k < N → V (W.heap.size + m) k vs W1 → W.heap.size + m ≤ W1.heap.size → ∀ d, YieldAt Fence.wide d P l vs W1 fun e W' =>
   (e = .returned (.bool true) ∧ J (k + 1) W' ∧ Keeps Mut W1 W') ∨ (e = .returned (.bool false) ∧ Jx W')) →
  (∀ k W1, J k W1 → Rd W1) →
  J 0 W →
  CallsIn Fence.wide 1 P gf (#[.func (.yield l) #[] #[]] ++ lb) W fun e W' => (∃ v, e = .returned v) ∧ (J N W' ∨ Jx W')

/-- How the body of a round is left. -/
def roundEnd (Mut : Nat → Prop) (I : World → Prop) (Ix : Code → World → Prop) (W : World) : Exit → Act → World → Prop
 | .normal, _, W' => Keeps Mut W W' ∧ I W'
 | .ret, _, W' => Keeps Mut W W' ∧ Ix .ret W'
 | .exit id, _, W' => Keeps Mut W W' ∧ Ix (.exit id) W'
 | .goto t, _, W' => Keeps Mut W W' ∧ Ix (.goto t) W'
 | .panic _, _, _ => False
 | .outgrown, _, _ => False

/-- The blocks of a loop over an iterator: the mark, the record, the iterator's own. -/
abbrev LoopBlocks (w : World) (m : Nat) (b : Nat) : Prop := w.heap.size ≤ b ∧ b < w.heap.size + 2 + m

/-- **A RANGE OVER AN ITERATOR, in a function's own frame.** -/
theorem wp_range {g : Operand} {ps : Array Tmp} {assign body : Code} {Q : Exit → Act → World → Prop} {a : Act} {w : World}
    {gf : Nat} {lb : Array Value} {N m : Nat} {V : Nat → Nat → Array Value → World → Prop} {Mut : Nat → Prop} {w0 : World} {Rd : World → Prop}
    (hg : a.eval g = .func (.func gf) #[] lb) (eg : ∀ args w, (callFunc gf args).run P w = .ok (.enter gf args) w)
    (hseq : Gives P gf lb N m V Mut w0 Rd) (hb0 : Ext w0 w) (hps : ∀ B k vs W, V B k vs W → vs.size = ps.size)
    (hM : ∀ b, Mut b → ¬ LoopBlocks w m b)
    (I : Nat → World → Prop) (Ix : Code → World → Prop)
    (hI : ∀ k A C, I k A → Keeps (LoopBlocks w m) A C → I k C) (hIx : ∀ c A C, Ix c A → Keeps (LoopBlocks w m) A C → Ix c C) (h0 : I 0 w) (hRd : ∀ k W, I k W → Rd W)
    (hround : ∀ (l k : Nat) (vs : Array Value) (W : World), I k W → k < N → V (w.heap.size + 2 + m) k vs W → w.heap.size + 2 + m ≤ W.heap.size →
     ∀ K : Act → World → Prop, (∀ a1 W1, Keeps Mut W W1 → (∀ W2, Keeps (LoopBlocks w m) W1 W2 → W2.heap.size = W1.heap.size → body.wpIn (Fence.wide.inRound l) 1 P (roundEnd Mut (I (k + 1)) Ix W2) a1 W2) → K a1 W1) →
     assign.wpIn (Fence.wide.inRound l) 1 P (Exit.then K (fun _ _ _ => False))
      { tmps := (ps.zip vs).foldl (fun t (p, v) => t.setIfInBounds p v) a.tmps, defers := [] } W)
    (hdone : ∀ (W : World), I N W → W.heap[w.heap.size]? = some (.deferred (some [])) → Q .normal { a with defers := { target := .collected w.heap.size, args := #[] } :: a.defers } W)
    (hstop : ∀ (c : Code) (W : World), Ix c W → W.heap[w.heap.size]? = some (.deferred (some [])) → c.wpIn Fence.wide 2 P Q { a with defers := { target := .collected w.heap.size, args := #[] } :: a.defers } W) :
    (Code.rangeFunc g ps assign body).wpIn Fence.wide 2 P Q a w := by
 refine wpIn_rangeFunc ?_
 intro fn _
 obtain ⟨rec, hrec⟩ : ∃ rec : LoopState → Option Code → Loop, rec = fun st pe => { state := st, pending := pe, fn, tmps := a.tmps, params := ps, assign, body, defers := w.heap.size } := ⟨_, rfl⟩
 obtain ⟨W1, hW1⟩ : ∃ W1, (w.alloc (.deferred (some []))).alloc (.loop (rec .ready none)) = W1 := ⟨_, rfl⟩
 have hsz : W1.heap.size = w.heap.size + 2 := by rw [← hW1]; simp
 have hL1 : W1.heap[w.heap.size + 1]? = some (.loop (rec .ready none)) := by
  rw [← hW1]; have := World.alloc_heap_new (w.alloc (.deferred (some []))) (.loop (rec .ready none)); rwa [World.size_alloc] at this
 have hK1 : W1.heap[w.heap.size]? = some (.deferred (some [])) := by
  rw [← hW1]; exact (Below.heap_alloc _ _ _ (by simp)).trans (World.alloc_heap_new w _)
 have hE1 : Ext w W1 := by rw [← hW1]; exact ((Below.refl _ w).alloc (Nat.le_refl _) _).alloc (by simp) _
 have hI1 : I 0 W1 := hI 0 _ _ h0 (.of_ext hE1)
 have hpriv : ∀ {A C : World}, Keeps (fun b => W1.heap.size ≤ b ∧ b < W1.heap.size + m) A C → Keeps (LoopBlocks w m) A C := fun hk => hk.mono fun b _ hb => ⟨by omega, by omega⟩
 refine ⟨w.heap.size + 1, [{ target := .collected w.heap.size, args := #[] }], W1, { target := .fn (.func gf) lb, args := #[.func (.yield (w.heap.size + 1)) #[] #[]] }, W1, gf,
  #[.func (.yield (w.heap.size + 1)) #[] #[]] ++ lb, W1, ?_, ?_, ?_, ?_, fun h => (by cases h), ?_⟩
 ·rw [← hW1, hrec]; exact run_enterLoop_outer _ _ _ _ _
 ·simp only [resolve, hg]
  simp [go_sem]
 ·intro f' _; trivial
 ·simp [invoke, go_sem, eg]
 ·refine (hseq (w.heap.size + 1)
   (fun k W => I k W ∧ W.heap[w.heap.size + 1]? = some (.loop (rec .ready none)) ∧ W.heap[w.heap.size]? = some (.deferred (some [])))
   (fun W => ∃ c, Ix c W ∧ W.heap[w.heap.size + 1]? = some (.loop (rec .done (some c))) ∧ W.heap[w.heap.size]? = some (.deferred (some [])))
   W1 (hb0.trans (hE1.mono hb0.size)) (fun b hb => by
    have h1 : ¬ (w.heap.size ≤ b ∧ b < w.heap.size + 2 + m) := hM b hb
    omega)
   (fun k A C ⟨h1, h2, h3⟩ hk => ⟨hI k A C h1 (hpriv hk), hk.heap h2 (by omega), hk.heap h3 (by omega)⟩)
   (fun A C ⟨c, h1, h2, h3⟩ hk => ⟨c, hIx c A C h1 (hpriv hk), hk.heap h2 (by omega), hk.heap h3 (by omega)⟩)
   ?_ (fun k W1 h => hRd k W1 h.1) ⟨hI1, hL1, hK1⟩).mono ?_
  ·-- one round
   rintro k vs W ⟨hi, hl, hk⟩ hkN hV hWs d
   have hy := run_yield (P := P) (args := vs) hl (by rw [hrec]; exact hps _ k vs W hV)
   rw [hrec] at hy
   refine ⟨fn, _, assign, body, hy, roundIn_depth (n := 1) <| roundIn_of_wpIn trivial (wpIn_mono (hround _ k vs W hi hkN (by rw [← hsz]; exact hV) (by omega) (fun a1 W1 => Keeps Mut W W1 ∧ ∀ W2, Keeps (LoopBlocks w m) W1 W2 → W2.heap.size = W1.heap.size → body.wpIn (Fence.wide.inRound (w.heap.size + 1)) 1 P (roundEnd Mut (I (k + 1)) Ix W2) a1 W2) (fun _ _ h1 h2 => ⟨h1, h2⟩)) ?_)⟩
   rintro e a1 Wa hp
   cases e with
   | normal =>
    obtain ⟨hka, hbody⟩ := hp
    have hla := hka.heap hl (fun h => hM _ h ⟨by omega, by omega⟩)
    have hda := hka.heap hk (fun h => hM _ h ⟨by omega, by omega⟩)
    refine ⟨_, run_beginRound hla (by rw [hrec]), ?_⟩
    have hl2 : (Wa.putObj (w.heap.size + 1) (.loop { rec .ready none with state := .busy })).heap[w.heap.size + 1]? = some (.loop { rec .ready none with state := .busy }) := World.putObj_heap_same (Array.getElem?_eq_some_iff.1 hla).1
    have hk2 : (Wa.putObj (w.heap.size + 1) (.loop { rec .ready none with state := .busy })).heap[w.heap.size]? = some (.deferred (some [])) := (World.putObj_heap_other (by omega)).trans hda
    have hput : Keeps (LoopBlocks w m) Wa (Wa.putObj (w.heap.size + 1) (.loop { rec .ready none with state := .busy })) := (Keeps.refl _ Wa).putObj ⟨by omega, by omega⟩ _
    refine wpIn_mono (hbody _ hput (by simp)) ?_
    have hk12 : Keeps (fun b => Mut b ∨ b = w.heap.size + 1) W (Wa.putObj (w.heap.size + 1) (.loop { rec .ready none with state := .busy })) := (hka.mono fun b _ h => .inl h).putObj (.inr rfl) _
    have fin : ∀ (jump : Option Code) (W3 : World), Keeps Mut (Wa.putObj (w.heap.size + 1) (.loop { rec .ready none with state := .busy })) W3 →
        (Instr.endRound (w.heap.size + 1) jump).run P W3 = .ok (.bool jump.isNone) (W3.putObj (w.heap.size + 1) (.loop (rec (if jump.isNone then .ready else .done) jump))) ∧
        Keeps (LoopBlocks w m) W3 (W3.putObj (w.heap.size + 1) (.loop (rec (if jump.isNone then .ready else .done) jump))) ∧
        (W3.putObj (w.heap.size + 1) (.loop (rec (if jump.isNone then .ready else .done) jump))).heap[w.heap.size + 1]? = some (.loop (rec (if jump.isNone then .ready else .done) jump)) ∧
        (W3.putObj (w.heap.size + 1) (.loop (rec (if jump.isNone then .ready else .done) jump))).heap[w.heap.size]? = some (.deferred (some [])) ∧
        Keeps (fun b => Mut b ∨ b = w.heap.size + 1) W (W3.putObj (w.heap.size + 1) (.loop (rec (if jump.isNone then .ready else .done) jump))) := fun jump W3 hk3 => by
     have hl3 := hk3.heap hl2 (fun h => hM _ h ⟨by omega, by omega⟩)
     have hd3 := hk3.heap hk2 (fun h => hM _ h ⟨by omega, by omega⟩)
     have := run_endRound (P := P) jump hl3
     refine ⟨?_, (Keeps.refl _ W3).putObj ⟨by omega, by omega⟩ _, World.putObj_heap_same (Array.getElem?_eq_some_iff.1 hl3).1, (World.putObj_heap_other (by omega)).trans hd3, (hk12.trans (hk3.mono fun b _ h => .inl h)).putObj (.inr rfl) _⟩
     rw [hrec] at this ⊢
     exact this
    have wayback : ∀ {W' : World} {o : Loop}, W'.heap[w.heap.size + 1]? = some (.loop o) → o = rec .ready none → Keeps (fun b => Mut b ∨ b = w.heap.size + 1) W W' → Keeps Mut W W' := fun hl' ho hkk =>
     ⟨hkk.os, hkk.tape, hkk.output, hkk.size, fun b hb hm => by
      by_cases e : b = w.heap.size + 1
      ·subst e; rw [hl', hl, ho]
      ·exact hkk.block b hb (fun h => h.elim hm e)⟩
    rintro e a3 W3 hp
    cases e with
    | normal =>
     obtain ⟨hk3, hi3⟩ := hp
     obtain ⟨hr, hp3, hl4, hk4, hkk⟩ := fin none W3 hk3
     exact ⟨_, _, hr, .inl ⟨rfl, ⟨hI _ _ _ hi3 hp3, hl4, hk4⟩, wayback hl4 rfl hkk⟩⟩
    | ret =>
     obtain ⟨hk3, hi3⟩ := hp
     obtain ⟨hr, hp3, hl4, hk4, hkk⟩ := fin (some .ret) W3 hk3
     exact ⟨_, _, hr, .inr ⟨rfl, .ret, hIx _ _ _ hi3 hp3, hl4, hk4⟩⟩
    | exit id =>
     obtain ⟨hk3, hi3⟩ := hp
     obtain ⟨hr, hp3, hl4, hk4, hkk⟩ := fin (some (.exit id)) W3 hk3
     exact ⟨_, _, hr, .inr ⟨rfl, .exit id, hIx _ _ _ hi3 hp3, hl4, hk4⟩⟩
    | goto t =>
     obtain ⟨hk3, hi3⟩ := hp
     obtain ⟨hr, hp3, hl4, hk4, hkk⟩ := fin (some (.goto t)) W3 hk3
     exact ⟨_, _, hr, .inr ⟨rfl, .goto t, hIx _ _ _ hi3 hp3, hl4, hk4⟩⟩
    | panic ch => exact hp.elim
    | outgrown => exact hp.elim
   | ret => exact hp.elim
   | exit id => exact hp.elim
   | goto t => exact hp.elim
   | panic ch => exact hp.elim
   | outgrown => exact hp.elim
  ·-- behind the iterator
   rintro e W2 ⟨⟨v, rfl⟩, (⟨hi, hl, hk⟩ | ⟨c, hi, hl, hk⟩)⟩
   ·refine ⟨none, _, by have := run_endLoop (P := P) hl (by rw [hrec]; simp); rw [hrec] at this; exact this, ?_⟩
    exact hdone _ (hI _ _ _ hi ((Keeps.refl _ _).putObj ⟨by omega, by omega⟩ _)) ((World.putObj_heap_other (by omega)).trans hk)
   ·refine ⟨some c, _, by have := run_endLoop (P := P) hl (by rw [hrec]; simp); rw [hrec] at this; exact this, ?_⟩
    exact hstop c _ (hIx _ _ _ hi ((Keeps.refl _ _).putObj ⟨by omega, by omega⟩ _)) ((World.putObj_heap_other (by omega)).trans hk)

/-- Leaving a function that has held a range over an iterator. -/
theorem leave_marked {fn : Func} {R : Ending → World → Prop} {tmps : Array Value} {d n : Nat} {w : World} {v : Value} (hD : w.heap[d]? = some (.deferred (some [])))
    (hr : (results fn tmps).run P (w.putObj d (.deferred none)) = .ok v (w.putObj d (.deferred none))) (hR : R (.returned v) (w.putObj d (.deferred none))) :
    bodyPostM Fence.wide n P fn R .ret { tmps := tmps, defers := [{ target := .collected d, args := #[] }] } w :=
 ⟨by simp, .inl ⟨_, _, rfl, run_takeDeferred hD, ⟨v, hr, hR⟩⟩⟩
theorem Keeps.mark {M : Nat → Prop} {a w : World} (h : Keeps M a w) {d : Nat} (hd : M d) : Keeps M a (w.putObj d (.deferred none)) := h.putObj hd _
theorem Boxed.mark {w : World} {b : Nat} {t : TypeId} {v : Value} (h : Boxed w b t v) {d : Nat} (hd : b ≠ d) : Boxed (w.putObj d (.deferred none)) b t v := (World.putObj_heap_other hd).trans h
theorem mark_setCell {w : World} {d : Nat} {a : Addr} {v : Value} (hD : w.heap[d]? = some (.deferred (some []))) (h : a.block ≠ d) : (w.setCell a v).heap[d]? = some (.deferred (some [])) := by
 rw [Below.heap_setCell _ _ _ _ (Ne.symm h)]; exact hD
end
end Go.Proofs.YtndgaecfeaedeaaGreat
namespace Go.Proofs.YtndgaecfeaedeaaGreat
open Go.RowKit Lex Mth
attribute [local go_sem] run_indexAt_at add_zero_map

theorem sign_any (b : Bool) (w : World) : Calls Tryz.prog 135 #[.bool b] w fun e w' => e = .returned (.int .i64 (if b then -1 else 1)) ∧ w = w' := by
 cases b
 ·go_enter Tryz.func135, Tryz.ntmps135
  go_wp2
  go_ret
  exact ⟨rfl, rfl⟩
 ·go_enter Tryz.func135, Tryz.ntmps135
  go_wp2
  go_ret
  exact ⟨rfl, rfl⟩

theorem trimmed_any (p : Option Addr) (n cap : Nat) (l : List Nat) (w : World) (h : U16 w p n cap l) :
    Calls Tryz.prog 140 #[.slice p n cap] w fun e w' => e = .returned (.slice p (siz (val l)) cap) ∧ w = w' := by
 have hn := h.reachN
 have hle := h.le
 have hlen : l.length = n := h.len
 have Hlen : Hid (l.length = n) := hlen
 go_enter Tryz.func140, Tryz.ntmps140
 clear hlen
 go_wp2
 go_loop [0] (fun v => ∃ k, k ≤ n ∧ Hid (val (l.take k) = val l) ∧ v = .slice p k cap) (fun v => match v with | .slice _ n _ => n | _ => 0)
 case atStart => exact ⟨n, by omega, by unfold Hid; rw [← Hlen.out, List.take_length], rfl⟩
 case round =>
  obtain ⟨k, hk, hv, rfl⟩ := hrel
  by_cases h0 : 0 < k
  ·have hcell := h.cell (k - 1) (by omega)
   have hp : Has p k := by
    have := h.has; unfold Has at *; exact this.imp (fun e => by omega) id
   by_cases hz : dig l (k - 1) = 0
   ·have hz' : ((dig l (k - 1) : Nat) : Int) == 0 := by simp [hz]
    have Hz := Lib.hid hz
    clear hz
    go_wp2
    go_round
    case rel => exact ⟨k - 1, by omega, trim_step h0 (by rw [Hlen.out]; omega) hv.out Hz.out, rfl⟩
    case measure => show k - 1 < k; omega
   ·have hz' : (((dig l (k - 1) : Nat) : Int) == 0) = false := by simp [hz]
    have Hz := Lib.hid hz
    clear hz
    go_wp2
    go_ret
    rw [trim_end h.lim (by rw [Hlen.out]; exact hk) hv.out (fun _ => Hz.out)]
    exact ⟨rfl, rfl⟩
  ·obtain rfl : k = 0 := by omega
   go_wp2
   go_ret
   rw [trim_end h.lim (by omega) hv.out (fun h => absurd h (by omega))]
   exact ⟨rfl, rfl⟩
end Go.Proofs.YtndgaecfeaedeaaGreat
namespace Go.Proofs.YtndgaecfeaedeaaGreat
open Go.RowKit Lex Mth
attribute [local go_sem] run_indexAt_at add_zero_map Oper.semAt_some

theorem down_any (p : Option Addr) (n cap : Nat) (w : World) : Calls Tryz.prog 187 #[.slice p n cap] w fun e w' =>
    e = .returned (.func (.func 208) #[] #[.pointer (some ⟨w.heap.size, 0, none⟩)]) ∧ w.alloc (.cells #[.slice p n cap] 36) = w' := by
 go_enter Tryz.func187, Tryz.ntmps187
 go_wp2
 go_ret
 exact ⟨rfl, rfl⟩

/-- What down hands on in round k: the index and the limb, from the top on. -/
def downV (n : Nat) (l : List Nat) (_ : Nat) (k : Nat) (vs : Array Value) (_ : World) : Prop := vs = #[.int .i64 ((n - 1 - k : Nat) : Int), .int .u16 (dig l (n - 1 - k) : Nat)]

set_option maxRecDepth 100000 in
theorem down_gives (p : Option Addr) (n cap : Nat) (l : List Nat) (Bs : Nat) (Mut : Nat → Prop) (w : World) (hbox : Boxed w Bs 36 (.slice p n cap)) (h : U16 w p n cap l)
    (hm1 : ¬ Mut Bs) (hm2 : ∀ j, j < n → ¬ Mut (at_ p j).block) : Gives Tryz.prog 208 #[.pointer (some ⟨Bs, 0, none⟩)] n 0 (downV n l) Mut w := by
 intro loop J Jx W hW _ _ _ hY _ h0
 have hnr := h.reachN
 have hp := h.has
 refine callsIn_of_wp Tryz.func208 rfl trivial ?_ rfl
 simp only [Tryz.ntmps208, List.size_toArray, List.length_cons, List.length_nil, Nat.reduceAdd, Nat.reduceSub, Array.replicate_succ, Array.replicate_zero, List.push_toArray, List.append_toArray, List.nil_append, List.cons_append]
 have hb0 := (Boxed.ext hbox hW).cell
 gi_wp2
 gi_loopw [3] (fun i wr => ∃ k : Nat, k ≤ n ∧ i = .int .i64 ((n : Int) - 1 - k) ∧ J k wr ∧ Keeps Mut W wr) (fun i _ => (intOf i + 1).toNat)
 case atStart => exact ⟨0, Nat.zero_le _, by simp, h0, Keeps.refl _ _⟩
 case round =>
  obtain ⟨k, hk, rfl, hJ, hkeep⟩ := hrel
  by_cases hlt : k < n
  ·have hbx := (Boxed.keeps (Boxed.ext hbox hW) hkeep hm1).cell
   have hc := hkeep.cell ((h.ext hW).cell (n - 1 - k) (by omega)) (hm2 _ (by omega))
   obtain ⟨fn, tmps, assign, body, hy, hR⟩ := hY k _ wr hJ hlt rfl (by have := hkeep.size; omega) 0
   have e1 : ((n : Int) - 1 - k) = ((n - 1 - k : Nat) : Int) := by omega
   rw [e1]
   gi_wp2
   refine hR.mono ?_
   rintro e W3 (⟨rfl, hJ3, hk3⟩ | ⟨rfl, hJx3⟩)
   ·gi_wp2
    go_roundw
    case rel => exact ⟨k + 1, by omega, by congr 1; omega, hJ3, hkeep.trans hk3⟩
    case measure => simp [intOf]
   ·gi_wp2
    refine bodyPost_ret (results_none rfl _ _ _) rfl ?_
    exact ⟨⟨_, rfl⟩, .inr hJx3⟩
  ·obtain rfl : k = n := by omega
   have hneg : ¬ ((0 : Int) ≤ (k : Int) - 1 - k) := by omega
   gi_wp2
   go_end0
   exact ⟨⟨_, rfl⟩, .inl hJ⟩

/-- The same over a row that the loop's body writes: the index alone is told. -/
def downI (n : Nat) (_ : Nat) (k : Nat) (vs : Array Value) (_ : World) : Prop := ∃ d : Nat, vs = #[.int .i64 ((n - 1 - k : Nat) : Int), .int .u16 (d : Nat)]

set_option maxRecDepth 100000 in
theorem down_gives_row (g n cap : Nat) (Bs : Nat) (Mut : Nat → Prop) (w : World) (hbox : Boxed w Bs 36 (.slice (some ⟨g, 0, none⟩) n cap)) (hn : n ≤ 70368744177664)
    (hm1 : ¬ Mut Bs) : Gives Tryz.prog 208 #[.pointer (some ⟨Bs, 0, none⟩)] n 0 (downI n) Mut w (fun W => ∃ l, l.length = n ∧ Row W g l) := by
 intro loop J Jx W hW _ _ _ hY hRd h0
 have hp : Has (some ⟨g, 0, none⟩) n := Has.some _ _
 refine callsIn_of_wp Tryz.func208 rfl trivial ?_ rfl
 simp only [Tryz.ntmps208, List.size_toArray, List.length_cons, List.length_nil, Nat.reduceAdd, Nat.reduceSub, Array.replicate_succ, Array.replicate_zero, List.push_toArray, List.append_toArray, List.nil_append, List.cons_append]
 have hb0 := (Boxed.ext hbox hW).cell
 gi_wp2
 gi_loopw [3] (fun i wr => ∃ k : Nat, k ≤ n ∧ i = .int .i64 ((n : Int) - 1 - k) ∧ J k wr ∧ Keeps Mut W wr) (fun i _ => (intOf i + 1).toNat)
 case atStart => exact ⟨0, Nat.zero_le _, by simp, h0, Keeps.refl _ _⟩
 case round =>
  obtain ⟨k, hk, rfl, hJ, hkeep⟩ := hrel
  by_cases hlt : k < n
  ·have hbx := (Boxed.keeps (Boxed.ext hbox hW) hkeep hm1).cell
   obtain ⟨l, hl, hrow⟩ := hRd k wr hJ
   have hc := hrow.cell (j := n - 1 - k) (by omega)
   rw [← at_zero] at hc
   obtain ⟨fn, tmps, assign, body, hy, hR⟩ := hY k _ wr hJ hlt ⟨dig l (n - 1 - k), rfl⟩ (by have := hkeep.size; omega) 0
   have e1 : ((n : Int) - 1 - k) = ((n - 1 - k : Nat) : Int) := by omega
   rw [e1]
   gi_wp2
   refine hR.mono ?_
   rintro e W3 (⟨rfl, hJ3, hk3⟩ | ⟨rfl, hJx3⟩)
   ·gi_wp2
    go_roundw
    case rel => exact ⟨k + 1, by omega, by congr 1; omega, hJ3, hkeep.trans hk3⟩
    case measure => simp [intOf]
   ·gi_wp2
    refine bodyPost_ret (results_none rfl _ _ _) rfl ?_
    exact ⟨⟨_, rfl⟩, .inr hJx3⟩
  ·obtain rfl : k = n := by omega
   have hneg : ¬ ((0 : Int) ≤ (k : Int) - 1 - k) := by omega
   gi_wp2
   go_end0
   exact ⟨⟨_, rfl⟩, .inl hJ⟩

/-- Which of two numbers is the greater one. -/
def cmpN (x y : Nat) : Int := if x < y then -1 else if y < x then 1 else 0

set_option maxRecDepth 100000 in
theorem compare_any (p q : Option Addr) (n cp m cq : Nat) (x y : Nat) (w : World) (hp : U16 w p n cp (limbs x)) (hq : U16 w q m cq (limbs y)) :
    Calls Tryz.prog 136 #[.slice p n cp, .slice q m cq] w fun e w' => e = .returned (.int .i64 (cmpN x y)) ∧ Ext w w' := by
 have hn := hp.reachN
 have hm := hq.reachN
 have hhq := hq.has
 by_cases hlen : n = m
 ·refine (callsIn_wide (n := 2)).1 ?_
  refine callsIn_of_wp_marks Tryz.func136 rfl trivial ?_ rfl
  simp only [Tryz.ntmps136, List.size_toArray, List.length_cons, List.length_nil, Nat.reduceAdd, Nat.reduceSub, Array.replicate_succ, Array.replicate_zero, List.push_toArray, List.append_toArray, List.nil_append, List.cons_append]
  subst hlen
  gi_wp2_with fail
  refine Go_wide (down_any _ _ _ _) ?_
  rintro e w' ⟨rfl, rfl⟩
  gi_wp2_with fail
  have hB1 : Boxed (((w.alloc (.cells #[.slice q n cq] 36)).alloc (.cells #[.int .i64 0] 3)).alloc (.cells #[.slice p n cp] 36)) w.heap.size 36 (.slice q n cq) := ((Boxed.new _ _ _).alloc _).alloc _
  have hB2 : Boxed (((w.alloc (.cells #[.slice q n cq] 36)).alloc (.cells #[.int .i64 0] 3)).alloc (.cells #[.slice p n cp] 36)) (w.heap.size + 1) 3 (.int .i64 0) := by
   have := (Boxed.new (w.alloc (.cells #[.slice q n cq] 36)) 3 (.int .i64 0)).alloc (.cells #[.slice p n cp] 36)
   simpa using this
  have hB3 : Boxed (((w.alloc (.cells #[.slice q n cq] 36)).alloc (.cells #[.int .i64 0] 3)).alloc (.cells #[.slice p n cp] 36)) (w.heap.size + 1 + 1) 36 (.slice p n cp) := by
   have := Boxed.new ((w.alloc (.cells #[.slice q n cq] 36)).alloc (.cells #[.int .i64 0] 3)) 36 (.slice p n cp)
   simpa using this
  have hE : Ext w (((w.alloc (.cells #[.slice q n cq] 36)).alloc (.cells #[.int .i64 0] 3)).alloc (.cells #[.slice p n cp] 36)) := (((Below.refl _ _).alloc (Nat.le_refl _) _).alloc (by simp) _).alloc (by simp; omega) _
  have hsz : (((w.alloc (.cells #[.slice q n cq] 36)).alloc (.cells #[.int .i64 0] 3)).alloc (.cells #[.slice p n cp] 36)).heap.size = w.heap.size + 3 := by simp
  generalize ((w.alloc (.cells #[.slice q n cq] 36)).alloc (.cells #[.int .i64 0] 3)).alloc (.cells #[.slice p n cp] 36) = W0 at *
  have hpW := hp.ext hE
  have hqW := hq.ext hE
  have hpb : ∀ j, j < n → (at_ p j).block < w.heap.size := fun j hj => hp.block hj
  have hqb : ∀ j, j < n → (at_ q j).block < w.heap.size := fun j hj => hq.block hj
  refine wp_range (gf := 208) rfl (enters_of Tryz.func208 (by kernel_rfl) rfl)
   (down_gives p n cp (limbs x) (w.heap.size + 1 + 1) (fun b => b = w.heap.size + 1) W0 hB3 hpW (by omega) (fun j hj => by have := hpb j hj; omega))
   (Below.refl _ _) (fun _ k vs W hV => by rw [hV]; rfl) (fun b hb h => by have h1 := h.1; omega)
   (fun k W => Hid ((limbs x).drop (n - k) = (limbs y).drop (n - k)) ∧ Boxed W (w.heap.size + 1) 3 (.int .i64 0) ∧ Keeps (fun b => b = w.heap.size + 1 ∨ LoopBlocks W0 0 b) W0 W)
   (fun c W => c = .ret ∧ Boxed W (w.heap.size + 1) 3 (.int .i64 (cmpN x y)) ∧ Keeps (fun b => b = w.heap.size + 1 ∨ LoopBlocks W0 0 b) W0 W)
   (fun k A C h hk => ⟨h.1, Boxed.keeps h.2.1 hk (fun hb => by have := hb.1; omega), h.2.2.trans (hk.mono fun b _ hb => .inr hb)⟩)
   (fun c A C h hk => ⟨h.1, Boxed.keeps h.2.1 hk (fun hb => by have := hb.1; omega), h.2.2.trans (hk.mono fun b _ hb => .inr hb)⟩)
   ⟨by unfold Hid; rw [List.drop_of_length_le (by rw [hp.len]; omega), List.drop_of_length_le (by rw [hq.len]; omega)], hB2, Keeps.refl _ _⟩ (fun _ _ _ => trivial) ?round ?done ?stop
  case round =>
   rintro l k vs W ⟨heq, hbr, hk⟩ hkn rfl hWs K hK
   gi_wp2
   refine hK _ _ (Keeps.refl _ _) ?_
   clear hK
   intro W2 hk2 hs2
   have hk02 : Keeps (fun b => b = w.heap.size + 1 ∨ LoopBlocks W0 0 b) W0 W2 := hk.trans (hk2.mono fun b _ hb => .inr hb)
   have hbr2 := Boxed.keeps hbr hk2 (fun hb => by have := hb.1; omega)
   have c1 := (Boxed.keeps hB1 hk02 (by rintro (h | h) <;> omega)).cell
   have c2 := hbr2.cell
   have f2 := hbr2.frozen
   have c3 := hk02.cell (hqW.cell (n - 1 - k) (by omega)) (by have := hqb (n - 1 - k) (by omega); rintro (h | h) <;> omega)
   have Hdx := Lib.hid (drop_cons (l := limbs x) (k := n - 1 - k) (by rw [hp.len]; omega))
   have Hdy := Lib.hid (drop_cons (l := limbs y) (k := n - 1 - k) (by rw [hq.len]; omega))
   by_cases hd : dig (limbs x) (n - 1 - k) = dig (limbs y) (n - 1 - k)
   ·have hd' : (((dig (limbs x) (n - 1 - k) : Nat) : Int) != ((dig (limbs y) (n - 1 - k) : Nat) : Int)) = false := by simp [hd]
    have Hd := Lib.hid hd
    clear hd
    gi_wp2
    refine ⟨Keeps.refl _ _, ?_, hbr2, hk02⟩
    show _ = _
    rw [show n - (k + 1) = n - 1 - k by omega, Hdx.out, Hdy.out, show n - 1 - k + 1 = n - k by omega, heq.out]
    exact congrArg (· :: _) Hd.out
   ·have hd' : (((dig (limbs x) (n - 1 - k) : Nat) : Int) != ((dig (limbs y) (n - 1 - k) : Nat) : Int)) = true := by
     rw [bne_iff_ne]; omega
    have hl : (limbs x).length = (limbs y).length := by rw [hp.len, hq.len]
    have hh := heq.out
    rw [show n - k = n - 1 - k + 1 by omega] at hh
    have Hl := Lib.hid hl
    have Hh := Lib.hid hh
    clear hl hh
    rcases Nat.lt_or_ge (dig (limbs x) (n - 1 - k)) (dig (limbs y) (n - 1 - k)) with hlt | hge
    ·have h1 : ((dig (limbs x) (n - 1 - k) : Nat) : Int) < ((dig (limbs y) (n - 1 - k) : Nat) : Int) := by omega
     have hcmp : cmpN x y = -1 := by
      have := lt_of_top (lim_limbs x) (k := n - 1 - k) (by rw [hp.len]; omega) (by rw [hq.len]; omega) Hl.out Hh.out hlt
      rw [val_limbs, val_limbs] at this
      unfold cmpN
      rw [if_pos this]
     have Hc := Lib.hid hcmp
     clear hcmp
     gi_wp2_with fail
     refine Go_round (sign_any _ _) ?_
     rintro e w' ⟨rfl, rfl⟩
     gi_wp2
     exact ⟨(Keeps.refl (fun b => b = w.heap.size + 1) _).setCell (p := ⟨w.heap.size + 1, 0, none⟩) rfl _, rfl, by rw [Hc.out]; exact Boxed.set _ hbr2, hk02.setCell (p := ⟨w.heap.size + 1, 0, none⟩) (.inl rfl) _⟩
    ·have h1 : ¬ ((dig (limbs x) (n - 1 - k) : Nat) : Int) < ((dig (limbs y) (n - 1 - k) : Nat) : Int) := by omega
     have hcmp : cmpN x y = 1 := by
      have := lt_of_top (lim_limbs y) (k := n - 1 - k) (by rw [hq.len]; omega) (by rw [hp.len]; omega) Hl.out.symm Hh.out.symm (show dig (limbs y) (n - 1 - k) < dig (limbs x) (n - 1 - k) by omega)
      rw [val_limbs, val_limbs] at this
      unfold cmpN
      rw [if_neg (by omega), if_pos this]
     have Hc := Lib.hid hcmp
     clear hcmp
     gi_wp2_with fail
     refine Go_round (sign_any _ _) ?_
     rintro e w' ⟨rfl, rfl⟩
     gi_wp2
     exact ⟨(Keeps.refl (fun b => b = w.heap.size + 1) _).setCell (p := ⟨w.heap.size + 1, 0, none⟩) rfl _, rfl, by rw [Hc.out]; exact Boxed.set _ hbr2, hk02.setCell (p := ⟨w.heap.size + 1, 0, none⟩) (.inl rfl) _⟩
  case done =>
   rintro W ⟨heq, hbr, hk⟩ hD
   have hcmp : cmpN x y = 0 := by
    have := heq.out
    simp only [Nat.sub_self, List.drop_zero] at this
    have := limbs_inj this
    subst this
    simp [cmpN]
   have Hc := Lib.hid hcmp
   clear hcmp
   have c2 := hbr.cell
   have f2 := hbr.frozen
   have hB' := Boxed.set (.int .i64 0) hbr
   have hD' := hk.setCell (p := ⟨w.heap.size + 1, 0, none⟩) (.inl rfl) (.int .i64 0)
   gi_wp2
   have c3 := (Boxed.mark hB' (d := W0.heap.size) (by omega)).cell
   refine leave_marked (v := .int .i64 0) (mark_setCell hD (by show w.heap.size + 1 ≠ _; omega)) (by simp [results, Tryz.results136, go_sem, c3]) ⟨by rw [Hc.out], ?_⟩
   exact hE.trans ((hD'.mark (.inr ⟨by omega, by omega⟩)).below hE.size (by rintro b (h | h) <;> omega))
  case stop =>
   rintro c W ⟨rfl, hbr, hk⟩ hD
   have c2 := hbr.cell
   gi_wp2
   have c3 := (Boxed.mark hbr (d := W0.heap.size) (by omega)).cell
   refine leave_marked (v := .int .i64 (cmpN x y)) hD (by simp [results, Tryz.results136, go_sem, c3]) ⟨rfl, ?_⟩
   exact hE.trans ((hk.mark (.inr ⟨by omega, by omega⟩)).below hE.size (by rintro b (h | h) <;> omega))
 ·have hsx : siz x = n := hp.len
  have hsy : siz y = m := hq.len
  have hne : ((n : Int) != (m : Int)) = true := by rw [bne_iff_ne]; omega
  have Hx := Lib.hid hsx
  have Hy := Lib.hid hsy
  clear hsx hsy
  rcases Nat.lt_or_ge n m with hlt | hge
  ·have h1 : (n : Int) < (m : Int) := by omega
   have hcmp : cmpN x y = -1 := by
    have : x < y := by
     rcases Nat.lt_or_ge x y with h | h
     ·exact h
     ·have := siz_mono h; rw [Hx.out, Hy.out] at this; omega
    unfold cmpN; rw [if_pos this]
   have Hc := Lib.hid hcmp
   clear hcmp
   go_enter Tryz.func136, Tryz.ntmps136
   go_wp2_with fail
   refine (sign_any _ _).mono ?_
   rintro e w' ⟨rfl, rfl⟩
   go_wp2_with fail
   exact bodyPost_ret (v := .int .i64 (-1)) (by simp [results, Tryz.results136, go_sem]) rfl ⟨by rw [Hc.out], ((Below.refl _ _).alloc (Nat.le_refl _) _).alloc (by simp) _⟩
  ·have h1 : ¬ (n : Int) < (m : Int) := by omega
   have hcmp : cmpN x y = 1 := by
    have : y < x := by
     rcases Nat.lt_or_ge y x with h | h
     ·exact h
     ·have := siz_mono h; rw [Hx.out, Hy.out] at this; omega
    unfold cmpN; rw [if_neg (by omega), if_pos this]
   have Hc := Lib.hid hcmp
   clear hcmp
   go_enter Tryz.func136, Tryz.ntmps136
   go_wp2_with fail
   refine (sign_any _ _).mono ?_
   rintro e w' ⟨rfl, rfl⟩
   go_wp2_with fail
   exact bodyPost_ret (v := .int .i64 1) (by simp [results, Tryz.results136, go_sem]) rfl ⟨by rw [Hc.out], ((Below.refl _ _).alloc (Nat.le_refl _) _).alloc (by simp) _⟩
end Go.Proofs.YtndgaecfeaedeaaGreat
