/- Walks of package whole: the long division. Walks of package whole on numbers: made, Valid. Walks of package whole on numbers: valid, Same. -/
import Derived.Test.YtndgaecfeaedeaaGreatG5
set_option linter.unusedSimpArgs false
set_option linter.unusedVariables false
namespace Go.Proofs.YtndgaecfeaedeaaGreat
open Go.RowKit Lex Mth
attribute [local go_sem] run_indexAt_at add_zero_map Oper.semAt_some at_zero

/-- The first statement of the long division: two shifted numbers and two boxes for them, in whatever order; what each operation gives, what it changes, how they stand to each other. -/
def d7R (k : Nat) : Bool := k == 2 || k == 5 || k == 8 || k == 9 || k == 10
def d7S (n m : Nat) (k : Nat) (v : Value) : Prop := match k with
 | 2 => ∃ g, v = .slice (some ⟨g, 0, none⟩) (n + 1) (n + 1)
 | 5 => ∃ g, v = .slice (some ⟨g, 0, none⟩) (m + 1) (m + 1)
 | 10 => ∃ p s, v = .tuple #[p, s]
 | _ => ∃ g, v = .pointer (some ⟨g, 0, none⟩)
def d7A (B n m x y b : Nat) (k : Nat) (v : Value) (w : World) : Prop := match k with
 | 2 => ∀ g, v = .slice (some ⟨g, 0, none⟩) (n + 1) (n + 1) → B ≤ g ∧ ∃ l, Row w g l ∧ l.length = n + 1 ∧ Lim l ∧ val l = x * 2 ^ b
 | 5 => ∀ g, v = .slice (some ⟨g, 0, none⟩) (m + 1) (m + 1) → B ≤ g ∧ ∃ l, Row w g l ∧ l.length = m + 1 ∧ Lim l ∧ val l = y * 2 ^ b
 | 8 => ∀ g, v = .pointer (some ⟨g, 0, none⟩) → B ≤ g ∧ ∃ p n c, Boxed w g 36 (.slice p n c)
 | 9 => ∀ g, v = .pointer (some ⟨g, 0, none⟩) → B ≤ g ∧ Boxed w g 36 (.slice none 0 0)
 | 10 => ∀ g s, v = .tuple #[.pointer (some ⟨g, 0, none⟩), s] → Boxed w g 36 s
 | _ => True
def d7Ch (B : Nat) (k : Nat) (v : Value) (w w' : World) : Prop := match k with
 | 10 => ∃ g p n c p' n' c', v = .tuple #[.pointer (some ⟨g, 0, none⟩), .slice p n c] ∧ B ≤ g ∧ Boxed w g 36 (.slice p' n' c') ∧ w' = w.setCell ⟨g, 0, none⟩ (.slice p n c)
 | 8 => Ext w w' ∧ ∀ g, v = .pointer (some ⟨g, 0, none⟩) → w.heap.size ≤ g
 | 9 => Ext w w' ∧ ∀ g, v = .pointer (some ⟨g, 0, none⟩) → w.heap.size ≤ g
 | _ => Ext w w'
def d7X (i : Nat) (v : Value) (k : Nat) (u : Value) : Prop := match i, k with
 | 8, 9 => ∀ g g', v = .pointer (some ⟨g, 0, none⟩) → u = .pointer (some ⟨g', 0, none⟩) → g ≠ g'
 | 9, 8 => ∀ g g', v = .pointer (some ⟨g, 0, none⟩) → u = .pointer (some ⟨g', 0, none⟩) → g ≠ g'
 | 2, 5 => ∀ g g' n' m', v = .slice (some ⟨g, 0, none⟩) n' n' → u = .slice (some ⟨g', 0, none⟩) m' m' → g ≠ g'
 | 8, 10 => ∃ s, u = .tuple #[v, s]
 | 2, 10 => ∃ p, u = .tuple #[p, v]
 | 9, 10 => ∀ g g' s, v = .pointer (some ⟨g, 0, none⟩) → u = .tuple #[.pointer (some ⟨g', 0, none⟩), s] → g ≠ g'
 | _, _ => True
theorem row_ne_box {w : World} {g b : Nat} {l : List Nat} {t : TypeId} {v : Value} (h : Row w g l) (hb : Boxed w b t v) (ht : t ≠ 153) : g ≠ b := fun e => by
 subst e
 have h1 : w.heap[g]? = _ := h
 have h2 : w.heap[g]? = _ := hb
 rw [h1] at h2
 simp only [Option.some.injEq, Obj.cells.injEq] at h2
 exact ht h2.2.1.symm
theorem d7ext {B n m x y b : Nat} {i : Nat} {v : Value} {w w' : World} (h : d7A B n m x y b i v w) (e : Ext w w') : d7A B n m x y b i v w' := by
 unfold d7A at *
 split
 ·intro g hg; obtain ⟨h1, l, h2, h3⟩ := h g hg; exact ⟨h1, l, h2.ext e, h3⟩
 ·intro g hg; obtain ⟨h1, l, h2, h3⟩ := h g hg; exact ⟨h1, l, h2.ext e, h3⟩
 ·intro g hg; obtain ⟨h1, p, n, c, h2⟩ := h g hg; exact ⟨h1, p, n, c, Boxed.ext h2 e⟩
 ·intro g hg; obtain ⟨h1, h2⟩ := h g hg; exact ⟨h1, Boxed.ext h2 e⟩
 ·intro g s hg; exact Boxed.ext (h g s hg) e
 ·trivial
theorem d7ch_ext {B k : Nat} {v : Value} {w w' : World} (hk : k ≠ 10) (h : d7Ch B k v w w') : Ext w w' := by
 unfold d7Ch at h
 split at h
 ·exact absurd rfl hk
 ·exact h.1
 ·exact h.1
 ·exact h
theorem d7hA {B n m x y b : Nat} (i : Nat) (v : Value) (k : Nat) (u : Value) (w w' : World) (hne : i ≠ k) (h : d7A B n m x y b i v w) (hc : d7Ch B k u w w') (hx : d7X i v k u) : d7A B n m x y b i v w' := by
 by_cases hk : k = 10
 ·subst hk
  obtain ⟨g, p, n1, c, p', n', c', rfl, hB, hb, rfl⟩ := hc
  unfold d7A at *
  split
  ·intro g' hg; obtain ⟨h1, l, h2, h3⟩ := h g' hg
   exact ⟨h1, l, h2.other (a := ⟨g, 0, none⟩) (Ne.symm (row_ne_box h2 hb (by decide))) _, h3⟩
  ·intro g' hg; obtain ⟨h1, l, h2, h3⟩ := h g' hg
   exact ⟨h1, l, h2.other (a := ⟨g, 0, none⟩) (Ne.symm (row_ne_box h2 hb (by decide))) _, h3⟩
  ·intro g' hg; obtain ⟨h1, p2, n2, c2, h2⟩ := h g' hg
   by_cases e : g' = g
   ·subst e; exact ⟨h1, _, _, _, Boxed.set _ h2⟩
   ·exact ⟨h1, _, _, _, Boxed.other h2 e _⟩
  ·intro g' hg; obtain ⟨h1, h2⟩ := h g' hg
   exact ⟨h1, Boxed.other h2 (hx g' g _ hg rfl) _⟩
  ·exact absurd rfl hne
  ·trivial
 ·exact d7ext h (d7ch_ext hk hc)

theorem d7hX {B n m x y b : Nat} {ops : Array Oper} (h8 : pred ops 10 8 = true) (h9 : pred ops 10 9 = true) (h2 : pred ops 10 2 = true) (h5 : pred ops 5 2 = true) (i : Nat) (v : Value) (k : Nat) (u : Value) (w w' : World) (hne : i ≠ k) (hi : d7R i = true) (hk : d7R k = true)
    (hp : pred ops k i = false) (hp2 : pred ops i k = false) (hA : d7A B n m x y b i v w) (hC : d7Ch B k u w w') : d7X i v k u ∧ d7X k u i v := by
 have hi' : i = 2 ∨ i = 5 ∨ i = 8 ∨ i = 9 ∨ i = 10 := by simp [d7R] at hi; omega
 have hk' : k = 2 ∨ k = 5 ∨ k = 8 ∨ k = 9 ∨ k = 10 := by simp [d7R] at hk; omega
 clear hi hk
 have e89 : ∀ (g g' : Nat) (t : TypeId) (z : Value), Boxed w g t z → w.heap.size ≤ g' → g ≠ g' := fun g g' t z hb hg e => by have := hb.lt; omega
 rcases hi' with rfl | rfl | rfl | rfl | rfl <;> rcases hk' with rfl | rfl | rfl | rfl | rfl <;> first
  | exact absurd rfl hne
  | exact ⟨trivial, trivial⟩
  | (rw [h8] at hp; cases hp)
  | (rw [h9] at hp; cases hp)
  | (rw [h2] at hp; cases hp)
  | (rw [h8] at hp2; cases hp2)
  | (rw [h9] at hp2; cases hp2)
  | (rw [h2] at hp2; cases hp2)
  | (rw [h5] at hp; cases hp)
  | (rw [h5] at hp2; cases hp2)
  | skip
 ·refine ⟨fun g g' hg hg' => ?_, fun g g' hg hg' => ?_⟩
  ·obtain ⟨_, _, _, _, hb⟩ := hA g hg
   exact e89 g g' _ _ hb (hC.2 g' hg')
  ·obtain ⟨_, _, _, _, hb⟩ := hA g' hg'
   exact Ne.symm (e89 g' g _ _ hb (hC.2 g hg))
 ·refine ⟨fun g g' hg hg' => ?_, fun g g' hg hg' => ?_⟩
  ·exact e89 g g' _ _ (hA g hg).2 (hC.2 g' hg')
  ·exact Ne.symm (e89 g' g _ _ (hA g' hg').2 (hC.2 g hg))

set_option maxRecDepth 100000 in
theorem div_long (p q : Option Addr) (n cp m cq : Nat) (x y : Nat) (w : World) (hp : U16 w p n cp (limbs x)) (hq : U16 w q m cq (limbs y)) (hxy : y ≤ x) (hm : 2 ≤ m) (hb : n ≤ 1048576) (hmb : m ≤ 1048576) :
    Calls Tryz.prog 204 #[.slice p n cp, .slice q m cq] w fun e w' => DivR w.heap.size x y e w' ∧ Ext w w' := by
 have hc' : ¬ cmpN x y < 0 := by unfold cmpN; rw [if_neg (by omega)]; split <;> simp
 have hE1 : Ext w (w.alloc (.cells #[.slice none 0 0] 36)) := (Below.refl _ _).alloc (Nat.le_refl _) _
 have hB1 : Boxed (w.alloc (.cells #[.slice none 0 0] 36)) w.heap.size 36 (.slice none 0 0) := Boxed.new _ _ _
 have hm2 := hq.reach
 have hm1 : ((m : Int) == 1) = false := by simp; omega
 have hhq := hq.has
 have hy0 : 0 < dig (limbs y) (m - 1) := by
  have := limbs_last (n := y) (fun h => by have := hq.len; rw [h, limbs_zero] at this; simp at this; omega)
  rw [hq.len] at this
  exact Nat.pos_of_ne_zero this
 have hyl := hq.lt (m - 1)
 have hmn : m ≤ n := by have h1 : siz x = n := hp.len; have h2 : siz y = m := hq.len; rw [← h1, ← h2]; exact siz_mono hxy
 have Hxy := Lib.hid hxy
 clear hxy
 refine (callsIn_wide (n := 2)).1 ?_
 refine callsIn_of_wp_marks Tryz.func204 rfl trivial ?_ rfl
 simp only [Tryz.ntmps204, List.size_toArray, List.length_cons, List.length_nil, Nat.reduceAdd, Nat.reduceSub, Array.replicate_succ, Array.replicate_zero, List.push_toArray, List.append_toArray, List.nil_append, List.cons_append]
 gi_wp2_with fail
 refine Go_wide (compare_any _ _ _ _ _ _ x y _ (hp.ext hE1) (hq.ext hE1)) ?_
 rintro e w2 ⟨rfl, hE2⟩
 have cy := ((hq.ext hE1).ext hE2).cell (m - 1) (by omega)
 gi_wp2_with fail
 refine Go_wide (lz16_any _ _ hyl hy0) ?_
 rintro e w3 ⟨⟨b, rfl, hb16, hn1, hn2⟩, rfl⟩
 gi_wp2_with fail
 have hEb : Ext w2 (w2.alloc (.cells #[.int .i64 (m : Nat)] 3)) := (Below.refl _ _).alloc (Nat.le_refl _) _
 have hBm : Boxed (w2.alloc (.cells #[.int .i64 (m : Nat)] 3)) w2.heap.size 3 (.int .i64 (m : Nat)) := Boxed.new _ _ _
 obtain ⟨W, hW⟩ : ∃ W, w2.alloc (.cells #[.int .i64 (m : Nat)] 3) = W := ⟨_, rfl⟩
 rw [hW] at hEb hBm ⊢
 have hBq := Boxed.ext (Boxed.ext hB1 hE2) hEb
 have hpW := ((hp.ext hE1).ext hE2).ext hEb
 have hqW := ((hq.ext hE1).ext hE2).ext hEb
 have hEW : Ext w W := hE1.trans ((hE2.trans (hEb.mono hE2.size)).mono hE1.size)
 have hsz2 : w.heap.size < w2.heap.size := by have := hE2.size; simp at this; omega
 have hszW : W.heap.size = w2.heap.size + 1 := by rw [← hW]; simp
 have cm := hBm.cell
 have HszW := Lib.hid hszW
 clear hW cy hszW
 have keepI : ∀ w1 w3 : World, Keeps (fun x => W.heap.size ≤ x) W w1 → Ext w1 w3 → Keeps (fun x => W.heap.size ≤ x) W w3 := fun w1 w3 h1 h2 => h1.trans (.of_ext h2)
 refine Lex.regionIn 11 d7R (d7S n m) (d7A W.heap.size n m x y b) (fun w1 => Keeps (fun x => W.heap.size ≤ x) W w1) (d7Ch W.heap.size) d7X UE (.inl rfl) (by kernel_rfl) (by kernel_rfl) (by kernel_rfl)
  (fun i v k u w w' hne _ _ h1 h2 h3 => d7hA i v k u w w' hne h1 h2 h3) ?hX (fun _ _ _ _ _ _ _ _ _ _ => trivial) ((Keeps.refl _ _).drew) (fun _ _ => trivial) ?_
 case hX => exact fun i v k u w w' hne hi hk hp hp2 hA hC => d7hX (by kernel_rfl) (by kernel_rfl) (by kernel_rfl) (by kernel_rfl) i v k u w w' hne hi hk hp hp2 hA hC
 iterate 2
  refine Walk.one (x := ?_) rfl rfl (fun w1 hI hL K hK => ?_) ?_
  rotate_left
  ·go_simp
   repeat (first | (go_ints; try go_simp) | (simp only [↓IntWalk.iteOmega]; try go_simp))
   exact hK
  simp only [Pq1]
 refine Walk.toldX rfl rfl ⟨_, 0, rfl⟩ (fun w1 hI _ hL => upon_eff ?_) ?_
 ·go_simp
  refine (shifted_any _ _ _ x b _ (hpW.ext (hI.ext (fun _ h => h))) hb16 hb).mono ?_
  rintro e w3 ⟨g, l, rfl, hg, hrow, hlen, hlim, hval, hext⟩
  refine ⟨_, rfl, ⟨g, rfl⟩, ?_, keepI _ _ hI hext, hext, fun p hp _ => by cases hp⟩
  intro g' hg'
  simp only [Value.slice.injEq, Option.some.injEq, Addr.mk.injEq, and_true] at hg'
  subst hg'
  exact ⟨Nat.le_trans hI.size hg, l, hrow, hlen, hlim, hval⟩
 rintro v2 ⟨g2, rfl⟩
 simp only [Pq1]
 iterate 2
  refine Walk.one (x := ?_) rfl rfl (fun w1 hI hL K hK => ?_) ?_
  rotate_left
  ·go_simp
   repeat (first | (go_ints; try go_simp) | (simp only [↓IntWalk.iteOmega]; try go_simp))
   exact hK
  simp only [Pq1]
 refine Walk.toldX rfl rfl ⟨_, 0, rfl⟩ (fun w1 hI _ hL => upon_eff ?_) ?_
 ·have h2w := hL.1 (2, .slice (some ⟨g2, 0, none⟩) (n + 1) (n + 1)) (by simp) (by kernel_rfl) g2 rfl
  go_simp
  refine (shifted_any _ _ _ y b _ (hqW.ext (hI.ext (fun _ h => h))) hb16 hmb).mono ?_
  rintro e w3 ⟨g, l, rfl, hg, hrow, hlen, hlim, hval, hext⟩
  refine ⟨_, rfl, ⟨g, rfl⟩, ?_, keepI _ _ hI hext, hext, fun p hp _ => ?_⟩
  ·intro g' hg'
   simp only [Value.slice.injEq, Option.some.injEq, Addr.mk.injEq, and_true] at hg'
   subst hg'
   exact ⟨Nat.le_trans hI.size hg, l, hrow, hlen, hlim, hval⟩
  ·simp only [List.mem_singleton] at hp
   subst hp
   refine ⟨?_, trivial⟩
   intro g1 g1' n' m' h1 h1'
   simp only [Value.slice.injEq, Option.some.injEq, Addr.mk.injEq, and_true] at h1 h1'
   obtain ⟨_, l', hr', _⟩ := h2w
   have := hr'.lt
   omega
 rintro v5 ⟨g5, rfl⟩
 simp only [Pq1]
 refine Walk.one (x := ?_) rfl rfl (fun w1 hI hL K hK => ?_) ?_
 rotate_left
 ·have c := hI.cell cm (by show ¬ W.heap.size ≤ w2.heap.size; have := HszW.out; omega)
  go_simp
  repeat (first | (go_ints; try go_simp) | (simp only [↓IntWalk.iteOmega]; try go_simp))
  exact hK
 simp only [Pq1]
 refine Walk.one (x := ?_) rfl rfl (fun w1 hI hL K hK => ?_) ?_
 rotate_left
 ·go_simp
  repeat (first | (go_ints; try go_simp) | (simp only [↓IntWalk.iteOmega]; try go_simp))
  exact hK
 simp only [Pq1]
 refine Walk.toldX rfl rfl ⟨_, 0, rfl⟩ (fun w1 hI _ hL => upon_eff ?_) ?_
 ·go_simp
  refine ⟨⟨_, rfl⟩, ?_, keepI _ _ hI ((Below.refl _ _).alloc (Nat.le_refl _) _), ⟨(Below.refl _ _).alloc (Nat.le_refl _) _, ?_⟩, fun p hp _ => ?_⟩
  ·intro g' hg'
   simp only [Value.pointer.injEq, Option.some.injEq, Addr.mk.injEq, and_true] at hg'
   subst hg'
   exact ⟨hI.size, none, 0, 0, Boxed.new _ _ _⟩
  ·intro g' hg'
   simp only [Value.pointer.injEq, Option.some.injEq, Addr.mk.injEq, and_true] at hg'
   subst hg'
   exact Nat.le_refl _
  ·simp only [List.mem_cons, List.not_mem_nil, or_false] at hp
   rcases hp with rfl | rfl
   ·exact ⟨trivial, trivial⟩
   ·exact ⟨trivial, trivial⟩
 rintro v8 ⟨g8, rfl⟩
 simp only [Pq1]
 refine Walk.toldX rfl rfl ⟨_, 0, rfl⟩ (fun w1 hI _ hL => upon_eff ?_) ?_
 ·go_simp
  refine ⟨⟨_, rfl⟩, ?_, keepI _ _ hI ((Below.refl _ _).alloc (Nat.le_refl _) _), ⟨(Below.refl _ _).alloc (Nat.le_refl _) _, ?_⟩, fun p hp hpr => ?_⟩
  ·intro g' hg'
   simp only [Value.pointer.injEq, Option.some.injEq, Addr.mk.injEq, and_true] at hg'
   subst hg'
   exact ⟨hI.size, Boxed.new _ _ _⟩
  ·intro g' hg'
   simp only [Value.pointer.injEq, Option.some.injEq, Addr.mk.injEq, and_true] at hg'
   subst hg'
   exact Nat.le_refl _
  ·simp only [List.mem_cons, List.not_mem_nil, or_false] at hp
   rcases hp with rfl | rfl | rfl
   ·exact absurd (hpr.symm.trans (by kernel_rfl)) Bool.false_ne_true.symm
   ·exact ⟨trivial, trivial⟩
   ·exact ⟨trivial, trivial⟩
 rintro v9 ⟨g9, rfl⟩
 simp only [Pq1]
 refine Walk.toldX rfl rfl ⟨_, .slice none 0 0, .slice none 0 0, rfl⟩ (fun w1 hI _ hL => eff_store (.tuple #[.pointer (some ⟨g8, 0, none⟩), .slice (some ⟨g2, 0, none⟩) (n + 1) (n + 1)]) rfl ?_) ?_
 ·obtain ⟨hB8, _, _, _, h8⟩ := hL.1 (8, .pointer (some ⟨g8, 0, none⟩)) (by simp) (by kernel_rfl) g8 rfl
  have hx := hL.2 (8, .pointer (some ⟨g8, 0, none⟩)) (by simp) (9, .pointer (some ⟨g9, 0, none⟩)) (by simp) (by kernel_rfl) (by kernel_rfl) (by simp) g8 g9 rfl rfl
  have c8 := h8.cell
  have f8 := h8.frozen
  clear hL
  go_simp
  refine ⟨⟨_, _, rfl⟩, ?_, hI.setCell (p := ⟨g8, 0, none⟩) hB8 _, ⟨g8, _, _, _, _, _, _, rfl, hB8, h8, rfl⟩, fun p hp hpr => ?_⟩
  ·intro g' s hg'
   simp only [Value.tuple.injEq, Array.mk.injEq, List.cons.injEq, Value.pointer.injEq, Option.some.injEq, Addr.mk.injEq, and_true] at hg'
   obtain ⟨rfl, rfl⟩ := hg'
   exact Boxed.set _ h8
  ·simp only [List.mem_cons, List.not_mem_nil, or_false] at hp
   rcases hp with rfl | rfl | rfl | rfl
   ·refine ⟨?_, trivial⟩
    intro g g' s hg hg'
    simp only [Value.pointer.injEq, Option.some.injEq, Addr.mk.injEq, and_true] at hg
    simp only [Value.tuple.injEq, Array.mk.injEq, List.cons.injEq, Value.pointer.injEq, Option.some.injEq, Addr.mk.injEq, and_true] at hg'
    subst hg
    rw [← hg'.1]; exact Ne.symm hx
   ·exact ⟨⟨_, rfl⟩, trivial⟩
   ·exact ⟨trivial, trivial⟩
   ·exact ⟨⟨_, rfl⟩, trivial⟩
 rintro v10 ⟨p10, s10, rfl⟩
 simp only [Act.put]
 refine Walk.nilX fun w3 hI3 hL3 hX3 => ?_
 simp only [List.drop_succ_cons, List.drop_nil, List.drop_zero]
 obtain ⟨hg2, l2, hr2, hlen2, hlim2, hval2⟩ := hL3 (2, .slice (some ⟨g2, 0, none⟩) (n + 1) (n + 1)) (by simp) g2 rfl
 obtain ⟨hg5, l5, hr5, hlen5, hlim5, hval5⟩ := hL3 (5, .slice (some ⟨g5, 0, none⟩) (m + 1) (m + 1)) (by simp) g5 rfl
 obtain ⟨hg9, hb9⟩ := hL3 (9, .pointer (some ⟨g9, 0, none⟩)) (by simp) g9 rfl
 obtain ⟨hg8, _⟩ := hL3 (8, .pointer (some ⟨g8, 0, none⟩)) (by simp) g8 rfl
 have hx89 := hX3 (8, .pointer (some ⟨g8, 0, none⟩)) (by simp) (9, .pointer (some ⟨g9, 0, none⟩)) (by simp) (by simp) g8 g9 rfl rfl
 obtain ⟨s11, hx8⟩ := hX3 (8, .pointer (some ⟨g8, 0, none⟩)) (by simp) (10, .tuple #[p10, s10]) (by simp) (by simp)
 obtain ⟨p11, hx2⟩ := hX3 (2, .slice (some ⟨g2, 0, none⟩) (n + 1) (n + 1)) (by simp) (10, .tuple #[p10, s10]) (by simp) (by simp)
 have hx25 := hX3 (2, .slice (some ⟨g2, 0, none⟩) (n + 1) (n + 1)) (by simp) (5, .slice (some ⟨g5, 0, none⟩) (m + 1) (m + 1)) (by simp) (by simp) g2 g5 _ _ rfl rfl
 have hb8 := hL3 (10, .tuple #[p10, s10]) (by simp)
 simp only [Value.tuple.injEq, Array.mk.injEq, List.cons.injEq, and_true] at hx8 hx2
 obtain ⟨rfl, rfl⟩ := hx8
 obtain ⟨rfl, rfl⟩ := hx2
 replace hb8 := hb8 g8 _ rfl
 clear hL3 hX3
 have c9 := hb9.cell
 have f9 := hb9.frozen
 obtain ⟨W4, hW4⟩ : ∃ W4, w3.setCell ⟨g9, 0, none⟩ (.slice (some ⟨g5, 0, none⟩) m (m + 1)) = W4 := ⟨_, rfl⟩
 have hr2' := hr2.other (a := ⟨g9, 0, none⟩) (Ne.symm (row_ne_box hr2 hb9 (by decide))) (.slice (some ⟨g5, 0, none⟩) m (m + 1))
 have hr5' := hr5.other (a := ⟨g9, 0, none⟩) (Ne.symm (row_ne_box hr5 hb9 (by decide))) (.slice (some ⟨g5, 0, none⟩) m (m + 1))
 have hb9' := Boxed.set (.slice (some ⟨g5, 0, none⟩) m (m + 1)) hb9
 have hb8' := Boxed.other hb8 hx89 (.slice (some ⟨g5, 0, none⟩) m (m + 1))
 have hk4 := hI3.setCell (p := ⟨g9, 0, none⟩) hg9 (.slice (some ⟨g5, 0, none⟩) m (m + 1))
 rw [hW4] at hr2' hr5' hb9' hb8' hk4
 have hbm' := Boxed.keeps hBm hk4 (by have := HszW.out; omega)
 have hbq' := Boxed.keeps hBq hk4 (by have := HszW.out; omega)
 have cq' := hbq'.cell
 have fq' := hbq'.frozen
 have cm' := hbm'.cell
 have c8' := hb8'.cell
 have hmk := run_make16 W4 ((n : Int) + 1 - m) ((n : Int) + 1 - m) (n + 1 - m) (n + 1 - m) (by omega) (by omega) (by omega) (by omega)
 have b1 := hbq'.lt
 have b2 := hbm'.lt
 have b3 := hb8'.lt
 have b4 := hb9'.lt
 gi_wp2_with (first | rw [hW4] | fail)
 refine Go_wide (down_any _ _ _ _) ?_
 rintro e w' ⟨rfl, rfl⟩
 gi_wp2_with fail
 obtain ⟨W5, hW5⟩ : ∃ W5, ((W4.setCell ⟨w.heap.size, 0, none⟩ (.slice (some ⟨W4.heap.size, 0, none⟩) (n + 1 - m) (n + 1 - m))).alloc (.cells (zrow (n + 1 - m)) 153)).alloc (.cells #[.slice (some ⟨W4.heap.size, 0, none⟩) (n + 1 - m) (n + 1 - m)] 36) = W5 := ⟨_, rfl⟩
 have kr : ∀ {g l}, Row W4 g l → Row W5 g l := fun h => by rw [← hW5]; exact ((h.other (a := ⟨w.heap.size, 0, none⟩) (Ne.symm (row_ne_box h hbq' (by decide))) _).alloc _).alloc _
 have kb : ∀ {b t v}, Boxed W4 b t v → b ≠ w.heap.size → Boxed W5 b t v := fun h hne => by rw [← hW5]; exact ((Boxed.other h hne _).alloc _).alloc _
 have hr2q := kr hr2'
 have hr5q := kr hr5'
 have hb8q := kb hb8' (by have := HszW.out; omega)
 have hb9q := kb hb9' (by have := HszW.out; omega)
 have hbmq := kb hbm' (by omega)
 have hbqq : Boxed W5 w.heap.size 36 (.slice (some ⟨W4.heap.size, 0, none⟩) (n + 1 - m) (n + 1 - m)) := by rw [← hW5]; exact ((Boxed.set _ hbq').alloc _).alloc _
 have hrqq : Row W5 W4.heap.size (List.replicate (n + 1 - m) 0) := by rw [← hW5]; exact (Row.zerosAt _ (by simp)).alloc _
 have hbd : Boxed W5 (W4.heap.size + 1) 36 (.slice (some ⟨W4.heap.size, 0, none⟩) (n + 1 - m) (n + 1 - m)) := by rw [← hW5]; exact Boxed.newAt _ _ (by simp)
 have hk5 : Keeps (fun x => w.heap.size ≤ x) w W5 := by
  rw [← hW5]
  exact ((((Keeps.of_ext hEW).trans (hk4.mono fun x _ hx => by have := HszW.out; omega)).setCell (p := ⟨w.heap.size, 0, none⟩) (Nat.le_refl _) _).alloc _).alloc _
 have hsz5 : W5.heap.size = W4.heap.size + 2 := by rw [← hW5]; simp
 have hg2lt := hr2'.lt
 have hg5lt := hr5'.lt
 rw [hW5]
 have hsy : siz y = m := hq.len
 have hsx : siz x = n := hp.len
 obtain ⟨hvV, hvlt, hvn, hvge⟩ := shl_divisor hsy (by omega) hlen5 hlim5 hval5 hn1 hn2 hb16
 have htop := shl_top (n := n) (Nat.le_of_eq hsx) hlen2 hval2 hb16 (by omega) hmn hvge
 obtain ⟨v, hv⟩ : ∃ v, v = y * 2 ^ b := ⟨_, rfl⟩
 rw [← hv] at hvV hvlt hvge htop
 have hA0 : DivAt l2 (List.replicate (n + 1 - m) 0) l2 v (n + 1 - m) := DivAt.start hlim2 (lim_replicate _) (by simp) htop
 have hv0 : 0 < v := by have := hA0.small; omega
 have HvV := Lib.hid hvV
 have Hvlt := Lib.hid hvlt
 have Hvn := Lib.hid hvn
 have Hv := Lib.hid hv
 clear hW5 kr kb hvV hvlt hvn hvge htop hv hn1 hn2 hsy hsx
 refine wp_range (gf := 208) rfl (enters_of Tryz.func208 (by kernel_rfl) rfl)
     (down_gives_row W4.heap.size (n + 1 - m) (n + 1 - m) (W4.heap.size + 1) (fun b => b = g2 ∨ b = W4.heap.size) W5 hbd (by omega) (by omega))
     (Below.refl _ _) (fun _ k vs W hV => by obtain ⟨d, rfl⟩ := hV; rfl) (fun b hb h => by have h1 := h.1; omega)
     (fun k W => ∃ L Q, DivAt l2 Q L v (n + 1 - m - k) ∧ Q.length = n + 1 - m ∧ Row W g2 L ∧ Row W W4.heap.size Q ∧ Keeps (fun b => b = g2 ∨ b = W4.heap.size ∨ LoopBlocks W5 0 b) W5 W) (fun c W => False)
     ?hI (fun c A C h hk => h) ⟨_, _, hA0, by simp, hr2q, hrqq, Keeps.refl _ _⟩ (fun k W h => by obtain ⟨L, Q, _, h2, _, h3, _⟩ := h; exact ⟨Q, h2, h3⟩) ?round ?done ?stop
 case hI =>
  rintro k A C ⟨L, Q, h1, h2, h3, h4, h5⟩ hk
  exact ⟨L, Q, h1, h2, h3.keeps hk (fun hb => by have := hb.1; omega), h4.keeps hk (fun hb => by have := hb.1; omega), h5.trans (hk.mono fun b _ hb => .inr (.inr hb))⟩
 case stop => rintro c W ⟨⟩
 case round =>
  rintro lp k vs W ⟨L, Q, hA, hQ, hr2w, hrqw, hkw⟩ hkn ⟨dd, rfl⟩ hWs K hK
  gi_wp2
  refine hK _ _ (Keeps.refl _ _) ?_
  clear hK
  intro Wb hk2 hs2
  have hrL := hr2w.keeps hk2 (fun hb => by have := hb.1; omega)
  have hrQ := hrqw.keeps hk2 (fun hb => by have := hb.1; omega)
  have hkb := hkw.trans (hk2.mono fun b _ hb => .inr (.inr hb))
  have b8 := Boxed.keeps hb8q hkb (by have := row_ne_box hr2q hb8q (by decide); rintro (h | h | h) <;> omega)
  have b9 := Boxed.keeps hb9q hkb (by have := row_ne_box hr2q hb9q (by decide); rintro (h | h | h) <;> omega)
  have bm := Boxed.keeps hbmq hkb (by have := row_ne_box hr2q hbmq (by decide); rintro (h | h | h) <;> omega)
  have bq := Boxed.keeps hbqq hkb (by have := row_ne_box hr2q hbqq (by decide); rintro (h | h | h) <;> omega)
  have r5 := hr5q.keeps hkb (by rintro (h | h | h) <;> omega)
  obtain ⟨i, hi⟩ : ∃ i, i = n + 1 - m - 1 - k := ⟨_, rfl⟩
  rw [show n + 1 - m - k = i + 1 by omega] at hA
  rw [← hi]
  obtain ⟨e1, hAl, hUl, hUlim, -, hsmall, -⟩ := hA.window (m := m) (by omega) (Nat.le_of_lt Hvlt.out)
  have hrU : Row Wb g2 (L.take i ++ (L.drop i).take (m + 1) ++ L.drop (i + m + 1)) := by rw [← e1]; exact hrL
  have hrV : Row Wb g5 ([] ++ l5.take m ++ l5.drop m) := by rw [List.nil_append, List.take_append_drop]; exact r5
  obtain ⟨qd, hqd⟩ : ∃ q, q = val ((L.drop i).take (m + 1)) / v := ⟨_, rfl⟩
  have hqb : qd < 65536 := by rw [hqd, Nat.div_lt_iff_lt_mul hv0, Nat.mul_comm]; exact hsmall
  have cq := bq.cell
  have c8 := b8.cell
  have c9 := b9.cell
  have cm := bm.cell
  have lt1 := bq.lt
  have lt2 := b8.lt
  have lt3 := b9.lt
  have lt4 := bm.lt
  have hik : i + m + 1 ≤ n + 1 := by omega
  have hin : i < n + 1 - m := by omega
  have hne8 := row_ne_box hrL b8 (by decide)
  have hne9 := row_ne_box hrL b9 (by decide)
  have hnem := row_ne_box hrL bm (by decide)
  have hneq := row_ne_box hrL bq (by decide)
  have Hi := Lib.hid hi
  have Hqd := Lib.hid hqd
  clear hi hqd e1
  gi_wp2_with fail
  refine Lex.regionIn 12 (fun k => k == 10) (fun _ u => u = .int .u16 (qd : Nat)) (fun _ _ w1 => ∃ U', U'.length = m + 1 ∧ Lim U' ∧ val U' = val ((L.drop i).take (m + 1)) % v ∧ Row w1 g2 (L.take i ++ U' ++ L.drop (i + m + 1)))
   (fun w1 => Keeps (fun x => x = g2) Wb w1) (fun _ _ w1 w2 => Keeps (fun x => x = g2) w1 w2) XE (fun _ w1 => Row w1 g2 (L.take i ++ (L.drop i).take (m + 1) ++ L.drop (i + m + 1))) (.inr ⟨_, rfl⟩) (by kernel_rfl) (by kernel_rfl) (by kernel_rfl)
   (fun i v k u w w' hne hi hk _ _ _ => absurd ((by simpa using hi : i = 10).trans (by simpa using hk : k = 10).symm) hne) (fun _ _ _ _ _ _ _ _ _ _ _ _ _ => ⟨trivial, trivial⟩)
   (fun i k u w w' hne hi hk _ _ => absurd ((by simpa using hi : i = 10).trans (by simpa using hk : k = 10).symm) hne) (Keeps.refl _ _).drew (fun _ _ => hrU) ?_
  refine Walk.one (x := ?_) rfl rfl (fun w1 hI hL K hK => ?_) ?_
  rotate_left
  ·have c := hI.cell cq (by show ¬ w.heap.size = g2; omega)
   go_simp
   repeat (first | (go_ints; try go_simp) | (simp only [↓IntWalk.iteOmega]; try go_simp))
   exact hK
  simp only [Pq1]
  refine Walk.one (x := ?_) rfl rfl (fun w1 hI hL K hK => ?_) ?_
  rotate_left
  ·go_simp
   repeat (first | (go_ints; try go_simp) | (simp only [↓IntWalk.iteOmega]; try go_simp))
   exact hK
  simp only [Pq1]
  refine Walk.one (x := ?_) rfl rfl (fun w1 hI hL K hK => ?_) ?_
  rotate_left
  ·have c := hI.cell c8 (by show ¬ g8 = g2; omega)
   go_simp
   repeat (first | (go_ints; try go_simp) | (simp only [↓IntWalk.iteOmega]; try go_simp))
   exact hK
  simp only [Pq1]
  iterate 2
   refine Walk.one (x := ?_) rfl rfl (fun w1 hI hL K hK => ?_) ?_
   rotate_left
   ·go_simp
    repeat (first | (go_ints; try go_simp) | (simp only [↓IntWalk.iteOmega]; try go_simp))
    exact hK
   simp only [Pq1]
  refine Walk.one (x := ?_) rfl rfl (fun w1 hI hL K hK => ?_) ?_
  rotate_left
  ·have c := hI.cell cm (by show ¬ w2.heap.size = g2; omega)
   go_simp
   repeat (first | (go_ints; try go_simp) | (simp only [↓IntWalk.iteOmega]; try go_simp))
   exact hK
  simp only [Pq1]
  iterate 3
   refine Walk.one (x := ?_) rfl rfl (fun w1 hI hL K hK => ?_) ?_
   rotate_left
   ·go_simp
    repeat (first | (go_ints; try go_simp) | (simp only [↓IntWalk.iteOmega]; try go_simp))
    exact hK
   simp only [Pq1]
  refine Walk.one (x := ?_) rfl rfl (fun w1 hI hL K hK => ?_) ?_
  rotate_left
  ·have c := hI.cell c9 (by show ¬ g9 = g2; omega)
   go_simp
   repeat (first | (go_ints; try go_simp) | (simp only [↓IntWalk.iteOmega]; try go_simp))
   exact hK
  simp only [Pq1]
  refine Walk.toldK rfl rfl ⟨_, rfl⟩ (fun w1 hI hU _ K hK => ?_) ?_
  ·have hrV1 := hrV.keeps hI (by omega)
   have hl5t : (l5.take m).length = m := by simp; omega
   have hd := digit_any g2 i (n + 1 - i) g5 (m + 1) m _ _ _ _ _ w1 hU hrV1 hx25 hAl (by omega) hUl hl5t hm hmb hUlim (hlim5.take m) Hvn.out (by rw [HvV.out]; exact hsmall)
   rw [HvV.out, ← Hqd.out] at hd
   have hlen : i + m + 1 - i = m + 1 := by omega
   clear hsmall
   go_simp
   refine hd.mono ?_
   rintro e w5 ⟨rfl, U', h1, h2, h3, h4, h5⟩
   exact ⟨_, rfl, hK _ _ rfl ⟨U', h1, h2, h3, h4⟩ (hI.trans h5) h5 (fun _ _ _ => ⟨trivial, trivial⟩)⟩
  rintro v10 rfl
  simp only [Pq1]
  refine Walk.one (x := ?_) rfl rfl (fun w1 hI hL K hK => ?_) ?_
  rotate_left
  ·go_simp
   repeat (first | (go_ints; try go_simp) | (simp only [↓IntWalk.iteOmega]; try go_simp))
   exact hK
  simp only [Pq1]
  refine Walk.nil fun w4 hI4 hL4 => ?_
  obtain ⟨U', hU', lU', vU', hrow'⟩ := hL4 (10, .int .u16 (qd : Nat)) (by simp)
  clear hL4
  obtain ⟨hst, _⟩ := hA.step (m := m) (by omega) (Nat.le_of_lt Hvlt.out) hv0 (by omega) hU' lU' vU'
  rw [← Hqd.out] at hst
  have hrQ4 := hrQ.keeps hI4 (by omega)
  have cQ := hrQ4.cell (j := i) (by omega)
  have fQ := hrQ4.free i
  have hrQ5 := hrQ4.set i qd
  have hrL5 := hrow'.other (a := ⟨W4.heap.size, i, none⟩) (by show W4.heap.size ≠ g2; omega) (.int .u16 (qd : Nat))
  have hkA : Keeps (fun b => b = g2 ∨ b = W4.heap.size) Wb (w4.setCell ⟨W4.heap.size, i, none⟩ (.int .u16 (qd : Nat))) := (hI4.mono fun b _ hb => .inl hb).setCell (p := ⟨W4.heap.size, i, none⟩) (.inr rfl) _
  have hkB : Keeps (fun b => b = g2 ∨ b = W4.heap.size ∨ LoopBlocks W5 0 b) W5 (w4.setCell ⟨W4.heap.size, i, none⟩ (.int .u16 (qd : Nat))) := hkb.trans (hkA.mono fun b _ hb => hb.elim .inl fun h => .inr (.inl h))
  have Hst := Lib.hid hst
  clear hst
  simp only [List.drop_succ_cons, List.drop_zero]
  gi_wp2
  exact ⟨hkA, _, _, by rw [show n + 1 - m - (k + 1) = i by have := Hi.out; omega]; exact Hst.out, by simp [hQ], hrL5, hrQ5, hkB⟩
 case done =>
  rintro Wd ⟨L, Q, hA, hQ, hr2w, hrqw, hkw⟩ hD
  rw [Nat.sub_self] at hA
  obtain ⟨hvQ, hvL⟩ := hA.done
  have hsm := hA.small
  simp only [List.drop_zero] at hsm
  have hLlen := hA.len
  have h2b : 0 < 2 ^ b := Nat.pow_pos (by omega)
  rw [hval2, Hv.out, Nat.mul_div_mul_right _ _ h2b] at hvQ
  rw [hval2, Hv.out, Nat.mul_mod_mul_right] at hvL
  obtain ⟨D, hD2⟩ : ∃ D, D = 2 ^ b := ⟨_, rfl⟩
  have hDI : (2 : Int) ^ b = (D : Int) := by rw [hD2]; simp
  have hDb : D ≤ 32768 := by
   have : 2 ^ b ≤ 2 ^ 15 := Nat.pow_le_pow_right (by omega) (by omega)
   rw [hD2]; simpa using this
  rw [← hD2] at hvL h2b
  have hb8 := Boxed.keeps hb8q hkw (by have := row_ne_box hr2q hb8q (by decide); rintro (h | h | h) <;> omega)
  have hbm := Boxed.keeps hbmq hkw (by have := row_ne_box hr2q hbmq (by decide); rintro (h | h | h) <;> omega)
  have hbq := Boxed.keeps hbqq hkw (by have := row_ne_box hr2q hbqq (by decide); rintro (h | h | h) <;> omega)
  have hUL : U16 Wd (some ⟨g2, 0, none⟩) m (n + 1) (L.take m) := hr2w.u16 hA.lim (by omega) (by omega) (by omega)
  have hvLm : val (L.take m) = x % y * D := by rw [val_take_small (by have := Hvlt.out; omega), hvL]
  have hUt := hUL.trim
  have hsizb : siz (val (L.take m)) ≤ 1048576 := by
   have := limbs_siz_le (hA.lim.take m)
   have h2 : (L.take m).length ≤ m := by simp; omega
   omega
  rw [hvLm] at hUt hsizb
  have hkall : Keeps (fun z => w.heap.size ≤ z) w Wd := hk5.trans (hkw.mono fun z _ hz => by have := HszW.out; have := hk5.size; rcases hz with h | h | h <;> omega)
  have hszd := hkw.size
  have HvQ := Lib.hid hvQ
  have HvLm := Lib.hid hvLm
  have HD2 := Lib.hid hD2
  have hUQ : U16 Wd (some ⟨W4.heap.size, 0, none⟩) (n + 1 - m) (n + 1 - m) Q := by
   have := hrqw.u16 hA.limQ (n := n + 1 - m) (cap := n + 1 - m) (by omega) (by omega) (by omega)
   rwa [List.take_of_length_le (by omega)] at this
  have hOQ := hrqw.own (B := w.heap.size) (cap := n + 1 - m) (by omega) (by omega)
  clear hvQ hvLm hvL hsm hLlen hD2 hA
  have c8 := hb8.cell
  have cm := hbm.cell
  have l8 := hb8.lt
  have lm := hbm.lt
  gi_wp2_with fail
  refine Lex.regionInE 12 (fun k => k == 3 || k == 6) (fun k u => match k with | 3 => u = .slice (some ⟨g2, 0, none⟩) (siz (x % y * D)) (n + 1) | _ => ∃ p n c, u = .tuple #[.slice p n c, .int .u32 0])
   (fun k u w1 => match k with | 6 => ∀ p n c r, u = .tuple #[.slice p n c, r] → U16 w1 p n c (limbs (x % y)) ∧ Own w.heap.size w1 p c | _ => True) (.inl rfl) (by kernel_rfl) (by kernel_rfl) (by kernel_rfl) ?hA ?_
  case hA =>
   intro i v w1 w2 h e
   split
   ·intro p n c r hu
    obtain ⟨h1, h2⟩ := h p n c r hu
    exact ⟨h1.ext e, h2.ext e⟩
   ·trivial
  iterate 3
   refine Walk.one (x := ?_) rfl rfl (fun w1 hI hL K hK => ?_) ?_
   rotate_left
   ·obtain ⟨hc, hf⟩ := bcell hI
    go_simp
    repeat (first | (go_ints; try go_simp) | (simp only [↓IntWalk.iteOmega]; try go_simp))
    exact hK
   simp only [Pq1]
  refine Walk.told rfl rfl ⟨_, rfl⟩ (fun w1 hI hL K hK => ?_) ?_
  ·go_simp
   refine (trimmed_any _ _ _ _ _ (hUL.ext hI)).mono ?_
   rintro e w' ⟨rfl, rfl⟩
   rw [HvLm.out]
   exact ⟨_, rfl, hK _ _ rfl trivial hI (Below.refl _ _)⟩
  rintro v3 rfl
  simp only [Pq1]
  iterate 2
   refine Walk.one (x := ?_) rfl rfl (fun w1 hI hL K hK => ?_) ?_
   rotate_left
   ·obtain ⟨hc, hf⟩ := bcell hI
    go_simp
    repeat (first | (go_ints; try go_simp) | (simp only [↓IntWalk.iteOmega]; try go_simp))
    exact hK
   simp only [Pq1]
  refine Walk.told rfl rfl ⟨_, none, 0, 0, rfl⟩ (fun w1 hI hL K hK => ?_) ?_
  ·go_simp
   have hsh := short_any _ _ _ (x % y * D) D w1 (hUt.ext hI) h2b (by omega) hsizb
   rw [Nat.mul_div_left _ h2b, Nat.mul_mod_left] at hsh
   refine hsh.mono ?_
   rintro e w' ⟨p6, n6, c6, rfl, hU6, hO6, hE6⟩
   refine ⟨_, rfl, hK _ _ ⟨p6, n6, c6, rfl⟩ ?_ (hI.trans (hE6.mono hI.size)) hE6⟩
   intro p n c r hu
   simp only [Value.tuple.injEq, Array.mk.injEq, List.cons.injEq, Value.slice.injEq, and_true] at hu
   obtain ⟨⟨rfl, rfl, rfl⟩, _⟩ := hu
   exact ⟨hU6, hO6.mono (by have := hI.size; have := hkall.size; omega)⟩
  rintro v6 ⟨p6, n6, c6, rfl⟩
  simp only [Pq1]
  iterate 5
   refine Walk.one (x := ?_) rfl rfl (fun w1 hI hL K hK => ?_) ?_
   rotate_left
   ·obtain ⟨hc, hf⟩ := bcell hI
    go_simp
    repeat (first | (go_ints; try go_simp) | (simp only [↓IntWalk.iteOmega]; try go_simp))
    exact hK
   simp only [Pq1]
  refine Walk.nil fun w4 hI4 hL4 => ?_
  obtain ⟨hU6, hO6⟩ := hL4 (6, .tuple #[.slice p6 n6 c6, .int .u32 0]) (by simp) p6 n6 c6 _ rfl
  clear hL4
  have hUQ4 := hUQ.ext hI4
  have hUQt := hUQ4.trim
  rw [HvQ.out] at hUQt
  have hOQ4 := hOQ.ext hI4
  have hbq4 := Boxed.ext hbq hI4
  have cq4 := hbq4.cell
  have fq4 := hbq4.frozen
  have hD4 : w4.heap[W5.heap.size]? = some (.deferred (some [])) := (hI4.block _ (Array.getElem?_eq_some_iff.1 hD).1).trans hD
  simp only [List.drop_succ_cons, List.drop_nil]
  gi_wp2_with fail
  refine Go_wide (trimmed_any _ _ _ _ _ hUQ4) ?_
  rintro e w' ⟨rfl, rfl⟩
  rw [HvQ.out]
  gi_wp2_with fail
  have hDz := mark_setCell (v := .slice (some ⟨W4.heap.size, 0, none⟩) (siz (x / y)) (n + 1 - m)) (a := ⟨w.heap.size, 0, none⟩) hD4 (by show w.heap.size ≠ W5.heap.size; omega)
  have c3 := (Boxed.mark (Boxed.set (.slice (some ⟨W4.heap.size, 0, none⟩) (siz (x / y)) (n + 1 - m)) hbq4) (d := W5.heap.size) (by omega)).cell
  rw [← hsz5]
  refine leave_marked (v := .tuple #[.slice (some ⟨W4.heap.size, 0, none⟩) (siz (x / y)) (n + 1 - m), .slice p6 n6 c6]) hDz (by simp [results, Tryz.results204, go_sem, c3])
   ⟨⟨_, _, _, p6, n6, c6, rfl, (hUQt.box hbq4 (by simp) _).mark hDz _, (hU6.box hbq4 (by simp) _).mark hDz _, (hOQ4.box hbq4 (by decide) _).mark hDz _, (hO6.box hbq4 (by decide) _).mark hDz _⟩, ?_⟩
  exact (((hkall.trans (.of_ext hI4)).setCell (p := ⟨w.heap.size, 0, none⟩) (Nat.le_refl _) _).mark (by show w.heap.size ≤ W5.heap.size; omega)).ext fun z hz => hz

theorem div_any (p q : Option Addr) (n cp m cq : Nat) (x y : Nat) (w : World) (hp : U16 w p n cp (limbs x)) (hq : U16 w q m cq (limbs y)) (hy : y ≠ 0) (hb : n ≤ 1048576) (hmb : m ≤ 1048576) :
    Calls Tryz.prog 204 #[.slice p n cp, .slice q m cq] w fun e w' => DivR w.heap.size x y e w' ∧ Ext w w' := by
 rcases Nat.lt_or_ge x y with hxy | hxy
 ·exact div_less p q n cp m cq x y w hp hq hxy
 ·have hsy : siz y = m := hq.len
  have := siz_pos hy
  rcases Nat.lt_or_ge 1 m with h | h
  ·exact div_long p q n cp m cq x y w hp hq hxy h hb hmb
  ·obtain rfl : m = 1 := by omega
   exact div_one p q n cp cq x y w hp hq hxy hb
end Go.Proofs.YtndgaecfeaedeaaGreat
namespace Go.Proofs.YtndgaecfeaedeaaGreat
open Go.RowKit Lex Mth
attribute [local go_sem] run_indexAt_at add_zero_map Oper.semAt_some at_zero

/-- A block of cells of a call's own. -/
def Cells (w : World) (b : Nat) (t : TypeId) (c : Array Value) : Prop := w.heap[b]? = some (.cells c t (0, 0))
theorem Cells.lt {w : World} {b : Nat} {t : TypeId} {c : Array Value} (h : Cells w b t c) : b < w.heap.size := (Array.getElem?_eq_some_iff.1 h).1
theorem Cells.cell {w : World} {b : Nat} {t : TypeId} {c : Array Value} (h : Cells w b t c) {k : Nat} {v : Value} (hv : c[k]? = some v) : w.cell? ⟨b, k, none⟩ = some v := by
 simp [World.cell?, show w.heap[b]? = _ from h, hv]
theorem Cells.frozen {w : World} {b : Nat} {t : TypeId} {c : Array Value} (h : Cells w b t c) (k : Nat) : w.frozen? ⟨b, k, none⟩ = false := by
 simp [World.frozen?, show w.heap[b]? = _ from h]
theorem Cells.ext {w w' : World} {b : Nat} {t : TypeId} {c : Array Value} (h : Cells w b t c) (e : Ext w w') : Cells w' b t c := (e.block b h.lt).trans h
theorem Cells.newAt {A : World} {b : Nat} (t : TypeId) (c : Array Value) (h : b = A.heap.size) : Cells (A.alloc (.cells c t)) b t c := by
 subst h; show (A.heap.push _)[A.heap.size]? = _; simp
theorem Cells.alloc {w : World} {b : Nat} {t : TypeId} {c : Array Value} (h : Cells w b t c) (o : Obj) : Cells (w.alloc o) b t c := (Below.heap_alloc w o b h.lt).trans h
theorem Cells.keeps {M : Nat → Prop} {w w' : World} {b : Nat} {t : TypeId} {c : Array Value} (h : Cells w b t c) (k : Keeps M w w') (hm : ¬ M b) : Cells w' b t c := k.heap h hm

/-- The number zero, as Go lays it out. -/
abbrev zeroW : Value := .agg #[.bool false, .slice none 0 0]

theorem made_any (neg : Bool) (p : Option Addr) (n cap : Nat) (w : World) (hn : n ≤ 1024) :
    Calls Tryz.prog 188 #[.bool neg, .slice p n cap] w fun e w' => e = .returned (.tuple #[.agg #[.bool (neg && decide (0 < n)), .slice p n cap], .int .i64 0]) ∧ Ext w w' := by
 cases neg
 ·go_enter Tryz.func188, Tryz.ntmps188
  go_wp2
  exact bodyPost_ret (v := .tuple #[.agg #[.bool false, .slice p n cap], .int .i64 0]) (by simp [results, Tryz.results188, go_sem]) rfl ⟨rfl, (Below.refl _ _).alloc (Nat.le_refl _) _⟩
 ·by_cases h0 : 0 < n
  ·go_enter Tryz.func188, Tryz.ntmps188
   go_wp2
   exact bodyPost_ret (v := .tuple #[.agg #[.bool true, .slice p n cap], .int .i64 0]) (by simp [results, Tryz.results188, go_sem, h0]) rfl ⟨by simp [h0], (Below.refl _ _).alloc (Nat.le_refl _) _⟩
  ·obtain rfl : n = 0 := by omega
   go_enter Tryz.func188, Tryz.ntmps188
   go_wp2
   exact bodyPost_ret (v := .tuple #[.agg #[.bool false, .slice p 0 cap], .int .i64 0]) (by simp [results, Tryz.results188, go_sem]) rfl ⟨rfl, (Below.refl _ _).alloc (Nat.le_refl _) _⟩

/-- What Valid looks at. -/
def valW (neg : Bool) (l : List Nat) : Bool := decide (l.length ≤ 1024) && ((decide (l.length = 0) && !neg) || (decide (0 < l.length) && (l.getD (l.length - 1) 0 != 0)))

theorem Valid_any (neg : Bool) (p : Option Addr) (n cap : Nat) (l : List Nat) (w : World) (h : U16 w p n cap l) :
    Calls Tryz.prog 126 #[.agg #[.bool neg, .slice p n cap]] w fun e w' => e = .returned (.bool (valW neg l)) ∧ Ext w w' := by
 have hn := h.reach
 have hlen := h.len
 have hhp := h.has
 by_cases h1 : n ≤ 1024
 ·rcases Nat.eq_zero_or_pos n with h0 | h0
  ·subst h0
   have : valW neg l = !neg := by unfold valW; rw [hlen]; simp
   rw [this]
   cases neg
   ·go_enter Tryz.func126, Tryz.ntmps126
    go_wp2
    go_ret
    exact ⟨rfl, (Below.refl _ _).alloc (Nat.le_refl _) _⟩
   ·go_enter Tryz.func126, Tryz.ntmps126
    go_wp2
    go_ret
    exact ⟨rfl, (Below.refl _ _).alloc (Nat.le_refl _) _⟩
  ·have hv : valW neg l = (dig l (n - 1) != 0) := by unfold valW; rw [hlen]; simp [h1, h0, show n ≠ 0 by omega, dig]
   have c := (h.ext ((Below.refl _ _).alloc (Nat.le_refl _) (.cells #[.bool neg, .slice p n cap] 38))).cell (n - 1) (by omega)
   have hne : ((n : Int) == 0) = false := by simp; omega
   by_cases hz : dig l (n - 1) = 0
   ·rw [hv, hz]
    rw [hz] at c
    clear hv hz
    go_enter Tryz.func126, Tryz.ntmps126
    go_wp2
    go_ret
    exact ⟨rfl, (Below.refl _ _).alloc (Nat.le_refl _) _⟩
   ·have hz' : (((dig l (n - 1) : Nat) : Int) != 0) = true := by rw [bne_iff_ne]; omega
    have e : (dig l (n - 1) != 0) = true := by rw [bne_iff_ne]; exact hz
    rw [hv, e]
    clear hv hz e
    go_enter Tryz.func126, Tryz.ntmps126
    go_wp2
    go_ret
    exact ⟨rfl, (Below.refl _ _).alloc (Nat.le_refl _) _⟩
 ·have : valW neg l = false := by unfold valW; rw [hlen]; simp [h1]
  rw [this]
  go_enter Tryz.func126, Tryz.ntmps126
  go_wp2
  go_ret
  exact ⟨rfl, (Below.refl _ _).alloc (Nat.le_refl _) _⟩
end Go.Proofs.YtndgaecfeaedeaaGreat
namespace Go.Proofs.YtndgaecfeaedeaaGreat
open Go.RowKit Lex Mth
attribute [local go_sem] run_indexAt_at add_zero_map Oper.semAt_some at_zero

theorem valid1_any (neg : Bool) (p : Option Addr) (n cap : Nat) (l : List Nat) (w : World) (h : U16 w p n cap l) :
    Calls Tryz.prog 186 #[.agg #[.bool neg, .slice p n cap]] w fun e w' => e = .returned (.bool (!valW neg l)) ∧ Ext w w' := by
 have hE : Ext w (w.alloc (.cells #[.bool neg, .slice p n cap] 38)) := (Below.refl _ _).alloc (Nat.le_refl _) _
 go_enter Tryz.func186, Tryz.ntmps186
 go_wp2_with fail
 refine (Valid_any neg p n cap l _ (h.ext hE)).mono ?_
 rintro e w' ⟨rfl, hE2⟩
 go_wp2
 go_ret
 exact ⟨rfl, hE.trans (hE2.mono hE.size)⟩

/-- Number j of a slice of numbers. -/
structure Nth (w : World) (g j : Nat) (neg : Bool) (p : Option Addr) (n c : Nat) (l : List Nat) : Prop where
 neg : w.cell? ⟨g, j * 2, none⟩ = some (.bool neg)
 sl : w.cell? ⟨g, j * 2 + 1, none⟩ = some (.slice p n c)
 u : U16 w p n c l
theorem Nth.ext {w w' : World} {g j : Nat} {neg : Bool} {p : Option Addr} {n c : Nat} {l : List Nat} (h : Nth w g j neg p n c l) (e : Ext w w') : Nth w' g j neg p n c l :=
 ⟨(e.cell (World.block_lt_of_cell? w _ h.neg)).trans h.neg, (e.cell (World.block_lt_of_cell? w _ h.sl)).trans h.sl, h.u.ext e⟩

set_option maxRecDepth 100000 in
theorem wIndex_any (g k cap : Nat) (neg : Nat → Bool) (p : Nat → Option Addr) (n c : Nat → Nat) (l : Nat → List Nat) (w : World) (h : ∀ j, j < k → Nth w g j (neg j) (p j) (n j) (c j) (l j)) (hk : k ≤ 1048576) :
    Calls Tryz.prog 207 #[.slice (some ⟨g, 0, none⟩) k cap, .func (.func 186) #[] #[]] w fun e w' =>
     ∃ r : Int, e = .returned (.int .i64 r) ∧ (0 ≤ r ↔ ∃ j, j < k ∧ valW (neg j) (l j) = false) ∧ Ext w w' := by
 have hho : Has (some ⟨g, 0, none⟩) k := Has.some _ _
 go_enter Tryz.func207, Tryz.ntmps207
 go_wp2_with fail
 go_loopw [8] (fun v wr => ∃ i : Nat, v = .int .i64 (i : Nat) ∧ i ≤ k ∧ Hid (∀ j, j < i → valW (neg j) (l j) = true) ∧ Ext w wr) (fun v _ => (k - intOf v).toNat)
 case atStart => exact ⟨0, rfl, by omega, Lib.hid (fun j hj => absurd hj (Nat.not_lt_zero _)), Below.refl _ _⟩
 case round =>
  obtain ⟨i, rfl, hi, hall, hE⟩ := hrel
  by_cases hik : i < k
  ·have hj := (h i hik).ext hE
   have c1 := hj.neg
   have c2 := hj.sl
   go_wp2_with fail
   refine (valid1_any _ _ _ _ _ _ hj.u).mono ?_
   rintro e w' ⟨rfl, hE2⟩
   cases hv : valW (neg i) (l i)
   ·simp only [Bool.not_false]
    have Hv := Lib.hid hv
    clear hv
    go_wp2_with fail
    go_ret
    exact ⟨i, rfl, ⟨fun _ => ⟨i, hik, Hv.out⟩, fun _ => by omega⟩, hE.trans (hE2.mono hE.size)⟩
   ·simp only [Bool.not_true]
    have Hv := Lib.hid hv
    clear hv
    go_wp2_with fail
    go_roundw
    case rel => exact ⟨i + 1, rfl, by omega, Lib.hid (fun j hj => (Nat.lt_or_eq_of_le (Nat.le_of_lt_succ hj)).elim (hall.out j) (fun e => e ▸ Hv.out)), hE.trans (hE2.mono hE.size)⟩
    case measure => simp [intOf]; omega
  ·obtain rfl : i = k := by omega
   go_wp2_with fail
   go_ret
   refine ⟨-1, rfl, ⟨fun h => absurd h (by omega), fun ⟨j, hj, hv⟩ => ?_⟩, hE⟩
   rw [hall.out j hj] at hv; cases hv

theorem wContains_any (g k cap : Nat) (neg : Nat → Bool) (p : Nat → Option Addr) (n c : Nat → Nat) (l : Nat → List Nat) (w : World) (h : ∀ j, j < k → Nth w g j (neg j) (p j) (n j) (c j) (l j)) (hk : k ≤ 1048576) :
    Calls Tryz.prog 185 #[.slice (some ⟨g, 0, none⟩) k cap, .func (.func 186) #[] #[]] w fun e w' =>
     ∃ b, e = .returned (.bool b) ∧ (b = true ↔ ∃ j, j < k ∧ valW (neg j) (l j) = false) ∧ Ext w w' := by
 go_enter Tryz.func185, Tryz.ntmps185
 go_wp2_with fail
 refine (wIndex_any g k cap neg p n c l w h hk).mono ?_
 rintro e w' ⟨r, rfl, hr, hE⟩
 have Hr := Lib.hid hr
 clear hr
 go_wp2_with fail
 go_ret
 exact ⟨_, rfl, by rw [← Hr.out]; simp, hE⟩

theorem valid_any (g k cap : Nat) (neg : Nat → Bool) (p : Nat → Option Addr) (n c : Nat → Nat) (l : Nat → List Nat) (w : World) (h : ∀ j, j < k → Nth w g j (neg j) (p j) (n j) (c j) (l j)) (hk : k ≤ 1048576) :
    Calls Tryz.prog 134 #[.slice (some ⟨g, 0, none⟩) k cap] w fun e w' => ∃ b, e = .returned (.bool b) ∧ (b = true ↔ ∀ j, j < k → valW (neg j) (l j) = true) ∧ Ext w w' := by
 go_enter Tryz.func134, Tryz.ntmps134
 go_wp2_with fail
 refine (wContains_any g k cap neg p n c l w h hk).mono ?_
 rintro e w' ⟨b, rfl, hr, hE⟩
 have Hr := Lib.hid hr
 clear hr
 go_wp2_with fail
 go_ret
 refine ⟨!b, rfl, ?_, hE⟩
 have hr := Hr.out
 cases b
 ·simp only [Bool.not_false, true_iff]
  intro j hj
  cases hv : valW (neg j) (l j)
  ·exact absurd (hr.2 ⟨j, hj, hv⟩) (by simp)
  ·rfl
 ·simp only [Bool.not_true, Bool.false_eq_true, false_iff]
  intro hall
  obtain ⟨j, hj, hv⟩ := hr.1 rfl
  rw [hall j hj] at hv; cases hv

/-- Two numbers, beside each other. -/
theorem valid2_any (g : Nat) (n1 n2 : Bool) (p1 p2 : Option Addr) (k1 c1 k2 c2 : Nat) (l1 l2 : List Nat) (w : World) (hc : Cells w g 38 #[.bool n1, .slice p1 k1 c1, .bool n2, .slice p2 k2 c2]) (h1 : U16 w p1 k1 c1 l1) (h2 : U16 w p2 k2 c2 l2) :
    Calls Tryz.prog 134 #[.slice (some ⟨g, 0, none⟩) 2 2] w fun e w' => e = .returned (.bool (valW n1 l1 && valW n2 l2)) ∧ Ext w w' := by
 refine (valid_any g 2 2 (fun j => bif j == 0 then n1 else n2) (fun j => bif j == 0 then p1 else p2) (fun j => bif j == 0 then k1 else k2) (fun j => bif j == 0 then c1 else c2) (fun j => bif j == 0 then l1 else l2) w (fun j hj => ?_) (by omega)).mono ?_
 ·match j, hj with
  | 0, _ => exact ⟨hc.cell rfl, hc.cell rfl, h1⟩
  | 1, _ => exact ⟨hc.cell rfl, hc.cell rfl, h2⟩
 ·rintro e w' ⟨b, rfl, hb, hE⟩
  refine ⟨?_, hE⟩
  have e1 : (b = true ↔ (valW n1 l1 && valW n2 l2) = true) := by
   rw [hb]
   constructor
   ·intro h
    have a := h 0 (by omega)
    have b := h 1 (by omega)
    simp only [Bool.and_eq_true]
    exact ⟨a, b⟩
   ·intro h j hj
    simp only [Bool.and_eq_true] at h
    match j, hj with
    | 0, _ => exact h.1
    | 1, _ => exact h.2
  rw [Bool.eq_iff_iff.2 e1]
end Go.Proofs.YtndgaecfeaedeaaGreat
