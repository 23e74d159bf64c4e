/- Walks of package whole on numbers: sums. Walks of package whole on numbers: Add. Walks of package whole on numbers: Mul. Walks of package whole on numbers: Gcd. -/
import Derived.Deep.LoopGhost
import Derived.Test.YtndgaecfeaedeaaGreatG6
set_option linter.unusedSimpArgs false
set_option linter.unusedVariables false
namespace Go.Proofs.YtndgaecfeaedeaaGreat
open Go.RowKit Lex Mth
attribute [local go_sem] run_indexAt_at add_zero_map Oper.semAt_some at_zero

theorem valW_of {z : Int} (h : siz z.natAbs ≤ 1024) : valW (decide (z < 0)) (limbs z.natAbs) = true := by
 unfold valW
 by_cases h0 : z = 0
 ·subst h0; simp [limbs_zero]
 ·have hne : z.natAbs ≠ 0 := by omega
  have hl : 0 < (limbs z.natAbs).length := siz_pos hne
  have hlast := limbs_last hne
  have h1 : (limbs z.natAbs).length ≤ 1024 := h
  simp only [h1, decide_true, Bool.true_and, hl, Bool.or_eq_true, Bool.and_eq_true]
  exact .inr (by rw [bne_iff_ne]; exact hlast)

/-- The number with this sign and this absolute value. -/
def sgn (neg : Bool) (k : Nat) : Int := if neg then -(k : Int) else k
theorem sgn_natAbs (neg : Bool) (k : Nat) : (sgn neg k).natAbs = k := by unfold sgn; split <;> simp
theorem sgn_neg (neg : Bool) (k : Nat) : decide (sgn neg k < 0) = (neg && decide (0 < siz k)) := by
 have h : decide (0 < siz k) = decide (0 < k) := by
  rcases Nat.eq_zero_or_pos k with h0 | h0
  ·subst h0; simp [siz_zero]
  ·have := siz_pos (Nat.pos_iff_ne_zero.1 h0); simp [h0, this]
 rw [h]
 unfold sgn
 cases neg
 ·simp
 ·simp only [if_true, Bool.true_and, decide_eq_decide]; omega
theorem made_RW {w : World} {p : Option Addr} {n c k : Nat} (neg : Bool) (h : U16 w p n c (limbs k)) : RW w (.agg #[.bool (neg && decide (0 < n)), .slice p n c]) (sgn neg k) := by
 refine RW.mk (by rw [sgn_natAbs]; exact h) ?_
 rw [sgn_neg, show siz k = n from h.len]

/-- A box of two cells, written. -/
abbrev set2 (w : World) (b : Nat) (u0 u1 : Value) : World := (w.setCell ⟨b, 0, none⟩ u0).setCell ⟨b, 1, none⟩ u1
theorem Cells.set2 {w : World} {b : Nat} {t : TypeId} {v0 v1 : Value} (h : Cells w b t #[v0, v1]) (u0 u1 : Value) : Cells (set2 w b u0 u1) b t #[u0, u1] := by
 unfold Cells
 simp only [World.setCell, Array.getElem?_modify]
 rw [if_pos trivial, if_pos trivial, show w.heap[b]? = _ from h]
 simp
theorem set2_keeps (w : World) (b : Nat) (u0 u1 : Value) : Keeps (fun x => x = b) w (set2 w b u0 u1) :=
 Keeps.setCell (M := fun x => x = b) (Keeps.setCell (M := fun x => x = b) (Keeps.refl _ w) (p := ⟨b, 0, none⟩) rfl u0) (p := ⟨b, 1, none⟩) rfl u1
theorem U16.offC {w : World} {p : Option Addr} {n cap b : Nat} {l : List Nat} {t : TypeId} {c : Array Value} (h : U16 w p n cap l) (hC : Cells w b t c) (hv : ∀ v ∈ c.toList, ∀ a i, v ≠ .int a i) {j : Nat} (hj : j < n) : (at_ p j).block ≠ b := fun e => by
 have hc := h.cell j hj
 unfold World.cell? at hc
 rw [e, show w.heap[b]? = _ from hC] at hc
 simp only at hc
 split at hc
 ·cases hc
 ·rw [← Array.getElem?_toList] at hc
  exact hv _ (List.mem_of_getElem? hc) _ _ rfl
theorem U16.set2 {w : World} {p : Option Addr} {n cap b : Nat} {l : List Nat} {t : TypeId} {c : Array Value} (h : U16 w p n cap l) (hC : Cells w b t c) (hv : ∀ v ∈ c.toList, ∀ a i, v ≠ .int a i) (u0 u1 : Value) : U16 (set2 w b u0 u1) p n cap l :=
 (set2_keeps w b u0 u1).u16 h (fun _ hj => h.offC hC hv hj)
theorem RawW.set2 {w : World} {v : Value} {neg : Bool} {l : List Nat} {b : Nat} {t : TypeId} {c : Array Value} (h : RawW w v neg l) (hC : Cells w b t c) (hv : ∀ v ∈ c.toList, ∀ a i, v ≠ .int a i) (u0 u1 : Value) : RawW (set2 w b u0 u1) v neg l := by
 obtain ⟨p, n, cap, rfl, hu⟩ := h; exact ⟨p, n, cap, rfl, hu.set2 hC hv u0 u1⟩
theorem RW.set2 {w : World} {v : Value} {z : Int} {b : Nat} {t : TypeId} {c : Array Value} (h : RW w v z) (hC : Cells w b t c) (hv : ∀ v ∈ c.toList, ∀ a i, v ≠ .int a i) (u0 u1 : Value) : RW (set2 w b u0 u1) v z := RawW.set2 h hC hv u0 u1
theorem Own.cells {B : Nat} {w w' : World} {p : Option Addr} {cap b : Nat} {t : TypeId} {c : Array Value} (h : Own B w p cap) (hC : Cells w b t c) (ht : t ≠ 153) (hk : Keeps (fun x => x = b) w w') : Own B w' p cap :=
 h.elim .inl fun ⟨g, cur, h1, h2, h3, h4⟩ => .inr ⟨g, cur, h1, h2, hk.heap h3 (fun e => by
  subst e
  rw [show w.heap[g]? = _ from hC] at h3
  simp only [Option.some.injEq, Obj.cells.injEq] at h3
  exact ht h3.2.1), h4⟩
theorem Ext.set2 {w w' : World} (h : Ext w w') {b : Nat} (hb : w.heap.size ≤ b) (u0 u1 : Value) : Ext w (set2 w' b u0 u1) :=
 ((Keeps.of_ext (M := fun x => w.heap.size ≤ x) h).trans ((set2_keeps w' b u0 u1).mono fun x _ hx => by omega)).ext fun _ h => h

set_option maxRecDepth 100000 in
theorem sum_any (n1 n2 : Bool) (p1 p2 : Option Addr) (k1 c1 k2 c2 : Nat) (x y : Int) (w : World) (hx : RW w (.agg #[.bool n1, .slice p1 k1 c1]) x) (hy : RW w (.agg #[.bool n2, .slice p2 k2 c2]) y) (bx : siz x.natAbs ≤ 1000) (by' : siz y.natAbs ≤ 1000) :
    Calls Tryz.prog 215 #[.agg #[.bool n1, .slice p1 k1 c1], .agg #[.bool n2, .slice p2 k2 c2]] w fun e w' =>
     ∃ b p n c, e = .returned (.tuple #[.agg #[.bool b, .slice p n c], .int .i64 0]) ∧ RW w' (.agg #[.bool b, .slice p n c]) (x + y) ∧ Own w.heap.size w' p c ∧ Ext w w' := by
 obtain ⟨e1, ux⟩ := RawW.u16 hx
 obtain ⟨e2, uy⟩ := RawW.u16 hy
 have hk1 : siz x.natAbs = k1 := ux.len
 have hk2 : siz y.natAbs = k2 := uy.len
 have He1 := Lib.hid e1
 have He2 := Lib.hid e2
 have Hk1 := Lib.hid hk1
 have Hk2 := Lib.hid hk2
 have hb1 : k1 ≤ 1000 := by omega
 have hb2 : k2 ≤ 1000 := by omega
 clear e1 e2 hk1 hk2 bx by'
 obtain ⟨W, hW⟩ : ∃ W, ((w.alloc (.cells #[.bool n1, .slice p1 k1 c1] 38)).alloc (.cells #[.bool n2, .slice p2 k2 c2] 38)).alloc (.cells #[.bool false, .slice none 0 0] 38) = W := ⟨_, rfl⟩
 have hE : Ext w W := by rw [← hW]; exact (((Below.refl _ _).alloc (Nat.le_refl _) _).alloc (by simp) _).alloc (by simp; omega) _
 have A1 : Cells W w.heap.size 38 #[.bool n1, .slice p1 k1 c1] := by rw [← hW]; exact ((Cells.newAt _ _ rfl).alloc _).alloc _
 have A2 : Cells W (w.heap.size + 1) 38 #[.bool n2, .slice p2 k2 c2] := by rw [← hW]; exact (Cells.newAt _ _ (by simp)).alloc _
 have A3 : Cells W (w.heap.size + 1 + 1) 38 #[.bool false, .slice none 0 0] := by rw [← hW]; exact Cells.newAt _ _ (by simp)
 have hsz : W.heap.size = w.heap.size + 3 := by rw [← hW]; simp
 go_enter Tryz.func215, Tryz.ntmps215
 have a11 := A1.cell (k := 1) rfl
 have a21 := A2.cell (k := 1) rfl
 go_wp2_with fail
 clear hW a11 a21
 refine (compare_any _ _ _ _ _ _ _ _ _ (ux.ext hE) (uy.ext hE)).mono ?_
 rintro e W2 ⟨rfl, hE2⟩
 replace A1 := A1.ext hE2
 replace A2 := A2.ext hE2
 replace A3 := A3.ext hE2
 have hE3 : Ext w W2 := hE.trans (hE2.mono hE.size)
 replace ux := ux.ext hE3
 replace uy := uy.ext hE3
 have hsz2 : w.heap.size + 3 ≤ W2.heap.size := by have := hE2.size; omega
 clear hE hE2 hsz
 have a10 := A1.cell (k := 0) rfl
 have a11 := A1.cell (k := 1) rfl
 have a20 := A2.cell (k := 0) rfl
 have a21 := A2.cell (k := 1) rfl
 have l1 := A1.lt
 have l2 := A2.lt
 have l3 := A3.lt
 by_cases hn : n1 = n2
 ·subst hn
  go_wp2_with fail
  refine Lex.regionE 10 (fun k => k == 6 || k == 7) (fun k v => match k with | 6 => ∃ p n c, v = .slice p n c | _ => ∃ b p n c, v = .tuple #[.agg #[.bool b, .slice p n c], .int .i64 0])
   (fun k v w1 => match k with
    | 6 => ∀ p n c, v = .slice p n c → U16 w1 p n c (limbs (x.natAbs + y.natAbs)) ∧ Own w.heap.size w1 p c
    | 7 => ∀ b p n c, v = .tuple #[.agg #[.bool b, .slice p n c], .int .i64 0] → RW w1 (.agg #[.bool b, .slice p n c]) (x + y) ∧ Own w.heap.size w1 p c
    | _ => True) (by kernel_rfl) (by kernel_rfl) ?hA ?_
  case hA =>
   intro i v w1 w2 h e
   split
   ·intro p n c hv; obtain ⟨h1, h2⟩ := h p n c hv; exact ⟨h1.ext e, h2.ext e⟩
   ·intro b p n c hv; obtain ⟨h1, h2⟩ := h b p n c hv; exact ⟨h1.ext e, h2.ext e⟩
   ·trivial
  iterate 6
   refine Walk.one (x := ?_) rfl rfl (fun w1 hI hL K hK => ?_) ?_
   rotate_left
   ·obtain ⟨hc, hf⟩ := bcell hI
    go_simp
    repeat (first | (go_ints; try go_simp) | (simp only [↓IntWalk.iteOmega]; try go_simp))
    exact hK
   simp only [Pq1]
  refine Walk.told rfl rfl ⟨_, none, 0, 0, rfl⟩ (fun w1 hI hL K hK => ?_) ?_
  ·go_simp
   refine (add_any _ _ _ _ _ _ _ _ w1 (ux.ext hI) (uy.ext hI) (by omega) (by omega)).mono ?_
   rintro e w3 ⟨p, n, c, rfl, hU, hO, hE4⟩
   refine ⟨_, rfl, hK _ _ ⟨p, n, c, rfl⟩ ?_ (hI.trans (hE4.mono hI.size)) hE4⟩
   intro p' n' c' hv
   simp only [Value.slice.injEq] at hv
   obtain ⟨rfl, rfl, rfl⟩ := hv
   exact ⟨hU, hO.mono (by have := hI.size; omega)⟩
  rintro v6 ⟨p, n, c, rfl⟩
  simp only [Pq1]
  refine Walk.told rfl rfl ⟨_, false, none, 0, 0, rfl⟩ (fun w1 hI hL K hK => ?_) ?_
  ·obtain ⟨hU, hO⟩ := hL (6, .slice p n c) (by simp) (by kernel_rfl) p n c rfl
   clear hL
   have hn : n ≤ 1001 := by
    have h1 : siz (x.natAbs + y.natAbs) = n := hU.len
    have h2 := siz_add x.natAbs y.natAbs
    have := Hk1.out
    have := Hk2.out
    omega
   go_simp
   refine (made_any n1 p n c w1 (by omega)).mono ?_
   rintro e w3 ⟨rfl, hE4⟩
   refine ⟨_, rfl, hK _ _ ⟨_, p, n, c, rfl⟩ ?_ (hI.trans (hE4.mono hI.size)) hE4⟩
   intro b p' n' c' hv
   simp only [Value.tuple.injEq, Array.mk.injEq, List.cons.injEq, Value.agg.injEq, Value.bool.injEq, Value.slice.injEq, and_true] at hv
   obtain ⟨rfl, rfl, rfl, rfl⟩ := hv
   refine ⟨?_, hO.ext hE4⟩
   have := (made_RW n1 hU).ext hE4
   have e : sgn n1 (x.natAbs + y.natAbs) = x + y := by
    have h1 := He1.out
    have h2 := He2.out
    unfold sgn
    cases n1
    ·simp only [Bool.false_eq_true, if_false]; simp at h1 h2; omega
    ·simp only [if_true]; simp at h1 h2; omega
   rwa [e] at this
  rintro v7 ⟨b, p', n', c', rfl⟩
  simp only [Pq1]
  iterate 2
   refine Walk.one (x := ?_) rfl rfl (fun w1 hI hL K hK => ?_) ?_
   rotate_left
   ·obtain ⟨hc, hf⟩ := bcell hI
    go_simp
    repeat (first | (go_ints; try go_simp) | (simp only [↓IntWalk.iteOmega]; try go_simp))
    exact hK
   simp only [Pq1]
  refine Walk.nil fun w4 hI4 hL4 => ?_
  obtain ⟨hR, hO⟩ := hL4 (7, .tuple #[.agg #[.bool b, .slice p' n' c'], .int .i64 0]) (by simp) b p' n' c' rfl
  clear hL4
  have B3 := A3.ext hI4
  have b30 := B3.cell (k := 0) rfl
  have b31 := B3.cell (k := 1) rfl
  have g30 := B3.frozen 0
  have g31 := B3.frozen 1
  simp only [List.drop_succ_cons, List.drop_zero]
  go_wp2_with fail
  have C3 := B3.set2 (.bool b) (.slice p' n' c')
  have d0 := C3.cell (k := 0) rfl
  have d1 := C3.cell (k := 1) rfl
  have hni : ∀ v ∈ (#[Value.bool false, Value.slice none 0 0] : Array Value).toList, ∀ a i, v ≠ .int a i := by simp
  refine bodyPost_ret (v := .tuple #[.agg #[.bool b, .slice p' n' c'], .int .i64 0]) (by simp [results, Tryz.results215, go_sem, d0, d1]) rfl
   ⟨b, p', n', c', rfl, hR.set2 B3 hni _ _, hO.cells B3 (by decide) (set2_keeps _ _ _ _), Ext.set2 (hE3.trans (hI4.mono hE3.size)) (by omega) _ _⟩
 ·have hne : (n1 == n2) = false := by simpa using hn
  have Hn := Lib.hid hn
  clear hn
  rcases Nat.lt_or_ge x.natAbs y.natAbs with hc | hc
  ·have hcm : cmpN x.natAbs y.natAbs = -1 := by unfold cmpN; rw [if_pos hc]
   have Hc : Hid (x.natAbs ≤ y.natAbs) := Nat.le_of_lt hc
   clear hc
   rw [hcm]
   go_wp2_with fail
   refine Lex.regionE 10 (fun k => k == 6 || k == 7) (fun k v => match k with | 6 => ∃ p n c, v = .slice p n c | _ => ∃ b p n c, v = .tuple #[.agg #[.bool b, .slice p n c], .int .i64 0])
    (fun k v w1 => match k with
     | 6 => ∀ p n c, v = .slice p n c → U16 w1 p n c (limbs (y.natAbs - x.natAbs)) ∧ Own w.heap.size w1 p c
     | 7 => ∀ b p n c, v = .tuple #[.agg #[.bool b, .slice p n c], .int .i64 0] → RW w1 (.agg #[.bool b, .slice p n c]) (x + y) ∧ Own w.heap.size w1 p c
     | _ => True) (by kernel_rfl) (by kernel_rfl) ?hA ?_
   case hA =>
    intro i v w1 w2 h e
    split
    ·intro p n c hv; obtain ⟨h1, h2⟩ := h p n c hv; exact ⟨h1.ext e, h2.ext e⟩
    ·intro b p n c hv; obtain ⟨h1, h2⟩ := h b p n c hv; exact ⟨h1.ext e, h2.ext e⟩
    ·trivial
   iterate 6
    refine Walk.one (x := ?_) rfl rfl (fun w1 hI hL K hK => ?_) ?_
    rotate_left
    ·obtain ⟨hc, hf⟩ := bcell hI
     go_simp
     repeat (first | (go_ints; try go_simp) | (simp only [↓IntWalk.iteOmega]; try go_simp))
     exact hK
    simp only [Pq1]
   refine Walk.told rfl rfl ⟨_, none, 0, 0, rfl⟩ (fun w1 hI hL K hK => ?_) ?_
   ·go_simp
    refine (sub_any _ _ _ _ _ _ _ _ w1 (uy.ext hI) (ux.ext hI) Hc.out (by omega)).mono ?_
    rintro e w3 ⟨p, n, c, rfl, hU, hO, hE4⟩
    refine ⟨_, rfl, hK _ _ ⟨p, n, c, rfl⟩ ?_ (hI.trans (hE4.mono hI.size)) hE4⟩
    intro p' n' c' hv
    simp only [Value.slice.injEq] at hv
    obtain ⟨rfl, rfl, rfl⟩ := hv
    exact ⟨hU, hO.mono (by have := hI.size; omega)⟩
   rintro v6 ⟨p, n, c, rfl⟩
   simp only [Pq1]
   refine Walk.told rfl rfl ⟨_, false, none, 0, 0, rfl⟩ (fun w1 hI hL K hK => ?_) ?_
   ·obtain ⟨hU, hO⟩ := hL (6, .slice p n c) (by simp) (by kernel_rfl) p n c rfl
    clear hL
    have hn : n ≤ 1001 := by
     have h1 : siz (y.natAbs - x.natAbs) = n := hU.len
     have h2 : siz (y.natAbs - x.natAbs) ≤ siz y.natAbs := siz_mono (Nat.sub_le _ _)
     have := Hk1.out
     have := Hk2.out
     omega
    go_simp
    refine (made_any n2 p n c w1 (by omega)).mono ?_
    rintro e w3 ⟨rfl, hE4⟩
    refine ⟨_, rfl, hK _ _ ⟨_, p, n, c, rfl⟩ ?_ (hI.trans (hE4.mono hI.size)) hE4⟩
    intro b p' n' c' hv
    simp only [Value.tuple.injEq, Array.mk.injEq, List.cons.injEq, Value.agg.injEq, Value.bool.injEq, Value.slice.injEq, and_true] at hv
    obtain ⟨rfl, rfl, rfl, rfl⟩ := hv
    refine ⟨?_, hO.ext hE4⟩
    have := (made_RW n2 hU).ext hE4
    have e : sgn n2 (y.natAbs - x.natAbs) = x + y := by
     have h1 := He1.out
     have h2 := He2.out
     have h3 := Hc.out
     have h4 := Hn.out
     unfold sgn
     cases n1 <;> cases n2 <;> simp at h1 h2 h4 ⊢ <;> omega
    rwa [e] at this
   rintro v7 ⟨b, p', n', c', rfl⟩
   simp only [Pq1]
   iterate 2
    refine Walk.one (x := ?_) rfl rfl (fun w1 hI hL K hK => ?_) ?_
    rotate_left
    ·obtain ⟨hc, hf⟩ := bcell hI
     go_simp
     repeat (first | (go_ints; try go_simp) | (simp only [↓IntWalk.iteOmega]; try go_simp))
     exact hK
    simp only [Pq1]
   refine Walk.nil fun w4 hI4 hL4 => ?_
   obtain ⟨hR, hO⟩ := hL4 (7, .tuple #[.agg #[.bool b, .slice p' n' c'], .int .i64 0]) (by simp) b p' n' c' rfl
   clear hL4
   have B3 := A3.ext hI4
   have b30 := B3.cell (k := 0) rfl
   have b31 := B3.cell (k := 1) rfl
   have g30 := B3.frozen 0
   have g31 := B3.frozen 1
   simp only [List.drop_succ_cons, List.drop_zero]
   go_wp2_with fail
   have C3 := B3.set2 (.bool b) (.slice p' n' c')
   have d0 := C3.cell (k := 0) rfl
   have d1 := C3.cell (k := 1) rfl
   have hni : ∀ v ∈ (#[Value.bool false, Value.slice none 0 0] : Array Value).toList, ∀ a i, v ≠ .int a i := by simp
   refine bodyPost_ret (v := .tuple #[.agg #[.bool b, .slice p' n' c'], .int .i64 0]) (by simp [results, Tryz.results215, go_sem, d0, d1]) rfl
    ⟨b, p', n', c', rfl, hR.set2 B3 hni _ _, hO.cells B3 (by decide) (set2_keeps _ _ _ _), Ext.set2 (hE3.trans (hI4.mono hE3.size)) (by omega) _ _⟩

  ·have hcm : ¬ cmpN x.natAbs y.natAbs < 0 := by unfold cmpN; rw [if_neg (by omega)]; split <;> simp
   have hcm' : 0 ≤ cmpN x.natAbs y.natAbs := by omega
   have Hc := Lib.hid hc
   clear hc
   go_wp2_with fail
   refine Lex.regionE 10 (fun k => k == 6 || k == 7) (fun k v => match k with | 6 => ∃ p n c, v = .slice p n c | _ => ∃ b p n c, v = .tuple #[.agg #[.bool b, .slice p n c], .int .i64 0])
    (fun k v w1 => match k with
     | 6 => ∀ p n c, v = .slice p n c → U16 w1 p n c (limbs (x.natAbs - y.natAbs)) ∧ Own w.heap.size w1 p c
     | 7 => ∀ b p n c, v = .tuple #[.agg #[.bool b, .slice p n c], .int .i64 0] → RW w1 (.agg #[.bool b, .slice p n c]) (x + y) ∧ Own w.heap.size w1 p c
     | _ => True) (by kernel_rfl) (by kernel_rfl) ?hA ?_
   case hA =>
    intro i v w1 w2 h e
    split
    ·intro p n c hv; obtain ⟨h1, h2⟩ := h p n c hv; exact ⟨h1.ext e, h2.ext e⟩
    ·intro b p n c hv; obtain ⟨h1, h2⟩ := h b p n c hv; exact ⟨h1.ext e, h2.ext e⟩
    ·trivial
   iterate 6
    refine Walk.one (x := ?_) rfl rfl (fun w1 hI hL K hK => ?_) ?_
    rotate_left
    ·obtain ⟨hc, hf⟩ := bcell hI
     go_simp
     repeat (first | (go_ints; try go_simp) | (simp only [↓IntWalk.iteOmega]; try go_simp))
     exact hK
    simp only [Pq1]
   refine Walk.told rfl rfl ⟨_, none, 0, 0, rfl⟩ (fun w1 hI hL K hK => ?_) ?_
   ·go_simp
    refine (sub_any _ _ _ _ _ _ _ _ w1 (ux.ext hI) (uy.ext hI) Hc.out (by omega)).mono ?_
    rintro e w3 ⟨p, n, c, rfl, hU, hO, hE4⟩
    refine ⟨_, rfl, hK _ _ ⟨p, n, c, rfl⟩ ?_ (hI.trans (hE4.mono hI.size)) hE4⟩
    intro p' n' c' hv
    simp only [Value.slice.injEq] at hv
    obtain ⟨rfl, rfl, rfl⟩ := hv
    exact ⟨hU, hO.mono (by have := hI.size; omega)⟩
   rintro v6 ⟨p, n, c, rfl⟩
   simp only [Pq1]
   refine Walk.told rfl rfl ⟨_, false, none, 0, 0, rfl⟩ (fun w1 hI hL K hK => ?_) ?_
   ·obtain ⟨hU, hO⟩ := hL (6, .slice p n c) (by simp) (by kernel_rfl) p n c rfl
    clear hL
    have hn : n ≤ 1001 := by
     have h1 : siz (x.natAbs - y.natAbs) = n := hU.len
     have h2 : siz (x.natAbs - y.natAbs) ≤ siz x.natAbs := siz_mono (Nat.sub_le _ _)
     have := Hk1.out
     have := Hk2.out
     omega
    go_simp
    refine (made_any n1 p n c w1 (by omega)).mono ?_
    rintro e w3 ⟨rfl, hE4⟩
    refine ⟨_, rfl, hK _ _ ⟨_, p, n, c, rfl⟩ ?_ (hI.trans (hE4.mono hI.size)) hE4⟩
    intro b p' n' c' hv
    simp only [Value.tuple.injEq, Array.mk.injEq, List.cons.injEq, Value.agg.injEq, Value.bool.injEq, Value.slice.injEq, and_true] at hv
    obtain ⟨rfl, rfl, rfl, rfl⟩ := hv
    refine ⟨?_, hO.ext hE4⟩
    have := (made_RW n1 hU).ext hE4
    have e : sgn n1 (x.natAbs - y.natAbs) = x + y := by
     have h1 := He1.out
     have h2 := He2.out
     have h3 := Hc.out
     have h4 := Hn.out
     unfold sgn
     cases n1 <;> cases n2 <;> simp at h1 h2 h4 ⊢ <;> omega
    rwa [e] at this
   rintro v7 ⟨b, p', n', c', rfl⟩
   simp only [Pq1]
   iterate 2
    refine Walk.one (x := ?_) rfl rfl (fun w1 hI hL K hK => ?_) ?_
    rotate_left
    ·obtain ⟨hc, hf⟩ := bcell hI
     go_simp
     repeat (first | (go_ints; try go_simp) | (simp only [↓IntWalk.iteOmega]; try go_simp))
     exact hK
    simp only [Pq1]
   refine Walk.nil fun w4 hI4 hL4 => ?_
   obtain ⟨hR, hO⟩ := hL4 (7, .tuple #[.agg #[.bool b, .slice p' n' c'], .int .i64 0]) (by simp) b p' n' c' rfl
   clear hL4
   have B3 := A3.ext hI4
   have b30 := B3.cell (k := 0) rfl
   have b31 := B3.cell (k := 1) rfl
   have g30 := B3.frozen 0
   have g31 := B3.frozen 1
   simp only [List.drop_succ_cons, List.drop_zero]
   go_wp2_with fail
   have C3 := B3.set2 (.bool b) (.slice p' n' c')
   have d0 := C3.cell (k := 0) rfl
   have d1 := C3.cell (k := 1) rfl
   have hni : ∀ v ∈ (#[Value.bool false, Value.slice none 0 0] : Array Value).toList, ∀ a i, v ≠ .int a i := by simp
   refine bodyPost_ret (v := .tuple #[.agg #[.bool b, .slice p' n' c'], .int .i64 0]) (by simp [results, Tryz.results215, go_sem, d0, d1]) rfl
    ⟨b, p', n', c', rfl, hR.set2 B3 hni _ _, hO.cells B3 (by decide) (set2_keeps _ _ _ _), Ext.set2 (hE3.trans (hI4.mono hE3.size)) (by omega) _ _⟩

end Go.Proofs.YtndgaecfeaedeaaGreat
namespace Go.Proofs.YtndgaecfeaedeaaGreat
open Go.RowKit Lex Mth
attribute [local go_sem] run_indexAt_at add_zero_map Oper.semAt_some at_zero

theorem ni0 : ∀ v ∈ (#[Value.bool false, Value.slice none 0 0] : Array Value).toList, ∀ a i, v ≠ .int a i := by simp

set_option maxRecDepth 100000 in
theorem Add_any (n1 n2 : Bool) (p1 p2 : Option Addr) (k1 c1 k2 c2 : Nat) (x y : Int) (w : World) (hx : RW w (.agg #[.bool n1, .slice p1 k1 c1]) x) (hy : RW w (.agg #[.bool n2, .slice p2 k2 c2]) y) (bx : siz x.natAbs ≤ 1000) (by' : siz y.natAbs ≤ 1000) :
    Calls Tryz.prog 206 #[.agg #[.bool n1, .slice p1 k1 c1], .agg #[.bool n2, .slice p2 k2 c2]] w fun e w' =>
     ∃ b p n c, e = .returned (.tuple #[.agg #[.bool b, .slice p n c], .int .i64 0]) ∧ RW w' (.agg #[.bool b, .slice p n c]) (x + y) ∧ Own w.heap.size w' p c ∧ Ext w w' := by
 obtain ⟨e1, ux⟩ := RawW.u16 hx
 obtain ⟨e2, uy⟩ := RawW.u16 hy
 have hv1 : valW n1 (limbs x.natAbs) = true := by rw [e1]; exact valW_of (by omega)
 have hv2 : valW n2 (limbs y.natAbs) = true := by rw [e2]; exact valW_of (by omega)
 clear e1 e2
 obtain ⟨W, hW⟩ : ∃ W, (((w.alloc (.cells #[.bool n1, .slice p1 k1 c1] 38)).alloc (.cells #[.bool n2, .slice p2 k2 c2] 38)).alloc (.cells #[.bool false, .slice none 0 0] 38)).alloc (.cells #[.bool n1, .slice p1 k1 c1, .bool n2, .slice p2 k2 c2] 38) = W := ⟨_, rfl⟩
 have hE : Ext w W := by rw [← hW]; exact ((((Below.refl _ _).alloc (Nat.le_refl _) _).alloc (by simp) _).alloc (by simp; omega) _).alloc (by simp; omega) _
 have A1 : Cells W w.heap.size 38 #[.bool n1, .slice p1 k1 c1] := by rw [← hW]; exact (((Cells.newAt _ _ rfl).alloc _).alloc _).alloc _
 have A2 : Cells W (w.heap.size + 1) 38 #[.bool n2, .slice p2 k2 c2] := by rw [← hW]; exact ((Cells.newAt _ _ (by simp)).alloc _).alloc _
 have A3 : Cells W (w.heap.size + 1 + 1) 38 #[.bool false, .slice none 0 0] := by rw [← hW]; exact (Cells.newAt _ _ (by simp)).alloc _
 have A4 : Cells W (w.heap.size + 1 + 1 + 1) 38 #[.bool n1, .slice p1 k1 c1, .bool n2, .slice p2 k2 c2] := by rw [← hW]; exact Cells.newAt _ _ (by simp)
 go_enter Tryz.func206, Tryz.ntmps206
 go_wp2_with fail
 refine (valid2_any _ n1 n2 p1 p2 k1 c1 k2 c2 _ _ _ A4 (ux.ext hE) (uy.ext hE)).mono ?_
 rintro e W2 ⟨rfl, hE2⟩
 rw [hv1, hv2]
 clear hW
 have hE3 : Ext w W2 := hE.trans (hE2.mono hE.size)
 replace A1 := A1.ext hE2
 replace A2 := A2.ext hE2
 replace A3 := A3.ext hE2
 have a10 := A1.cell (k := 0) rfl
 have a11 := A1.cell (k := 1) rfl
 have a20 := A2.cell (k := 0) rfl
 have a21 := A2.cell (k := 1) rfl
 go_wp2_with fail
 refine (sum_any n1 n2 p1 p2 k1 c1 k2 c2 x y _ (hx.ext hE3) (hy.ext hE3) bx by').mono ?_
 rintro e w4 ⟨b, p', n', c', rfl, hR, hO, hI4⟩
 have l3 := A3.lt
 have B3 := A3.ext hI4
 have b30 := B3.cell (k := 0) rfl
 have b31 := B3.cell (k := 1) rfl
 have g30 := B3.frozen 0
 have g31 := B3.frozen 1
 have hs3 := hE3.size
 go_wp2_with fail
 have C3 := B3.set2 (.bool b) (.slice p' n' c')
 have d0 := C3.cell (k := 0) rfl
 have d1 := C3.cell (k := 1) rfl
 refine bodyPost_ret (v := .tuple #[.agg #[.bool b, .slice p' n' c'], .int .i64 0]) (by simp [results, Tryz.results206, go_sem, d0, d1]) rfl
  ⟨b, p', n', c', rfl, hR.set2 B3 ni0 _ _, (hO.mono hs3).cells B3 (by decide) (set2_keeps _ _ _ _), Ext.set2 (hE3.trans (hI4.mono hE3.size)) (by omega) _ _⟩
end Go.Proofs.YtndgaecfeaedeaaGreat
namespace Go.Proofs.YtndgaecfeaedeaaGreat
open Go.RowKit Lex Mth
attribute [local go_sem] run_indexAt_at add_zero_map Oper.semAt_some at_zero

theorem sgn_mul (x y : Int) : sgn (decide (x < 0) != decide (y < 0)) (x.natAbs * y.natAbs) = x * y := by
 rw [← Int.natAbs_mul]
 unfold sgn
 rcases (by omega : x < 0 ∨ 0 ≤ x) with hx | hx <;> rcases (by omega : y < 0 ∨ 0 ≤ y) with hy | hy
 ·have h := Int.mul_pos_of_neg_of_neg hx hy
  simp only [hx, hy, decide_true, bne_self_eq_false, Bool.false_eq_true, if_false]; omega
 ·have h : x * y ≤ 0 := Int.mul_nonpos_of_nonpos_of_nonneg (by omega) hy
  simp only [hx, decide_true, show ¬ y < 0 by omega, decide_false, Bool.bne_false, if_true]; omega
 ·have h : x * y ≤ 0 := Int.mul_nonpos_of_nonneg_of_nonpos hx (by omega)
  simp only [hy, decide_true, show ¬ x < 0 by omega, decide_false, Bool.false_bne, if_true]; omega
 ·have h : 0 ≤ x * y := Int.mul_nonneg hx hy
  simp only [show ¬ x < 0 by omega, show ¬ y < 0 by omega, decide_false, bne_self_eq_false, Bool.false_eq_true, if_false]; omega

set_option maxRecDepth 100000 in
theorem Mul_any (n1 n2 : Bool) (p1 p2 : Option Addr) (k1 c1 k2 c2 : Nat) (x y : Int) (w : World) (hx : RW w (.agg #[.bool n1, .slice p1 k1 c1]) x) (hy : RW w (.agg #[.bool n2, .slice p2 k2 c2]) y) (bxy : siz x.natAbs + siz y.natAbs ≤ 1024) :
    Calls Tryz.prog 137 #[.agg #[.bool n1, .slice p1 k1 c1], .agg #[.bool n2, .slice p2 k2 c2]] w fun e w' =>
     ∃ b p n c, e = .returned (.tuple #[.agg #[.bool b, .slice p n c], .int .i64 0]) ∧ RW w' (.agg #[.bool b, .slice p n c]) (x * y) ∧ Own w.heap.size w' p c ∧ Ext w w' := by
 obtain ⟨e1, ux⟩ := RawW.u16 hx
 obtain ⟨e2, uy⟩ := RawW.u16 hy
 have hv1 : valW n1 (limbs x.natAbs) = true := by rw [e1]; exact valW_of (by omega)
 have hv2 : valW n2 (limbs y.natAbs) = true := by rw [e2]; exact valW_of (by omega)
 have He1 := Lib.hid e1
 have He2 := Lib.hid e2
 have Hk1 : Hid (siz x.natAbs = k1) := ux.len
 have Hk2 : Hid (siz y.natAbs = k2) := uy.len
 clear e1 e2
 obtain ⟨W, hW⟩ : ∃ W, (((w.alloc (.cells #[.bool n1, .slice p1 k1 c1] 38)).alloc (.cells #[.bool n2, .slice p2 k2 c2] 38)).alloc (.cells #[.bool false, .slice none 0 0] 38)).alloc (.cells #[.bool n1, .slice p1 k1 c1, .bool n2, .slice p2 k2 c2] 38) = W := ⟨_, rfl⟩
 have hE : Ext w W := by rw [← hW]; exact ((((Below.refl _ _).alloc (Nat.le_refl _) _).alloc (by simp) _).alloc (by simp; omega) _).alloc (by simp; omega) _
 have A1 : Cells W w.heap.size 38 #[.bool n1, .slice p1 k1 c1] := by rw [← hW]; exact (((Cells.newAt _ _ rfl).alloc _).alloc _).alloc _
 have A2 : Cells W (w.heap.size + 1) 38 #[.bool n2, .slice p2 k2 c2] := by rw [← hW]; exact ((Cells.newAt _ _ (by simp)).alloc _).alloc _
 have A3 : Cells W (w.heap.size + 1 + 1) 38 #[.bool false, .slice none 0 0] := by rw [← hW]; exact (Cells.newAt _ _ (by simp)).alloc _
 have A4 : Cells W (w.heap.size + 1 + 1 + 1) 38 #[.bool n1, .slice p1 k1 c1, .bool n2, .slice p2 k2 c2] := by rw [← hW]; exact Cells.newAt _ _ (by simp)
 go_enter Tryz.func137, Tryz.ntmps137
 go_wp2_with fail
 refine (valid2_any _ n1 n2 p1 p2 k1 c1 k2 c2 _ _ _ A4 (ux.ext hE) (uy.ext hE)).mono ?_
 rintro e W2 ⟨rfl, hE2⟩
 rw [hv1, hv2]
 clear hW
 have hE3 : Ext w W2 := hE.trans (hE2.mono hE.size)
 replace A1 := A1.ext hE2
 replace A2 := A2.ext hE2
 replace A3 := A3.ext hE2
 have a10 := A1.cell (k := 0) rfl
 have a11 := A1.cell (k := 1) rfl
 have a20 := A2.cell (k := 0) rfl
 have a21 := A2.cell (k := 1) rfl
 go_wp2_with fail
 have l1 := A1.lt
 have l2 := A2.lt
 have l3 := A3.lt
 have hs3 := hE3.size
 have hb1 : k1 ≤ 1024 := by have := Hk1.out; omega
 have hb2 : k2 ≤ 1024 := by have := Hk2.out; omega
 replace ux := ux.ext hE3
 replace uy := uy.ext hE3
 have Hxy := Lib.hid bxy
 clear bxy
 refine Lex.regionE 13 (fun k => k == 9 || k == 10) (fun k v => match k with | 9 => ∃ p n c, v = .slice p n c | _ => ∃ b p n c, v = .tuple #[.agg #[.bool b, .slice p n c], .int .i64 0])
     (fun k v w1 => match k with
      | 9 => ∀ p n c, v = .slice p n c → U16 w1 p n c (limbs (x.natAbs * y.natAbs)) ∧ Own w.heap.size w1 p c
      | 10 => ∀ b p n c, v = .tuple #[.agg #[.bool b, .slice p n c], .int .i64 0] → RW w1 (.agg #[.bool b, .slice p n c]) (x * y) ∧ Own w.heap.size w1 p c
      | _ => True) (by kernel_rfl) (by kernel_rfl) ?hA ?_
 case hA =>
  intro i v w1 w2 h e
  split
  ·intro p n c hv; obtain ⟨h1, h2⟩ := h p n c hv; exact ⟨h1.ext e, h2.ext e⟩
  ·intro b p n c hv; obtain ⟨h1, h2⟩ := h b p n c hv; exact ⟨h1.ext e, h2.ext e⟩
  ·trivial
 iterate 9
  refine Walk.one (x := ?_) rfl rfl (fun w1 hI hL K hK => ?_) ?_
  rotate_left
  ·obtain ⟨hc, hf⟩ := bcell hI
   go_simp
   repeat (first | (go_ints; try go_simp) | (simp only [↓IntWalk.iteOmega]; try go_simp))
   exact hK
  simp only [Pq1]
 refine Walk.told rfl rfl ⟨_, none, 0, 0, rfl⟩ (fun w1 hI hL K hK => ?_) ?_
 ·go_simp
  refine (mul_any _ _ _ _ _ _ _ _ w1 (ux.ext hI) (uy.ext hI) (by omega) (by omega)).mono ?_
  rintro e w3 ⟨p, n, c, rfl, hU, hO, hE4⟩
  refine ⟨_, rfl, hK _ _ ⟨p, n, c, rfl⟩ ?_ (hI.trans (hE4.mono hI.size)) hE4⟩
  intro p' n' c' hv
  simp only [Value.slice.injEq] at hv
  obtain ⟨rfl, rfl, rfl⟩ := hv
  exact ⟨hU, hO.mono (by have := hI.size; omega)⟩
 rintro v6 ⟨p, n, c, rfl⟩
 simp only [Pq1]
 refine Walk.told rfl rfl ⟨_, false, none, 0, 0, rfl⟩ (fun w1 hI hL K hK => ?_) ?_
 ·obtain ⟨hU, hO⟩ := hL (9, .slice p n c) (by simp) (by kernel_rfl) p n c rfl
  clear hL
  have hn : n ≤ 1024 := by
   have h1 : siz (x.natAbs * y.natAbs) = n := hU.len
   have h2 := siz_mul x.natAbs y.natAbs
   have := Hxy.out
   omega
  go_simp
  refine (made_any (n1 != n2) p n c w1 (by omega)).mono ?_
  rintro e w3 ⟨rfl, hE4⟩
  refine ⟨_, rfl, hK _ _ ⟨_, p, n, c, rfl⟩ ?_ (hI.trans (hE4.mono hI.size)) hE4⟩
  intro b p' n' c' hv
  simp only [Value.tuple.injEq, Array.mk.injEq, List.cons.injEq, Value.agg.injEq, Value.bool.injEq, Value.slice.injEq, and_true] at hv
  obtain ⟨rfl, rfl, rfl, rfl⟩ := hv
  refine ⟨?_, hO.ext hE4⟩
  have := (made_RW (n1 != n2) hU).ext hE4
  have e : sgn (n1 != n2) (x.natAbs * y.natAbs) = x * y := by rw [He1.out, He2.out, sgn_mul]
  rwa [e] at this
 rintro v7 ⟨b, p', n', c', rfl⟩
 simp only [Pq1]
 iterate 2
  refine Walk.one (x := ?_) rfl rfl (fun w1 hI hL K hK => ?_) ?_
  rotate_left
  ·obtain ⟨hc, hf⟩ := bcell hI
   go_simp
   repeat (first | (go_ints; try go_simp) | (simp only [↓IntWalk.iteOmega]; try go_simp))
   exact hK
  simp only [Pq1]
 refine Walk.nil fun w4 hI4 hL4 => ?_
 obtain ⟨hR, hO⟩ := hL4 (10, .tuple #[.agg #[.bool b, .slice p' n' c'], .int .i64 0]) (by simp) b p' n' c' rfl
 clear hL4
 have B3 := A3.ext hI4
 have b30 := B3.cell (k := 0) rfl
 have b31 := B3.cell (k := 1) rfl
 have g30 := B3.frozen 0
 have g31 := B3.frozen 1
 simp only [List.drop_succ_cons, List.drop_zero]
 go_wp2_with fail
 have C3 := B3.set2 (.bool b) (.slice p' n' c')
 have d0 := C3.cell (k := 0) rfl
 have d1 := C3.cell (k := 1) rfl
 refine bodyPost_ret (v := .tuple #[.agg #[.bool b, .slice p' n' c'], .int .i64 0]) (by simp [results, Tryz.results137, go_sem, d0, d1]) rfl
  ⟨b, p', n', c', rfl, hR.set2 B3 ni0 _ _, hO.cells B3 (by decide) (set2_keeps _ _ _ _), Ext.set2 (hE3.trans (hI4.mono hE3.size)) (by omega) _ _⟩
end Go.Proofs.YtndgaecfeaedeaaGreat
namespace Go.Proofs.YtndgaecfeaedeaaGreat
open Go.RowKit Lex Mth
attribute [local go_sem] run_indexAt_at add_zero_map Oper.semAt_some at_zero

set_option maxRecDepth 100000 in
theorem Gcd_any (n1 n2 : Bool) (p1 p2 : Option Addr) (k1 c1 k2 c2 : Nat) (x y : Int) (w : World) (hx : RW w (.agg #[.bool n1, .slice p1 k1 c1]) x) (hy : RW w (.agg #[.bool n2, .slice p2 k2 c2]) y) (bx : siz x.natAbs ≤ 1024) (by' : siz y.natAbs ≤ 1024) :
    Calls Tryz.prog 182 #[.agg #[.bool n1, .slice p1 k1 c1], .agg #[.bool n2, .slice p2 k2 c2]] w fun e w' =>
     ∃ b p n c, e = .returned (.tuple #[.agg #[.bool b, .slice p n c], .int .i64 0]) ∧ RW w' (.agg #[.bool b, .slice p n c]) ((Int.gcd x y : Nat) : Int) ∧ Own w.heap.size w' p c ∧ Ext w w' := by
 obtain ⟨e1, ux⟩ := RawW.u16 hx
 obtain ⟨e2, uy⟩ := RawW.u16 hy
 have hv1 : valW n1 (limbs x.natAbs) = true := by rw [e1]; exact valW_of (by omega)
 have hv2 : valW n2 (limbs y.natAbs) = true := by rw [e2]; exact valW_of (by omega)
 have He1 := Lib.hid e1
 have He2 := Lib.hid e2
 have Hk1 : Hid (siz x.natAbs = k1) := ux.len
 have Hk2 : Hid (siz y.natAbs = k2) := uy.len
 clear e1 e2
 obtain ⟨W, hW⟩ : ∃ W, (((w.alloc (.cells #[.bool n1, .slice p1 k1 c1] 38)).alloc (.cells #[.bool n2, .slice p2 k2 c2] 38)).alloc (.cells #[.bool false, .slice none 0 0] 38)).alloc (.cells #[.bool n1, .slice p1 k1 c1, .bool n2, .slice p2 k2 c2] 38) = W := ⟨_, rfl⟩
 have hE : Ext w W := by rw [← hW]; exact ((((Below.refl _ _).alloc (Nat.le_refl _) _).alloc (by simp) _).alloc (by simp; omega) _).alloc (by simp; omega) _
 have A1 : Cells W w.heap.size 38 #[.bool n1, .slice p1 k1 c1] := by rw [← hW]; exact (((Cells.newAt _ _ rfl).alloc _).alloc _).alloc _
 have A2 : Cells W (w.heap.size + 1) 38 #[.bool n2, .slice p2 k2 c2] := by rw [← hW]; exact ((Cells.newAt _ _ (by simp)).alloc _).alloc _
 have A3 : Cells W (w.heap.size + 1 + 1) 38 #[.bool false, .slice none 0 0] := by rw [← hW]; exact (Cells.newAt _ _ (by simp)).alloc _
 have A4 : Cells W (w.heap.size + 1 + 1 + 1) 38 #[.bool n1, .slice p1 k1 c1, .bool n2, .slice p2 k2 c2] := by rw [← hW]; exact Cells.newAt _ _ (by simp)
 go_enter Tryz.func182, Tryz.ntmps182
 go_wp2_with fail
 refine (valid2_any _ n1 n2 p1 p2 k1 c1 k2 c2 _ _ _ A4 (ux.ext hE) (uy.ext hE)).mono ?_
 rintro e W2 ⟨rfl, hE2⟩
 rw [hv1, hv2]
 clear hW
 have hE3 : Ext w W2 := hE.trans (hE2.mono hE.size)
 replace A1 := A1.ext hE2
 replace A2 := A2.ext hE2
 replace A3 := A3.ext hE2
 have a10 := A1.cell (k := 0) rfl
 have a11 := A1.cell (k := 1) rfl
 have a20 := A2.cell (k := 0) rfl
 have a21 := A2.cell (k := 1) rfl
 go_wp2_with fail
 have l1 := A1.lt
 have l2 := A2.lt
 have l3 := A3.lt
 have hs3 := hE3.size
 have hb1 : k1 ≤ 1024 := by have := Hk1.out; omega
 have hb2 : k2 ≤ 1024 := by have := Hk2.out; omega
 replace ux := ux.ext hE3
 replace uy := uy.ext hE3
 clear bx by'
 refine Lex.regionE 8 (fun k => k == 2 || k == 5) (fun k v => match k with | 2 => ∃ p c, v = .slice p k1 c | _ => ∃ p c, v = .slice p k2 c)
     (fun k v w1 => match k with
      | 2 => ∀ p c, v = .slice p k1 c → U16 w1 p k1 c (limbs x.natAbs) ∧ Own w.heap.size w1 p c
      | 5 => ∀ p c, v = .slice p k2 c → U16 w1 p k2 c (limbs y.natAbs) ∧ Own w.heap.size w1 p c
      | _ => True) (by kernel_rfl) (by kernel_rfl) ?hA ?_
 case hA =>
  intro i v w1 w2 h e
  split
  ·intro p c hv; obtain ⟨h1, h2⟩ := h p c hv; exact ⟨h1.ext e, h2.ext e⟩
  ·intro p c hv; obtain ⟨h1, h2⟩ := h p c hv; exact ⟨h1.ext e, h2.ext e⟩
  ·trivial
 iterate 2
  refine Walk.one (x := ?_) rfl rfl (fun w1 hI hL K hK => ?_) ?_
  rotate_left
  ·obtain ⟨hc, hf⟩ := bcell hI
   go_simp
   repeat (first | (go_ints; try go_simp) | (simp only [↓IntWalk.iteOmega]; try go_simp))
   exact hK
  simp only [Pq1]
 refine Walk.told rfl rfl ⟨_, none, 0, rfl⟩ (fun w1 hI hL K hK => ?_) ?_
 ·go_simp
  refine (clone_any _ _ _ _ w1 (ux.ext hI)).mono ?_
  rintro e w3 ⟨p, c, rfl, hU, hO, hE4⟩
  refine ⟨_, rfl, hK _ _ ⟨p, c, rfl⟩ ?_ (hI.trans (hE4.mono hI.size)) hE4⟩
  intro p' c' hv
  simp only [Value.slice.injEq, true_and] at hv
  obtain ⟨rfl, rfl⟩ := hv
  exact ⟨hU, hO.mono (by have := hI.size; omega)⟩
 rintro v2 ⟨p6, c6, rfl⟩
 simp only [Pq1]
 iterate 2
  refine Walk.one (x := ?_) rfl rfl (fun w1 hI hL K hK => ?_) ?_
  rotate_left
  ·obtain ⟨hc, hf⟩ := bcell hI
   go_simp
   repeat (first | (go_ints; try go_simp) | (simp only [↓IntWalk.iteOmega]; try go_simp))
   exact hK
  simp only [Pq1]
 refine Walk.told rfl rfl ⟨_, none, 0, rfl⟩ (fun w1 hI hL K hK => ?_) ?_
 ·go_simp
  refine (clone_any _ _ _ _ w1 (uy.ext hI)).mono ?_
  rintro e w3 ⟨p, c, rfl, hU, hO, hE4⟩
  refine ⟨_, rfl, hK _ _ ⟨p, c, rfl⟩ ?_ (hI.trans (hE4.mono hI.size)) hE4⟩
  intro p' c' hv
  simp only [Value.slice.injEq, true_and] at hv
  obtain ⟨rfl, rfl⟩ := hv
  exact ⟨hU, hO.mono (by have := hI.size; omega)⟩
 rintro v5 ⟨p7, c7, rfl⟩
 simp only [Pq1]
 iterate 2
  refine Walk.one (x := ?_) rfl rfl (fun w1 hI hL K hK => ?_) ?_
  rotate_left
  ·obtain ⟨hc, hf⟩ := bcell hI
   go_simp
   repeat (first | (go_ints; try go_simp) | (simp only [↓IntWalk.iteOmega]; try go_simp))
   exact hK
  simp only [Pq1]
 refine Walk.nil fun w4 hI4 hL4 => ?_
 obtain ⟨hU6, hO6⟩ := hL4 (2, .slice p6 k1 c6) (by simp) p6 c6 rfl
 obtain ⟨hU7, hO7⟩ := hL4 (5, .slice p7 k2 c7) (by simp) p7 c7 rfl
 clear hL4
 simp only [List.drop_succ_cons, List.drop_nil]
 have hE5 : Ext w w4 := hE3.trans (hI4.mono hE3.size)
 have B3 := A3.ext hI4
 clear A1 A2 A3 A4 a10 a11 a20 a21 l1 l2 hs3 ux uy hE hE2 hE3 hI4
 go_wp2_with fail
 go_loopg [6, 7] y.natAbs (fun g s6 s7 wr => ∃ (a b : Nat) (p : Option Addr) (n c : Nat) (q : Option Addr) (m d : Nat), s6 = .slice p n c ∧ s7 = .slice q m d ∧ g = b ∧ Hid (Nat.gcd a b = Nat.gcd x.natAbs y.natAbs) ∧ n ≤ 1024 ∧ m ≤ 1024 ∧
  U16 wr p n c (limbs a) ∧ U16 wr q m d (limbs b) ∧ Own w.heap.size wr p c ∧ Own w.heap.size wr q d ∧ Ext w4 wr)
 case atStart => exact ⟨x.natAbs, y.natAbs, p6, k1, c6, p7, k2, c7, rfl, rfl, rfl, Lib.hid rfl, hb1, hb2, hU6, hU7, hO6, hO7, Below.refl _ _⟩
 case round =>
  clear hU6 hU7 hO6 hO7
  obtain ⟨a, b, p, n, c, q, m, d, rfl, rfl, rfl, hg, hn, hm, hU, hV, hO, hO', hE6⟩ := hrel
  have hsn : Hid (siz a = n) := hU.len
  have hsm : Hid (siz gk = m) := hV.len
  rcases Nat.eq_zero_or_pos m with h0 | h0
  ·subst h0
   have hb0 : gk = 0 := siz_eq_zero.1 hsm.out
   have B4 := B3.ext hE6
   have b30 := B4.cell (k := 0) rfl
   have b31 := B4.cell (k := 1) rfl
   have g30 := B4.frozen 0
   have g31 := B4.frozen 1
   have l4 := B4.lt
   have Hb0 := Lib.hid hb0
   clear hb0
   go_wp2_with fail
   have C3 := B4.set2 (.bool false) (.slice p n c)
   have d0 := C3.cell (k := 0) rfl
   have d1 := C3.cell (k := 1) rfl
   have hR : RW wr (.agg #[.bool false, .slice p n c]) ((Int.gcd x y : Nat) : Int) := by
    have h1 := hg.out
    rw [Hb0.out, Nat.gcd_zero_right] at h1
    have h2 : Int.gcd x y = a := h1.symm
    rw [h2]
    exact RW.mk (by simpa using hU) (by simp)
   refine bodyPost_ret (v := .tuple #[.agg #[.bool false, .slice p n c], .int .i64 0]) (by simp [results, Tryz.results182, go_sem, d0, d1]) rfl
    ⟨false, p, n, c, rfl, hR.set2 B4 ni0 _ _, hO.cells B4 (by decide) (set2_keeps _ _ _ _), Ext.set2 (hE5.trans (hE6.mono hE5.size)) (by omega) _ _⟩
  ·have hb0 : gk ≠ 0 := fun h => by have := hsm.out; rw [h, siz_zero] at this; omega
   have Hb0 := Lib.hid hb0
   clear hb0
   go_wp2_with fail
   refine (div_any _ _ _ _ _ _ a gk _ hU hV Hb0.out (by omega) (by omega)).mono ?_
   rintro e w5 ⟨⟨q1, k3, c3, q2, k4, c4, rfl, hU3, hU4, hO3, hO4⟩, hE7⟩
   have hmod := Nat.mod_lt a (Nat.pos_of_ne_zero Hb0.out)
   have hk4 : k4 ≤ 1024 := by
    have h1 : siz (a % gk) = k4 := hU4.len
    have h2 : siz (a % gk) ≤ siz gk := siz_mono (Nat.le_of_lt hmod)
    have h3 := hsm.out
    omega
   have hgc : Hid (Nat.gcd gk (a % gk) = Nat.gcd x.natAbs y.natAbs) := by
    unfold Hid
    rw [← hg.out, Nat.gcd_comm a gk, Nat.gcd_rec gk a, Nat.gcd_comm]
   have Hmod := Lib.hid hmod
   have hs5 := hE5.size
   have hs6 := hE6.size
   clear hmod
   go_wp2_with fail
   go_roundg (a % gk)
   case measure => exact Hmod.out
   case rel => exact ⟨gk, a % gk, q, m, d, q2, k4, c4, rfl, rfl, rfl, hgc, hm, hk4, hV.ext hE7, hU4, hO'.ext hE7, hO4.mono (by omega), hE6.trans (hE7.mono hE6.size)⟩
end Go.Proofs.YtndgaecfeaedeaaGreat
