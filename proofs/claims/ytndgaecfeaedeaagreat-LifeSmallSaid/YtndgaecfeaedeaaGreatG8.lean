/- Walks of package whole on numbers: DivMod. Walks of package whole on numbers: Cmp. Walks of package whole on numbers: FromInt. Walks of package whole on numbers: Same. Walks of the document's answer on absolute values: Trim, Less. Walks of the document's answer on absolute values: Half, short. -/
import Derived.Deep.DeepCutAuto
import Derived.Test.YtndgaecfeaedeaaGreatG7
set_option linter.unusedSimpArgs false
set_option linter.unusedVariables false
namespace Go.Proofs.YtndgaecfeaedeaaGreat
open Go.RowKit Lex Mth
attribute [local go_sem] run_indexAt_at add_zero_map Oper.semAt_some at_zero

/-- Quotient and remainder, the remainder with the divisor's sign. -/
def FD (x y q r : Int) : Prop := x = y * q + r ∧ ((0 ≤ r ∧ r < y) ∨ (y < r ∧ r ≤ 0))

theorem fd_plain {x y : Int} (hy : y ≠ 0) (h : decide (x < 0) = decide (y < 0) ∨ x.natAbs % y.natAbs = 0) : FD x y (sgn (decide (x < 0) != decide (y < 0)) (x.natAbs / y.natAbs)) (sgn (decide (y < 0)) (x.natAbs % y.natAbs)) := by
 have hp : 0 < y.natAbs := by omega
 have h1 : x.natAbs % y.natAbs + y.natAbs * (x.natAbs / y.natAbs) = x.natAbs := Nat.mod_add_div _ _
 have h2 := Nat.mod_lt x.natAbs hp
 obtain ⟨q, hq⟩ : ∃ q, q = x.natAbs / y.natAbs := ⟨_, rfl⟩
 obtain ⟨r, hr⟩ : ∃ r, r = x.natAbs % y.natAbs := ⟨_, rfl⟩
 rw [← hq, ← hr] at h1
 rw [← hr] at h2 h
 rw [← hq, ← hr]
 clear hq hr
 have h3 : ((y.natAbs * q : Nat) : Int) = (y.natAbs : Int) * (q : Int) := Int.natCast_mul _ _
 unfold FD sgn
 rcases (by omega : x < 0 ∨ 0 ≤ x) with hx | hx <;> rcases (by omega : y < 0 ∨ 0 ≤ y) with hy' | hy'
 ·obtain ⟨a, rfl⟩ : ∃ a : Nat, y = -(a : Int) := ⟨y.natAbs, by omega⟩
  simp only [hx, hy', decide_true, bne_self_eq_false, Bool.false_eq_true, if_false, if_true, Int.neg_mul] at h h1 h2 h3 ⊢
  simp only [Int.natAbs_neg, Int.natAbs_natCast] at h h1 h2 h3 ⊢
  omega
 ·obtain ⟨a, rfl⟩ : ∃ a : Nat, y = (a : Int) := ⟨y.natAbs, by omega⟩
  have hy2 : ¬ ((a : Int) < 0) := by omega
  simp only [hx, hy2, decide_true, decide_false, Bool.bne_false, if_true, Int.mul_neg, Bool.false_eq_true, if_false, Int.natAbs_natCast] at h h1 h2 h3 ⊢
  have : r = 0 := by rcases h with h | h; cases h; exact h
  omega
 ·obtain ⟨a, rfl⟩ : ∃ a : Nat, y = -(a : Int) := ⟨y.natAbs, by omega⟩
  have hx2 : ¬ (x < 0) := by omega
  simp only [hx2, hy', decide_true, decide_false, Bool.false_bne, if_true, Int.neg_mul, Int.mul_neg, Int.neg_neg, Int.natAbs_neg, Int.natAbs_natCast] at h h1 h2 h3 ⊢
  have : r = 0 := by rcases h with h | h; cases h; exact h
  omega
 ·obtain ⟨a, rfl⟩ : ∃ a : Nat, y = (a : Int) := ⟨y.natAbs, by omega⟩
  have hx2 : ¬ (x < 0) := by omega
  have hy2 : ¬ ((a : Int) < 0) := by omega
  simp only [hx2, hy2, decide_false, bne_self_eq_false, Bool.false_eq_true, if_false, Int.natAbs_natCast] at h h1 h2 h3 ⊢
  omega
theorem fd_up {x y : Int} (hy : y ≠ 0) (h : decide (x < 0) ≠ decide (y < 0)) (hr0 : 0 < x.natAbs % y.natAbs) : FD x y (sgn (decide (x < 0) != decide (y < 0)) (x.natAbs / y.natAbs + 1)) (sgn (decide (y < 0)) (y.natAbs - x.natAbs % y.natAbs)) := by
 have hp : 0 < y.natAbs := by omega
 have h1 : x.natAbs % y.natAbs + y.natAbs * (x.natAbs / y.natAbs) = x.natAbs := Nat.mod_add_div _ _
 have h2 := Nat.mod_lt x.natAbs hp
 obtain ⟨q, hq⟩ : ∃ q, q = x.natAbs / y.natAbs := ⟨_, rfl⟩
 obtain ⟨r, hr⟩ : ∃ r, r = x.natAbs % y.natAbs := ⟨_, rfl⟩
 rw [← hq, ← hr] at h1
 rw [← hr] at h2 hr0
 rw [← hq, ← hr]
 clear hq hr
 have h3 : ((y.natAbs * q : Nat) : Int) = (y.natAbs : Int) * (q : Int) := Int.natCast_mul _ _
 have h4 : (y.natAbs : Int) * ((q + 1 : Nat) : Int) = (y.natAbs : Int) * (q : Int) + y.natAbs := by rw [Int.natCast_add, Int.mul_add]; simp
 unfold FD sgn
 rcases (by omega : x < 0 ∨ 0 ≤ x) with hx | hx <;> rcases (by omega : y < 0 ∨ 0 ≤ y) with hy' | hy'
 ·simp [hx, hy'] at h
 ·obtain ⟨a, rfl⟩ : ∃ a : Nat, y = (a : Int) := ⟨y.natAbs, by omega⟩
  have hy2 : ¬ ((a : Int) < 0) := by omega
  simp only [hx, hy2, decide_true, decide_false, Bool.bne_false, if_true, Int.mul_neg, Bool.false_eq_true, if_false, Int.natAbs_natCast] at h1 h2 h3 h4 ⊢
  omega
 ·obtain ⟨a, rfl⟩ : ∃ a : Nat, y = -(a : Int) := ⟨y.natAbs, by omega⟩
  have hx2 : ¬ (x < 0) := by omega
  simp only [hx2, hy', decide_true, decide_false, Bool.false_bne, if_true, Int.neg_mul, Int.mul_neg, Int.neg_neg, Int.natAbs_neg, Int.natAbs_natCast] at h1 h2 h3 h4 ⊢
  omega
 ·have hx2 : ¬ (x < 0) := by omega
  have hy2 : ¬ (y < 0) := by omega
  simp [hx2, hy2] at h

set_option maxRecDepth 100000 in
set_option maxHeartbeats 4000000 in
theorem DivMod_any (n1 n2 : Bool) (p1 p2 : Option Addr) (k1 c1 k2 c2 : Nat) (x y : Int) (w : World) (hx : RW w (.agg #[.bool n1, .slice p1 k1 c1]) x) (hy : RW w (.agg #[.bool n2, .slice p2 k2 c2]) y) (bx : siz x.natAbs ≤ 1024) (by' : siz y.natAbs ≤ 1024) (hy0 : y ≠ 0) :
    Calls Tryz.prog 205 #[.agg #[.bool n1, .slice p1 k1 c1], .agg #[.bool n2, .slice p2 k2 c2]] w fun e w' =>
     ∃ b p n c b' p' n' c' q r, e = .returned (.tuple #[.agg #[.bool b, .slice p n c], .agg #[.bool b', .slice p' n' c'], .int .i64 0]) ∧ FD x y q r ∧ RW w' (.agg #[.bool b, .slice p n c]) q ∧ RW w' (.agg #[.bool b', .slice p' n' c']) r ∧
      Own w.heap.size w' p c ∧ Own w.heap.size w' p' c' ∧ Ext w w' := by
 obtain ⟨e1, ux⟩ := RawW.u16 hx
 obtain ⟨e2, uy⟩ := RawW.u16 hy
 have hv1 : valW n1 (limbs x.natAbs) = true := by rw [e1]; exact valW_of (by omega)
 have hv2 : valW n2 (limbs y.natAbs) = true := by rw [e2]; exact valW_of (by omega)
 have He1 := Lib.hid e1
 have He2 := Lib.hid e2
 have Hk1 : Hid (siz x.natAbs = k1) := ux.len
 have Hk2 : Hid (siz y.natAbs = k2) := uy.len
 clear e1 e2
 obtain ⟨W, hW⟩ : ∃ W, ((((w.alloc (.cells #[.bool n1, .slice p1 k1 c1] 38)).alloc (.cells #[.bool n2, .slice p2 k2 c2] 38)).alloc (.cells #[.bool false, .slice none 0 0] 38)).alloc (.cells #[.bool false, .slice none 0 0] 38)).alloc (.cells #[.bool n1, .slice p1 k1 c1, .bool n2, .slice p2 k2 c2] 38) = W := ⟨_, rfl⟩
 have hE : Ext w W := by rw [← hW]; exact (((((Below.refl _ _).alloc (Nat.le_refl _) _).alloc (by simp) _).alloc (by simp; omega) _).alloc (by simp; omega) _).alloc (by simp; omega) _
 have A1 : Cells W w.heap.size 38 #[.bool n1, .slice p1 k1 c1] := by rw [← hW]; exact ((((Cells.newAt _ _ rfl).alloc _).alloc _).alloc _).alloc _
 have A2 : Cells W (w.heap.size + 1) 38 #[.bool n2, .slice p2 k2 c2] := by rw [← hW]; exact (((Cells.newAt _ _ (by simp)).alloc _).alloc _).alloc _
 have A3 : Cells W (w.heap.size + 1 + 1) 38 #[.bool false, .slice none 0 0] := by rw [← hW]; exact ((Cells.newAt _ _ (by simp)).alloc _).alloc _
 have A5 : Cells W (w.heap.size + 1 + 1 + 1) 38 #[.bool false, .slice none 0 0] := by rw [← hW]; exact (Cells.newAt _ _ (by simp)).alloc _
 have A4 : Cells W (w.heap.size + 1 + 1 + 1 + 1) 38 #[.bool n1, .slice p1 k1 c1, .bool n2, .slice p2 k2 c2] := by rw [← hW]; exact Cells.newAt _ _ (by simp)
 go_enter Tryz.func205, Tryz.ntmps205
 go_wp2_with fail
 refine (valid2_any _ n1 n2 p1 p2 k1 c1 k2 c2 _ _ _ A4 (ux.ext hE) (uy.ext hE)).mono ?_
 rintro e W2 ⟨rfl, hE2⟩
 rw [hv1, hv2]
 clear hW
 have hE3 : Ext w W2 := hE.trans (hE2.mono hE.size)
 replace A1 := A1.ext hE2
 replace A2 := A2.ext hE2
 replace A3 := A3.ext hE2
 replace A5 := A5.ext hE2
 have a10 := A1.cell (k := 0) rfl
 have a11 := A1.cell (k := 1) rfl
 have a20 := A2.cell (k := 0) rfl
 have a21 := A2.cell (k := 1) rfl
 have hl2 : ((k2 : Int) == 0) = false := by have h1 := siz_pos (n := y.natAbs) (by omega); have h2 := Hk2.out; simp; omega
 go_wp2_with fail
 have l1 := A1.lt
 have l2 := A2.lt
 have l3 := A3.lt
 have hs3 := hE3.size
 have hb1 : k1 ≤ 1024 := by have := Hk1.out; omega
 have hb2 : k2 ≤ 1024 := by have := Hk2.out; omega
 replace ux := ux.ext hE3
 replace uy := uy.ext hE3
 clear bx by'
 have hyn : y.natAbs ≠ 0 := by omega
 refine (div_any _ _ _ _ _ _ x.natAbs y.natAbs _ ux uy hyn (by omega) (by omega)).mono ?_
 rintro e w3 ⟨⟨pq, nq, cq, pr, nr, cr, rfl, hUq, hUr, hOq, hOr⟩, hE4⟩
 replace A1 := A1.ext hE4
 replace A2 := A2.ext hE4
 replace A3 := A3.ext hE4
 replace A5 := A5.ext hE4
 have a10 := A1.cell (k := 0) rfl
 have a20 := A2.cell (k := 0) rfl
 have a21 := A2.cell (k := 1) rfl
 have l1 := A1.lt
 have l2 := A2.lt
 have hE5 : Ext w w3 := hE3.trans (hE4.mono hE3.size)
 replace uy := uy.ext hE4
 have hsq : siz (x.natAbs / y.natAbs) = nq := hUq.len
 have hsr : siz (x.natAbs % y.natAbs) = nr := hUr.len
 have hq1 : siz (x.natAbs / y.natAbs) ≤ siz x.natAbs := siz_mono (Nat.div_le_self _ _)
 have hr1 : siz (x.natAbs % y.natAbs) ≤ siz y.natAbs := siz_mono (Nat.le_of_lt (Nat.mod_lt _ (Nat.pos_of_ne_zero hyn)))
 have hnq : nq ≤ 1024 := by have := Hk1.out; omega
 have hnr : nr ≤ 1024 := by have := Hk2.out; omega
 have hOq' := hOq.mono hs3
 have hOr' := hOr.mono hs3
 have Hsr := Lib.hid hsr
 have hs5 := hE5.size
 clear hsq hsr hq1 hr1 hOq hOr hE2 hE A4
 have hdone : ∀ (pq : Option Addr) (nq cq : Nat) (pr : Option Addr) (nr cr : Nat) (Q R : Nat) (w5 : World), U16 w5 pq nq cq (limbs Q) → U16 w5 pr nr cr (limbs R) → Own w.heap.size w5 pq cq → Own w.heap.size w5 pr cr → Ext w w5 → FD x y (sgn (n1 != n2) Q) (sgn n2 R) →
     Cells w5 (w.heap.size + 1 + 1) 38 #[.bool false, .slice none 0 0] → Cells w5 (w.heap.size + 1 + 1 + 1) 38 #[.bool false, .slice none 0 0] →
     FD x y (sgn (n1 != n2) Q) (sgn n2 R) ∧ RW (set2 (set2 w5 (w.heap.size + 1 + 1) (.bool ((n1 != n2) && decide (0 < nq))) (.slice pq nq cq)) (w.heap.size + 1 + 1 + 1) (.bool (n2 && decide (0 < nr))) (.slice pr nr cr)) (.agg #[.bool ((n1 != n2) && decide (0 < nq)), .slice pq nq cq]) (sgn (n1 != n2) Q) ∧
     RW (set2 (set2 w5 (w.heap.size + 1 + 1) (.bool ((n1 != n2) && decide (0 < nq))) (.slice pq nq cq)) (w.heap.size + 1 + 1 + 1) (.bool (n2 && decide (0 < nr))) (.slice pr nr cr)) (.agg #[.bool (n2 && decide (0 < nr)), .slice pr nr cr]) (sgn n2 R) ∧
     Own w.heap.size (set2 (set2 w5 (w.heap.size + 1 + 1) (.bool ((n1 != n2) && decide (0 < nq))) (.slice pq nq cq)) (w.heap.size + 1 + 1 + 1) (.bool (n2 && decide (0 < nr))) (.slice pr nr cr)) pq cq ∧
     Own w.heap.size (set2 (set2 w5 (w.heap.size + 1 + 1) (.bool ((n1 != n2) && decide (0 < nq))) (.slice pq nq cq)) (w.heap.size + 1 + 1 + 1) (.bool (n2 && decide (0 < nr))) (.slice pr nr cr)) pr cr ∧
     Ext w (set2 (set2 w5 (w.heap.size + 1 + 1) (.bool ((n1 != n2) && decide (0 < nq))) (.slice pq nq cq)) (w.heap.size + 1 + 1 + 1) (.bool (n2 && decide (0 < nr))) (.slice pr nr cr)) := by
  intro pq nq cq pr nr cr Q R w5 hQ hR oQ oR hEw hF c3 c5
  have c5' : Cells (set2 w5 (w.heap.size + 1 + 1) (.bool ((n1 != n2) && decide (0 < nq))) (.slice pq nq cq)) (w.heap.size + 1 + 1 + 1) 38 #[.bool false, .slice none 0 0] := c5.keeps (set2_keeps _ _ _ _) (by omega)
  exact ⟨hF, ((made_RW (n1 != n2) hQ).set2 c3 ni0 _ _).set2 c5' ni0 _ _, ((made_RW n2 hR).set2 c3 ni0 _ _).set2 c5' ni0 _ _, (oQ.cells c3 (by decide) (set2_keeps _ _ _ _)).cells c5' (by decide) (set2_keeps _ _ _ _),
   (oR.cells c3 (by decide) (set2_keeps _ _ _ _)).cells c5' (by decide) (set2_keeps _ _ _ _), Ext.set2 (Ext.set2 hEw (by omega) _ _) (by omega) _ _⟩
 have Hdone := Lib.hid hdone
 clear hdone
 by_cases hn : n1 = n2
 ·have hnb : (n1 == n2) = true := by simpa using hn
  have hd := fd_plain (x := x) hy0 (.inl (by rw [← He1.out, ← He2.out]; exact hn))
  rw [← He1.out, ← He2.out] at hd
  have Hd := Lib.hid hd
  clear hd hn
  go_upto_if 41 with fail
  go_cut [7, 8] (fun s7 s8 wx => ∃ (pq : Option Addr) (nq cq : Nat) (pr : Option Addr) (nr cr : Nat) (Q R : Nat), s7 = .slice pq nq cq ∧ s8 = .slice pr nr cr ∧ U16 wx pq nq cq (limbs Q) ∧ U16 wx pr nr cr (limbs R) ∧
   Own w.heap.size wx pq cq ∧ Own w.heap.size wx pr cr ∧ Ext w3 wx ∧ nq ≤ 1025 ∧ nr ≤ 1024 ∧ Hid (FD x y (sgn (n1 != n2) Q) (sgn n2 R)))
  case first =>
   go_wp2_with fail
   go_meet
   case rel => exact ⟨pq, nq, cq, pr, nr, cr, _, _, rfl, rfl, hUq, hUr, hOq', hOr', Below.refl _ _, by omega, hnr, Hd⟩
  case rest =>
  obtain ⟨pq, nq, cq, pr, nr, cr, Q, R, rfl, rfl, hQ, hR, oQ, oR, hE6, hnq, hnr, hF⟩ := hcut
  have B3 := A3.ext hE6
  have B5 := A5.ext hE6
  have fin := Hdone.out pq nq cq pr nr cr Q R wc hQ hR oQ oR (hE5.trans (hE6.mono hE5.size)) hF.out B3 B5
  have b10 := (A1.ext hE6).cell (k := 0) rfl
  have b20 := (A2.ext hE6).cell (k := 0) rfl
  have b30 := B3.cell (k := 0) rfl
  have b31 := B3.cell (k := 1) rfl
  have b50 := B5.cell (k := 0) rfl
  have b51 := B5.cell (k := 1) rfl
  have g30 := B3.frozen 0
  have g31 := B3.frozen 1
  have g50 := B5.frozen 0
  have g51 := B5.frozen 1
  have m3 := B3.lt
  have m5 := B5.lt
  have C3 := B3.set2 (.bool ((n1 != n2) && decide (0 < nq))) (.slice pq nq cq)
  have C3' := C3.keeps (set2_keeps _ (w.heap.size + 1 + 1 + 1) (.bool (n2 && decide (0 < nr))) (.slice pr nr cr)) (by omega)
  have C5 := (B5.keeps (set2_keeps _ (w.heap.size + 1 + 1) (.bool ((n1 != n2) && decide (0 < nq))) (.slice pq nq cq)) (by omega)).set2 (.bool (n2 && decide (0 < nr))) (.slice pr nr cr)
  have d0 := C3'.cell (k := 0) rfl
  have d1 := C3'.cell (k := 1) rfl
  have d2 := C5.cell (k := 0) rfl
  have d3 := C5.cell (k := 1) rfl
  clear hQ hR oQ oR C3 C3' C5
  have Hfin := Lib.hid fin
  have D0 := Lib.hid d0
  have D1 := Lib.hid d1
  have D2 := Lib.hid d2
  have D3 := Lib.hid d3
  clear fin d0 d1 d2 d3 hE6 hnq hnr
  have zq : nq = 0 ∨ 0 < nq := by omega
  have zr : nr = 0 ∨ 0 < nr := by omega
  cases n1 <;> cases n2 <;> first
   | (simp at hnb; done)
   | (rcases zq with rfl | zq <;> rcases zr with rfl | zr
      all_goals
       go_wp2_with fail
       have fin := Hfin.out
       have d0 := D0.out
       have d1 := D1.out
       have d2 := D2.out
       have d3 := D3.out
       try rw [decide_eq_true zq] at fin d0 d1 d2 d3
       try rw [decide_eq_true zr] at fin d0 d1 d2 d3
       simp only [Bool.bne_false, Bool.false_bne, bne_self_eq_false, Bool.bne_true, Bool.not_true, Bool.not_false, Bool.false_and, Bool.true_and, Bool.and_true, Nat.lt_irrefl, decide_false] at fin d0 d1 d2 d3
       obtain ⟨f1, f2, f3, f4, f5, f6⟩ := fin
       refine bodyPost_ret (v := .tuple #[.agg #[.bool _, .slice pq _ cq], .agg #[.bool _, .slice pr _ cr], .int .i64 0]) (by simp [results, Tryz.results205, go_sem, d0, d1, d2, d3]) rfl ⟨_, _, _, _, _, _, _, _, _, _, rfl, f1, f2, f3, f4, f5, f6⟩)
 ·have hnb : (n1 == n2) = false := by simpa using hn
  have Hn := Lib.hid hn
  clear hn
  go_upto_if 41 with fail
  go_cut [7, 8] (fun s7 s8 wx => ∃ (pq : Option Addr) (nq cq : Nat) (pr : Option Addr) (nr cr : Nat) (Q R : Nat), s7 = .slice pq nq cq ∧ s8 = .slice pr nr cr ∧ U16 wx pq nq cq (limbs Q) ∧ U16 wx pr nr cr (limbs R) ∧
   Own w.heap.size wx pq cq ∧ Own w.heap.size wx pr cr ∧ Ext w3 wx ∧ nq ≤ 1025 ∧ nr ≤ 1024 ∧ Hid (FD x y (sgn (n1 != n2) Q) (sgn n2 R)))
  case first =>
   rcases Nat.eq_zero_or_pos nr with h0 | h0
   ·have hd := fd_plain (x := x) hy0 (.inr (siz_eq_zero.1 (by rw [Hsr.out]; exact h0)))
    rw [← He1.out, ← He2.out] at hd
    have Hd := Lib.hid hd
    subst h0
    clear hd
    go_wp2_with fail
    go_meet
    case rel => exact ⟨pq, nq, cq, pr, 0, cr, _, _, rfl, rfl, hUq, hUr, hOq', hOr', Below.refl _ _, by omega, by omega, Hd⟩
   ·have h0' : (0 : Int) < (nr : Int) := by omega
    have hd := fd_up (x := x) hy0 (by rw [← He1.out, ← He2.out]; exact Hn.out) (Nat.pos_of_ne_zero fun h => by have := Hsr.out; rw [h, siz_zero] at this; omega)
    rw [← He1.out, ← He2.out] at hd
    have Hd := Lib.hid hd
    clear hd
    have hl1 : limbs 1 = [1] := by rw [limbs_pos (by omega)]; simp [limbs_zero]
    have Hl1 := Lib.hid hl1
    clear hl1
    have hle : x.natAbs % y.natAbs ≤ y.natAbs := Nat.le_of_lt (Nat.mod_lt _ (Nat.pos_of_ne_zero hyn))
    have Hle := Lib.hid hle
    clear hle
    go_wp2_with fail
    refine Lex.regionE 7 (fun k => k == 1 || k == 2 || k == 6) (fun k v => match k with | 1 => ∃ g, v = .slice (some ⟨g, 0, none⟩) 1 1 | _ => ∃ p n c, v = .slice p n c)
     (fun k v w1 => match k with
      | 1 => ∀ g, v = .slice (some ⟨g, 0, none⟩) 1 1 → Row w1 g [1]
      | 2 => ∀ p n c, v = .slice p n c → U16 w1 p n c (limbs (x.natAbs / y.natAbs + 1)) ∧ Own w.heap.size w1 p c
      | 6 => ∀ p n c, v = .slice p n c → U16 w1 p n c (limbs (y.natAbs - x.natAbs % y.natAbs)) ∧ Own w.heap.size w1 p c
      | _ => True) (by kernel_rfl) (by kernel_rfl) ?hA ?_
    case hA =>
     intro i v w1 w2 h e
     split
     ·intro g hv; exact (h g hv).ext e
     ·intro p n c hv; obtain ⟨h1, h2⟩ := h p n c hv; exact ⟨h1.ext e, h2.ext e⟩
     ·intro p n c hv; obtain ⟨h1, h2⟩ := h p n c hv; exact ⟨h1.ext e, h2.ext e⟩
     ·trivial
    refine Walk.one (x := ?_) rfl rfl (fun w1 hI hL K hK => ?_) ?_
    rotate_left
    ·obtain ⟨hc, hf⟩ := bcell hI
     go_simp
     repeat (first | (go_ints; try go_simp) | (simp only [↓IntWalk.iteOmega]; try go_simp))
     exact hK
    simp only [Pq1]
    refine Walk.told rfl rfl ⟨_, 0, rfl⟩ (fun w1 hI hL K hK => ?_) ?_
    ·go_simp
     have hE7 : Ext w1 (w1.alloc (.cells #[.int .u16 1] 153)) := (Below.refl _ _).alloc (Nat.le_refl _) _
     refine hK _ _ ⟨_, rfl⟩ ?_ (hI.trans (hE7.mono hI.size)) hE7
     intro g hv
     simp only [Value.slice.injEq, Option.some.injEq, Addr.mk.injEq, and_true] at hv
     subst hv
     exact Row.new w1 [1]
    rintro v1 ⟨g1, rfl⟩
    simp only [Pq1]
    refine Walk.told rfl rfl ⟨_, none, 0, 0, rfl⟩ (fun w1 hI hL K hK => ?_) ?_
    ·have hrow := hL (1, .slice (some ⟨g1, 0, none⟩) 1 1) (by simp) (by kernel_rfl) g1 rfl
     clear hL
     have hU1 : U16 w1 (some ⟨g1, 0, none⟩) 1 1 (limbs 1) := by rw [Hl1.out]; exact hrow.u16 (Lim.cons.2 ⟨by omega, Lim.nil⟩) (by simp) (by omega) (by omega)
     go_simp
     refine (add_any _ _ _ _ _ _ _ _ w1 (hUq.ext hI) hU1 (by omega) (by omega)).mono ?_
     rintro e w5 ⟨p, n, c, rfl, hU, hO, hE8⟩
     refine ⟨_, rfl, hK _ _ ⟨p, n, c, rfl⟩ ?_ (hI.trans (hE8.mono hI.size)) hE8⟩
     intro p' n' c' hv
     simp only [Value.slice.injEq] at hv
     obtain ⟨rfl, rfl, rfl⟩ := hv
     exact ⟨hU, hO.mono (by have := hI.size; omega)⟩
    rintro v2 ⟨p7, n7, c7, rfl⟩
    simp only [Pq1]
    iterate 3
     refine Walk.one (x := ?_) rfl rfl (fun w1 hI hL K hK => ?_) ?_
     rotate_left
     ·obtain ⟨hc, hf⟩ := bcell hI
      go_simp
      repeat (first | (go_ints; try go_simp) | (simp only [↓IntWalk.iteOmega]; try go_simp))
      exact hK
     simp only [Pq1]
    refine Walk.told rfl rfl ⟨_, none, 0, 0, rfl⟩ (fun w1 hI hL K hK => ?_) ?_
    ·clear hL
     go_simp
     refine (sub_any _ _ _ _ _ _ _ _ w1 (uy.ext hI) (hUr.ext hI) Hle.out (by omega)).mono ?_
     rintro e w5 ⟨p, n, c, rfl, hU, hO, hE8⟩
     refine ⟨_, rfl, hK _ _ ⟨p, n, c, rfl⟩ ?_ (hI.trans (hE8.mono hI.size)) hE8⟩
     intro p' n' c' hv
     simp only [Value.slice.injEq] at hv
     obtain ⟨rfl, rfl, rfl⟩ := hv
     exact ⟨hU, hO.mono (by have := hI.size; omega)⟩
    rintro v6 ⟨p8, n8, c8, rfl⟩
    simp only [Pq1]
    refine Walk.nil fun w5 hI5 hL5 => ?_
    obtain ⟨hU7, hO7⟩ := hL5 (2, .slice p7 n7 c7) (by simp) p7 n7 c7 rfl
    obtain ⟨hU8, hO8⟩ := hL5 (6, .slice p8 n8 c8) (by simp) p8 n8 c8 rfl
    clear hL5
    have hn7 : n7 ≤ 1025 := by
     have h1 : siz (x.natAbs / y.natAbs + 1) = n7 := hU7.len
     have h2 := siz_add (x.natAbs / y.natAbs) 1
     have h3 : siz (x.natAbs / y.natAbs) = nq := hUq.len
     have h4 : siz 1 = 1 := by unfold siz; rw [Hl1.out]; rfl
     omega
    have hn8 : n8 ≤ 1024 := by
     have h1 : siz (y.natAbs - x.natAbs % y.natAbs) = n8 := hU8.len
     have h2 : siz (y.natAbs - x.natAbs % y.natAbs) ≤ siz y.natAbs := siz_mono (Nat.sub_le _ _)
     have := Hk2.out
     omega
    simp only [List.drop_succ_cons, List.drop_zero]
    go_wp2_with fail
    go_meet
    case rel => exact ⟨p7, n7, c7, p8, n8, c8, _, _, rfl, rfl, hU7, hU8, hO7, hO8, hI5, hn7, hn8, Hd⟩
  case rest =>
  obtain ⟨pq, nq, cq, pr, nr, cr, Q, R, rfl, rfl, hQ, hR, oQ, oR, hE6, hnq, hnr, hF⟩ := hcut
  have B3 := A3.ext hE6
  have B5 := A5.ext hE6
  have fin := Hdone.out pq nq cq pr nr cr Q R wc hQ hR oQ oR (hE5.trans (hE6.mono hE5.size)) hF.out B3 B5
  have b10 := (A1.ext hE6).cell (k := 0) rfl
  have b20 := (A2.ext hE6).cell (k := 0) rfl
  have b30 := B3.cell (k := 0) rfl
  have b31 := B3.cell (k := 1) rfl
  have b50 := B5.cell (k := 0) rfl
  have b51 := B5.cell (k := 1) rfl
  have g30 := B3.frozen 0
  have g31 := B3.frozen 1
  have g50 := B5.frozen 0
  have g51 := B5.frozen 1
  have m3 := B3.lt
  have m5 := B5.lt
  have C3 := B3.set2 (.bool ((n1 != n2) && decide (0 < nq))) (.slice pq nq cq)
  have C3' := C3.keeps (set2_keeps _ (w.heap.size + 1 + 1 + 1) (.bool (n2 && decide (0 < nr))) (.slice pr nr cr)) (by omega)
  have C5 := (B5.keeps (set2_keeps _ (w.heap.size + 1 + 1) (.bool ((n1 != n2) && decide (0 < nq))) (.slice pq nq cq)) (by omega)).set2 (.bool (n2 && decide (0 < nr))) (.slice pr nr cr)
  have d0 := C3'.cell (k := 0) rfl
  have d1 := C3'.cell (k := 1) rfl
  have d2 := C5.cell (k := 0) rfl
  have d3 := C5.cell (k := 1) rfl
  clear hQ hR oQ oR C3 C3' C5
  have Hfin := Lib.hid fin
  have D0 := Lib.hid d0
  have D1 := Lib.hid d1
  have D2 := Lib.hid d2
  have D3 := Lib.hid d3
  clear fin d0 d1 d2 d3 hE6 hnq hnr
  have zq : nq = 0 ∨ 0 < nq := by omega
  have zr : nr = 0 ∨ 0 < nr := by omega
  cases n1 <;> cases n2 <;> first
   | (simp at hnb; done)
   | (rcases zq with rfl | zq <;> rcases zr with rfl | zr
      all_goals
       go_wp2_with fail
       have fin := Hfin.out
       have d0 := D0.out
       have d1 := D1.out
       have d2 := D2.out
       have d3 := D3.out
       try rw [decide_eq_true zq] at fin d0 d1 d2 d3
       try rw [decide_eq_true zr] at fin d0 d1 d2 d3
       simp only [Bool.bne_false, Bool.false_bne, bne_self_eq_false, Bool.bne_true, Bool.not_true, Bool.not_false, Bool.false_and, Bool.true_and, Bool.and_true, Nat.lt_irrefl, decide_false] at fin d0 d1 d2 d3
       obtain ⟨f1, f2, f3, f4, f5, f6⟩ := fin
       refine bodyPost_ret (v := .tuple #[.agg #[.bool _, .slice pq _ cq], .agg #[.bool _, .slice pr _ cr], .int .i64 0]) (by simp [results, Tryz.results205, go_sem, d0, d1, d2, d3]) rfl ⟨_, _, _, _, _, _, _, _, _, _, rfl, f1, f2, f3, f4, f5, f6⟩)
end Go.Proofs.YtndgaecfeaedeaaGreat
namespace Go.Proofs.YtndgaecfeaedeaaGreat
open Go.RowKit Lex Mth
attribute [local go_sem] run_indexAt_at add_zero_map Oper.semAt_some at_zero

/-- Which of two numbers is the greater one. -/
def cmpZ (x y : Int) : Int := if x < y then -1 else if y < x then 1 else 0

set_option maxRecDepth 100000 in
theorem Cmp_any (n1 n2 : Bool) (p1 p2 : Option Addr) (k1 c1 k2 c2 : Nat) (x y : Int) (w : World) (hx : RW w (.agg #[.bool n1, .slice p1 k1 c1]) x) (hy : RW w (.agg #[.bool n2, .slice p2 k2 c2]) y) (bx : siz x.natAbs ≤ 1024) (by' : siz y.natAbs ≤ 1024) :
    Calls Tryz.prog 75 #[.agg #[.bool n1, .slice p1 k1 c1], .agg #[.bool n2, .slice p2 k2 c2]] w fun e w' =>
     e = .returned (.int .i64 (cmpZ x y)) ∧ Ext w w' := by
 obtain ⟨e1, ux⟩ := RawW.u16 hx
 obtain ⟨e2, uy⟩ := RawW.u16 hy
 have hv1 : valW n1 (limbs x.natAbs) = true := by rw [e1]; exact valW_of (by omega)
 have hv2 : valW n2 (limbs y.natAbs) = true := by rw [e2]; exact valW_of (by omega)
 have He1 := Lib.hid e1
 have He2 := Lib.hid e2
 clear e1 e2
 obtain ⟨W, hW⟩ : ∃ W, ((w.alloc (.cells #[.bool n1, .slice p1 k1 c1] 38)).alloc (.cells #[.bool n2, .slice p2 k2 c2] 38)).alloc (.cells #[.bool n1, .slice p1 k1 c1, .bool n2, .slice p2 k2 c2] 38) = W := ⟨_, rfl⟩
 have hE : Ext w W := by rw [← hW]; exact (((Below.refl _ _).alloc (Nat.le_refl _) _).alloc (by simp) _).alloc (by simp; omega) _
 have A1 : Cells W w.heap.size 38 #[.bool n1, .slice p1 k1 c1] := by rw [← hW]; exact ((Cells.newAt _ _ rfl).alloc _).alloc _
 have A2 : Cells W (w.heap.size + 1) 38 #[.bool n2, .slice p2 k2 c2] := by rw [← hW]; exact (Cells.newAt _ _ (by simp)).alloc _
 have A4 : Cells W (w.heap.size + 1 + 1) 38 #[.bool n1, .slice p1 k1 c1, .bool n2, .slice p2 k2 c2] := by rw [← hW]; exact Cells.newAt _ _ (by simp)
 go_enter Tryz.func75, Tryz.ntmps75
 go_wp2_with fail
 refine (valid2_any _ n1 n2 p1 p2 k1 c1 k2 c2 _ _ _ A4 (ux.ext hE) (uy.ext hE)).mono ?_
 rintro e W2 ⟨rfl, hE2⟩
 rw [hv1, hv2]
 clear hW
 have hE3 : Ext w W2 := hE.trans (hE2.mono hE.size)
 replace A1 := A1.ext hE2
 replace A2 := A2.ext hE2
 have a10 := A1.cell (k := 0) rfl
 have a11 := A1.cell (k := 1) rfl
 have a20 := A2.cell (k := 0) rfl
 have a21 := A2.cell (k := 1) rfl
 by_cases hn : n1 = n2
 ·have hnb : (n1 == n2) = true := by simpa using hn
  subst hn
  have Hxy : Hid (cmpZ x y = if n1 then cmpN y.natAbs x.natAbs else cmpN x.natAbs y.natAbs) := by
   have h1 := He1.out
   have h2 := He2.out
   unfold Hid cmpZ cmpN
   cases n1
   ·simp at h1 h2; simp only [Bool.false_eq_true, if_false]; split <;> split <;> (try split) <;> first | rfl | omega
   ·simp at h1 h2; simp only [if_true]; split <;> split <;> (try split) <;> first | rfl | omega
  cases n1
  ·go_wp2_with fail
   refine (compare_any _ _ _ _ _ _ _ _ _ (ux.ext hE3) (uy.ext hE3)).mono ?_
   rintro e w4 ⟨rfl, hE4⟩
   go_wp2_with fail
   go_ret
   exact ⟨by rw [Hxy.out]; rfl, hE3.trans (hE4.mono hE3.size)⟩
  ·go_wp2_with fail
   refine (compare_any _ _ _ _ _ _ _ _ _ (uy.ext hE3) (ux.ext hE3)).mono ?_
   rintro e w4 ⟨rfl, hE4⟩
   go_wp2_with fail
   go_ret
   exact ⟨by rw [Hxy.out]; rfl, hE3.trans (hE4.mono hE3.size)⟩
 ·have hnb : (n1 == n2) = false := by simpa using hn
  have Hxy : Hid (cmpZ x y = if n1 then -1 else 1) := by
   have h1 := He1.out
   have h2 := He2.out
   unfold Hid cmpZ
   cases n1 <;> cases n2 <;> simp at h1 h2 hn ⊢
   ·split <;> first | omega | (split <;> first | rfl | omega)
   ·omega
  clear hn
  cases n1 <;> cases n2 <;> first
   | (simp at hnb; done)
   | (go_wp2_with fail
      refine (sign_any _ _).mono ?_
      rintro e w4 ⟨rfl, rfl⟩
      go_wp2_with fail
      go_ret
      exact ⟨by rw [Hxy.out]; rfl, hE3⟩)
end Go.Proofs.YtndgaecfeaedeaaGreat
namespace Go.Proofs.YtndgaecfeaedeaaGreat
open Go.RowKit Lex Mth
attribute [local go_sem] run_indexAt_at add_zero_map Oper.semAt_some at_zero

theorem four_val {u : Nat} (h : u < 18446744073709551616) : val [u % 65536, u / 65536 % 65536, u / 4294967296 % 65536, u / 281474976710656 % 65536] = u := by
 simp only [val]; omega

set_option maxRecDepth 100000 in
theorem FromInt_any (n : Int) (w : World) (h1 : -9223372036854775808 ≤ n) (h2 : n ≤ 9223372036854775807) :
    Calls Tryz.prog 79 #[.int .i64 n] w fun e w' => ∃ b p k c, e = .returned (.agg #[.bool b, .slice p k c]) ∧ RW w' (.agg #[.bool b, .slice p k c]) n ∧ Own w.heap.size w' p c ∧ Ext w w' := by
 obtain ⟨u, hu⟩ : ∃ u, u = n.natAbs := ⟨_, rfl⟩
 have hub : u < 18446744073709551616 := by omega
 have hw64 : IntKind.u64.wrap (if n < 0 then -(IntKind.u64.wrap n) else n) = (u : Int) := by
  simp only [IntKind.wrap, IntKind.bits, IntKind.signed]
  split <;> simp <;> omega
 have w0 : IntKind.u16.wrap (u : Int) = ((u % 65536 : Nat) : Int) := by simp [IntKind.wrap, IntKind.bits, IntKind.signed]
 have w1 : IntKind.u16.wrap ((u : Int) / 65536) = ((u / 65536 % 65536 : Nat) : Int) := by simp [IntKind.wrap, IntKind.bits, IntKind.signed]
 have w2 : IntKind.u16.wrap ((u : Int) / 4294967296) = ((u / 4294967296 % 65536 : Nat) : Int) := by simp [IntKind.wrap, IntKind.bits, IntKind.signed]
 have w3 : IntKind.u16.wrap ((u : Int) / 281474976710656) = ((u / 281474976710656 % 65536 : Nat) : Int) := by simp [IntKind.wrap, IntKind.bits, IntKind.signed]
 have Hu := Lib.hid hu
 clear hu
 obtain ⟨W, hW⟩ : ∃ W, (w.alloc (.cells #[.bool false, .slice none 0 0] 38)).alloc (.cells #[.int .u16 ((u : Int) % 65536), .int .u16 ((u : Int) / 65536 % 65536), .int .u16 ((u : Int) / 4294967296 % 65536), .int .u16 ((u : Int) / 281474976710656 % 65536)] 156) = W := ⟨_, rfl⟩
 have hE : Ext w W := by rw [← hW]; exact ((Below.refl _ _).alloc (Nat.le_refl _) _).alloc (by simp) _
 have A1 : Cells W w.heap.size 38 #[.bool false, .slice none 0 0] := by rw [← hW]; exact (Cells.newAt _ _ rfl).alloc _
 have A2 : Cells W (w.heap.size + 1) 156 #[.int .u16 ((u : Int) % 65536), .int .u16 ((u : Int) / 65536 % 65536), .int .u16 ((u : Int) / 4294967296 % 65536), .int .u16 ((u : Int) / 281474976710656 % 65536)] := by rw [← hW]; exact Cells.newAt _ _ (by simp)
 have hU : U16 W (some ⟨w.heap.size + 1, 0, none⟩) 4 4 [u % 65536, u / 65536 % 65536, u / 4294967296 % 65536, u / 281474976710656 % 65536] := by
  refine ⟨rfl, by omega, by omega, Has.some _ _, ?_, fun j hj => ?_⟩
  ·simp only [Lim.cons]
   exact ⟨Nat.mod_lt _ (by omega), Nat.mod_lt _ (by omega), Nat.mod_lt _ (by omega), Nat.mod_lt _ (by omega), Lim.nil⟩
  ·rw [at_zero]
   match j, hj with
   | 0, _ => exact A2.cell (k := 0) rfl
   | 1, _ => exact A2.cell (k := 1) rfl
   | 2, _ => exact A2.cell (k := 2) rfl
   | 3, _ => exact A2.cell (k := 3) rfl
 have hUt := hU.trim
 have Hv := Lib.hid (four_val hub)
 rw [Hv.out] at hUt
 by_cases hn : n < 0
 ·skip
  rw [if_pos hn] at hw64
  go_enter Tryz.func79, Tryz.ntmps79
  go_wp2_with fail
  refine (trimmed_any _ _ _ _ _ hU).mono ?_
  rintro e w' ⟨rfl, rfl⟩
  rw [Hv.out]
  clear hW
  go_wp2_with fail
  refine (clone_any _ _ _ _ _ hUt).mono ?_
  rintro e w4 ⟨p, c, rfl, hU4, hO4, hE4⟩
  have B := A1.ext hE4
  have b0 := B.cell (k := 0) rfl
  have b1 := B.cell (k := 1) rfl
  have g0 := B.frozen 0
  have g1 := B.frozen 1
  have l1 := B.lt
  have hs := hE.size
  go_wp2_with fail
  have C := B.set2 (.bool true) (.slice p (siz u) c)
  have d0 := C.cell (k := 0) rfl
  have d1 := C.cell (k := 1) rfl
  have hR : RW w4 (.agg #[.bool true, .slice p (siz u) c]) n := RW.mk (by rw [← Hu.out]; exact hU4) (by simp [hn])
  exact bodyPost_ret (v := .agg #[.bool true, .slice p (siz u) c]) (by simp [results, Tryz.results79, go_sem, d0, d1]) rfl
   ⟨_, p, _, c, rfl, hR.set2 B ni0 _ _, (hO4.mono hs).cells B (by decide) (set2_keeps _ _ _ _), Ext.set2 (hE.trans (hE4.mono hE.size)) (Nat.le_refl _) _ _⟩
 ·skip
  rw [if_neg hn] at hw64
  go_enter Tryz.func79, Tryz.ntmps79
  go_wp2_with fail
  refine (trimmed_any _ _ _ _ _ hU).mono ?_
  rintro e w' ⟨rfl, rfl⟩
  rw [Hv.out]
  clear hW
  go_wp2_with fail
  refine (clone_any _ _ _ _ _ hUt).mono ?_
  rintro e w4 ⟨p, c, rfl, hU4, hO4, hE4⟩
  have B := A1.ext hE4
  have b0 := B.cell (k := 0) rfl
  have b1 := B.cell (k := 1) rfl
  have g0 := B.frozen 0
  have g1 := B.frozen 1
  have l1 := B.lt
  have hs := hE.size
  go_wp2_with fail
  have C := B.set2 (.bool false) (.slice p (siz u) c)
  have d0 := C.cell (k := 0) rfl
  have d1 := C.cell (k := 1) rfl
  have hR : RW w4 (.agg #[.bool false, .slice p (siz u) c]) n := RW.mk (by rw [← Hu.out]; exact hU4) (by simp [hn])
  exact bodyPost_ret (v := .agg #[.bool false, .slice p (siz u) c]) (by simp [results, Tryz.results79, go_sem, d0, d1]) rfl
   ⟨_, p, _, c, rfl, hR.set2 B ni0 _ _, (hO4.mono hs).cells B (by decide) (set2_keeps _ _ _ _), Ext.set2 (hE.trans (hE4.mono hE.size)) (Nat.le_refl _) _ _⟩
end Go.Proofs.YtndgaecfeaedeaaGreat
namespace Go.Proofs.YtndgaecfeaedeaaGreat
open Go.RowKit Lex Mth
attribute [local go_sem] run_indexAt_at add_zero_map Oper.semAt_some at_zero

theorem eq_of_dig {l1 l2 : List Nat} (hl : l1.length = l2.length) (h : ∀ j, j < l1.length → dig l1 j = dig l2 j) : l1 = l2 := ext_getD hl h

set_option maxRecDepth 100000 in
theorem equal_any (p q : Option Addr) (n cp m cq : Nat) (l1 l2 : List Nat) (w : World) (hp : U16 w p n cp l1) (hq : U16 w q m cq l2) :
    Calls Tryz.prog 138 #[.slice p n cp, .slice q m cq] w fun e w' => e = .returned (.bool (decide (l1 = l2))) ∧ Ext w w' := by
 have hn := hp.reach
 have hm := hq.reach
 have hhp := hp.has
 have hhq := hq.has
 have hl1 := hp.len
 have hl2 := hq.len
 by_cases hnm : n = m
 ·subst hnm
  have Hl1 := Lib.hid hl1
  have Hl2 := Lib.hid hl2
  clear hl1 hl2
  go_enter Tryz.func138, Tryz.ntmps138
  go_wp2_with fail
  go_loopw [13] (fun v wr => ∃ k : Nat, v = .int .i64 (k : Nat) ∧ k ≤ n ∧ Hid (∀ j, j < k → dig l1 j = dig l2 j) ∧ Ext w wr) (fun v _ => (n - intOf v).toNat)
  case atStart => exact ⟨0, rfl, by omega, Lib.hid (fun j hj => absurd hj (Nat.not_lt_zero _)), Below.refl _ _⟩
  case round =>
   obtain ⟨k, rfl, hk, hall, hE⟩ := hrel
   by_cases hkn : k < n
   ·have c1 := (hp.ext hE).cell k hkn
    have c2 := (hq.ext hE).cell k hkn
    have b1 := (hp.ext hE).block hkn
    have b2 := (hq.ext hE).block hkn
    have hpW := hp.ext hE
    have hqW := hq.ext hE
    go_wp2_with fail
    have e1 : ∀ w1, Ext wr w1 → w1.cell? (at_ p k) = some (.int .u16 (dig l1 k : Nat)) := fun w1 hI => (hpW.ext hI).cell k hkn
    have e2 : ∀ w1, Ext wr w1 → w1.cell? (at_ q k) = some (.int .u16 (dig l2 k : Nat)) := fun w1 hI => (hqW.ext hI).cell k hkn
    refine Lex.regionE 9 (fun _ => false) (fun _ _ => True) (fun _ _ _ => True) (by kernel_rfl) (by kernel_rfl) (fun _ _ _ _ h _ => h) ?_
    iterate 3
     refine Walk.one (x := ?_) rfl rfl (fun w1 hI hL K hK => ?_) ?_
     rotate_left
     ·go_simp
      repeat (first | (go_ints; try go_simp) | (simp only [↓IntWalk.iteOmega]; try go_simp))
      exact hK
     simp only [Pq1]
    refine Walk.one (x := ?_) rfl rfl (fun w1 hI hL K hK => ?_) ?_
    rotate_left
    ·have c := e1 w1 hI
     go_simp
     repeat (first | (go_ints; try go_simp) | (simp only [↓IntWalk.iteOmega]; try go_simp))
     exact hK
    simp only [Pq1]
    iterate 3
     refine Walk.one (x := ?_) rfl rfl (fun w1 hI hL K hK => ?_) ?_
     rotate_left
     ·go_simp
      repeat (first | (go_ints; try go_simp) | (simp only [↓IntWalk.iteOmega]; try go_simp))
      exact hK
     simp only [Pq1]
    refine Walk.one (x := ?_) rfl rfl (fun w1 hI hL K hK => ?_) ?_
    rotate_left
    ·have c := e2 w1 hI
     go_simp
     repeat (first | (go_ints; try go_simp) | (simp only [↓IntWalk.iteOmega]; try go_simp))
     exact hK
    simp only [Pq1]
    refine Walk.one (x := ?_) rfl rfl (fun w1 hI hL K hK => ?_) ?_
    rotate_left
    ·go_simp
     repeat (first | (go_ints; try go_simp) | (simp only [↓IntWalk.iteOmega]; try go_simp))
     exact hK
    simp only [Pq1]
    refine Walk.nil fun w3 hI3 _ => ?_
    simp only [List.drop_succ_cons, List.drop_nil]
    have hE3 : Ext w w3 := hE.trans (hI3.mono hE.size)
    clear e1 e2
    by_cases hd : dig l1 k = dig l2 k
    ·have hd' : (((dig l1 k : Nat) : Int) != ((dig l2 k : Nat) : Int)) = false := by simp [hd]
     have Hd := Lib.hid hd
     clear hd
     go_wp2_with fail
     go_roundw
     case rel => exact ⟨k + 1, rfl, by omega, Lib.hid (fun j hj => (Nat.lt_or_eq_of_le (Nat.le_of_lt_succ hj)).elim (hall.out j) (fun e => e ▸ Hd.out)), hE3⟩
     case measure => simp [intOf]; omega
    ·have hd' : (((dig l1 k : Nat) : Int) != ((dig l2 k : Nat) : Int)) = true := by rw [bne_iff_ne]; omega
     have Hd := Lib.hid hd
     clear hd
     go_wp2_with fail
     go_ret
     have : ¬ l1 = l2 := fun e => Hd.out (by rw [e])
     exact ⟨by simp [this], hE3⟩
   ·obtain rfl : k = n := by omega
    go_wp2_with fail
    go_ret
    have : l1 = l2 := eq_of_dig (by rw [Hl1.out, Hl2.out]) (by rw [Hl1.out]; exact hall.out)
    exact ⟨by simp [this], hE⟩
 ·have hne : ((n : Int) != (m : Int)) = true := by rw [bne_iff_ne]; omega
  have : ¬ l1 = l2 := fun e => hnm (by rw [← hl1, ← hl2, e])
  have Hne := Lib.hid this
  clear this hl1 hl2
  go_enter Tryz.func138, Tryz.ntmps138
  go_wp2_with fail
  go_ret
  exact ⟨by simp [Hne.out], Below.refl _ _⟩

set_option maxRecDepth 100000 in
theorem Same_any (n1 n2 : Bool) (p1 p2 : Option Addr) (k1 c1 k2 c2 : Nat) (l1 l2 : List Nat) (w : World) (h1 : U16 w p1 k1 c1 l1) (h2 : U16 w p2 k2 c2 l2) :
    Calls Tryz.prog 78 #[.agg #[.bool n1, .slice p1 k1 c1], .agg #[.bool n2, .slice p2 k2 c2]] w fun e w' => e = .returned (.bool ((n1 == n2) && decide (l1 = l2))) ∧ Ext w w' := by
 have hE : Ext w ((w.alloc (.cells #[.bool n1, .slice p1 k1 c1] 38)).alloc (.cells #[.bool n2, .slice p2 k2 c2] 38)) := ((Below.refl _ _).alloc (Nat.le_refl _) _).alloc (by simp) _
 by_cases hn : n1 = n2
 ·subst hn
  go_enter Tryz.func78, Tryz.ntmps78
  go_wp2_with fail
  refine (equal_any _ _ _ _ _ _ _ _ _ (h1.ext hE) (h2.ext hE)).mono ?_
  rintro e w' ⟨rfl, hE2⟩
  go_wp2_with fail
  go_ret
  exact ⟨by simp, hE.trans (hE2.mono hE.size)⟩
 ·have hnb : (n1 == n2) = false := by simpa using hn
  go_enter Tryz.func78, Tryz.ntmps78
  go_wp2_with fail
  go_ret
  exact ⟨by simp [hnb], hE⟩
end Go.Proofs.YtndgaecfeaedeaaGreat
namespace Go.Proofs.YtndgaecfeaedeaaGreat
open Go.RowKit Lex Mth
attribute [local go_sem] run_indexAt_at add_zero_map Oper.semAt_some at_zero

set_option maxRecDepth 100000 in
theorem Trim_any (p : Option Addr) (n cap : Nat) (l : List Nat) (w : World) (h : U16 w p n cap l) :
    Calls Tryz.prog 195 #[.slice p n cap] w fun e w' => e = .returned (.slice p (siz (val l)) cap) ∧ w = w' := by
 have hn := h.reachN
 have hle := h.le
 have Hlen : Hid (l.length = n) := h.len
 have hhp := h.has
 go_enter Tryz.func195, Tryz.ntmps195
 go_wp2
 go_loop [3] (fun v => ∃ k : Nat, k ≤ n ∧ Hid (val (l.take k) = val l) ∧ v = .int .i64 (k : Nat)) (fun v => (intOf v).toNat)
 case atStart => exact ⟨n, by omega, by unfold Hid; rw [← Hlen.out, List.take_length], rfl⟩
 case round =>
  obtain ⟨k, hk, hv, rfl⟩ := hrel
  by_cases h0 : 0 < k
  ·have hcell := h.cell (k - 1) (by omega)
   by_cases hz : dig l (k - 1) = 0
   ·have hz' : (((dig l (k - 1) : Nat) : Int) == 0) = true := by simp [hz]
    have Hz := Lib.hid hz
    clear hz
    go_wp2
    go_round
    case rel => exact ⟨k - 1, by omega, trim_step h0 (by rw [Hlen.out]; omega) hv.out Hz.out, by congr 1; omega⟩
    case measure => simp [intOf]; omega
   ·have hz' : (((dig l (k - 1) : Nat) : Int) == 0) = false := by simp [hz]
    have Hz := Lib.hid hz
    clear hz
    go_wp2
    go_ret
    rw [trim_end h.lim (by rw [Hlen.out]; exact hk) hv.out (fun _ => Hz.out)]
    exact ⟨rfl, rfl⟩
  ·obtain rfl : k = 0 := by omega
   go_wp2
   go_ret
   rw [trim_end h.lim (by omega) hv.out (fun h => absurd h (by omega))]
   exact ⟨rfl, rfl⟩

/-- Which of two numbers is less, from the top on. -/
theorem less_split {x y n k : Nat} (hx : siz x = n) (hy : siz y = n) (hk : k < n) (hh : (limbs x).drop (k + 1) = (limbs y).drop (k + 1)) (hd : dig (limbs x) k ≠ dig (limbs y) k) : (x < y) ↔ dig (limbs x) k < dig (limbs y) k := by
 have hl : (limbs x).length = (limbs y).length := by show siz x = siz y; omega
 have kx : k < (limbs x).length := by show k < siz x; omega
 have ky : k < (limbs y).length := by show k < siz y; omega
 rcases Nat.lt_or_ge (dig (limbs x) k) (dig (limbs y) k) with h | h
 ·have := lt_of_top (lim_limbs x) kx ky hl hh h
  rw [val_limbs, val_limbs] at this
  exact ⟨fun _ => h, fun _ => this⟩
 ·have := lt_of_top (lim_limbs y) ky kx hl.symm hh.symm (show dig (limbs y) k < dig (limbs x) k by omega)
  rw [val_limbs, val_limbs] at this
  exact ⟨fun h1 => by omega, fun h1 => by omega⟩

set_option maxRecDepth 100000 in
theorem Less_any (p q : Option Addr) (n cp m cq : Nat) (x y : Nat) (w : World) (hp : U16 w p n cp (limbs x)) (hq : U16 w q m cq (limbs y)) :
    Calls Tryz.prog 191 #[.slice p n cp, .slice q m cq] w fun e w' => e = .returned (.bool (decide (x < y))) ∧ Ext w w' := by
 have hn := hp.reach
 have hm := hq.reach
 have hhp := hp.has
 have hhq := hq.has
 have hl1 : siz x = n := hp.len
 have hl2 : siz y = m := hq.len
 by_cases hnm : n = m
 ·subst hnm
  have Hl1 := Lib.hid hl1
  have Hl2 := Lib.hid hl2
  clear hl1 hl2
  go_enter Tryz.func191, Tryz.ntmps191
  go_wp2_with fail
  go_loopw [5] (fun v wr => ∃ k : Nat, v = .int .i64 ((n : Int) - 1 - k) ∧ k ≤ n ∧ Hid ((limbs x).drop (n - k) = (limbs y).drop (n - k)) ∧ Ext w wr) (fun v _ => (intOf v + 1).toNat)
  case atStart => exact ⟨0, by simp, by omega, Lib.hid (by rw [List.drop_of_length_le (l := limbs x) (by show siz x ≤ _; rw [Hl1.out]; omega), List.drop_of_length_le (l := limbs y) (by show siz y ≤ _; rw [Hl2.out]; omega)]), Below.refl _ _⟩
  case round =>
   obtain ⟨k, rfl, hk, hall, hE⟩ := hrel
   by_cases hkn : k < n
   ·have e0 : ((n : Int) - 1 - k) = ((n - 1 - k : Nat) : Int) := by omega
    rw [e0]
    obtain ⟨i, hi⟩ : ∃ i, i = n - 1 - k := ⟨_, rfl⟩
    rw [← hi]
    have hin : i < n := by omega
    have Hi := Lib.hid hi
    clear hi e0
    have hpW := hp.ext hE
    have hqW := hq.ext hE
    have e1 : ∀ w1, Ext wr w1 → w1.cell? (at_ p i) = some (.int .u16 (dig (limbs x) i : Nat)) := fun w1 hI => (hpW.ext hI).cell i hin
    have e2 : ∀ w1, Ext wr w1 → w1.cell? (at_ q i) = some (.int .u16 (dig (limbs y) i : Nat)) := fun w1 hI => (hqW.ext hI).cell i hin
    have E1 := Lib.hid e1
    have E2 := Lib.hid e2
    clear e1 e2
    go_wp2_with fail
    refine Lex.regionE 9 (fun _ => false) (fun _ _ => True) (fun _ _ _ => True) (by kernel_rfl) (by kernel_rfl) (fun _ _ _ _ h _ => h) ?_
    iterate 3
     refine Walk.one (x := ?_) rfl rfl (fun w1 hI hL K hK => ?_) ?_
     rotate_left
     ·go_simp
      repeat (first | (go_ints; try go_simp) | (simp only [↓IntWalk.iteOmega]; try go_simp))
      exact hK
     simp only [Pq1]
    refine Walk.one (x := ?_) rfl rfl (fun w1 hI hL K hK => ?_) ?_
    rotate_left
    ·have c := E1.out w1 hI
     go_simp
     repeat (first | (go_ints; try go_simp) | (simp only [↓IntWalk.iteOmega]; try go_simp))
     exact hK
    simp only [Pq1]
    iterate 3
     refine Walk.one (x := ?_) rfl rfl (fun w1 hI hL K hK => ?_) ?_
     rotate_left
     ·go_simp
      repeat (first | (go_ints; try go_simp) | (simp only [↓IntWalk.iteOmega]; try go_simp))
      exact hK
     simp only [Pq1]
    refine Walk.one (x := ?_) rfl rfl (fun w1 hI hL K hK => ?_) ?_
    rotate_left
    ·have c := E2.out w1 hI
     go_simp
     repeat (first | (go_ints; try go_simp) | (simp only [↓IntWalk.iteOmega]; try go_simp))
     exact hK
    simp only [Pq1]
    refine Walk.one (x := ?_) rfl rfl (fun w1 hI hL K hK => ?_) ?_
    rotate_left
    ·go_simp
     repeat (first | (go_ints; try go_simp) | (simp only [↓IntWalk.iteOmega]; try go_simp))
     exact hK
    simp only [Pq1]
    refine Walk.nil fun w3 hI3 _ => ?_
    simp only [List.drop_succ_cons, List.drop_nil]
    have hE3 : Ext w w3 := hE.trans (hI3.mono hE.size)
    have F1 : ∀ w4, Ext w3 w4 → w4.cell? (at_ p i) = some (.int .u16 (dig (limbs x) i : Nat)) := fun w4 h => E1.out w4 (hI3.trans (h.mono hI3.size))
    have F2 : ∀ w4, Ext w3 w4 → w4.cell? (at_ q i) = some (.int .u16 (dig (limbs y) i : Nat)) := fun w4 h => E2.out w4 (hI3.trans (h.mono hI3.size))
    have G1 := Lib.hid F1
    have G2 := Lib.hid F2
    clear F1 F2
    by_cases hd : dig (limbs x) i = dig (limbs y) i
    ·have hd' : (((dig (limbs x) i : Nat) : Int) != ((dig (limbs y) i : Nat) : Int)) = false := by simp [hd]
     have Hd := Lib.hid hd
     clear hd
     go_wp2_with fail
     go_roundw
     case rel =>
      refine ⟨k + 1, by congr 1; have := Hi.out; omega, by omega, Lib.hid ?_, hE3⟩
      have h1 := drop_cons (l := limbs x) (k := i) (by show i < siz x; rw [Hl1.out]; exact hin)
      have h2 := drop_cons (l := limbs y) (k := i) (by show i < siz y; rw [Hl2.out]; exact hin)
      have h3 := hall.out
      have h4 := Hi.out
      rw [show n - (k + 1) = i by omega, h1, h2]
      rw [show n - k = i + 1 by omega] at h3
      rw [h3]
      exact congrArg (· :: _) Hd.out
     case measure => simp [intOf] <;> omega
    ·have hd' : (((dig (limbs x) i : Nat) : Int) != ((dig (limbs y) i : Nat) : Int)) = true := by rw [bne_iff_ne]; omega
     have hls := less_split Hl1.out Hl2.out hin (by have h3 := hall.out; have h4 := Hi.out; rw [show n - k = i + 1 by omega] at h3; exact h3) hd
     have Hls := Lib.hid hls
     clear hls hd
     go_wp2_with fail
     refine Lex.regionE 10 (fun _ => false) (fun _ _ => True) (fun _ _ _ => True) (by kernel_rfl) (by kernel_rfl) (fun _ _ _ _ h _ => h) ?_
     iterate 3
      refine Walk.one (x := ?_) rfl rfl (fun w1 hI hL K hK => ?_) ?_
      rotate_left
      ·go_simp
       repeat (first | (go_ints; try go_simp) | (simp only [↓IntWalk.iteOmega]; try go_simp))
       exact hK
      simp only [Pq1]
     refine Walk.one (x := ?_) rfl rfl (fun w1 hI hL K hK => ?_) ?_
     rotate_left
     ·have c := G1.out w1 hI
      go_simp
      repeat (first | (go_ints; try go_simp) | (simp only [↓IntWalk.iteOmega]; try go_simp))
      exact hK
     simp only [Pq1]
     iterate 3
      refine Walk.one (x := ?_) rfl rfl (fun w1 hI hL K hK => ?_) ?_
      rotate_left
      ·go_simp
       repeat (first | (go_ints; try go_simp) | (simp only [↓IntWalk.iteOmega]; try go_simp))
       exact hK
      simp only [Pq1]
     refine Walk.one (x := ?_) rfl rfl (fun w1 hI hL K hK => ?_) ?_
     rotate_left
     ·have c := G2.out w1 hI
      go_simp
      repeat (first | (go_ints; try go_simp) | (simp only [↓IntWalk.iteOmega]; try go_simp))
      exact hK
     simp only [Pq1]
     iterate 2
      refine Walk.one (x := ?_) rfl rfl (fun w1 hI hL K hK => ?_) ?_
      rotate_left
      ·go_simp
       repeat (first | (go_ints; try go_simp) | (simp only [↓IntWalk.iteOmega]; try go_simp))
       exact hK
      simp only [Pq1]
     refine Walk.nil fun w5 hI5 _ => ?_
     simp only [List.drop_succ_cons, List.drop_nil]
     go_wp2_with fail
     go_ret
     refine ⟨?_, hE3.trans (hI5.mono hE3.size)⟩
     have := Hls.out
     simp [this]
   ·obtain rfl : k = n := by omega
    have hneg : ¬ ((0 : Int) ≤ (k : Int) - 1 - k) := by omega
    go_wp2_with fail
    go_ret
    have h3 := hall.out
    simp only [Nat.sub_self, List.drop_zero] at h3
    have := limbs_inj h3
    exact ⟨by simp [this], hE⟩
 ·have hne : ((n : Int) != (m : Int)) = true := by rw [bne_iff_ne]; omega
  have hls : (x < y) ↔ n < m := by
   constructor
   ·intro h; have := siz_mono (Nat.le_of_lt h); omega
   ·intro h
    rcases Nat.lt_or_ge x y with h1 | h1
    ·exact h1
    ·have := siz_mono h1; omega
  have Hls := Lib.hid hls
  clear hls hl1 hl2
  go_enter Tryz.func191, Tryz.ntmps191
  go_wp2_with fail
  all_goals go_ret
  all_goals exact ⟨by simp [Hls.out], Below.refl _ _⟩
end Go.Proofs.YtndgaecfeaedeaaGreat
namespace Go.Proofs.YtndgaecfeaedeaaGreat
open Go.RowKit Lex Mth
attribute [local go_sem] run_indexAt_at add_zero_map Oper.semAt_some at_zero

/-- In round k. -/
structure HalfAt (x d n g k : Nat) (w wr : World) (r : Nat) (l : List Nat) : Prop where
 len : l.length = n
 lim : Lim l
 hr : r < d
 v : val ((limbs x).drop (n - k)) = r + d * val (l.drop (n - k))
 row : Row wr g l
 keep : Keeps (fun b => w.heap.size ≤ b) w wr

theorem HalfAt.step {x d n g k i : Nat} {w wr : World} {r q R : Nat} {l : List Nat} (h : HalfAt x d n g k w wr r l) (hn : siz x = n) (hi : i = n - 1 - k) (hk : k < n) (hd : 0 < d) (hg : w.heap.size ≤ g) (hq : q = (r * 65536 + dig (limbs x) i) / d) (hR : R = (r * 65536 + dig (limbs x) i) % d) (hqb : q < 65536) :
    HalfAt x d n g (k + 1) w (wr.setCell ⟨g, i, none⟩ (.int .u16 (q : Nat))) R (l.set i q) := by
 have hl := h.len
 refine ⟨by simp [h.len], h.lim.set _ _ hqb, by rw [hR]; exact Nat.mod_lt _ hd, ?_, h.row.set _ _, h.keep.setCell (p := ⟨g, i, none⟩) hg _⟩
 have hv := h.v
 rw [show n - (k + 1) = i by omega]
 rw [show n - k = i + 1 by omega] at hv
 exact short_val (by omega) hv hq hR (val_drop_succ (l := limbs x) (k := i) (by show i < siz x; omega))

theorem HalfAt.quot {x d n g k : Nat} {w wr : World} {r : Nat} {l : List Nat} (h : HalfAt x d n g k w wr r l) (hd' : d ≤ 65536) (X : Nat) (hX : X < 65536) : (r * 65536 + X) / d < 65536 := by
 have hr := h.hr
 rw [Nat.div_lt_iff_lt_mul (by omega)]
 calc r * 65536 + X < (r + 1) * 65536 := by omega
  _ ≤ d * 65536 := Nat.mul_le_mul_right _ hr
  _ = 65536 * d := Nat.mul_comm _ _

set_option maxRecDepth 100000 in
theorem Half_any (p : Option Addr) (n cp : Nat) (x : Nat) (w : World) (hp : U16 w p n cp (limbs x)) (hb : n ≤ 4194304) :
    Calls Tryz.prog 193 #[.slice p n cp] w fun e w' => ∃ p' n' c', e = .returned (.slice p' n' c') ∧ U16 w' p' n' c' (limbs (x / 2)) ∧ Own w.heap.size w' p' c' ∧ Ext w w' := by
 have hhp := hp.has
 have Hsx : Hid (siz x = n) := hp.len
 go_enter Tryz.func193, Tryz.ntmps193
 have hmk := run_make16 w (n : Int) (n : Int) n n rfl rfl (by omega) (by omega)
 have hho : Has (some ⟨w.heap.size, 0, none⟩) n := Has.some _ _
 go_wp2
 clear hmk
 have hA0 : HalfAt x 2 n w.heap.size 0 w (w.alloc (.cells (zrow n) 153)) 0 (List.replicate n 0) :=
  ⟨by simp, lim_replicate _, by omega, by rw [List.drop_of_length_le (l := limbs x) (by show siz x ≤ _; rw [Hsx.out]; omega), List.drop_of_length_le (by simp)]; simp [val], Row.zeros _ _, (Keeps.refl _ _).alloc _⟩
 go_loopw [5, 4] (fun v v4 wr => ∃ (k N : Nat) (l : List Nat), v = .int .i64 ((n : Int) - 1 - k) ∧ v4 = .int .i64 (N : Nat) ∧ k ≤ n ∧ N < 131072 ∧ HalfAt x 2 n w.heap.size k w wr (N % 2) l) (fun v _ _ => (intOf v + 1).toNat)
 case atStart => exact ⟨0, 0, _, by simp, rfl, by omega, by omega, hA0⟩
 case round =>
  clear hA0
  obtain ⟨k, N, l, rfl, rfl, hk, hN, hA⟩ := hrel
  by_cases hkn : k < n
  ·have e0 : ((n : Int) - 1 - k) = ((n - 1 - k : Nat) : Int) := by omega
   rw [e0]
   obtain ⟨i, hi⟩ : ∃ i, i = n - 1 - k := ⟨_, rfl⟩
   rw [← hi]
   have hin : i < n := by omega
   have cx := hA.keep.cell (hp.cell i hin) (by have := hp.block hin; omega)
   have lx := hp.lt i
   have cl := hA.row.cell (j := i) (by rw [hA.len]; omega)
   have fl := hA.row.free i
   obtain ⟨M, hM⟩ : ∃ M, M = N % 2 * 65536 + dig (limbs x) i := ⟨_, rfl⟩
   have hMb : M < 131072 := by omega
   have hMI : (N : Int).tmod 2 * 65536 + (dig (limbs x) i : Nat) = (M : Int) := by rw [hM]; rfl
   obtain ⟨q, hq⟩ : ∃ q, q = M / 2 := ⟨_, rfl⟩
   have hqI : (M : Int).tdiv 2 = (q : Int) := by rw [hq]; rfl
   have hqb : q < 65536 := by omega
   have hst := hA.step (q := q) (R := M % 2) Hsx.out hi hkn (by omega) (Nat.le_refl _) (by rw [hq, hM]) (by rw [hM]) hqb
   have Hi := Lib.hid hi
   have HM := Lib.hid hM
   have Hq := Lib.hid hq
   have Hst := Lib.hid hst
   clear hi hM hq hst e0
   go_wp2_with fail
   go_roundw
   case rel =>
    have h := Hst.out
    rw [Hq.out, HM.out] at h
    have hb2 := HM.out
    refine ⟨k + 1, N % 2 * 65536 + dig (limbs x) i, _, ?_, rfl, by omega, by rw [← hb2]; exact hMb, h⟩
    congr 1
    have := Hi.out
    omega
   case measure => simp [intOf] <;> omega
  ·obtain rfl : k = n := by omega
   have hneg : ¬ ((0 : Int) ≤ (k : Int) - 1 - k) := by omega
   have hv := hA.v
   simp only [Nat.sub_self, List.drop_zero, val_limbs] at hv
   have hvl : Hid (val l = x / 2) := by unfold Hid; omega
   clear hv
   have hU := hA.row.u16 hA.lim (n := k) (cap := k) (by rw [hA.len]; omega) (by omega) (by omega)
   rw [List.take_of_length_le (by rw [hA.len]; omega)] at hU
   have hO := hA.row.own (B := w.heap.size) (cap := k) (Nat.le_refl _) (by rw [hA.len]; omega)
   go_wp2_with fail
   refine (Trim_any _ _ _ _ _ hU).mono ?_
   rintro e w' ⟨rfl, rfl⟩
   go_wp2_with fail
   go_ret
   exact ⟨_, _, _, rfl, by rw [← hvl.out]; exact hU.trim, hO, hA.keep.ext fun b hb => hb⟩

set_option maxRecDepth 100000 in
theorem rshort_any (p : Option Addr) (n cp : Nat) (x d : Nat) (w : World) (hp : U16 w p n cp (limbs x)) (hd : 0 < d) (hd' : d ≤ 65535) (hb : n ≤ 1048576) :
    Calls Tryz.prog 190 #[.slice p n cp, .int .i64 (d : Nat)] w fun e w' => DivR w.heap.size x d e w' ∧ Ext w w' := by
 have hhp := hp.has
 have Hsx : Hid (siz x = n) := hp.len
 go_enter Tryz.func190, Tryz.ntmps190
 have hmk := run_make16 w (n : Int) (n : Int) n n rfl rfl (by omega) (by omega)
 have hho : Has (some ⟨w.heap.size, 0, none⟩) n := Has.some _ _
 have hdn : ¬ d = 0 := by omega
 go_wp2
 clear hmk
 have hA0 : HalfAt x d n w.heap.size 0 w (w.alloc (.cells (zrow n) 153)) 0 (List.replicate n 0) :=
  ⟨by simp, lim_replicate _, by omega, by rw [List.drop_of_length_le (l := limbs x) (by show siz x ≤ _; rw [Hsx.out]; omega), List.drop_of_length_le (by simp)]; simp [val], Row.zeros _ _, (Keeps.refl _ _).alloc _⟩
 go_loopw [8, 7] (fun v v4 wr => ∃ (k r : Nat) (l : List Nat), v = .int .i64 ((n : Int) - 1 - k) ∧ v4 = .int .i64 (r : Nat) ∧ k ≤ n ∧ HalfAt x d n w.heap.size k w wr r l) (fun v _ _ => (intOf v + 1).toNat)
 case atStart => exact ⟨0, 0, _, by simp, rfl, by omega, hA0⟩
 case round =>
  clear hA0
  obtain ⟨k, r, l, rfl, rfl, hk, hA⟩ := hrel
  by_cases hkn : k < n
  ·have e0 : ((n : Int) - 1 - k) = ((n - 1 - k : Nat) : Int) := by omega
   rw [e0]
   obtain ⟨i, hi⟩ : ∃ i, i = n - 1 - k := ⟨_, rfl⟩
   rw [← hi]
   have hin : i < n := by omega
   have cx := hA.keep.cell (hp.cell i hin) (by have := hp.block hin; omega)
   have lx := hp.lt i
   have cl := hA.row.cell (j := i) (by rw [hA.len]; omega)
   have fl := hA.row.free i
   have hr := hA.hr
   obtain ⟨M, hM⟩ : ∃ M, M = r * 65536 + dig (limbs x) i := ⟨_, rfl⟩
   have hMb : M < 4294967296 := by omega
   have hMI : (r : Int) * 65536 + (dig (limbs x) i : Nat) = (M : Int) := by rw [hM]; rfl
   obtain ⟨q, hq⟩ : ∃ q, q = M / d := ⟨_, rfl⟩
   obtain ⟨R, hR⟩ : ∃ R, R = M % d := ⟨_, rfl⟩
   have hqI : (M : Int).tdiv (d : Int) = (q : Int) := by rw [hq]; rfl
   have hRI : (M : Int).tmod (d : Int) = (R : Int) := by rw [hR]; rfl
   have hqI' : (M : Int) / (d : Int) = (q : Int) := by rw [hq]; rfl
   have hRI' : (M : Int) % (d : Int) = (R : Int) := by rw [hR]; rfl
   have hqb : q < 65536 := by rw [hq, hM]; exact hA.quot (by omega) _ lx
   have hRb : R < d := by rw [hR]; exact Nat.mod_lt _ hd
   have hst := hA.step (q := q) (R := R) Hsx.out hi hkn hd (Nat.le_refl _) (by rw [hq, hM]) (by rw [hR, hM]) hqb
   have Hi := Lib.hid hi
   have Hst := Lib.hid hst
   clear hi hM hq hst e0 hR
   go_wp2_with fail
   go_roundw
   case rel =>
    refine ⟨k + 1, R, _, ?_, rfl, by omega, Hst.out⟩
    congr 1
    have := Hi.out
    omega
   case measure => simp [intOf] <;> omega
  ·obtain rfl : k = n := by omega
   have hneg : ¬ ((0 : Int) ≤ (k : Int) - 1 - k) := by omega
   have hv := hA.v
   have hr := hA.hr
   simp only [Nat.sub_self, List.drop_zero, val_limbs] at hv
   have e1 : Hid (val l = x / d) := by
    unfold Hid; rw [hv, Nat.add_mul_div_left _ _ hd, Nat.div_eq_of_lt hr, Nat.zero_add]
   have e2 : Hid (r = x % d) := by
    unfold Hid; rw [hv, Nat.add_mul_mod_self_left, Nat.mod_eq_of_lt hr]
   clear hv
   have hU := hA.row.u16 hA.lim (n := k) (cap := k) (by rw [hA.len]; omega) (by omega) (by omega)
   rw [List.take_of_length_le (by rw [hA.len]; omega)] at hU
   have hO := hA.row.own (B := w.heap.size) (cap := k) (Nat.le_refl _) (by rw [hA.len]; omega)
   have hw16 : IntKind.u16.wrap (r : Int) = (r : Int) := by simp [IntKind.wrap, IntKind.bits, IntKind.signed]; omega
   go_wp2_with fail
   refine (Trim_any _ _ _ _ _ hU).mono ?_
   rintro e w' ⟨rfl, rfl⟩
   go_wp2_with fail
   have hRow : Row (wr.alloc (.cells #[.int .u16 (r : Nat)] 153)) wr.heap.size [r] := Row.new wr [r]
   have hl1 : Lim [r] := Lim.cons.2 ⟨by omega, Lim.nil⟩
   have hU1 : U16 (wr.alloc (.cells #[.int .u16 (r : Nat)] 153)) (some ⟨wr.heap.size, 0, none⟩) 1 1 [r] := hRow.u16 hl1 (by simp) (by omega) (by omega)
   have hszr := hA.keep.size
   have hO1 := hRow.own (B := w.heap.size) (cap := 1) hszr (by simp)
   have hEa : Ext wr (wr.alloc (.cells #[.int .u16 (r : Nat)] 153)) := (Below.refl _ _).alloc (Nat.le_refl _) _
   refine (Trim_any _ _ _ _ _ hU1).mono ?_
   rintro e w' ⟨rfl, rfl⟩
   have hUt := hU1.trim
   have hv1 : Hid (val [r] = x % d) := by unfold Hid; rw [← e2.out]; simp [val]
   rw [hv1.out] at hUt ⊢
   have hUq := (hU.trim).ext hEa
   rw [e1.out] at hUq ⊢
   go_wp2_with fail
   go_ret2
   exact ⟨⟨_, _, _, _, _, _, rfl, hUq, hUt, hO.ext hEa, hO1⟩, (hA.keep.ext fun b hb => hb).trans (hEa.mono hszr)⟩
end Go.Proofs.YtndgaecfeaedeaaGreat
