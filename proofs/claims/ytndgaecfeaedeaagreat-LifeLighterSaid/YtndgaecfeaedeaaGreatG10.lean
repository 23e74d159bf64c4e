/- Walks of the document's answer on numbers: FromInt, Same. Walks of the document's answer on numbers: Same. Words for walks over whole numbers and fractions: what a call gives, a region whose order is open, boxes that are written. No condition: laws on the model's worlds and on the calculus of walks. -/
import Derived.Test.YtndgaecfeaedeaaGreatG8
import Derived.Test.YtndgaecfeaedeaaGreatG9
namespace Go.Proofs.YtndgaecfeaedeaaGreat
set_option linter.unusedSimpArgs false
set_option linter.unusedVariables false
open Go.RowKit Lex Mth
attribute [local go_sem] run_indexAt_at add_zero_map Oper.semAt_some at_zero

set_option maxRecDepth 100000 in
set_option maxHeartbeats 400000 in
theorem rFromInt_any (n : Int) (w : World) (h1 : -9223372036854775808 ≤ n) (h2 : n ≤ 9223372036854775807) :
    Calls Tryz.prog 124 #[.int .i64 n] w fun e w' => ∃ b p k c, e = .returned (.agg #[.bool b, .slice p k c]) ∧ RW w' (.agg #[.bool b, .slice p k c]) n ∧ Own w.heap.size w' p c ∧ Ext w w' := by
  obtain ⟨u, hu⟩ : ∃ u, u = n.natAbs := ⟨_, rfl⟩
  have hub : u < 18446744073709551616 := by omega
  have hw64 : IntKind.u64.wrap (if n < 0 then -(IntKind.u64.wrap n) else n) = (u : Int) := by
    simp only [IntKind.wrap, IntKind.bits, IntKind.signed]
    split <;> simp <;> omega
  have Hu := Lib.hid hu
  have hs4 : siz u ≤ 4 := by rw [siz_le]; omega
  have Hs4 := Lib.hid hs4
  obtain ⟨i0, hi, hz0, hz1, hz2⟩ := info_parts Tryz.info16
  clear hu hs4
  obtain ⟨W, hW⟩ : ∃ W, w.alloc (.cells #[.bool false, .slice none 0 0] 38) = W := ⟨_, rfl⟩
  have hE : Ext w W := by rw [← hW]; exact (Below.refl _ _).alloc (Nat.le_refl _) _
  have A1 : Cells W w.heap.size 38 #[.bool false, .slice none 0 0] := by rw [← hW]; exact Cells.newAt _ _ rfl
  have hsz : W.heap.size = w.heap.size + 1 := by rw [← hW]; simp
  have Hsz := Lib.hid hsz
  clear hsz
  by_cases hn : n < 0
  · skip
    rw [if_pos hn] at hw64
    go_enter Tryz.func124, Tryz.ntmps124
    go_wp2_with fail
    go_loopw [3, 4] (fun v3 v4 wr => ∃ (k U : Nat) (out : List Nat), v3 = .int .u64 (U : Nat) ∧ U ≤ u ∧ Hid (out ++ limbs U = limbs u) ∧ out.length = k ∧ wr.ownsRow W.heap.size 153 1 v4 k (u16s out) ∧ Keeps (fun b => W.heap.size ≤ b) W wr) (fun v3 _ _ => (intOf v3).toNat)
    case atStart => exact ⟨0, u, [], rfl, Nat.le_refl _, Lib.hid rfl, rfl, World.ownsRow_nil _ _ _ _, Keeps.refl _ _⟩
    case round =>
      obtain ⟨k, U, out, rfl, hUu, hout, hlen, hown, hkeep⟩ := hrel
      have hk4 : k + siz U ≤ 4 := by
        have := congrArg List.length hout.out
        rw [List.length_append, hlen] at this
        have h2 := Hs4.out
        unfold siz at *
        omega
      have Hlen := Lib.hid hlen
      clear hlen
      rcases Nat.eq_zero_or_pos U with h0 | h0
      · subst h0
        have ho := hout.out
        rw [limbs_zero, List.append_nil] at ho
        have Ho := Lib.hid ho
        clear ho
        obtain ⟨p', c', rfl, hU, hO⟩ := U16.of_owns hown (by rw [Ho.out]; exact lim_limbs _) (by omega)
        rw [Ho.out] at hU
        have B := A1.keeps hkeep (by have := Hsz.out; omega)
        go_wp2_with fail
        obtain ⟨f, hf⟩ : ∃ f, f = (true && decide (0 < k)) := ⟨_, rfl⟩
        have hR0 := made_RW true hU
        rw [← hf] at hR0
        refine (Make_any true p' k c' _ (by omega)).mono ?_
        rintro e w4 ⟨rfl, hE4⟩
        rw [← hf]
        clear hf
        have B4 := B.ext hE4
        have b0 := B4.cell (k := 0) rfl
        have b1 := B4.cell (k := 1) rfl
        have g0 := B4.frozen 0
        have g1 := B4.frozen 1
        have l1 := B4.lt
        have hs := hE.size
        go_wp2_with fail
        have C := B4.set2 (.bool f) (.slice p' k c')
        have d0 := C.cell (k := 0) rfl
        have d1 := C.cell (k := 1) rfl
        have hR := hR0.ext hE4
        have hsg : sgn true u = n := by have := Hu.out; unfold sgn; simp; omega
        rw [hsg] at hR
        have hEw : Ext w wr := hE.trans ((hkeep.ext fun b hb => hb).mono hs)
        exact bodyPost_ret (v := .agg #[.bool f, .slice p' k c']) (by simp [results, Tryz.results124, go_sem, d0, d1]) rfl
          ⟨_, p', _, c', rfl, hR.set2 B4 ni0 _ _, ((hO.ext hE4).mono hs).cells B4 (by decide) (set2_keeps _ _ _ _), Ext.set2 (hEw.trans (hE4.mono hEw.size)) (Nat.le_refl _) _ _⟩
      · have hp := limbs_pos (n := U) (by omega)
        have Hp := Lib.hid hp
        have hU0 : (0 : Int) < (U : Int) := by omega
        have hw16 : IntKind.u16.wrap ((U : Int) % 65536) = ((U % 65536 : Nat) : Int) := by simp [IntKind.wrap, IntKind.bits, IntKind.signed]
        have hsU := siz_pos (n := U) (by omega)
        clear hp
        go_wp2_with (at_builtin; refine wpList_append_own _ rfl (.tmp 13) (.tmp 17) 36 rfl W.heap.size 153 i0 (.int .u16 0) 1 2 Tryz.underlying36 hi hz0 hz1 hz2 rfl (by omega) _ k (u16s out) rfl (hown.alloc _) ⟨wr.heap.size, 0, none⟩ 1 1 [.int .u16 ((U % 65536 : Nat) : Int)] rfl rfl ?c1 ?c2 (by unfold maxLen; omega) (by omega) (by have := hkeep.size; simp; omega) ?_)
        case c1 =>
          intro j u hj
          match j, hj with
          | 0, hj => simp at hj; subst hj; simp [Addr.add]
        case c2 => intro u hu; simp at hu; subst hu; rfl
        intro v' w' hown' hgrow hnil
        have hk2 : Keeps (fun b => W.heap.size ≤ b) W w' := (hkeep.alloc _).grown hgrow (fun b hb => (hown.lt b hb).1)
        have hst : Hid ((out ++ [U % 65536]) ++ limbs (U / 65536) = limbs u) := by
          unfold Hid
          rw [← hout.out, Hp.out]; simp
        have hown2 : w'.ownsRow W.heap.size 153 1 v' (k + 1) (u16s (out ++ [U % 65536])) := by rw [u16s, List.map_append]; exact hown'
        have Hown2 := Lib.hid hown2
        clear hnil hgrow hown' hown2
        go_wp2_with fail
        go_roundw
        case rel =>
          exact ⟨k + 1, U / 65536, _, rfl, by omega, hst, by simp [Hlen.out], Hown2.out, hk2⟩
        case measure => simp [intOf] <;> omega
  · have hnu : n = (u : Int) := by have := Hu.out; omega
    subst hnu
    rw [if_neg hn] at hw64
    go_enter Tryz.func124, Tryz.ntmps124
    go_wp2_with fail
    go_loopw [3, 4] (fun v3 v4 wr => ∃ (k U : Nat) (out : List Nat), v3 = .int .u64 (U : Nat) ∧ U ≤ u ∧ Hid (out ++ limbs U = limbs u) ∧ out.length = k ∧ wr.ownsRow W.heap.size 153 1 v4 k (u16s out) ∧ Keeps (fun b => W.heap.size ≤ b) W wr) (fun v3 _ _ => (intOf v3).toNat)
    case atStart => exact ⟨0, u, [], rfl, Nat.le_refl _, Lib.hid rfl, rfl, World.ownsRow_nil _ _ _ _, Keeps.refl _ _⟩
    case round =>
      obtain ⟨k, U, out, rfl, hUu, hout, hlen, hown, hkeep⟩ := hrel
      have hk4 : k + siz U ≤ 4 := by
        have := congrArg List.length hout.out
        rw [List.length_append, hlen] at this
        have h2 := Hs4.out
        unfold siz at *
        omega
      have Hlen := Lib.hid hlen
      clear hlen
      rcases Nat.eq_zero_or_pos U with h0 | h0
      · subst h0
        have ho := hout.out
        rw [limbs_zero, List.append_nil] at ho
        have Ho := Lib.hid ho
        clear ho
        obtain ⟨p', c', rfl, hU, hO⟩ := U16.of_owns hown (by rw [Ho.out]; exact lim_limbs _) (by omega)
        rw [Ho.out] at hU
        have B := A1.keeps hkeep (by have := Hsz.out; omega)
        go_wp2_with fail
        obtain ⟨f, hf⟩ : ∃ f, f = (false && decide (0 < k)) := ⟨_, rfl⟩
        have hR0 := made_RW false hU
        rw [← hf] at hR0
        refine (Make_any false p' k c' _ (by omega)).mono ?_
        rintro e w4 ⟨rfl, hE4⟩
        rw [← hf]
        clear hf
        have B4 := B.ext hE4
        have b0 := B4.cell (k := 0) rfl
        have b1 := B4.cell (k := 1) rfl
        have g0 := B4.frozen 0
        have g1 := B4.frozen 1
        have l1 := B4.lt
        have hs := hE.size
        go_wp2_with fail
        have C := B4.set2 (.bool f) (.slice p' k c')
        have d0 := C.cell (k := 0) rfl
        have d1 := C.cell (k := 1) rfl
        have hR := hR0.ext hE4
        have hsg : sgn false u = (u : Int) := by unfold sgn; simp
        rw [hsg] at hR
        have hEw : Ext w wr := hE.trans ((hkeep.ext fun b hb => hb).mono hs)
        exact bodyPost_ret (v := .agg #[.bool f, .slice p' k c']) (by simp [results, Tryz.results124, go_sem, d0, d1]) rfl
          ⟨_, p', _, c', rfl, hR.set2 B4 ni0 _ _, ((hO.ext hE4).mono hs).cells B4 (by decide) (set2_keeps _ _ _ _), Ext.set2 (hEw.trans (hE4.mono hEw.size)) (Nat.le_refl _) _ _⟩
      · have hp := limbs_pos (n := U) (by omega)
        have Hp := Lib.hid hp
        have hU0 : (0 : Int) < (U : Int) := by omega
        have hw16 : IntKind.u16.wrap ((U : Int) % 65536) = ((U % 65536 : Nat) : Int) := by simp [IntKind.wrap, IntKind.bits, IntKind.signed]
        have hsU := siz_pos (n := U) (by omega)
        clear hp
        go_wp2_with (at_builtin; refine wpList_append_own _ rfl (.tmp 13) (.tmp 17) 36 rfl W.heap.size 153 i0 (.int .u16 0) 1 2 Tryz.underlying36 hi hz0 hz1 hz2 rfl (by omega) _ k (u16s out) rfl (hown.alloc _) ⟨wr.heap.size, 0, none⟩ 1 1 [.int .u16 ((U % 65536 : Nat) : Int)] rfl rfl ?c1 ?c2 (by unfold maxLen; omega) (by omega) (by have := hkeep.size; simp; omega) ?_)
        case c1 =>
          intro j u hj
          match j, hj with
          | 0, hj => simp at hj; subst hj; simp [Addr.add]
        case c2 => intro u hu; simp at hu; subst hu; rfl
        intro v' w' hown' hgrow hnil
        have hk2 : Keeps (fun b => W.heap.size ≤ b) W w' := (hkeep.alloc _).grown hgrow (fun b hb => (hown.lt b hb).1)
        have hst : Hid ((out ++ [U % 65536]) ++ limbs (U / 65536) = limbs u) := by
          unfold Hid
          rw [← hout.out, Hp.out]; simp
        have hown2 : w'.ownsRow W.heap.size 153 1 v' (k + 1) (u16s (out ++ [U % 65536])) := by rw [u16s, List.map_append]; exact hown'
        have Hown2 := Lib.hid hown2
        clear hnil hgrow hown' hown2
        go_wp2_with fail
        go_roundw
        case rel =>
          exact ⟨k + 1, U / 65536, _, rfl, by omega, hst, by simp [Hlen.out], Hown2.out, hk2⟩
        case measure => simp [intOf] <;> omega
end Go.Proofs.YtndgaecfeaedeaaGreat

namespace Go.Proofs.YtndgaecfeaedeaaGreat
set_option linter.unusedSimpArgs false
set_option linter.unusedVariables false
open Go.RowKit Lex Mth
attribute [local go_sem] run_indexAt_at add_zero_map Oper.semAt_some at_zero

set_option maxRecDepth 100000 in
set_option maxHeartbeats 1000000 in
theorem rSame_any (n1 n2 : Bool) (p1 p2 : Option Addr) (k1 c1 k2 c2 : Nat) (l1 l2 : List Nat) (w : World) (h1 : U16 w p1 k1 c1 l1) (h2 : U16 w p2 k2 c2 l2) :
    Calls Tryz.prog 87 #[.agg #[.bool n1, .slice p1 k1 c1], .agg #[.bool n2, .slice p2 k2 c2]] w fun e w' => e = .returned (.bool ((n1 == n2) && decide (l1 = l2))) ∧ Ext w w' := by
  obtain ⟨W, hW⟩ : ∃ W, (w.alloc (.cells #[.bool n1, .slice p1 k1 c1] 38)).alloc (.cells #[.bool n2, .slice p2 k2 c2] 38) = W := ⟨_, rfl⟩
  have hE : Ext w W := by rw [← hW]; exact ((Below.refl _ _).alloc (Nat.le_refl _) _).alloc (by simp) _
  have A1 : Cells W w.heap.size 38 #[.bool n1, .slice p1 k1 c1] := by rw [← hW]; exact (Cells.newAt _ _ rfl).alloc _
  have A2 : Cells W (w.heap.size + 1) 38 #[.bool n2, .slice p2 k2 c2] := by rw [← hW]; exact Cells.newAt _ _ (by simp)
  have hhp := h1.has
  have hhq := h2.has
  have hr1 := h1.reach
  have hr2 := h2.reach
  have hl1 := h1.len
  have hl2 := h2.len
  have a10 := A1.cell (k := 0) rfl
  have a11 := A1.cell (k := 1) rfl
  have a20 := A2.cell (k := 0) rfl
  have a21 := A2.cell (k := 1) rfl
  by_cases hn : n1 = n2
  · by_cases hk : k1 = k2
    · subst hn
      subst hk
      have Hl1 := Lib.hid hl1
      have Hl2 := Lib.hid hl2
      have hkk : ((k1 : Int) != (k1 : Int)) = false := by simp
      clear hl1 hl2
      go_enter Tryz.func87, Tryz.ntmps87
      go_wp2_with fail
      clear hW
      go_loopw [5] (fun v wr => ∃ k : Nat, v = .int .i64 (k : Nat) ∧ k ≤ k1 ∧ Hid (∀ j, j < k → dig l1 j = dig l2 j) ∧ Ext W wr) (fun v _ => (k1 - intOf v).toNat)
      case atStart => exact ⟨0, rfl, by omega, Lib.hid (fun j hj => absurd hj (Nat.not_lt_zero _)), Below.refl _ _⟩
      case round =>
        obtain ⟨k, rfl, hk, hall, hE2⟩ := hrel
        have B1 := A1.ext hE2
        have B2 := A2.ext hE2
        have b11 := B1.cell (k := 1) rfl
        have m1 := B1.lt
        have m2 := B2.lt
        have hEw : Ext w wr := hE.trans (hE2.mono hE.size)
        by_cases hkn : k < k1
        · have b21 := B2.cell (k := 1) rfl
          have e1 : ∀ w1, Ext wr w1 → w1.cell? (at_ p1 k) = some (.int .u16 (dig l1 k : Nat)) := fun w1 hI => ((h1.ext hEw).ext hI).cell k hkn
          have e2 : ∀ w1, Ext wr w1 → w1.cell? (at_ p2 k) = some (.int .u16 (dig l2 k : Nat)) := fun w1 hI => ((h2.ext hEw).ext hI).cell k hkn
          have E1 := Lib.hid e1
          have E2 := Lib.hid e2
          clear e1 e2
          go_wp2_with fail
          refine Lex.regionE 11 (fun _ => false) (fun _ _ => True) (fun _ _ _ => True) (by kernel_rfl) (by kernel_rfl) (fun _ _ _ _ h _ => h) ?_
          iterate 4
            refine Walk.one (x := ?_) rfl rfl (fun w1 hI hL K hK => ?_) ?_
            rotate_left
            · obtain ⟨hc, hf⟩ := bcell hI
              go_simp
              repeat (first | (go_ints; try go_simp) | (simp only [↓IntWalk.iteOmega]; try go_simp))
              exact hK
            simp only [Act.put, List.setIfInBounds_toArray, List.set_cons_zero, List.set_cons_succ]
          refine Walk.one (x := ?_) rfl rfl (fun w1 hI hL K hK => ?_) ?_
          rotate_left
          · have c := E1.out w1 hI
            go_simp
            repeat (first | (go_ints; try go_simp) | (simp only [↓IntWalk.iteOmega]; try go_simp))
            exact hK
          simp only [Act.put, List.setIfInBounds_toArray, List.set_cons_zero, List.set_cons_succ]
          iterate 4
            refine Walk.one (x := ?_) rfl rfl (fun w1 hI hL K hK => ?_) ?_
            rotate_left
            · obtain ⟨hc, hf⟩ := bcell hI
              go_simp
              repeat (first | (go_ints; try go_simp) | (simp only [↓IntWalk.iteOmega]; try go_simp))
              exact hK
            simp only [Act.put, List.setIfInBounds_toArray, List.set_cons_zero, List.set_cons_succ]
          refine Walk.one (x := ?_) rfl rfl (fun w1 hI hL K hK => ?_) ?_
          rotate_left
          · have c := E2.out w1 hI
            go_simp
            repeat (first | (go_ints; try go_simp) | (simp only [↓IntWalk.iteOmega]; try go_simp))
            exact hK
          simp only [Act.put, List.setIfInBounds_toArray, List.set_cons_zero, List.set_cons_succ]
          refine Walk.one (x := ?_) rfl rfl (fun w1 hI hL K hK => ?_) ?_
          rotate_left
          · go_simp
            repeat (first | (go_ints; try go_simp) | (simp only [↓IntWalk.iteOmega]; try go_simp))
            exact hK
          simp only [Act.put, List.setIfInBounds_toArray, List.set_cons_zero, List.set_cons_succ]
          refine Walk.nil fun w3 hI3 _ => ?_
          simp only [List.drop_succ_cons, List.drop_nil]
          have hE3 : Ext W w3 := hE2.trans (hI3.mono hE2.size)
          by_cases hd : dig l1 k = dig l2 k
          · have hd' : (((dig l1 k : Nat) : Int) != ((dig l2 k : Nat) : Int)) = false := by simp [hd]
            have Hd := Lib.hid hd
            clear hd
            go_wp2_with fail
            go_roundw
            case rel => exact ⟨k + 1, rfl, by omega, Lib.hid (fun j hj => (Nat.lt_or_eq_of_le (Nat.le_of_lt_succ hj)).elim (hall.out j) (fun e => e ▸ Hd.out)), hE3⟩
            case measure => simp [intOf]; omega
          · have hd' : (((dig l1 k : Nat) : Int) != ((dig l2 k : Nat) : Int)) = true := by rw [bne_iff_ne]; omega
            have Hd := Lib.hid hd
            clear hd
            go_wp2_with fail
            go_ret
            have : ¬ l1 = l2 := fun e => Hd.out (by rw [e])
            exact ⟨by simp [this], hE.trans (hE3.mono hE.size)⟩
        · obtain rfl : k = k1 := by omega
          go_wp2_with fail
          go_ret
          have : l1 = l2 := eq_of_dig (by rw [Hl1.out, Hl2.out]) (by rw [Hl1.out]; exact hall.out)
          exact ⟨by simp [this], hEw⟩
    · have hne : ((k1 : Int) != (k2 : Int)) = true := by rw [bne_iff_ne]; omega
      have hll : ¬ l1 = l2 := fun e => hk (by rw [← hl1, ← hl2, e])
      have Hll := Lib.hid hll
      subst hn
      clear hll hl1 hl2
      go_enter Tryz.func87, Tryz.ntmps87
      go_wp2_with fail
      go_ret
      exact ⟨by simp [Hll.out], hE⟩
  · have hnb : (n1 != n2) = true := by rw [bne_iff_ne]; exact hn
    have hnb' : (n1 == n2) = false := by simpa using hn
    go_enter Tryz.func87, Tryz.ntmps87
    go_wp2_with fail
    go_ret
    exact ⟨by simp [hnb'], hE⟩
end Go.Proofs.YtndgaecfeaedeaaGreat

namespace Go.Proofs.YtndgaecfeaedeaaGreat
set_option linter.unusedSimpArgs false
set_option linter.unusedVariables false
open Go.RowKit Lex Mth

/-- A whole number's parts: sign, address, length, room. -/
structure Wh where
  b : Bool
  p : Option Addr
  n : Nat
  c : Nat
abbrev Wh.val (X : Wh) : Value := .agg #[.bool X.b, .slice X.p X.n X.c]
structure Fr where
  N : Wh
  D : Wh
abbrev Fr.val (X : Fr) : Value := .agg #[.bool X.N.b, .slice X.N.p X.N.n X.N.c, .bool X.D.b, .slice X.D.p X.D.n X.D.c]
/-- X is the number z, in the world w. -/
def WR (w : World) (X : Wh) (z : Int) : Prop := RW w X.val z
/-- X is the fraction q, in the world w. -/
def FR (w : World) (X : Fr) (q : Rat) : Prop := WR w X.N q.num ∧ WR w X.D q.den
theorem WR.ext {w w' : World} {X : Wh} {z : Int} (h : WR w X z) (e : Ext w w') : WR w' X z := RW.ext h e
theorem FR.ext {w w' : World} {X : Fr} {q : Rat} (h : FR w X q) (e : Ext w w') : FR w' X q := ⟨h.1.ext e, h.2.ext e⟩
theorem WR.u16 {w : World} {X : Wh} {z : Int} (h : WR w X z) : X.b = decide (z < 0) ∧ U16 w X.p X.n X.c (limbs z.natAbs) := RawW.u16 h
theorem WR.neg {w : World} {X : Wh} {z : Int} (h : WR w X z) : X.b = decide (z < 0) := h.u16.1
theorem WR.n {w : World} {X : Wh} {z : Int} (h : WR w X z) : X.n = siz z.natAbs := h.u16.2.len.symm
theorem WR.mk {w : World} {X : Wh} {z : Int} (h : X.b = decide (z < 0)) (u : U16 w X.p X.n X.c (limbs z.natAbs)) : WR w X z := RW.mk u h

/-- The blocks of what a value holds: the boxes and the rooms. -/
def Bl1 : Value → List Nat
  | .pointer (some a) => [a.block]
  | .slice (some a) _ (_ + 1) => [a.block]
  | _ => []
def Bl : Value → List Nat
  | .agg cs => cs.toList.flatMap Bl1
  | .tuple cs => cs.toList.flatMap fun | .agg ds => ds.toList.flatMap Bl1 | v => Bl1 v
  | v => Bl1 v
/-- The number's room is its own, from block B on. -/
def OW (B : Nat) (w : World) (X : Wh) : Prop := Own B w X.p X.c
def Apt (X Y : Wh) : Prop := ∀ b ∈ Bl X.val, b ∉ Bl Y.val
def ApF (X : Fr) : Prop := Apt X.N X.D
def OF (B : Nat) (w : World) (X : Fr) : Prop := OW B w X.N ∧ OW B w X.D ∧ ApF X
theorem OW.ext {B : Nat} {w w' : World} {X : Wh} (h : OW B w X) (e : Ext w w') : OW B w' X := Own.ext h e
theorem OW.mono {B B' : Nat} {w : World} {X : Wh} (h : OW B w X) (e : B' ≤ B) : OW B' w X := Own.mono h e
theorem OF.ext {B : Nat} {w w' : World} {X : Fr} (h : OF B w X) (e : Ext w w') : OF B w' X := ⟨h.1.ext e, h.2.1.ext e, h.2.2⟩
theorem OF.mono {B B' : Nat} {w : World} {X : Fr} (h : OF B w X) (e : B' ≤ B) : OF B' w X := ⟨h.1.mono e, h.2.1.mono e, h.2.2⟩
theorem OW.bl {B : Nat} {w : World} {X : Wh} (h : OW B w X) : ∀ b ∈ Bl X.val, B ≤ b ∧ b < w.heap.size := by
  obtain ⟨nb, p, n, c⟩ := X
  intro b hb
  rcases h with h | ⟨g, cur, h1, h2, h3, h4⟩
  · simp only at h
    subst h
    simp [Bl, Bl1] at hb
  · simp only at h1
    subst h1
    have hg : g < w.heap.size := (Array.getElem?_eq_some_iff.1 h3).1
    cases c with
    | zero => simp [Bl, Bl1] at hb
    | succ c => simp [Bl, Bl1] at hb; subst hb; exact ⟨h2, hg⟩
theorem bl_fr (X : Fr) : Bl X.val = Bl X.N.val ++ Bl X.D.val := by
  simp only [Bl, List.flatMap_cons, List.flatMap_nil, List.append_nil]
  simp [List.append_assoc]
theorem OF.bl {B : Nat} {w : World} {X : Fr} (h : OF B w X) : ∀ b ∈ Bl X.val, B ≤ b ∧ b < w.heap.size := by
  intro b hb
  rw [bl_fr, List.mem_append] at hb
  exact hb.elim (h.1.bl b) (h.2.1.bl b)

/-- A kind of result: its shape, and what is known of it. -/
structure Tl where
  S : Value → Prop
  Bs : Value → List Nat
  A : Nat → Value → World → Prop
  wit : ∃ v, S v
  ext : ∀ {B v w w'}, A B v w → Ext w w' → A B v w'
  mono : ∀ {B B' v w}, A B v w → B' ≤ B → A B' v w
  bl : ∀ {B v w}, S v → A B v w → ∀ b ∈ Bs v, B ≤ b ∧ b < w.heap.size

/-- A known value. -/
def Tl.v (x : Value) : Tl where
  S v := v = x
  Bs _ := []
  A _ _ _ := True
  wit := ⟨x, rfl⟩
  ext _ _ := trivial
  mono _ _ := trivial
  bl _ _ b hb := by cases hb
/-- A whole number. -/
def Tl.w (z : Int) : Tl where
  S v := ∃ X : Wh, v = X.val
  Bs := Bl
  A B v w := ∀ X : Wh, v = X.val → WR w X z ∧ OW B w X
  wit := ⟨_, ⟨false, none, 0, 0⟩, rfl⟩
  ext h e X hX := ⟨(h X hX).1.ext e, (h X hX).2.ext e⟩
  mono h e X hX := ⟨(h X hX).1, (h X hX).2.mono e⟩
  bl := by rintro B _ w ⟨X, rfl⟩ h b hb; exact (h X rfl).2.bl b hb
/-- A whole number and an error's number. -/
def Tl.we (z : Int) (n : Int) : Tl where
  S v := ∃ X : Wh, v = .tuple #[X.val, .int .i64 n]
  Bs := Bl
  A B v w := ∀ X : Wh, v = .tuple #[X.val, .int .i64 n] → WR w X z ∧ OW B w X
  wit := ⟨_, ⟨false, none, 0, 0⟩, rfl⟩
  ext h e X hX := ⟨(h X hX).1.ext e, (h X hX).2.ext e⟩
  mono h e X hX := ⟨(h X hX).1, (h X hX).2.mono e⟩
  bl := by
    rintro B _ w ⟨X, rfl⟩ h b hb
    refine (h X rfl).2.bl b ?_
    simpa [Bl, Bl1] using hb
/-- A fraction. -/
def Tl.f (q : Rat) : Tl where
  S v := ∃ X : Fr, v = X.val
  Bs := Bl
  A B v w := ∀ X : Fr, v = X.val → FR w X q ∧ OF B w X
  wit := ⟨_, ⟨⟨false, none, 0, 0⟩, ⟨false, none, 0, 0⟩⟩, rfl⟩
  ext h e X hX := ⟨(h X hX).1.ext e, (h X hX).2.ext e⟩
  mono h e X hX := ⟨(h X hX).1, (h X hX).2.mono e⟩
  bl := by rintro B _ w ⟨X, rfl⟩ h b hb; exact (h X rfl).2.bl b hb
/-- A fraction and an error's number. -/
def Tl.fe (q : Rat) (n : Int) : Tl where
  S v := ∃ X : Fr, v = .tuple #[X.val, .int .i64 n]
  Bs := Bl
  A B v w := ∀ X : Fr, v = .tuple #[X.val, .int .i64 n] → FR w X q ∧ OF B w X
  wit := ⟨_, ⟨⟨false, none, 0, 0⟩, ⟨false, none, 0, 0⟩⟩, rfl⟩
  ext h e X hX := ⟨(h X hX).1.ext e, (h X hX).2.ext e⟩
  mono h e X hX := ⟨(h X hX).1, (h X hX).2.mono e⟩
  bl := by
    rintro B _ w ⟨X, rfl⟩ h b hb
    refine (h X rfl).2.bl b ?_
    simpa [Bl, Bl1] using hb
/-- The same, of a fraction that was there before. -/
def Tl.fe0 (q : Rat) (n : Int) : Tl where
  S v := ∃ X : Fr, v = .tuple #[X.val, .int .i64 n]
  Bs _ := []
  A B v w := ∀ X : Fr, v = .tuple #[X.val, .int .i64 n] → FR w X q ∧ OF B w X
  wit := ⟨_, ⟨⟨false, none, 0, 0⟩, ⟨false, none, 0, 0⟩⟩, rfl⟩
  ext h e X hX := ⟨(h X hX).1.ext e, (h X hX).2.ext e⟩
  mono h e X hX := ⟨(h X hX).1, (h X hX).2.mono e⟩
  bl := by rintro B _ w _ h b hb; cases hb
/-- A whole number, a slice of limbs, a fraction: wherever they lie. -/
def Tl.w0 (z : Int) : Tl where
  S v := ∃ X : Wh, v = X.val
  Bs _ := []
  A _ v w := ∀ X : Wh, v = X.val → WR w X z
  wit := ⟨_, ⟨false, none, 0, 0⟩, rfl⟩
  ext h e X hX := (h X hX).ext e
  mono h _ := h
  bl := by rintro B _ w _ h b hb; cases hb
def Tl.c0 (l : List Nat) : Tl where
  S v := ∃ X : Wh, v = .slice X.p X.n X.c
  Bs _ := []
  A _ v w := ∀ X : Wh, v = .slice X.p X.n X.c → U16 w X.p X.n X.c l
  wit := ⟨_, ⟨false, none, 0, 0⟩, rfl⟩
  ext h e X hX := (h X hX).ext e
  mono h _ := h
  bl := by rintro B _ w _ h b hb; cases hb
def Tl.f0 (q : Rat) : Tl where
  S v := ∃ X : Fr, v = X.val
  Bs _ := []
  A _ v w := ∀ X : Fr, v = X.val → FR w X q
  wit := ⟨_, ⟨⟨false, none, 0, 0⟩, ⟨false, none, 0, 0⟩⟩, rfl⟩
  ext h e X hX := (h X hX).ext e
  mono h _ := h
  bl := by rintro B _ w _ h b hb; cases hb
/-- A slice of limbs (a whole number's without its sign). -/
def Tl.c (l : List Nat) : Tl where
  S v := ∃ X : Wh, v = .slice X.p X.n X.c
  Bs := Bl
  A B v w := ∀ X : Wh, v = .slice X.p X.n X.c → U16 w X.p X.n X.c l ∧ OW B w X
  wit := ⟨_, ⟨false, none, 0, 0⟩, rfl⟩
  ext h e X hX := ⟨(h X hX).1.ext e, (h X hX).2.ext e⟩
  mono h e X hX := ⟨(h X hX).1, (h X hX).2.mono e⟩
  bl := by
    rintro B _ w ⟨X, rfl⟩ h b hb
    refine (h X rfl).2.bl b ?_
    obtain ⟨s, p, n, c⟩ := X
    cases p <;> cases c <;> simp_all [Bl, Bl1]
/-- A box that is new. -/
def Tl.box (t : TypeId) (c : Array Value) : Tl where
  S v := ∃ g, v = .pointer (some ⟨g, 0, none⟩)
  Bs := Bl
  A B v w := ∀ g, v = .pointer (some ⟨g, 0, none⟩) → Cells w g t c ∧ B ≤ g
  wit := ⟨_, 0, rfl⟩
  ext h e X hX := ⟨(h X hX).1.ext e, (h X hX).2⟩
  mono h e X hX := ⟨(h X hX).1, Nat.le_trans e (h X hX).2⟩
  bl := by
    rintro B _ w ⟨g, rfl⟩ h b hb
    have := h g rfl
    simp [Bl, Bl1] at hb
    subst hb
    exact ⟨this.2, this.1.lt⟩

theorem Tl.getW {z : Int} {B : Nat} {w : World} {X : Wh} (h : (Tl.w z).A B (.agg #[.bool X.b, .slice X.p X.n X.c]) w) : WR w X z ∧ OW B w X := h X rfl
theorem Tl.getWe {z n : Int} {B : Nat} {w : World} {X : Wh} (h : (Tl.we z n).A B (.tuple #[.agg #[.bool X.b, .slice X.p X.n X.c], .int .i64 n]) w) : WR w X z ∧ OW B w X := h X rfl
theorem Tl.getF {q : Rat} {B : Nat} {w : World} {X : Fr} (h : (Tl.f q).A B (.agg #[.bool X.N.b, .slice X.N.p X.N.n X.N.c, .bool X.D.b, .slice X.D.p X.D.n X.D.c]) w) : FR w X q ∧ OF B w X := h X rfl
theorem Tl.getFe {q : Rat} {n : Int} {B : Nat} {w : World} {X : Fr} (h : (Tl.fe q n).A B (.tuple #[.agg #[.bool X.N.b, .slice X.N.p X.N.n X.N.c, .bool X.D.b, .slice X.D.p X.D.n X.D.c], .int .i64 n]) w) : FR w X q ∧ OF B w X := h X rfl
theorem Tl.getC {l : List Nat} {B : Nat} {w : World} {X : Wh} (h : (Tl.c l).A B (.slice X.p X.n X.c) w) : U16 w X.p X.n X.c l ∧ OW B w X := h X rfl
theorem Tl.putC {l : List Nat} {B : Nat} {w : World} {X : Wh} (h : U16 w X.p X.n X.c l) (o : OW B w X) : (Tl.c l).A B (.slice X.p X.n X.c) w := by
  intro Y hY
  obtain ⟨a, b, c, d⟩ := X
  obtain ⟨a', b', c', d'⟩ := Y
  simp only [Value.slice.injEq] at hY
  obtain ⟨rfl, rfl, rfl⟩ := hY
  exact ⟨h, o⟩
theorem Tl.getFe0 {q : Rat} {n : Int} {B : Nat} {w : World} {X : Fr} (h : (Tl.fe0 q n).A B (.tuple #[.agg #[.bool X.N.b, .slice X.N.p X.N.n X.N.c, .bool X.D.b, .slice X.D.p X.D.n X.D.c], .int .i64 n]) w) : FR w X q ∧ OF B w X := h X rfl
theorem Tl.getW0 {z : Int} {B : Nat} {w : World} {X : Wh} (h : (Tl.w0 z).A B (.agg #[.bool X.b, .slice X.p X.n X.c]) w) : WR w X z := h X rfl
theorem Tl.getC0 {l : List Nat} {B : Nat} {w : World} {X : Wh} (h : (Tl.c0 l).A B (.slice X.p X.n X.c) w) : U16 w X.p X.n X.c l := h X rfl
theorem Tl.getF0 {q : Rat} {B : Nat} {w : World} {X : Fr} (h : (Tl.f0 q).A B (.agg #[.bool X.N.b, .slice X.N.p X.N.n X.N.c, .bool X.D.b, .slice X.D.p X.D.n X.D.c]) w) : FR w X q := h X rfl
theorem Tl.getB {t : TypeId} {c : Array Value} {B : Nat} {w : World} {g : Nat} (h : (Tl.box t c).A B (.pointer (some ⟨g, 0, none⟩)) w) : Cells w g t c ∧ B ≤ g := h g rfl
theorem Tl.putW {z : Int} {B : Nat} {w : World} {X : Wh} (h : WR w X z) (o : OW B w X) : (Tl.w z).A B X.val w := by
  intro Y hY
  obtain ⟨a, b, c, d⟩ := X
  obtain ⟨a', b', c', d'⟩ := Y
  simp only [Wh.val, Value.agg.injEq, Array.mk.injEq, List.cons.injEq, Value.bool.injEq, Value.slice.injEq, and_true] at hY
  obtain ⟨rfl, rfl, rfl, rfl⟩ := hY
  exact ⟨h, o⟩
theorem wh_inj {X Y : Wh} (h : X.val = Y.val) : X = Y := by
  obtain ⟨a, b, c, d⟩ := X
  obtain ⟨a', b', c', d'⟩ := Y
  simp only [Wh.val, Value.agg.injEq, Array.mk.injEq, List.cons.injEq, Value.bool.injEq, Value.slice.injEq, and_true] at h
  obtain ⟨rfl, rfl, rfl, rfl⟩ := h
  rfl
theorem Tl.putWe {z n : Int} {B : Nat} {w : World} {X : Wh} (h : WR w X z) (o : OW B w X) : (Tl.we z n).A B (.tuple #[X.val, .int .i64 n]) w := by
  intro Y hY
  have : X.val = Y.val := by
    simp only [Value.tuple.injEq, Array.mk.injEq, List.cons.injEq, and_true] at hY
    exact hY
  obtain rfl := wh_inj this
  exact ⟨h, o⟩
theorem fr_inj {X Y : Fr} (h : X.val = Y.val) : X = Y := by
  obtain ⟨⟨a, b, c, d⟩, ⟨a2, b2, c2, d2⟩⟩ := X
  obtain ⟨⟨a', b', c', d'⟩, ⟨a2', b2', c2', d2'⟩⟩ := Y
  simp only [Fr.val, Value.agg.injEq, Array.mk.injEq, List.cons.injEq, Value.bool.injEq, Value.slice.injEq, and_true] at h
  obtain ⟨rfl, ⟨rfl, rfl, rfl⟩, rfl, rfl, rfl, rfl⟩ := h
  rfl
theorem Tl.putF {q : Rat} {B : Nat} {w : World} {X : Fr} (h : FR w X q) (o : OF B w X) : (Tl.f q).A B X.val w := by
  intro Y hY
  obtain rfl := fr_inj hY
  exact ⟨h, o⟩
theorem Tl.putFe {q : Rat} {n : Int} {B : Nat} {w : World} {X : Fr} (h : FR w X q) (o : OF B w X) : (Tl.fe q n).A B (.tuple #[X.val, .int .i64 n]) w := by
  intro Y hY
  have : X.val = Y.val := by
    simp only [Value.tuple.injEq, Array.mk.injEq, List.cons.injEq, and_true] at hY
    exact hY
  obtain rfl := fr_inj this
  exact ⟨h, o⟩

theorem Tl.putFe0 {q : Rat} {n : Int} {B : Nat} {w : World} {X : Fr} (h : FR w X q) (o : OF B w X) : (Tl.fe0 q n).A B (.tuple #[X.val, .int .i64 n]) w := by
  intro Y hY
  have : X.val = Y.val := by
    simp only [Value.tuple.injEq, Array.mk.injEq, List.cons.injEq, and_true] at hY
    exact hY
  obtain rfl := fr_inj this
  exact ⟨h, o⟩
/-- What a call gives: a value of the kind; what was there stays. -/
def Gv (t : Tl) (w : World) (e : Ending) (w' : World) : Prop := ∃ v, e = .returned v ∧ t.S v ∧ t.A w.heap.size v w' ∧ Ext w w'
theorem Gv.v {x : Value} {w : World} {e : Ending} {w' : World} (h : Gv (.v x) w e w') : e = .returned x ∧ Ext w w' := by
  obtain ⟨v, rfl, h1, _, h3⟩ := h; exact ⟨by rw [h1], h3⟩
theorem Gv.w {z : Int} {w : World} {e : Ending} {w' : World} (h : Gv (.w z) w e w') : ∃ X : Wh, e = .returned (.agg #[.bool X.b, .slice X.p X.n X.c]) ∧ WR w' X z ∧ OW w.heap.size w' X ∧ Ext w w' := by
  obtain ⟨v, rfl, ⟨X, rfl⟩, h2, h3⟩ := h; exact ⟨X, rfl, (h2 X rfl).1, (h2 X rfl).2, h3⟩
theorem Gv.we {z n : Int} {w : World} {e : Ending} {w' : World} (h : Gv (.we z n) w e w') : ∃ X : Wh, e = .returned (.tuple #[.agg #[.bool X.b, .slice X.p X.n X.c], .int .i64 n]) ∧ WR w' X z ∧ OW w.heap.size w' X ∧ Ext w w' := by
  obtain ⟨v, rfl, ⟨X, rfl⟩, h2, h3⟩ := h; exact ⟨X, rfl, (h2 X rfl).1, (h2 X rfl).2, h3⟩
theorem Gv.of_we {z n : Int} {X : Wh} {w w' : World} (h : WR w' X z) (o : OW w.heap.size w' X) (e : Ext w w') : Gv (.we z n) w (.returned (.tuple #[.agg #[.bool X.b, .slice X.p X.n X.c], .int .i64 n])) w' := ⟨_, rfl, ⟨X, rfl⟩, Tl.putWe h o, e⟩
theorem Gv.f {q : Rat} {w : World} {e : Ending} {w' : World} (h : Gv (.f q) w e w') : ∃ X : Fr, e = .returned (.agg #[.bool X.N.b, .slice X.N.p X.N.n X.N.c, .bool X.D.b, .slice X.D.p X.D.n X.D.c]) ∧ FR w' X q ∧ OF w.heap.size w' X ∧ Ext w w' := by
  obtain ⟨v, rfl, ⟨X, rfl⟩, h2, h3⟩ := h; exact ⟨X, rfl, (h2 X rfl).1, (h2 X rfl).2, h3⟩
theorem Gv.fe {q : Rat} {n : Int} {w : World} {e : Ending} {w' : World} (h : Gv (.fe q n) w e w') : ∃ X : Fr, e = .returned (.tuple #[.agg #[.bool X.N.b, .slice X.N.p X.N.n X.N.c, .bool X.D.b, .slice X.D.p X.D.n X.D.c], .int .i64 n]) ∧ FR w' X q ∧ OF w.heap.size w' X ∧ Ext w w' := by
  obtain ⟨v, rfl, ⟨X, rfl⟩, h2, h3⟩ := h; exact ⟨X, rfl, (h2 X rfl).1, (h2 X rfl).2, h3⟩
theorem Gv.c {l : List Nat} {w : World} {e : Ending} {w' : World} (h : Gv (.c l) w e w') : ∃ X : Wh, e = .returned (.slice X.p X.n X.c) ∧ U16 w' X.p X.n X.c l ∧ OW w.heap.size w' X ∧ Ext w w' := by
  obtain ⟨v, rfl, ⟨X, rfl⟩, h2, h3⟩ := h; exact ⟨X, rfl, (h2 X rfl).1, (h2 X rfl).2, h3⟩
theorem Gv.of_c {l : List Nat} {X : Wh} {w w' : World} (h : U16 w' X.p X.n X.c l) (o : OW w.heap.size w' X) (e : Ext w w') : Gv (.c l) w (.returned (.slice X.p X.n X.c)) w' := ⟨_, rfl, ⟨X, rfl⟩, Tl.putC h o, e⟩
theorem Gv.w0 {z : Int} {w : World} {e : Ending} {w' : World} (h : Gv (.w0 z) w e w') : ∃ X : Wh, e = .returned (.agg #[.bool X.b, .slice X.p X.n X.c]) ∧ WR w' X z ∧ Ext w w' := by
  obtain ⟨v, rfl, ⟨X, rfl⟩, h2, h3⟩ := h; exact ⟨X, rfl, h2 X rfl, h3⟩
theorem Gv.c0 {l : List Nat} {w : World} {e : Ending} {w' : World} (h : Gv (.c0 l) w e w') : ∃ X : Wh, e = .returned (.slice X.p X.n X.c) ∧ U16 w' X.p X.n X.c l ∧ Ext w w' := by
  obtain ⟨v, rfl, ⟨X, rfl⟩, h2, h3⟩ := h; exact ⟨X, rfl, h2 X rfl, h3⟩
theorem Gv.f0 {q : Rat} {w : World} {e : Ending} {w' : World} (h : Gv (.f0 q) w e w') : ∃ X : Fr, e = .returned (.agg #[.bool X.N.b, .slice X.N.p X.N.n X.N.c, .bool X.D.b, .slice X.D.p X.D.n X.D.c]) ∧ FR w' X q ∧ Ext w w' := by
  obtain ⟨v, rfl, ⟨X, rfl⟩, h2, h3⟩ := h; exact ⟨X, rfl, h2 X rfl, h3⟩
theorem Gv.of_w0 {z : Int} {X : Wh} {w w' : World} (h : WR w' X z) (e : Ext w w') : Gv (.w0 z) w (.returned (.agg #[.bool X.b, .slice X.p X.n X.c])) w' := ⟨_, rfl, ⟨X, rfl⟩, fun _ hY => by obtain rfl := wh_inj hY; exact h, e⟩
theorem Gv.of_c0 {l : List Nat} {X : Wh} {w w' : World} (h : U16 w' X.p X.n X.c l) (e : Ext w w') : Gv (.c0 l) w (.returned (.slice X.p X.n X.c)) w' := ⟨_, rfl, ⟨X, rfl⟩, fun Y hY => by
  obtain ⟨a, b, c, d⟩ := X
  obtain ⟨a', b', c', d'⟩ := Y
  simp only [Value.slice.injEq] at hY
  obtain ⟨rfl, rfl, rfl⟩ := hY
  exact h, e⟩
theorem Gv.of_f0 {q : Rat} {X : Fr} {w w' : World} (h : FR w' X q) (e : Ext w w') : Gv (.f0 q) w (.returned (.agg #[.bool X.N.b, .slice X.N.p X.N.n X.N.c, .bool X.D.b, .slice X.D.p X.D.n X.D.c])) w' := ⟨_, rfl, ⟨X, rfl⟩, fun _ hY => by obtain rfl := fr_inj hY; exact h, e⟩
theorem Gv.f_f0 {q : Rat} {w : World} {e : Ending} {w' : World} (h : Gv (.f q) w e w') : Gv (.f0 q) w e w' := by
  obtain ⟨X, rfl, h1, _, h3⟩ := Gv.f h; exact Gv.of_f0 h1 h3
theorem Gv.w_w0 {q : Int} {w : World} {e : Ending} {w' : World} (h : Gv (.w q) w e w') : Gv (.w0 q) w e w' := by
  obtain ⟨X, rfl, h1, _, h3⟩ := Gv.w h; exact Gv.of_w0 h1 h3
theorem Gv.of_v {x : Value} {w w' : World} (h : Ext w w') : Gv (.v x) w (.returned x) w' := ⟨x, rfl, rfl, trivial, h⟩
theorem Gv.of_w {z : Int} {X : Wh} {w w' : World} (h : WR w' X z) (o : OW w.heap.size w' X) (e : Ext w w') : Gv (.w z) w (.returned (.agg #[.bool X.b, .slice X.p X.n X.c])) w' := ⟨_, rfl, ⟨X, rfl⟩, Tl.putW h o, e⟩
theorem Gv.of_f {q : Rat} {X : Fr} {w w' : World} (h : FR w' X q) (o : OF w.heap.size w' X) (e : Ext w w') : Gv (.f q) w (.returned (.agg #[.bool X.N.b, .slice X.N.p X.N.n X.N.c, .bool X.D.b, .slice X.D.p X.D.n X.D.c])) w' := ⟨_, rfl, ⟨X, rfl⟩, Tl.putF h o, e⟩
theorem Gv.of_fe {q : Rat} {n : Int} {X : Fr} {w w' : World} (h : FR w' X q) (o : OF w.heap.size w' X) (e : Ext w w') : Gv (.fe q n) w (.returned (.tuple #[.agg #[.bool X.N.b, .slice X.N.p X.N.n X.N.c, .bool X.D.b, .slice X.D.p X.D.n X.D.c], .int .i64 n])) w' := ⟨_, rfl, ⟨X, rfl⟩, Tl.putFe h o, e⟩

section
variable {P : Program} {ops : Array Oper} {T : Nat → Option Tl} {I : World → Prop} {Fin : Act → World → Prop}

def TS (T : Nat → Option Tl) (k : Nat) (v : Value) : Prop := match T k with | some t => t.S v | none => True
def TA (T : Nat → Option Tl) (B : Nat) (k : Nat) (v : Value) (w : World) : Prop := match T k with | some t => t.S v ∧ t.A B v w | none => True
def TB (T : Nat → Option Tl) (k : Nat) (v : Value) : List Nat := match T k with | some t => t.Bs v | none => []
abbrev TR (T : Nat → Option Tl) (k : Nat) : Bool := (T k).isSome
abbrev WalkT (P : Program) (ops : Array Oper) (T : Nat → Option Tl) (w : World) (Fin : Act → World → Prop) : List (Nat × Value) → Nat → List Oper → Act → Prop :=
  Walk P ops (TR T) (TS T) (AF (TB T) (TA T w.heap.size)) (Ext w) (ChF (TB T)) (XF (TB T)) UE Fin

/-- A region whose order is open; what some operations give is told by a kind. -/
theorem regionT (N : Nat) (T : Nat → Option Tl) {id : Nat} {l : List Oper} {Q : Exit → Act → World → Prop} {a : Act} {w : World}
    (hm : P.follows .mixedOrders = true) (hB : headB l.toArray N a.tmps.size = true)
    (hW : WalkT P l.toArray T w (wpList P l.toArray Q (l.drop N)) [] 0 (l.take N) a) : (Code.region id l.toArray true).wp P Q a w := by
  refine regionF N (TR T) (TS T) (TA T w.heap.size) (TB T) hm hB ?_ hW
  intro i v w1 w2 h e
  unfold TA at *
  split <;> rename_i ht <;> simp only [ht] at h
  · exact ⟨h.1, Tl.ext _ h.2 e⟩
  · trivial
theorem regionInT (N : Nat) (T : Nat → Option Tl) {F : Fence} (hF : WideF F) {id n : Nat} {l : List Oper} {Q : Exit → Act → World → Prop} {a : Act} {w : World}
    (hm : P.follows .mixedOrders = true) (hd : noDefer l.toArray = true) (hB : headB l.toArray N a.tmps.size = true)
    (hW : WalkT P l.toArray T w (wpListIn F n P l.toArray Q (l.drop N)) [] 0 (l.take N) a) : (Code.region id l.toArray true).wpIn F n P Q a w := by
  refine regionInF N (TR T) (TS T) (TA T w.heap.size) (TB T) hF hm hd hB ?_ hW
  intro i v w1 w2 h e
  unfold TA at *
  split <;> rename_i ht <;> simp only [ht] at h
  · exact ⟨h.1, Tl.ext _ h.2 e⟩
  · trivial

theorem Walk.oneG {R : Nat → Bool} {S : Nat → Value → Prop} {A : Nat → Value → World → Prop} {Ch : Nat → Value → World → World → Prop} {X : Nat → Value → Nat → Value → Prop} {U : Nat → World → Prop} {L : List (Nat × Value)} {k : Nat} {o : Oper} {rest : List Oper} {a : Act} {x : Value} (hR : R k = false) (hg : Region.wanted o (yielded ops a.tmps) = true)
    (h : ∀ w, I w → Knows ops A L k w → ∀ K : Value → World → Prop, K x w → UponV K ((execOp a.eval o).run P w))
    (hr : Walk P ops R S A I Ch X U Fin L (k + 1) rest (a.put o.dst x)) : Walk P ops R S A I Ch X U Fin L k (o :: rest) a := by
  unfold Walk
  rw [if_neg (by simp [hR])]
  refine ⟨x, fun w hI hL => ?_, hr⟩
  rw [if_pos hg]
  exact uponV_one (h w hI hL.1)
theorem Walk.tellG {t : Tl} {w : World} {L : List (Nat × Value)} {k : Nat} {o : Oper} {rest : List Oper} {a : Act} (hT : T k = some t) (hg : Region.wanted o (yielded ops a.tmps) = true)
    (h : ∀ w1, Ext w w1 → Knows ops (TA T w.heap.size) L k w1 → ∀ K : Value → World → Prop, (∀ v w', t.S v → t.A w1.heap.size v w' → Ext w1 w' → K v w') → Upon P K ((execOp a.eval o).run P w1))
    (hr : ∀ v, t.S v → WalkT P ops T w Fin ((k, v) :: L) (k + 1) rest (a.put o.dst v)) : WalkT P ops T w Fin L k (o :: rest) a := by
  unfold WalkT Walk
  rw [if_pos (by simp [TR, hT])]
  refine ⟨by simp only [TS, hT]; exact t.wit, fun w1 hI _ hL => ?_, fun v hv => hr v (by simpa only [TS, hT] using hv)⟩
  rw [if_pos hg]
  refine upon_eff (h w1 hI (fun p hp hpr => (hL.1 p hp hpr).1) _ (fun v w' h1 h2 h3 => ?_))
  have hb : ∀ b ∈ TB T k v, w1.heap.size ≤ b ∧ b < w'.heap.size := by simp only [TB, hT]; exact t.bl h1 h2
  have hc : ChF (TB T) k v w1 w' := ⟨h3, fun b h => (hb b h).1⟩
  exact ⟨by simpa only [TS, hT] using h1, ⟨by simp only [TA, hT]; exact ⟨h1, t.mono h2 hI.size⟩, fun b h => (hb b h).2⟩, hI.trans (h3.mono hI.size), hc, fun p hp hpr => xF (hL.1 p hp hpr) hc⟩
theorem Walk.tell {t : Tl} {w : World} {L : List (Nat × Value)} {k : Nat} {o : Oper} {rest : List Oper} {a : Act} (hT : T k = some t) (hg : o.guard = none)
    (h : ∀ w1, Ext w w1 → Knows ops (TA T w.heap.size) L k w1 → ∀ K : Value → World → Prop, (∀ v w', t.S v → t.A w1.heap.size v w' → Ext w1 w' → K v w') → Upon P K ((execOp a.eval o).run P w1))
    (hr : ∀ v, t.S v → WalkT P ops T w Fin ((k, v) :: L) (k + 1) rest (a.put o.dst v)) : WalkT P ops T w Fin L k (o :: rest) a := by
  refine Walk.toldF (by simp [TR, hT]) hg (by simp only [TS, hT]; exact t.wit) (fun w1 hI hL K hK => ?_) (fun v hv => hr v (by simpa only [TS, hT] using hv))
  refine h w1 hI hL K (fun v w' h1 h2 h3 => hK v w' (by simpa only [TS, hT] using h1) (by simp only [TA, hT]; exact ⟨h1, t.mono h2 hI.size⟩) (hI.trans (h3.mono hI.size)) h3 (by simp only [TB, hT]; exact t.bl h1 h2))

theorem Walk.tell0 {t : Tl} {w : World} {L : List (Nat × Value)} {k : Nat} {o : Oper} {rest : List Oper} {a : Act} (hT : T k = some t) (hBs : t.Bs = fun _ => []) (hg : o.guard = none)
    (h : ∀ w1, Ext w w1 → Knows ops (TA T w.heap.size) L k w1 → ∀ K : Value → World → Prop, (∀ v w', t.S v → t.A w.heap.size v w' → Ext w1 w' → K v w') → Upon P K ((execOp a.eval o).run P w1))
    (hr : ∀ v, t.S v → WalkT P ops T w Fin ((k, v) :: L) (k + 1) rest (a.put o.dst v)) : WalkT P ops T w Fin L k (o :: rest) a := by
  refine Walk.toldF (by simp [TR, hT]) hg (by simp only [TS, hT]; exact t.wit) (fun w1 hI hL K hK => ?_) (fun v hv => hr v (by simpa only [TS, hT] using hv))
  refine h w1 hI hL K (fun v w' h1 h2 h3 => hK v w' (by simpa only [TS, hT] using h1) (by simp only [TA, hT]; exact ⟨h1, h2⟩) (hI.trans (h3.mono hI.size)) h3 (by simp only [TB, hT, hBs]; intro b hb; cases hb))
theorem tellTold {q : Rat} {X : Fr} {B : Nat} {w1 : World} {K : Value → World → Prop} (hK : ∀ v w', (Tl.fe0 q 0).S v → (Tl.fe0 q 0).A B v w' → Ext w1 w' → K v w') (h : FR w1 X q) (o : OF B w1 X) :
    ∀ e w', Gv (.v (.tuple #[X.val, .int .i64 0])) w1 e w' → ∃ v, e = .returned v ∧ K v w' :=
  fun _ _ g => ⟨_, (Gv.v g).1, hK _ _ ⟨X, rfl⟩ (Tl.putFe0 (h.ext (Gv.v g).2) (o.ext (Gv.v g).2)) (Gv.v g).2⟩
theorem tell {t : Tl} {w1 : World} {K : Value → World → Prop} (hK : ∀ v w', t.S v → t.A w1.heap.size v w' → Ext w1 w' → K v w') : ∀ e w', Gv t w1 e w' → ∃ v, e = .returned v ∧ K v w' :=
  fun _ _ ⟨v, he, h1, h2, h3⟩ => ⟨v, he, hK v _ h1 h2 h3⟩
theorem tellB {t : TypeId} {c : Array Value} {w1 : World} {K : Value → World → Prop} (hK : ∀ v w', (Tl.box t c).S v → (Tl.box t c).A w1.heap.size v w' → Ext w1 w' → K v w') : K (.pointer (some ⟨w1.heap.size, 0, none⟩)) (w1.alloc (.cells c t)) :=
  hK _ _ ⟨_, rfl⟩ (fun g hg => by
    simp only [Value.pointer.injEq, Option.some.injEq, Addr.mk.injEq, and_true] at hg
    subst hg
    exact ⟨Cells.newAt _ _ rfl, Nat.le_refl _⟩) ((Below.refl _ _).alloc (Nat.le_refl _) _)

/-- What is known of a told one, in the middle. -/
theorem kn {k i : Nat} {v : Value} {t : Tl} {B : Nat} {L : List (Nat × Value)} {w1 : World} (hT : T i = some t) (hm : (i, v) ∈ L) (hp : pred ops k i = true) (h : Knows ops (TA T B) L k w1) : t.A B v w1 := by
  have := h (i, v) hm hp
  simp only [TA, hT] at this
  exact this.2
/-- .. and at the end. -/
theorem kz {i : Nat} {v : Value} {t : Tl} {B : Nat} {L : List (Nat × Value)} {w1 : World} (hT : T i = some t) (hm : (i, v) ∈ L) (h : ∀ p ∈ L, TA T B p.1 p.2 w1) : t.A B v w1 := by
  have := h (i, v) hm
  simp only [TA, hT] at this
  exact this.2
end

/-- A box of a call's own, written from cell k on. -/
def sets (w : World) (b : Nat) : Nat → List Value → World
  | _, [] => w
  | k, v :: r => sets (w.setCell ⟨b, k, none⟩ v) b (k + 1) r
def splice (c : Array Value) : Nat → List Value → Array Value
  | _, [] => c
  | k, v :: r => splice (c.setIfInBounds k v) (k + 1) r
theorem Cells.setOne {w : World} {b : Nat} {t : TypeId} {c : Array Value} (h : Cells w b t c) (k : Nat) (v : Value) : Cells (w.setCell ⟨b, k, none⟩ v) b t (c.setIfInBounds k v) := by
  unfold Cells
  simp only [World.setCell, Array.getElem?_modify]
  rw [if_pos trivial, show w.heap[b]? = _ from h]
  simp
theorem Cells.sets {b : Nat} {t : TypeId} : ∀ (l : List Value) {w : World} {c : Array Value} (_ : Cells w b t c) (k : Nat), Cells (sets w b k l) b t (splice c k l)
  | [], _, _, h, _ => h
  | v :: r, _, _, h, k => Cells.sets r (h.setOne k v) (k + 1)
theorem sets_keeps (b : Nat) : ∀ (l : List Value) (w : World) (k : Nat), Keeps (fun x => x = b) w (sets w b k l)
  | [], w, _ => Keeps.refl _ w
  | v :: r, w, k => (Keeps.setCell (M := fun x => x = b) (Keeps.refl _ w) (p := ⟨b, k, none⟩) rfl v).trans (sets_keeps b r _ (k + 1))
theorem Cells.off {w : World} {b b' : Nat} {t : TypeId} {c : Array Value} (h : Cells w b t c) (hb : b ≠ b') (k : Nat) (l : List Value) : Cells (Go.Proofs.YtndgaecfeaedeaaGreat.sets w b' k l) b t c := h.keeps (sets_keeps b' l w k) hb
/-- No limb lies in a box. -/
def NoU (c : Array Value) : Prop := ∀ v ∈ c.toList, ∀ i, v ≠ .int .u16 i
theorem U16.offU {w : World} {p : Option Addr} {n cap b : Nat} {l : List Nat} {t : TypeId} {c : Array Value} (h : U16 w p n cap l) (hC : Cells w b t c) (hv : NoU c) {j : Nat} (hj : j < n) : (at_ p j).block ≠ b := fun e => by
  have hc := h.cell j hj
  unfold World.cell? at hc
  rw [e, show w.heap[b]? = _ from hC] at hc
  simp only at hc
  split at hc
  · cases hc
  · rw [← Array.getElem?_toList] at hc
    exact hv _ (List.mem_of_getElem? hc) _ rfl
theorem WR.sets {w : World} {X : Wh} {z : Int} (h : WR w X z) {b : Nat} {t : TypeId} {c : Array Value} (hC : Cells w b t c) (hv : NoU c) (k : Nat) (l : List Value) : WR (Go.Proofs.YtndgaecfeaedeaaGreat.sets w b k l) X z :=
  WR.mk h.neg ((sets_keeps b l w k).u16 h.u16.2 fun _ hj => h.u16.2.offU hC hv hj)
theorem FR.sets {w : World} {X : Fr} {q : Rat} (h : FR w X q) {b : Nat} {t : TypeId} {c : Array Value} (hC : Cells w b t c) (hv : NoU c) (k : Nat) (l : List Value) : FR (Go.Proofs.YtndgaecfeaedeaaGreat.sets w b k l) X q := ⟨WR.sets h.1 hC hv k l, WR.sets h.2 hC hv k l⟩
theorem OW.sets {B : Nat} {w : World} {X : Wh} (h : OW B w X) {b : Nat} {t : TypeId} {c : Array Value} (hC : Cells w b t c) (ht : t ≠ 153) (k : Nat) (l : List Value) : OW B (Go.Proofs.YtndgaecfeaedeaaGreat.sets w b k l) X := Own.cells h hC ht (sets_keeps b l w k)
theorem OF.sets {B : Nat} {w : World} {X : Fr} (h : OF B w X) {b : Nat} {t : TypeId} {c : Array Value} (hC : Cells w b t c) (ht : t ≠ 153) (k : Nat) (l : List Value) : OF B (Go.Proofs.YtndgaecfeaedeaaGreat.sets w b k l) X := ⟨OW.sets h.1 hC ht k l, OW.sets h.2.1 hC ht k l, h.2.2⟩
theorem Ext.sets {w w' : World} (h : Ext w w') {b : Nat} (hb : w.heap.size ≤ b) (k : Nat) (l : List Value) : Ext w (Go.Proofs.YtndgaecfeaedeaaGreat.sets w' b k l) :=
  ((Keeps.of_ext (M := fun x => w.heap.size ≤ x) h).trans ((sets_keeps b l w' k).mono fun x _ hx => by omega)).ext fun _ h => h
theorem size_sets (b : Nat) : ∀ (l : List Value) (w : World) (k : Nat), (sets w b k l).heap.size = w.heap.size
  | [], _, _ => rfl
  | v :: r, w, k => by rw [sets, size_sets b r]; simp
theorem ea (w : World) (o : Obj) : Ext w (w.alloc o) := (Below.refl _ _).alloc (Nat.le_refl _) _
theorem eg {w w1 w2 : World} (h : Ext w w1) (k : Ext w1 w2) : Ext w w2 := h.trans (k.mono h.size)
theorem alloc_lt {w W : World} {o : Obj} (h : w.alloc o = W) : W.heap.size = w.heap.size + 1 := by rw [← h]; simp
theorem mkFR {w : World} {X Y : Wh} {q : Rat} (h : WR w X q.num) (k : WR w Y q.den) : FR w ⟨X, Y⟩ q := ⟨h, k⟩
theorem mkOF {B : Nat} {w : World} {X Y : Wh} (h : OW B w X) (k : OW B w Y) (a : ApF ⟨X, Y⟩) : OF B w ⟨X, Y⟩ := ⟨h, k, a⟩
/-- The number 0, as Go lays it out. -/
abbrev zeroWh : Wh := ⟨false, none, 0, 0⟩
theorem zeroWh_R (w : World) : WR w zeroWh 0 := WR.mk (by simp) ⟨by simp [limbs_zero], Nat.le_refl _, by simp, by unfold Has; exact .inl rfl, by simp only [Int.natAbs_zero, limbs_zero]; exact Lim.nil, fun j hj => absurd hj (Nat.not_lt_zero _)⟩
theorem zeroWh_O (B : Nat) (w : World) : OW B w zeroWh := .inl rfl
/-- Both parts, as numbers. -/
def PR (w : World) (X : Fr) (a d : Int) : Prop := WR w X.N a ∧ WR w X.D d
theorem PR.ext {w w' : World} {X : Fr} {a d : Int} (h : PR w X a d) (e : Ext w w') : PR w' X a d := ⟨h.1.ext e, h.2.ext e⟩
theorem PR.sets {w : World} {X : Fr} {a d : Int} (h : PR w X a d) {b : Nat} {t : TypeId} {c : Array Value} (hC : Cells w b t c) (hv : NoU c) (k : Nat) (l : List Value) : PR (Go.Proofs.YtndgaecfeaedeaaGreat.sets w b k l) X a d := ⟨WR.sets h.1 hC hv k l, WR.sets h.2 hC hv k l⟩
theorem FR.pr {w : World} {X : Fr} {q : Rat} (h : FR w X q) : PR w X q.num q.den := h
theorem Apt.of {X Y : Wh} (h : ∀ b ∈ Bl X.val, b ∉ Bl Y.val) : Apt X Y := h
theorem Apt.seq {B : Nat} {w w' : World} {X Y : Wh} (h : OW B w X) (k : OW w.heap.size w' Y) : Apt X Y := fun b h1 h2 => by have := (h.bl b h1).2; have := (k.bl b h2).1; omega
theorem Apt.swap {X Y : Wh} (h : Apt X Y) : Apt Y X := fun b h1 h2 => h b h2 h1
theorem Apt.zero (X : Wh) : Apt zeroWh X := fun b h1 _ => by simp [Bl, Bl1] at h1
/-- Limbs, whatever they are. -/
def UW (w : World) (X : Wh) (l : List Nat) : Prop := U16 w X.p X.n X.c l
def UF (w : World) (X : Fr) (l m : List Nat) : Prop := UW w X.N l ∧ UW w X.D m
theorem UW.ext {w w' : World} {X : Wh} {l : List Nat} (h : UW w X l) (e : Ext w w') : UW w' X l := U16.ext h e
theorem UF.ext {w w' : World} {X : Fr} {l m : List Nat} (h : UF w X l m) (e : Ext w w') : UF w' X l m := ⟨h.1.ext e, h.2.ext e⟩
theorem UW.sets {w : World} {X : Wh} {u : List Nat} (h : UW w X u) {b : Nat} {t : TypeId} {c : Array Value} (hC : Cells w b t c) (hv : NoU c) (k : Nat) (l : List Value) : UW (Go.Proofs.YtndgaecfeaedeaaGreat.sets w b k l) X u :=
  (sets_keeps b l w k).u16 h fun _ hj => U16.offU h hC hv hj
theorem UF.sets {w : World} {X : Fr} {u m : List Nat} (h : UF w X u m) {b : Nat} {t : TypeId} {c : Array Value} (hC : Cells w b t c) (hv : NoU c) (k : Nat) (l : List Value) : UF (Go.Proofs.YtndgaecfeaedeaaGreat.sets w b k l) X u m := ⟨UW.sets h.1 hC hv k l, UW.sets h.2 hC hv k l⟩
end Go.Proofs.YtndgaecfeaedeaaGreat
