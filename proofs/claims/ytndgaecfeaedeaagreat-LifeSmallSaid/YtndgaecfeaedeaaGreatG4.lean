/- Walks of package whole: sums and differences of absolute values. Walks of package whole: differences of absolute values. Walks of package whole: products of absolute values. Walks of package whole: division by a small number. Walks of package whole: shifting to the left. -/
import Derived.Test.YtndgaecfeaedeaaGreatG3
set_option linter.unusedSimpArgs false
set_option linter.unusedVariables false
namespace Go.Proofs.YtndgaecfeaedeaaGreat
open Go.RowKit Lex Mth
attribute [local go_sem] run_indexAt_at add_zero_map Oper.semAt_some

theorem Tryz.info16 : (Tryz.prog.info? 153).map (fun i => (i.zero, i.size, i.bytes)) = some (some (.int .u16 0), 1, 2) := by kernel_rfl

abbrev u16s (l : List Nat) : List Value := l.map (fun x => Value.int .u16 (x : Nat))

set_option maxRecDepth 100000 in
theorem put_any (n c C O g k cap base : Nat) (l : List Nat) (w : World) (hC : Boxed w C 265 (.int .u32 (c : Nat))) (hO : Boxed w O 36 (.slice (some ⟨g, 0, none⟩) k cap))
    (hr : w.ownsRow base 153 1 (.slice (some ⟨g, 0, none⟩) k cap) k (u16s l)) (hk : k + 1 ≤ cap) (hn : n + c < 4294967296) (hCO : C ≠ O) (hCg : C ≠ g) (hOg : O ≠ g) :
    Calls Tryz.prog 217 #[.int .u32 (n : Nat), .pointer (some ⟨C, 0, none⟩), .pointer (some ⟨O, 0, none⟩)] w fun e w' => e = .returned (.tuple #[]) ∧
     Boxed w' C 265 (.int .u32 ((n + c) / 65536 : Nat)) ∧ Boxed w' O 36 (.slice (some ⟨g, 0, none⟩) (k + 1) cap) ∧
     w'.ownsRow base 153 1 (.slice (some ⟨g, 0, none⟩) (k + 1) cap) (k + 1) (u16s (l ++ [(n + c) % 65536])) ∧ Keeps (fun b => b = C ∨ b = O ∨ b = g) w w' := by
 have c1 := hC.cell
 have f1 := hC.frozen
 have c2 := hO.cell
 have f2 := hO.frozen
 have b1 := hC.lt
 have b2 := hO.lt
 obtain ⟨i0, hi, hz0, hz1, hz2⟩ := info_parts Tryz.info16
 go_enter Tryz.func217, Tryz.ntmps217
 have hw16 : IntKind.u16.wrap ((n : Int) + c) = (((n + c) % 65536 : Nat) : Int) := by simp [IntKind.wrap, IntKind.bits, IntKind.signed]
 go_wp2_with (at_builtin; refine wpList_append_fits _ rfl (.tmp 7) (.tmp 10) 36 rfl base 153 i0 1 Tryz.underlying36 hi hz1 g k cap (u16s l) rfl (hr.alloc _) ⟨w.heap.size, 0, none⟩ 1 1 [.int .u16 (((n + c) % 65536 : Nat) : Int)] rfl rfl ?c1 ?c2 (by omega) ?_)
 case c1 =>
  intro j u hj
  match j, hj with
  | 0, hj => simp at hj; subst hj; simp [Addr.add]
 case c2 => intro u hu; simp at hu; subst hu; rfl
 intro w1 hown hgrow
 have k1 : Keeps (fun b => b = C ∨ b = O ∨ b = g) w w1 := ((Keeps.refl _ w).alloc _).grown hgrow (fun k h => by cases h; exact .inr (.inr rfl))
 have k1' : Keeps (fun b => b = g) w w1 := ((Keeps.refl _ w).alloc _).grown hgrow (fun k h => by cases h; rfl)
 have hO1 := Boxed.keeps hO k1' hOg
 have hC1 := Boxed.keeps hC k1' hCg
 have c3 := hO1.cell
 have f3 := hO1.frozen
 have c4 := hC1.cell
 have f4 := hC1.frozen
 clear hgrow c1 f1 c2 f2
 go_wp2
 go_end0
 have hne : ∀ (b : Nat), b ≠ g → (Value.slice (some ⟨g, 0, none⟩) (k + 1) cap).ownBlock = none ∨ (Value.slice (some ⟨g, 0, none⟩) (k + 1) cap).ownBlock ≠ some b := fun b hb => .inr (fun e => hb (by simpa [Value.ownBlock] using e.symm))
 refine ⟨rfl, ?_, ?_, ?_, (k1.setCell (p := ⟨O, 0, none⟩) (.inr (.inl rfl)) _).setCell (p := ⟨C, 0, none⟩) (.inl rfl) _⟩
 ·exact Boxed.set _ (Boxed.other hC1 hCO _)
 ·exact Boxed.other (Boxed.set _ hO1) (Ne.symm hCO) _
 ·rw [u16s, List.map_append]
  exact (hown.kept (grownBy_setCell' _ _ _) (hne O hOg)).kept (grownBy_setCell' _ _ _) (hne C hCg)

theorem owns_lt {w : World} {base g k cap : Nat} {T : TypeId} {xs : List Value} (h : w.ownsRow base T 1 (.slice (some ⟨g, 0, none⟩) k cap) k xs) : g < w.heap.size := by
 rcases h.2 with ⟨h1, _⟩ | ⟨g', cap', cur, h1, _, h3, _⟩
 ·cases h1
 ·simp only [Value.slice.injEq, Option.some.injEq, Addr.mk.injEq, and_true, true_and] at h1
  obtain ⟨rfl, rfl⟩ := h1
  exact (Array.getElem?_eq_some_iff.1 h3).1

theorem put_val {out : List Nat} {c s k X Y dx dy : Nat} (hl : out.length = k) (h : val out + c * 65536 ^ k = X + Y) (hs : s = dx + dy + c) :
    val (out ++ [s % 65536]) + s / 65536 * 65536 ^ (k + 1) = (X + 65536 ^ k * dx) + (Y + 65536 ^ k * dy) := by
 subst hs
 rw [val_append, hl]
 have e : (dx + dy + c) % 65536 + 65536 * ((dx + dy + c) / 65536) = dx + dy + c := Nat.mod_add_div _ _
 have : 65536 ^ k * (dx + dy + c) = 65536 ^ k * ((dx + dy + c) % 65536) + (dx + dy + c) / 65536 * 65536 ^ (k + 1) := by
  conv => lhs; rw [← e]
  rw [Nat.mul_add, Nat.pow_succ]; grind
 have h2 : 65536 ^ k * (dx + dy + c) = 65536 ^ k * dx + 65536 ^ k * dy + c * 65536 ^ k := by grind
 simp only [val, Nat.mul_zero, Nat.add_zero]
 omega

/-- What holds at the loop's head. -/
structure AddAt (x y n : Nat) (w : World) (O C k : Nat) (wr : World) (c : Nat) (out : List Nat) : Prop where
 c1 : c ≤ 1
 len : out.length = k
 lim : Lim out
 v : val out + c * 65536 ^ k = val ((limbs x).take k) + val ((limbs y).take k)
 bC : Boxed wr C 265 (.int .u32 (c : Nat))
 bO : Boxed wr O 36 (.slice (some ⟨w.heap.size, 0, none⟩) k (n + 1))
 own : wr.ownsRow w.heap.size 153 1 (.slice (some ⟨w.heap.size, 0, none⟩) k (n + 1)) k (u16s out)
 keep : Keeps (fun b => w.heap.size ≤ b) w wr

theorem take_ge {l : List Nat} {k : Nat} (h : l.length ≤ k) : val (l.take (k + 1)) = val (l.take k) + 65536 ^ k * 0 := by
 rw [List.take_of_length_le h, List.take_of_length_le (by omega)]; rfl

theorem AddAt.step {x y n : Nat} {w : World} {O C k : Nat} {wr w' : World} {c dy : Nat} {out : List Nat} (h : AddAt x y n w O C k wr c out) (hk : k < siz x) (hdy : val ((limbs y).take (k + 1)) = val ((limbs y).take k) + 65536 ^ k * dy) (hd : dy < 65536)
    (hw1 : Boxed w' C 265 (.int .u32 ((dig (limbs x) k + dy + c) / 65536 : Nat))) (hw2 : Boxed w' O 36 (.slice (some ⟨w.heap.size, 0, none⟩) (k + 1) (n + 1)))
    (hw3 : w'.ownsRow w.heap.size 153 1 (.slice (some ⟨w.heap.size, 0, none⟩) (k + 1) (n + 1)) (k + 1) (u16s (out ++ [(dig (limbs x) k + dy + c) % 65536]))) (hk' : Keeps (fun b => b = C ∨ b = O ∨ b = w.heap.size) wr w') (hC : w.heap.size ≤ C) (hO : w.heap.size ≤ O) :
    AddAt x y n w O C (k + 1) w' ((dig (limbs x) k + dy + c) / 65536) (out ++ [(dig (limbs x) k + dy + c) % 65536]) := by
 have h1 := h.c1
 have h2 : dig (limbs x) k < 65536 := (lim_limbs x).getD k
 refine ⟨by omega, by simp [h.len], Lim.append.2 ⟨h.lim, Lim.cons.2 ⟨Nat.mod_lt _ (by omega), Lim.nil⟩⟩, ?_, hw1, hw2, hw3, h.keep.trans (hk'.mono fun b _ hb => by rcases hb with rfl | rfl | rfl <;> omega)⟩
 rw [hdy, val_take_succ (l := limbs x) (k := k) hk]
 exact put_val h.len h.v rfl

theorem add_end {x y n c : Nat} {out : List Nat} (hn : siz x = n) (hm : siz y ≤ n) (hc : c ≤ 1) (hl : out.length = n) (hlim : Lim out) (hv : val out + c * 65536 ^ n = val ((limbs x).take n) + val ((limbs y).take n)) :
    out ++ (if 0 < c then [c % 65536] else []) = limbs (x + y) := by
 rw [List.take_of_length_le (by show siz x ≤ n; omega), List.take_of_length_le (by show siz y ≤ n; omega), val_limbs, val_limbs] at hv
 rcases Nat.eq_zero_or_pos c with rfl | h0
 ·simp only [Nat.lt_irrefl, if_false, List.append_nil]
  rw [Nat.zero_mul, Nat.add_zero] at hv
  rw [← hv]
  refine (limbs_of_length hlim fun hne => ?_).symm
  have hx : x ≠ 0 := fun h => by subst h; rw [siz_zero] at hn; subst hn; exact hne (List.eq_nil_of_length_eq_zero hl)
  have := pow_siz_le hx
  rw [hl, ← hn, hv]; omega
 ·obtain rfl : c = 1 := by omega
  rw [if_pos (by omega)]
  have e : val (out ++ [1 % 65536]) = x + y := by rw [val_append, hl, ← hv]; simp [val]
  rw [← e]
  refine (limbs_of_length (Lim.append.2 ⟨hlim, Lim.cons.2 ⟨by omega, Lim.nil⟩⟩) fun _ => ?_).symm
  rw [val_append, hl]; simp [val, hl]

set_option maxRecDepth 100000 in
set_option maxHeartbeats 1000000 in
/-- The sum, the longer one first (or behind: then the two are exchanged). -/
theorem add_core (swap : Bool) (p q : Option Addr) (n cp m cq : Nat) (x y : Nat) (w : World) (hp : U16 w p n cp (limbs x)) (hq : U16 w q m cq (limbs y)) (hs : swap = true → m < n) (hs' : swap = false → m ≤ n) (hb : n ≤ 1048576) :
    Calls Tryz.prog 213 (bif swap then #[.slice q m cq, .slice p n cp] else #[.slice p n cp, .slice q m cq]) w fun e w' =>
     ∃ p' n' c', e = .returned (.slice p' n' c') ∧ U16 w' p' n' c' (limbs (x + y)) ∧ Own w.heap.size w' p' c' ∧ Ext w w' := by
 have hn := hp.reachN
 have hm := hq.reachN
 have hhp := hp.has
 have hhq := hq.has
 have Hsx : Hid (siz x = n) := hp.len
 have Hsy : Hid (siz y = m) := hq.len
 obtain ⟨i0, hi, hz0, hz1, hz2⟩ := info_parts Tryz.info16
 have hmn : m ≤ n := by
  cases swap
  ·exact hs' rfl
  ·exact Nat.le_of_lt (hs rfl)
 cases swap
 case' false =>
  clear hs hs'
  have hsw : ¬ ((n : Int) < (m : Int)) := by omega
  simp only [cond_false]
 case' true =>
  have hsw : (m : Int) < (n : Int) := by have := hs rfl; omega
  clear hs hs'
  simp only [cond_true]
 all_goals
  go_enter Tryz.func213, Tryz.ntmps213
  go_wp2_with (at_make; refine wpList_make_own _ rfl (.const (.int .i64 0)) (.tmp 20) 36 rfl w.heap.size 153 i0 (.int .u16 0) 1 Tryz.underlying36 hi hz0 hz1 .i64 .i64 _ (n + 1) rfl rfl (by omega) (by rw [hz2]; omega) (by unfold maxLen; omega) (Nat.le_refl _) ?_)
  intro w1 hown hgrow
  have hlt := owns_lt hown
  have hk1 : Keeps (fun b => w.heap.size ≤ b) w w1 := (Keeps.refl _ w).grown hgrow (fun k h => by cases h)
  go_wp2
  have hO0 : Boxed ((w1.alloc (.cells #[.slice (some ⟨w.heap.size, 0, none⟩) 0 (n + 1)] 36)).alloc (.cells #[.int .u32 0] 265)) w1.heap.size 36 (.slice (some ⟨w.heap.size, 0, none⟩) 0 (n + 1)) := (Boxed.new _ _ _).alloc _
  have hC0 : Boxed ((w1.alloc (.cells #[.slice (some ⟨w.heap.size, 0, none⟩) 0 (n + 1)] 36)).alloc (.cells #[.int .u32 0] 265)) (w1.heap.size + 1) 265 (.int .u32 0) := by
   have := Boxed.new (w1.alloc (.cells #[.slice (some ⟨w.heap.size, 0, none⟩) 0 (n + 1)] 36)) 265 (.int .u32 0)
   simpa using this
  have hA0 : AddAt x y n w w1.heap.size (w1.heap.size + 1) 0 ((w1.alloc (.cells #[.slice (some ⟨w.heap.size, 0, none⟩) 0 (n + 1)] 36)).alloc (.cells #[.int .u32 0] 265)) 0 [] :=
   ⟨by omega, rfl, Lim.nil, by simp [val], hC0, hO0, (hown.alloc _).alloc _, (hk1.alloc _).alloc _⟩
  clear hO0 hC0 hown hgrow hk1
  go_loopw [25] (fun i wr => ∃ k c out, i = .int .i64 (k : Nat) ∧ k ≤ n ∧ AddAt x y n w w1.heap.size (w1.heap.size + 1) k wr c out) (fun i _ => (n - intOf i).toNat)
  case atStart => exact ⟨0, 0, [], rfl, by omega, hA0⟩
  case round =>
   obtain ⟨k, c, out, rfl, hk, hA⟩ := hrel
   have hc1 := hA.c1
   by_cases hkn : k < n
   ·have cx := hA.keep.cell (hp.cell k hkn) (by have := hp.block hkn; omega)
    have lx := hp.lt k
    by_cases hkm : k < m
    ·have cy := hA.keep.cell (hq.cell k hkm) (by have := hq.block hkm; omega)
     have ly := hq.lt k
     go_wp2_with fail
     refine (put_any (dig (limbs x) k + dig (limbs y) k) c _ _ _ k (n + 1) w.heap.size out _ hA.bC hA.bO hA.own (by omega) (by omega) (by omega) (by omega) (by omega)).mono ?_
     rintro e w' ⟨rfl, h1, h2, h3, h4⟩
     have hA' := hA.step (dy := dig (limbs y) k) (by rw [Hsx.out]; exact hkn) (val_take_succ (by show k < siz y; rw [Hsy.out]; exact hkm)) ly h1 h2 h3 h4 (by omega) (by omega)
     clear h1 h2 h3 h4 hA cx cy
     go_wp2
     go_roundw
     case rel => exact ⟨k + 1, _, _, rfl, by omega, hA'⟩
     case measure => simp [intOf]; omega
    ·go_wp2_with fail
     refine (put_any (dig (limbs x) k) c _ _ _ k (n + 1) w.heap.size out _ hA.bC hA.bO hA.own (by omega) (by omega) (by omega) (by omega) (by omega)).mono ?_
     rintro e w' ⟨rfl, h1, h2, h3, h4⟩
     have hA' := hA.step (dy := 0) (by rw [Hsx.out]; exact hkn) (take_ge (by show siz y ≤ k; rw [Hsy.out]; omega)) (by omega) h1 h2 h3 h4 (by omega) (by omega)
     clear h1 h2 h3 h4 hA cx
     go_wp2
     go_roundw
     case rel => exact ⟨k + 1, _, _, rfl, by omega, hA'⟩
     case measure => simp [intOf]; omega
   ·obtain rfl : k = n := by omega
    have hend := add_end (c := c) Hsx.out (by rw [Hsy.out]; exact hmn) hc1 hA.len hA.lim hA.v
    have Hend := Lib.hid hend
    clear hend
    have c1 := hA.bC.cell
    rcases Nat.eq_zero_or_pos c with rfl | hc0
    ·have c2 := hA.bO.cell
     go_wp2
     simp only [Nat.lt_irrefl, if_false, List.append_nil] at Hend
     obtain ⟨p', c', he, hU, hO⟩ := U16.of_owns hA.own (by rw [Hend.out]; exact lim_limbs _) (by omega)
     simp only [Value.slice.injEq, true_and] at he
     obtain ⟨rfl, rfl⟩ := he
     go_ret
     exact ⟨_, _, _, rfl, by rw [← Hend.out]; exact hU, hO, hA.keep.ext fun b hb => hb⟩
    ·have hc0' : (0 : Int) < (c : Int) := by omega
     go_wp2_with fail
     refine (put_any 0 c _ _ _ k (k + 1) w.heap.size out _ hA.bC hA.bO hA.own (by omega) (by omega) (by omega) (by omega) (by omega)).mono ?_
     rintro e w' ⟨rfl, h1, h2, h3, h4⟩
     rw [if_pos hc0] at Hend
     rw [Nat.zero_add] at h3
     have c2 := h2.cell
     go_wp2
     obtain ⟨p', c', he, hU, hO⟩ := U16.of_owns h3 (by rw [Hend.out]; exact lim_limbs _) (by omega)
     simp only [Value.slice.injEq, true_and] at he
     obtain ⟨rfl, rfl⟩ := he
     go_ret
     exact ⟨_, _, _, rfl, by rw [← Hend.out]; exact hU, hO, (hA.keep.trans (h4.mono fun b _ hb => by rcases hb with rfl | rfl | rfl <;> omega)).ext fun b hb => hb⟩

theorem add_any (p q : Option Addr) (n cp m cq : Nat) (x y : Nat) (w : World) (hp : U16 w p n cp (limbs x)) (hq : U16 w q m cq (limbs y)) (hb : n ≤ 1048576) (hb' : m ≤ 1048576) :
    Calls Tryz.prog 213 #[.slice p n cp, .slice q m cq] w fun e w' => ∃ p' n' c', e = .returned (.slice p' n' c') ∧ U16 w' p' n' c' (limbs (x + y)) ∧ Own w.heap.size w' p' c' ∧ Ext w w' := by
 rcases Nat.lt_or_ge n m with h | h
 ·rw [Nat.add_comm]; exact add_core true q p m cq n cp y x w hq hp (fun _ => h) (fun h => by cases h) hb'
 ·exact add_core false p q n cp m cq x y w hp hq (fun h => by cases h) (fun _ => h) hb
end Go.Proofs.YtndgaecfeaedeaaGreat
namespace Go.Proofs.YtndgaecfeaedeaaGreat
open Go.RowKit Lex Mth
attribute [local go_sem] run_indexAt_at add_zero_map Oper.semAt_some

set_option maxRecDepth 100000 in
theorem subput_any (n : Int) (b d b' C O g k cap base : Nat) (l : List Nat) (w : World) (hC : Boxed w C 21 (.int .i32 (b : Nat))) (hO : Boxed w O 36 (.slice (some ⟨g, 0, none⟩) k cap))
    (hr : w.ownsRow base 153 1 (.slice (some ⟨g, 0, none⟩) k cap) k (u16s l)) (hk : k + 1 ≤ cap) (hn : n - (b : Int) = (d : Int) - 65536 * (b' : Int)) (hd : d < 65536) (hb : b ≤ 1) (hb' : b' ≤ 1) (hCO : C ≠ O) (hCg : C ≠ g) (hOg : O ≠ g) :
    Calls Tryz.prog 218 #[.int .i32 n, .pointer (some ⟨C, 0, none⟩), .pointer (some ⟨O, 0, none⟩)] w fun e w' => e = .returned (.tuple #[]) ∧
     Boxed w' C 21 (.int .i32 (b' : Nat)) ∧ Boxed w' O 36 (.slice (some ⟨g, 0, none⟩) (k + 1) cap) ∧
     w'.ownsRow base 153 1 (.slice (some ⟨g, 0, none⟩) (k + 1) cap) (k + 1) (u16s (l ++ [d])) ∧ Keeps (fun x => x = C ∨ x = O ∨ x = g) w w' := by
 have c1 := hC.cell
 have f1 := hC.frozen
 have c2 := hO.cell
 have f2 := hO.frozen
 have b1 := hC.lt
 have b2 := hO.lt
 obtain ⟨i0, hi, hz0, hz1, hz2⟩ := info_parts Tryz.info16
 go_enter Tryz.func218, Tryz.ntmps218
 have hw16 : IntKind.u16.wrap (n - (b : Int)) = (d : Int) := by simp [IntKind.wrap, IntKind.bits, IntKind.signed]; omega
 have hand : bits .and .i32 ((n - (b : Int)) / 2147483648) 1 = (b' : Int) := by
  have e : (n - (b : Int)) / 2147483648 = -(b' : Int) := by omega
  rw [e]
  obtain rfl | rfl : b' = 0 ∨ b' = 1 := by omega
  ·decide
  ·decide
 have hr1 : -131072 ≤ n - (b : Int) := by omega
 have hr2 : n - (b : Int) ≤ 131072 := by omega
 have Hd := Lib.hid hd
 have Hb := Lib.hid hb
 have Hn := Lib.hid hn
 clear hd hb hn
 go_wp2_with (at_builtin; refine wpList_append_fits _ rfl (.tmp 7) (.tmp 10) 36 rfl base 153 i0 1 Tryz.underlying36 hi hz1 g k cap (u16s l) rfl (hr.alloc _) ⟨w.heap.size, 0, none⟩ 1 1 [.int .u16 (d : Nat)] rfl rfl ?c1 ?c2 (by omega) ?_)
 case c1 =>
  intro j u hj
  match j, hj with
  | 0, hj => simp at hj; subst hj; simp [Addr.add]
 case c2 => intro u hu; simp at hu; subst hu; rfl
 intro w1 hown hgrow
 have k1 : Keeps (fun b => b = C ∨ b = O ∨ b = g) w w1 := ((Keeps.refl _ w).alloc _).grown hgrow (fun k h => by cases h; exact .inr (.inr rfl))
 have k1' : Keeps (fun b => b = g) w w1 := ((Keeps.refl _ w).alloc _).grown hgrow (fun k h => by cases h; rfl)
 have hO1 := Boxed.keeps hO k1' hOg
 have hC1 := Boxed.keeps hC k1' hCg
 have c3 := hO1.cell
 have f3 := hO1.frozen
 have c4 := hC1.cell
 have f4 := hC1.frozen
 clear hgrow c1 f1 c2 f2
 go_wp2
 go_end0
 have hne : ∀ (b : Nat), b ≠ g → (Value.slice (some ⟨g, 0, none⟩) (k + 1) cap).ownBlock = none ∨ (Value.slice (some ⟨g, 0, none⟩) (k + 1) cap).ownBlock ≠ some b := fun b hb => .inr (fun e => hb (by simpa [Value.ownBlock] using e.symm))
 refine ⟨rfl, ?_, ?_, ?_, (k1.setCell (p := ⟨O, 0, none⟩) (.inr (.inl rfl)) _).setCell (p := ⟨C, 0, none⟩) (.inl rfl) _⟩
 ·exact Boxed.set _ (Boxed.other hC1 hCO _)
 ·exact Boxed.other (Boxed.set _ hO1) (Ne.symm hCO) _
 ·rw [u16s, List.map_append]
  exact (hown.kept (grownBy_setCell' _ _ _) (hne O hOg)).kept (grownBy_setCell' _ _ _) (hne C hCg)

theorem sub_val {out : List Nat} {c k X Y dx dy d b' : Nat} (hl : out.length = k) (h : val out + Y = X + c * 65536 ^ k) (hs : ((dx : Int) - (dy : Int)) - (c : Int) = (d : Int) - 65536 * (b' : Int)) :
    val (out ++ [d]) + (Y + 65536 ^ k * dy) = (X + 65536 ^ k * dx) + b' * 65536 ^ (k + 1) := by
 rw [val_append, hl]
 have e : d + dy + c = dx + 65536 * b' := by omega
 have : 65536 ^ k * (d + dy + c) = 65536 ^ k * (dx + 65536 * b') := by rw [e]
 rw [Nat.pow_succ]
 simp only [val, Nat.mul_zero, Nat.add_zero]
 grind

/-- What holds at the loop's head. -/
structure SubAt (x y n : Nat) (w : World) (O C k : Nat) (wr : World) (c : Nat) (out : List Nat) : Prop where
 c1 : c ≤ 1
 len : out.length = k
 lim : Lim out
 v : val out + val ((limbs y).take k) = val ((limbs x).take k) + c * 65536 ^ k
 bC : Boxed wr C 21 (.int .i32 (c : Nat))
 bO : Boxed wr O 36 (.slice (some ⟨w.heap.size, 0, none⟩) k n)
 own : wr.ownsRow w.heap.size 153 1 (.slice (some ⟨w.heap.size, 0, none⟩) k n) k (u16s out)
 keep : Keeps (fun b => w.heap.size ≤ b) w wr

theorem borrow_at (dx dy c : Nat) (h1 : dx < 65536) (h2 : dy < 65536) (h3 : c ≤ 1) : ∃ d b' : Nat, (dx : Int) - dy - c = (d : Int) - 65536 * (b' : Int) ∧ d < 65536 ∧ b' ≤ 1 := by
 by_cases h : dy + c ≤ dx
 ·exact ⟨dx - dy - c, 0, by omega, by omega, by omega⟩
 ·exact ⟨dx + 65536 - dy - c, 1, by omega, by omega, by omega⟩

theorem SubAt.step {x y n : Nat} {w : World} {O C k : Nat} {wr w' : World} {c dy d b' : Nat} {out : List Nat} (h : SubAt x y n w O C k wr c out) (hk : k < siz x) (hdy : val ((limbs y).take (k + 1)) = val ((limbs y).take k) + 65536 ^ k * dy)
    (hs : ((dig (limbs x) k : Nat) : Int) - (dy : Int) - (c : Int) = (d : Int) - 65536 * (b' : Int)) (hd : d < 65536) (hb : b' ≤ 1)
    (hw1 : Boxed w' C 21 (.int .i32 (b' : Nat))) (hw2 : Boxed w' O 36 (.slice (some ⟨w.heap.size, 0, none⟩) (k + 1) n))
    (hw3 : w'.ownsRow w.heap.size 153 1 (.slice (some ⟨w.heap.size, 0, none⟩) (k + 1) n) (k + 1) (u16s (out ++ [d]))) (hk' : Keeps (fun b => b = C ∨ b = O ∨ b = w.heap.size) wr w') (hC : w.heap.size ≤ C) (hO : w.heap.size ≤ O) :
    SubAt x y n w O C (k + 1) w' b' (out ++ [d]) := by
 refine ⟨hb, by simp [h.len], Lim.append.2 ⟨h.lim, Lim.cons.2 ⟨hd, Lim.nil⟩⟩, ?_, hw1, hw2, hw3, h.keep.trans (hk'.mono fun b _ hb => by rcases hb with rfl | rfl | rfl <;> omega)⟩
 rw [hdy, val_take_succ (l := limbs x) (k := k) hk]
 exact sub_val h.len h.v hs

set_option maxRecDepth 100000 in
set_option maxHeartbeats 1000000 in
theorem sub_any (p q : Option Addr) (n cp m cq : Nat) (x y : Nat) (w : World) (hp : U16 w p n cp (limbs x)) (hq : U16 w q m cq (limbs y)) (hxy : y ≤ x) (hb : n ≤ 1048576) :
    Calls Tryz.prog 214 #[.slice p n cp, .slice q m cq] w fun e w' =>
     ∃ p' n' c', e = .returned (.slice p' n' c') ∧ U16 w' p' n' c' (limbs (x - y)) ∧ Own w.heap.size w' p' c' ∧ Ext w w' := by
 have hn := hp.reachN
 have hm := hq.reachN
 have hhp := hp.has
 have hhq := hq.has
 have Hsx : Hid (siz x = n) := hp.len
 have Hsy : Hid (siz y = m) := hq.len
 obtain ⟨i0, hi, hz0, hz1, hz2⟩ := info_parts Tryz.info16
 have hmn : m ≤ n := by rw [← Hsx.out, ← Hsy.out]; exact siz_mono hxy
 have Hxy := Lib.hid hxy
 clear hxy
 go_enter Tryz.func214, Tryz.ntmps214
 go_wp2_with (at_make; refine wpList_make_own _ rfl (.const (.int .i64 0)) (.tmp 12) 36 rfl w.heap.size 153 i0 (.int .u16 0) 1 Tryz.underlying36 hi hz0 hz1 .i64 .i64 _ n rfl rfl (by omega) (by rw [hz2]; omega) (by unfold maxLen; omega) (Nat.le_refl _) ?_)
 intro w1 hown hgrow
 have hlt := owns_lt hown
 have hk1 : Keeps (fun b => w.heap.size ≤ b) w w1 := (Keeps.refl _ w).grown hgrow (fun k h => by cases h)
 go_wp2
 have hO0 : Boxed ((w1.alloc (.cells #[.slice (some ⟨w.heap.size, 0, none⟩) 0 n] 36)).alloc (.cells #[.int .i32 0] 21)) w1.heap.size 36 (.slice (some ⟨w.heap.size, 0, none⟩) 0 n) := (Boxed.new _ _ _).alloc _
 have hC0 : Boxed ((w1.alloc (.cells #[.slice (some ⟨w.heap.size, 0, none⟩) 0 n] 36)).alloc (.cells #[.int .i32 0] 21)) (w1.heap.size + 1) 21 (.int .i32 0) := by
  have := Boxed.new (w1.alloc (.cells #[.slice (some ⟨w.heap.size, 0, none⟩) 0 n] 36)) 21 (.int .i32 0)
  simpa using this
 have hA0 : SubAt x y n w w1.heap.size (w1.heap.size + 1) 0 ((w1.alloc (.cells #[.slice (some ⟨w.heap.size, 0, none⟩) 0 n] 36)).alloc (.cells #[.int .i32 0] 21)) 0 [] :=
  ⟨by omega, rfl, Lim.nil, by simp [val], hC0, hO0, (hown.alloc _).alloc _, (hk1.alloc _).alloc _⟩
 clear hO0 hC0 hown hgrow hk1
 go_loopw [17] (fun i wr => ∃ k c out, i = .int .i64 (k : Nat) ∧ k ≤ n ∧ SubAt x y n w w1.heap.size (w1.heap.size + 1) k wr c out) (fun i _ => (n - intOf i).toNat)
 case atStart => exact ⟨0, 0, [], rfl, by omega, hA0⟩
 case round =>
  obtain ⟨k, c, out, rfl, hk, hA⟩ := hrel
  have hc1 := hA.c1
  by_cases hkn : k < n
  ·have cx := hA.keep.cell (hp.cell k hkn) (by have := hp.block hkn; omega)
   have lx := hp.lt k
   by_cases hkm : k < m
   ·have cy := hA.keep.cell (hq.cell k hkm) (by have := hq.block hkm; omega)
    have ly := hq.lt k
    obtain ⟨d, b', hs, hd, hb'⟩ := borrow_at _ _ c lx ly hc1
    have Hs := Lib.hid hs
    have Hd := Lib.hid hd
    clear hs hd
    go_wp2_with fail
    refine (subput_any _ c d b' _ _ _ k n w.heap.size out _ hA.bC hA.bO hA.own (by omega) Hs.out Hd.out hc1 hb' (by omega) (by omega) (by omega)).mono ?_
    rintro e w' ⟨rfl, h1, h2, h3, h4⟩
    have hA' := hA.step (dy := dig (limbs y) k) (by rw [Hsx.out]; exact hkn) (val_take_succ (by show k < siz y; rw [Hsy.out]; exact hkm)) Hs.out Hd.out hb' h1 h2 h3 h4 (by omega) (by omega)
    clear h1 h2 h3 h4 hA cx cy
    go_wp2
    go_roundw
    case rel => exact ⟨k + 1, _, _, rfl, by omega, hA'⟩
    case measure => simp [intOf]; omega
   ·obtain ⟨d, b', hs, hd, hb'⟩ := borrow_at _ 0 c lx (by omega) hc1
    have Hs := Lib.hid hs
    have Hd := Lib.hid hd
    clear hs hd
    go_wp2_with fail
    refine (subput_any _ c d b' _ _ _ k n w.heap.size out _ hA.bC hA.bO hA.own (by omega) (by have := Hs.out; omega) Hd.out hc1 hb' (by omega) (by omega) (by omega)).mono ?_
    rintro e w' ⟨rfl, h1, h2, h3, h4⟩
    have hA' := hA.step (dy := 0) (by rw [Hsx.out]; exact hkn) (take_ge (by show siz y ≤ k; rw [Hsy.out]; omega)) Hs.out Hd.out hb' h1 h2 h3 h4 (by omega) (by omega)
    clear h1 h2 h3 h4 hA cx
    go_wp2
    go_roundw
    case rel => exact ⟨k + 1, _, _, rfl, by omega, hA'⟩
    case measure => simp [intOf]; omega
  ·obtain rfl : k = n := by omega
   have c2 := hA.bO.cell
   obtain ⟨p', c', he, hU, hO⟩ := U16.of_owns hA.own hA.lim (by omega)
   simp only [Value.slice.injEq, true_and] at he
   obtain ⟨rfl, rfl⟩ := he
   have hv : Hid (val out = x - y) := by
    have := hA.v
    rw [List.take_of_length_le (l := limbs y) (by show siz y ≤ k; rw [Hsy.out]; omega), List.take_of_length_le (l := limbs x) (by show siz x ≤ k; rw [Hsx.out]; omega), val_limbs, val_limbs] at this
    have hxy := Hxy.out
    have h2 := val_lt hA.lim
    rw [hA.len] at h2
    have h0 : c = 0 := by
     rcases Nat.eq_zero_or_pos c with h0 | h0
     ·exact h0
     ·obtain rfl : c = 1 := by omega
      omega
    subst h0
    unfold Hid
    omega
   go_wp2_with fail
   refine (trimmed_any _ _ _ _ _ hU).mono ?_
   rintro e w' ⟨rfl, rfl⟩
   go_wp2
   go_ret
   exact ⟨_, _, _, rfl, by rw [← hv.out]; exact hU.trim, hO, hA.keep.ext fun b hb => hb⟩
end Go.Proofs.YtndgaecfeaedeaaGreat
namespace Go.Proofs.YtndgaecfeaedeaaGreat
open Go.RowKit Lex Mth
attribute [local go_sem] run_indexAt_at add_zero_map Oper.semAt_some at_zero

/-- A row of zeros. -/
def zrow (n : Nat) : Array Value := ((List.replicate n 0).map (fun x => Value.int .u16 ((x : Nat) : Int))).toArray
theorem zrow_made (n : Nat) : madeCells #[Value.int .u16 0] n = zrow n := by
 apply Array.ext
 ·simp [madeCells, zrow]
 ·intro i h1 h2
  simp [madeCells, zrow] at *
  rw [Nat.mod_one]; rfl
theorem run_make16 (w : World) (l c : Int) (n k : Nat) (hl : l = n) (hk : c = k) (hlc : n ≤ k) (hc : k ≤ 140737488355328) :
    (Instr.makeSlice 36 (.int .i64 l) (.int .i64 c)).run Tryz.prog w = .ok (.slice (some ⟨w.heap.size, 0, none⟩) n k) (w.alloc (.cells (zrow k) 153)) := by
 obtain ⟨i0, hi, hz0, hz1, hz2⟩ := info_parts Tryz.info16
 subst hl hk
 rw [run_make w 36 153 i0 (.int .u16 0) Tryz.underlying36 hi hz0 .i64 .i64 n k (by omega) (by omega) (by rw [hz2]; omega) (by omega), hz1, Nat.mul_one, Int.toNat_natCast, Int.toNat_natCast]
 rw [show (Value.int IntKind.u16 0).cells = #[Value.int .u16 0] from rfl, zrow_made]
theorem Row.zeros (w : World) (n : Nat) : Row (w.alloc (.cells (zrow n) 153)) w.heap.size (List.replicate n 0) := Row.new w _
theorem Row.zerosAt {A : World} {g : Nat} (n : Nat) (h : g = A.heap.size) : Row (A.alloc (.cells (zrow n) 153)) g (List.replicate n 0) := by subst h; exact Row.zeros _ _
attribute [irreducible] zrow

theorem dig_set (l : List Nat) (j k x : Nat) (h : j < l.length) : dig (l.set j x) k = if k = j then x else dig l k := by
 unfold dig
 by_cases hk : k = j
 ·subst hk; simp [List.getD_eq_getElem?_getD, h]
 ·simp [List.getD_eq_getElem?_getD, hk, Ne.symm hk]

theorem mul_val {l : List Nat} {A t i k dx dy c s : Nat} (hik : i + k < l.length) (h : val l + c * 65536 ^ (i + k) = A + dx * 65536 ^ i * t) (hs : s = dx * dy + dig l (i + k) + c) :
    val (l.set (i + k) (s % 65536)) + s / 65536 * 65536 ^ (i + (k + 1)) = A + dx * 65536 ^ i * (t + 65536 ^ k * dy) := by
 have h1 := val_set l (i + k) (s % 65536) hik
 have e : s % 65536 + 65536 * (s / 65536) = s := Nat.mod_add_div _ _
 have h2 : 65536 ^ (i + k) * (s % 65536) + s / 65536 * 65536 ^ (i + (k + 1)) = 65536 ^ (i + k) * s := by
  conv => rhs; rw [← e]
  rw [← Nat.add_assoc, Nat.pow_succ]; grind
 have h3 : 65536 ^ (i + k) * s = 65536 ^ (i + k) * (dx * dy) + 65536 ^ (i + k) * dig l (i + k) + c * 65536 ^ (i + k) := by rw [hs]; grind
 have h4 : dx * 65536 ^ i * (t + 65536 ^ k * dy) = dx * 65536 ^ i * t + 65536 ^ (i + k) * (dx * dy) := by rw [Nat.pow_add]; grind
 unfold dig at *
 omega

/-- At the outer loop's head. -/
structure MulAt (x y n m g i : Nat) (w wr : World) (l : List Nat) : Prop where
 len : l.length = n + m
 lim : Lim l
 v : val l = val ((limbs x).take i) * y
 hi : ∀ j, i + m ≤ j → dig l j = 0
 row : Row wr g l
 keep : Keeps (fun b => w.heap.size ≤ b) w wr
/-- At the inner loop's head. -/
structure MulIn (x y n m g i k : Nat) (w wr : World) (c : Nat) (l : List Nat) : Prop where
 len : l.length = n + m
 lim : Lim l
 hc : c < 65536
 v : val l + c * 65536 ^ (i + k) = val ((limbs x).take i) * y + dig (limbs x) i * 65536 ^ i * val ((limbs y).take k)
 hi : ∀ j, i + m ≤ j → dig l j = 0
 row : Row wr g l
 keep : Keeps (fun b => w.heap.size ≤ b) w wr

theorem MulAt.start {x y n m g i : Nat} {w wr : World} {l : List Nat} (h : MulAt x y n m g i w wr l) : MulIn x y n m g i 0 w wr 0 l :=
 ⟨h.len, h.lim, by omega, by simp [h.v, val], h.hi, h.row, h.keep⟩
theorem MulIn.step {x y n m g i k : Nat} {w wr : World} {c s : Nat} {l : List Nat} (h : MulIn x y n m g i k w wr c l) (hi : i < n) (hk : k < siz y) (hm : siz y = m) (hg : w.heap.size ≤ g)
    (hs : s = dig (limbs x) i * dig (limbs y) k + dig l (i + k) + c) :
    MulIn x y n m g i (k + 1) w (wr.setCell ⟨g, i + k, none⟩ (.int .u16 ((s % 65536 : Nat) : Int))) (s / 65536) (l.set (i + k) (s % 65536)) := by
 have h1 : dig (limbs x) i < 65536 := (lim_limbs x).getD i
 have h2 : dig (limbs y) k < 65536 := (lim_limbs y).getD k
 have h3 : dig l (i + k) < 65536 := h.lim.getD _
 have h4 := h.hc
 have h5 : dig (limbs x) i * dig (limbs y) k ≤ 65535 * 65535 := Nat.mul_le_mul (by omega) (by omega)
 refine ⟨by simp [h.len], h.lim.set _ _ (Nat.mod_lt _ (by omega)), by omega, ?_, fun j hj => ?_, h.row.set _ _, h.keep.setCell (p := ⟨g, i + k, none⟩) hg _⟩
 ·rw [val_take_succ (l := limbs y) (k := k) hk]
  exact mul_val (by rw [h.len]; omega) h.v hs
 ·rw [dig_set _ _ _ _ (by rw [h.len]; omega), if_neg (by omega)]
  exact h.hi j hj
theorem MulIn.done {x y n m g i : Nat} {w wr : World} {c : Nat} {l : List Nat} (h : MulIn x y n m g i m w wr c l) (hi : i < siz x) (hn : siz x = n) (hm : siz y = m) (hg : w.heap.size ≤ g) :
    MulAt x y n m g (i + 1) w (wr.setCell ⟨g, i + m, none⟩ (.int .u16 ((c : Nat) : Int))) (l.set (i + m) c) := by
 refine ⟨by simp [h.len], h.lim.set _ _ h.hc, ?_, fun j hj => ?_, h.row.set _ _, h.keep.setCell (p := ⟨g, i + m, none⟩) hg _⟩
 ·have h1 := val_set l (i + m) c (by rw [h.len]; omega)
  have h2 : l.getD (i + m) 0 = 0 := h.hi (i + m) (by omega)
  have h3 := h.v
  rw [List.take_of_length_le (l := limbs y) (by show siz y ≤ m; omega), val_limbs y] at h3
  rw [h2, Nat.mul_zero, Nat.add_zero] at h1
  rw [h1, val_take_succ (l := limbs x) (k := i) hi, Nat.add_mul, Nat.mul_comm (65536 ^ (i + m)) c, h3, Nat.mul_comm (65536 ^ i)]
  rfl
 ·rw [dig_set _ _ _ _ (by rw [h.len]; omega), if_neg (by omega)]
  exact h.hi j (by omega)

set_option maxRecDepth 100000 in
set_option maxHeartbeats 1000000 in
theorem mul_any (p q : Option Addr) (n cp m cq : Nat) (x y : Nat) (w : World) (hp : U16 w p n cp (limbs x)) (hq : U16 w q m cq (limbs y)) (hb : n ≤ 1048576) (hb' : m ≤ 1048576) :
    Calls Tryz.prog 189 #[.slice p n cp, .slice q m cq] w fun e w' =>
     ∃ p' n' c', e = .returned (.slice p' n' c') ∧ U16 w' p' n' c' (limbs (x * y)) ∧ Own w.heap.size w' p' c' ∧ Ext w w' := by
 have hhp := hp.has
 have hhq := hq.has
 have Hsx : Hid (siz x = n) := hp.len
 have Hsy : Hid (siz y = m) := hq.len
 go_enter Tryz.func189, Tryz.ntmps189
 have hmk := run_make16 w ((n : Int) + m) ((n : Int) + m) (n + m) (n + m) (by omega) (by omega) (by omega) (by omega)
 have hho : Has (some ⟨w.heap.size, 0, none⟩) (n + m) := Has.some _ _
 go_wp2
 clear hmk
 have hA0 : MulAt x y n m w.heap.size 0 w (w.alloc (.cells (zrow (n + m)) 153)) (List.replicate (n + m) 0) :=
  ⟨by simp, lim_replicate _, by simp [val_replicate, val], fun j _ => by simp [dig, List.getD_eq_getElem?_getD, List.getElem?_replicate]; split <;> rfl, Row.zeros _ _, (Keeps.refl _ _).alloc _⟩
 go_loopw [20] (fun v wr => ∃ i l, v = .int .i64 (i : Nat) ∧ i ≤ n ∧ MulAt x y n m w.heap.size i w wr l) (fun v _ => (n - intOf v).toNat)
 case atStart => exact ⟨0, _, rfl, by omega, hA0⟩
 case round =>
  obtain ⟨i, l, rfl, hi, hA⟩ := hrel
  clear hA0
  by_cases hin : i < n
  ·have cx := hA.keep.cell (hp.cell i hin) (by have := hp.block hin; omega)
   have lx := hp.lt i
   go_wp2
   go_loopw [27, 8] (fun v cv wr => ∃ k c l, v = .int .i64 (k : Nat) ∧ cv = .int .u32 (c : Nat) ∧ k ≤ m ∧ MulIn x y n m w.heap.size i k w wr c l) (fun v _ _ => (m - intOf v).toNat)
   case atStart => exact ⟨0, 0, l, rfl, rfl, by omega, hA.start⟩
   case round =>
    clear hA cx
    obtain ⟨k, c, l, rfl, rfl, hk, hB⟩ := hrel
    by_cases hkm : k < m
    ·have cy := hB.keep.cell (hq.cell k hkm) (by have := hq.block hkm; omega)
     have ly := hq.lt k
     have cl := hB.row.cell (j := i + k) (by rw [hB.len]; omega)
     have fl := hB.row.free (i + k)
     have ll : dig l (i + k) < 65536 := hB.lim.getD _
     have hc := hB.hc
     have hxy : dig (limbs x) i * dig (limbs y) k ≤ 4294836225 := by have h : dig (limbs x) i * dig (limbs y) k ≤ 65535 * 65535 := Nat.mul_le_mul (by omega) (by omega)
                                                                     exact h
     have hw16 : IntKind.u16.wrap ((dig (limbs x) i : Int) * (dig (limbs y) k) + (dig l (i + k)) + (c : Int)) = (((dig (limbs x) i * dig (limbs y) k + dig l (i + k) + c) % 65536 : Nat) : Int) := by simp [IntKind.wrap, IntKind.bits, IntKind.signed]
     go_wp2
     go_roundw
     case rel =>
      refine ⟨k + 1, _, _, rfl, ?_, by omega, hB.step hin (by rw [Hsy.out]; exact hkm) Hsy.out (by omega) rfl⟩
      rfl
     case measure => simp [intOf]; omega
    ·obtain rfl : k = m := by omega
     have hc := hB.hc
     have fl := hB.row.free (i + k)
     have cl := hB.row.cell (j := i + k) (by rw [hB.len]; omega)
     go_wp2
     go_roundw
     case rel => exact ⟨i + 1, _, rfl, by omega, hB.done (by rw [Hsx.out]; exact hin) Hsx.out Hsy.out (by omega)⟩
     case measure => simp [intOf]; omega
  ·obtain rfl : i = n := by omega
   have hv := hA.v
   rw [List.take_of_length_le (l := limbs x) (by show siz x ≤ i; rw [Hsx.out]; omega), val_limbs] at hv
   have Hv := Lib.hid hv
   clear hv
   have hU := hA.row.u16 hA.lim (n := i + m) (cap := i + m) (by rw [hA.len]; omega) (by omega) (by omega)
   have hO := hA.row.own (B := w.heap.size) (cap := i + m) (by omega) (by rw [hA.len]; omega)
   rw [List.take_of_length_le (by rw [hA.len]; omega)] at hU
   go_wp2_with fail
   refine (trimmed_any _ _ _ _ _ hU).mono ?_
   rintro e w' ⟨rfl, rfl⟩
   go_wp2
   go_ret
   exact ⟨_, _, _, rfl, by rw [← Hv.out]; exact hU.trim, hO, hA.keep.ext fun b hb => hb⟩
end Go.Proofs.YtndgaecfeaedeaaGreat
namespace Go.Proofs.YtndgaecfeaedeaaGreat
open Go.RowKit Lex Mth
attribute [local go_sem] run_indexAt_at add_zero_map Oper.semAt_some at_zero

theorem short_val {l : List Nat} {D X R V q d r : Nat} {i : Nat} (hi : i < l.length) (hv : V = r + d * val (l.drop (i + 1))) (hN : q = (r * 65536 + X) / d) (hR : R = (r * 65536 + X) % d) (hD : D = X + 65536 * V) :
    D = R + d * val ((l.set i q).drop i) := by
 have h1 := val_drop_succ (l := l.set i q) (k := i) (by simpa using hi)
 have h2 : (l.set i q).getD i 0 = q := by simp [List.getD_eq_getElem?_getD, hi]
 have h3 : (l.set i q).drop (i + 1) = l.drop (i + 1) := List.drop_set_of_lt (by omega)
 have e : (r * 65536 + X) % d + d * ((r * 65536 + X) / d) = r * 65536 + X := Nat.mod_add_div _ _
 rw [h1, h2, h3, hD, hv, hN, hR, Nat.mul_add, Nat.mul_add]
 have e2 : d * (65536 * val (l.drop (i + 1))) = 65536 * (d * val (l.drop (i + 1))) := by rw [← Nat.mul_assoc, Nat.mul_comm d 65536, Nat.mul_assoc]
 rw [e2]
 omega

/-- In round k of the division. -/
structure ShortAt (x d n B k : Nat) (W0 W : World) (r : Nat) (l : List Nat) : Prop where
 len : l.length = n
 lim : Lim l
 hr : r < d
 v : val ((limbs x).drop (n - k)) = r + d * val (l.drop (n - k))
 row : Row W (B + 1) l
 bR : Boxed W (B + 3) 265 (.int .u32 (r : Nat))
 keep : Keeps (fun b => b = B + 1 ∨ b = B + 3 ∨ LoopBlocks W0 0 b) W0 W

theorem Pq1 : (∀ (a : Act) (d : Tmp) (v : Value), a.put (some d) v = { a with tmps := a.tmps.setIfInBounds d v }) ∧ (∀ (a : Act) (v : Value), a.put none v = a) ∧ (∀ (l : List Value) (i : Nat) (x : Value), l.toArray.setIfInBounds i x = (l.set i x).toArray) ∧ (∀ (a b : Value) (l : List Value), (b :: l).set 0 a = a :: l) ∧ (∀ (a b : Value) (l : List Value) (n : Nat), (b :: l).set (n + 1) a = b :: l.set n a) := ⟨fun _ _ _ => rfl, fun _ _ => rfl, fun _ _ _ => by simp, fun _ _ _ => rfl, fun _ _ _ _ => rfl⟩
set_option maxRecDepth 100000 in
set_option maxHeartbeats 1000000 in
theorem short_any (p : Option Addr) (n cp : Nat) (x d : Nat) (w : World) (hp : U16 w p n cp (limbs x)) (hd : 0 < d) (hd' : d ≤ 65536) (hb : n ≤ 1048576) :
    Calls Tryz.prog 209 #[.slice p n cp, .int .u32 (d : Nat)] w fun e w' =>
     ∃ p' n' c', e = .returned (.tuple #[.slice p' n' c', .int .u32 ((x % d : Nat) : Int)]) ∧ U16 w' p' n' c' (limbs (x / d)) ∧ Own w.heap.size w' p' c' ∧ Ext w w' := by
 have hhp := hp.has
 have Hsx : Hid (siz x = n) := hp.len
 refine (callsIn_wide (n := 2)).1 ?_
 refine callsIn_of_wp_marks Tryz.func209 rfl trivial ?_ rfl
 simp only [Tryz.ntmps209, List.size_toArray, List.length_cons, List.length_nil, Nat.reduceAdd, Nat.reduceSub, Array.replicate_succ, Array.replicate_zero, List.push_toArray, List.append_toArray, List.nil_append, List.cons_append]
 have hmk := run_make16 (w.alloc (.cells #[.int .u32 (d : Nat)] 265)) (n : Int) (n : Int) n n rfl rfl (by omega) (by omega)
 gi_wp2_with fail
 refine Go_wide (down_any _ _ _ _) ?_
 rintro e w' ⟨rfl, rfl⟩
 gi_wp2_with fail
 have hsz : (((((w.alloc (.cells #[.int .u32 (d : Nat)] 265)).alloc (.cells (zrow n) 153)).alloc (.cells #[.slice (some ⟨w.heap.size + 1, 0, none⟩) n n] 36)).alloc (.cells #[.int .u32 0] 265)).alloc (.cells #[.slice p n cp] 36)).heap.size = w.heap.size + 5 := by simp
 obtain ⟨W0, hW0⟩ : ∃ W0, ((((w.alloc (.cells #[.int .u32 (d : Nat)] 265)).alloc (.cells (zrow n) 153)).alloc (.cells #[.slice (some ⟨w.heap.size + 1, 0, none⟩) n n] 36)).alloc (.cells #[.int .u32 0] 265)).alloc (.cells #[.slice p n cp] 36) = W0 := ⟨_, rfl⟩
 have hB0 : Boxed W0 w.heap.size 265 (.int .u32 (d : Nat)) := by rw [← hW0]; exact ((((Boxed.newAt _ _ (by simp)).alloc _).alloc _).alloc _).alloc _
 have hB1 : Row W0 (w.heap.size + 1) (List.replicate n 0) := by rw [← hW0]; exact (((Row.zerosAt _ (by simp)).alloc _).alloc _).alloc _
 have hB2 : Boxed W0 (w.heap.size + 2) 36 (.slice (some ⟨w.heap.size + 1, 0, none⟩) n n) := by rw [← hW0]; exact ((Boxed.newAt _ _ (by simp)).alloc _).alloc _
 have hB3 : Boxed W0 (w.heap.size + 3) 265 (.int .u32 0) := by rw [← hW0]; exact (Boxed.newAt _ _ (by simp)).alloc _
 have hB4 : Boxed W0 (w.heap.size + 4) 36 (.slice p n cp) := by rw [← hW0]; exact Boxed.newAt _ _ (by simp)
 have hE : Ext w W0 := by rw [← hW0]; exact (((((Below.refl _ _).alloc (Nat.le_refl _) _).alloc (by simp) _).alloc (by simp; omega) _).alloc (by simp; omega) _).alloc (by simp; omega) _
 have hsz : W0.heap.size = w.heap.size + 5 := by rw [← hW0]; exact hsz
 simp only [show w.heap.size + 1 + 1 = w.heap.size + 2 from rfl, show w.heap.size + 1 + 1 + 1 = w.heap.size + 3 from rfl, show w.heap.size + 1 + 1 + 1 + 1 = w.heap.size + 4 from rfl]
 rw [hW0]
 clear hmk hW0
 have hpW := hp.ext hE
 have hpb : ∀ j, j < n → (at_ p j).block < w.heap.size := fun j hj => hp.block hj
 have hA0 : ShortAt x d n w.heap.size 0 W0 W0 0 (List.replicate n 0) :=
  ⟨by simp, lim_replicate _, hd, by rw [List.drop_of_length_le (by show siz x ≤ _; rw [Hsx.out]; omega), List.drop_of_length_le (by simp)]; simp [val], hB1, hB3, Keeps.refl _ _⟩
 refine wp_range (gf := 208) rfl (enters_of Tryz.func208 (by kernel_rfl) rfl)
     (down_gives p n cp (limbs x) (w.heap.size + 4) (fun b => b = w.heap.size + 1 ∨ b = w.heap.size + 3) W0 hB4 hpW (by omega) (fun j hj => by have := hpb j hj; omega))
     (Below.refl _ _) (fun _ k vs W hV => by rw [hV]; rfl) (fun b hb h => by have h1 := h.1; omega)
     (fun k W => ∃ r l, ShortAt x d n w.heap.size k W0 W r l) (fun c W => False)
     ?hI (fun c A C h hk => h) ⟨0, _, hA0⟩ (fun _ _ _ => trivial) ?round ?done ?stop
 case hI =>
  rintro k A C ⟨r, l, h⟩ hk
  exact ⟨r, l, h.len, h.lim, h.hr, h.v, h.row.keeps hk (fun hb => by have := hb.1; omega), Boxed.keeps h.bR hk (fun hb => by have := hb.1; omega), h.keep.trans (hk.mono fun b _ hb => .inr (.inr hb))⟩
 case stop => rintro c W ⟨⟩
 case round =>
  rintro lp k vs W ⟨r, l, hA⟩ hkn rfl hWs K hK
  gi_wp2
  refine hK _ _ (Keeps.refl _ _) ?_
  clear hK
  intro W2 hk2 hs2
  have hrow := hA.row.keeps hk2 (fun hb => by have := hb.1; omega)
  have hbR := Boxed.keeps hA.bR hk2 (fun hb => by have := hb.1; omega)
  have hk02 := hA.keep.trans (hk2.mono fun b _ hb => .inr (.inr hb))
  have hbd := Boxed.keeps hB0 hk02 (by rintro (h | h | h) <;> omega)
  have hbo := Boxed.keeps hB2 hk02 (by rintro (h | h | h) <;> omega)
  have c1 := hbR.cell
  have f1 := hbR.frozen
  have c2 := hbd.cell
  have c3 := hbo.cell
  have lx := hp.lt (n - 1 - k)
  have hr := hA.hr
  have hr' : r < 65536 := by omega
  have hor := or_low r (dig (limbs x) (n - 1 - k)) lx hr'
  obtain ⟨q, hq⟩ : ∃ q, q = (r * 65536 + dig (limbs x) (n - 1 - k)) / d := ⟨_, rfl⟩
  obtain ⟨r2, hr2⟩ : ∃ r2, r2 = (r * 65536 + dig (limbs x) (n - 1 - k)) % d := ⟨_, rfl⟩
  have hqb : q < 65536 := by
   rw [hq, Nat.div_lt_iff_lt_mul hd]
   calc r * 65536 + dig (limbs x) (n - 1 - k) < (r + 1) * 65536 := by omega
    _ ≤ d * 65536 := Nat.mul_le_mul_right _ hr
    _ = 65536 * d := Nat.mul_comm _ _
  have hrb : r2 < d := by rw [hr2]; exact Nat.mod_lt _ hd
  have ht : ((r : Int) * 65536 + (dig (limbs x) (n - 1 - k) : Nat)).tdiv (d : Int) = (q : Int) := by rw [hq]; rfl
  have hm : ((r : Int) * 65536 + (dig (limbs x) (n - 1 - k) : Nat)).tmod (d : Int) = (r2 : Int) := by rw [hr2]; rfl
  have hw32 : IntKind.u32.wrap (q : Int) = (q : Int) := by simp [IntKind.wrap, IntKind.bits, IntKind.signed]; omega
  have hw16 : IntKind.u16.wrap (q : Int) = (q : Int) := by simp [IntKind.wrap, IntKind.bits, IntKind.signed]; omega
  have Hq := Lib.hid hq
  have Hr2 := Lib.hid hr2
  clear hq hr2
  gi_wp2_with fail
  have hin : n - 1 - k < n := by omega
  have hdn : ¬ d = 0 := by omega
  have hho : Has (some ⟨w.heap.size + 1, 0, none⟩) n := Has.some _ _
  have hd0 : (0 : Int) < (d : Int) := by omega
  have hsame : ∀ w1, (Keeps (fun b => b = w.heap.size + 1) W2 w1 ∧ (Row w1 (w.heap.size + 1) l ∨ Row w1 (w.heap.size + 1) (l.set (n - 1 - k) q))) →
      ∃ l', l'.length = n ∧ Row w1 (w.heap.size + 1) l' ∧ l'.set (n - 1 - k) q = l.set (n - 1 - k) q := by
   rintro w1 ⟨_, h | h⟩
   ·exact ⟨l, hA.len, h, rfl⟩
   ·exact ⟨_, by simp [hA.len], h, by simp⟩
  refine Lex.regionIn 11 (fun k => k == 10) (fun _ _ => True) (fun _ _ w1 => Row w1 (w.heap.size + 1) (l.set (n - 1 - k) q))
   (fun w1 => Keeps (fun b => b = w.heap.size + 1) W2 w1 ∧ (Row w1 (w.heap.size + 1) l ∨ Row w1 (w.heap.size + 1) (l.set (n - 1 - k) q)))
   (fun _ _ w1 w2 => Row w1 (w.heap.size + 1) (l.set (n - 1 - k) q) → Row w2 (w.heap.size + 1) (l.set (n - 1 - k) q)) XE UE
   (.inr ⟨_, rfl⟩) (by kernel_rfl) (by kernel_rfl) (by kernel_rfl) (fun _ _ _ _ _ _ _ _ _ h h2 _ => h2 h) (fun _ _ _ _ _ _ _ _ _ _ _ _ _ => ⟨trivial, trivial⟩) (fun _ _ _ _ _ _ _ _ _ _ => trivial) ⟨(Keeps.refl _ _).drew, .inl hrow⟩ (fun _ _ => trivial) ?_
  refine Walk.one (x := ?_) rfl rfl (fun w1 hI hL K hK => ?_) ?_
  rotate_left
  ·have c := (Boxed.keeps hbo hI.1 (by omega)).cell
   go_simp
   repeat (first | (go_ints; try go_simp) | (simp only [↓IntWalk.iteOmega]; try go_simp))
   exact hK
  simp only [Pq1]
  iterate 2
   refine Walk.one (x := ?_) rfl rfl (fun w1 hI hL K hK => ?_) ?_
   rotate_left
   ·go_simp
    repeat (first | (go_ints; try go_simp) | (simp only [↓IntWalk.iteOmega]; try go_simp))
    exact hK
   simp only [Pq1]
  refine Walk.one (x := ?_) rfl rfl (fun w1 hI hL K hK => ?_) ?_
  rotate_left
  ·have c := (Boxed.keeps hbd hI.1 (by omega)).cell
   go_simp
   repeat (first | (go_ints; try go_simp) | (simp only [↓IntWalk.iteOmega]; try go_simp))
   exact hK
  simp only [Pq1]
  iterate 3
   refine Walk.one (x := ?_) rfl rfl (fun w1 hI hL K hK => ?_) ?_
   rotate_left
   ·go_simp
    repeat (first | (go_ints; try go_simp) | (simp only [↓IntWalk.iteOmega]; try go_simp))
    exact hK
   simp only [Pq1]
  refine Walk.one (x := ?_) rfl rfl (fun w1 hI hL K hK => ?_) ?_
  rotate_left
  ·have c := (Boxed.keeps hbd hI.1 (by omega)).cell
   go_simp
   repeat (first | (go_ints; try go_simp) | (simp only [↓IntWalk.iteOmega]; try go_simp))
   exact hK
  simp only [Pq1]
  iterate 2
   refine Walk.one (x := ?_) rfl rfl (fun w1 hI hL K hK => ?_) ?_
   rotate_left
   ·go_simp
    repeat (first | (go_ints; try go_simp) | (simp only [↓IntWalk.iteOmega]; try go_simp))
    exact hK
   simp only [Pq1]
  refine Walk.told rfl rfl ⟨undef, trivial⟩ (fun w1 hI hL K hK => ?_) ?_
  ·obtain ⟨l', hl', hr', he⟩ := hsame w1 hI
   have c := hr'.cell (j := n - 1 - k) (by omega)
   have f := hr'.free (n - 1 - k)
   have h3 := hr'.set (n - 1 - k) q
   rw [he] at h3
   go_simp
   exact hK _ _ trivial h3 ⟨hI.1.setCell (p := ⟨w.heap.size + 1, n - 1 - k, none⟩) rfl _, .inr h3⟩ (fun _ => h3)
  rintro v -
  simp only [Act.put]
  refine Walk.nil fun w3 hI3 hL3 => ?_
  have h3 := hL3 (10, v) (by simp)
  clear hL3
  have hk3 := hI3.1
  have hbR3 := Boxed.keeps hbR hk3 (by omega)
  have c4 := hbR3.cell
  have f4 := hbR3.frozen
  simp only [List.drop_succ_cons, List.drop_zero]
  gi_wp2
  refine ⟨(hk3.mono fun b _ hb => .inl hb).setCell (p := ⟨w.heap.size + 3, 0, none⟩) (.inr rfl) _, r2, l.set (n - 1 - k) q, by simp [hA.len], hA.lim.set _ _ hqb, hrb, ?_, h3.other (a := ⟨w.heap.size + 3, 0, none⟩) (by show w.heap.size + 3 ≠ _; omega) _, Boxed.set _ hbR3,
   (hk02.trans (hk3.mono fun b _ hb => .inl hb)).setCell (p := ⟨w.heap.size + 3, 0, none⟩) (.inr (.inl rfl)) _⟩
  have hv := hA.v
  rw [show n - (k + 1) = n - 1 - k by omega]
  rw [show n - k = n - 1 - k + 1 by omega] at hv
  refine short_val (by rw [hA.len]; omega) hv Hq.out Hr2.out ?_
  exact val_drop_succ (l := limbs x) (k := n - 1 - k) (by show n - 1 - k < siz x; rw [Hsx.out]; omega)
 case done =>
  rintro W ⟨r, l, hA⟩ hD
  have hv := hA.v
  simp only [Nat.sub_self, List.drop_zero, val_limbs] at hv
  have hr := hA.hr
  have e1 : Hid (val l = x / d) := by
   unfold Hid; rw [hv, Nat.add_mul_div_left _ _ hd, Nat.div_eq_of_lt hr, Nat.zero_add]
  have e2 : Hid (r = x % d) := by
   unfold Hid; rw [hv, Nat.add_mul_mod_self_left, Nat.mod_eq_of_lt hr]
  clear hv
  have hbo := Boxed.keeps hB2 hA.keep (by rintro (h | h | h) <;> omega)
  have hU := hA.row.u16 hA.lim (n := n) (cap := n) (by rw [hA.len]; omega) (by omega) (by omega)
  rw [List.take_of_length_le (by rw [hA.len]; omega)] at hU
  gi_wp2_with fail
  refine Lex.regionInE 5 (fun k => k == 1) (fun k v => v = .slice (some ⟨w.heap.size + 1, 0, none⟩) (siz (val l)) n) (fun _ _ _ => True) (.inl rfl) (by kernel_rfl) (by kernel_rfl) (by kernel_rfl) (fun _ _ _ _ h _ => h) ?_
  refine Walk.one (x := ?_) rfl rfl (fun w1 hI hL K hK => ?_) ?_
  rotate_left
  ·obtain ⟨hc, hf⟩ := bcell hI
   have c := (Boxed.ext hbo hI).cell
   go_simp
   repeat (first | (go_ints; try go_simp) | (simp only [↓IntWalk.iteOmega]; try go_simp))
   exact hK
  simp only [Pq1]
  refine Walk.told rfl rfl ⟨_, rfl⟩ (fun w1 hI hL K hK => ?_) ?_
  ·go_simp
   refine (trimmed_any _ _ _ _ _ (hU.ext hI)).mono ?_
   rintro e w' ⟨rfl, rfl⟩
   exact ⟨_, rfl, hK _ _ rfl trivial hI (Below.refl _ _)⟩
  rintro v rfl
  simp only [Pq1]
  refine Walk.one (x := ?_) rfl rfl (fun w1 hI hL K hK => ?_) ?_
  rotate_left
  ·obtain ⟨hc, hf⟩ := bcell hI
   have c := (Boxed.ext hA.bR hI).cell
   go_simp
   repeat (first | (go_ints; try go_simp) | (simp only [↓IntWalk.iteOmega]; try go_simp))
   exact hK
  simp only [Pq1]
  iterate 2
   refine Walk.one (x := ?_) rfl rfl (fun w1 hI hL K hK => ?_) ?_
   rotate_left
   ·obtain ⟨hc, hf⟩ := bcell hI
    go_simp
    repeat (first | (go_ints; try go_simp) | (simp only [↓IntWalk.iteOmega]; try go_simp))
    exact hK
   simp only [Pq1]
  refine Walk.nil fun w3 hI3 hL3 => ?_
  clear hL3
  have hD3 : w3.heap[W0.heap.size]? = some (.deferred (some [])) := (hI3.block _ (Array.getElem?_eq_some_iff.1 hD).1).trans hD
  have hU3 := (hU.trim).ext hI3
  have hO3 := (hA.row.own (B := w.heap.size) (cap := n) (by omega) (by rw [hA.len]; omega)).ext hI3
  have hk3 : Keeps (fun b => b = w.heap.size + 1 ∨ b = w.heap.size + 3 ∨ LoopBlocks W0 0 b) W0 w3 := hA.keep.trans (.of_ext hI3)
  simp only [List.drop_succ_cons, List.drop_zero]
  gi_wp2
  refine leave_marked (v := .tuple #[.slice (some ⟨w.heap.size + 1, 0, none⟩) (siz (val l)) n, .int .u32 (r : Nat)]) hD3 (by simp [results, Tryz.results209, go_sem]) ⟨_, _, _, by rw [e2.out], ?_, ?_, ?_⟩
  ·rw [← e1.out]
   exact (Keeps.mark (M := fun b => b = W0.heap.size) (Keeps.refl _ _) rfl).u16 hU3 (fun j hj => by rw [at_zero]; show w.heap.size + 1 ≠ _; omega)
  ·refine (Keeps.mark (M := fun b => b = W0.heap.size) (Keeps.refl _ _) rfl).own hO3 (fun g hg => ?_)
   simp only [Option.some.injEq, Addr.mk.injEq, and_true] at hg
   omega
  ·exact hE.trans ((hk3.mark (.inr (.inr ⟨by omega, by omega⟩))).below hE.size (by rintro b (h | h | h) <;> omega))
end Go.Proofs.YtndgaecfeaedeaaGreat
namespace Go.Proofs.YtndgaecfeaedeaaGreat
open Go.RowKit Lex Mth
attribute [local go_sem] run_indexAt_at add_zero_map Oper.semAt_some at_zero

theorem bits_or16 (a b : Nat) (ha : a < 65536) (hb : b < 65536) (hab : a ||| b < 65536) : bits .or .u16 (a : Int) (b : Int) = ((a ||| b : Nat) : Int) := by
 have e : (BitVec.ofInt 16 (a : Int) ||| BitVec.ofInt 16 (b : Int)).toNat = a ||| b := by
  rw [BitVec.ofInt_natCast, BitVec.ofInt_natCast, BitVec.toNat_or, BitVec.toNat_ofNat, BitVec.toNat_ofNat, Nat.mod_eq_of_lt (by simpa using ha), Nat.mod_eq_of_lt (by simpa using hb)]
 show IntKind.u16.wrap ((BitVec.ofInt 16 (a : Int) ||| BitVec.ofInt 16 (b : Int)).toNat : Int) = _
 rw [e]
 simp only [IntKind.wrap, IntKind.bits, IntKind.signed]
 generalize a ||| b = c at *
 simp
 omega
/-- The lower bits of one number, the upper ones of another. -/
theorem or_shift (i u a : Nat) (h : a < 2 ^ i) : a ||| (u * 2 ^ i) = a + u * 2 ^ i := by
 have := Nat.shiftLeft_add_eq_or_of_lt (i := i) (b := a) h u
 rw [Nat.shiftLeft_eq] at this
 rw [Nat.or_comm, ← this, Nat.add_comm]

/-- x · 2 ^ i, cut: its lower part is a multiple of 2 ^ i that leaves room, its upper part is small. -/
theorem shl_parts {x i : Nat} (hx : x < 65536) (hi : i < 16) : (∃ u, x * 2 ^ i % 65536 = u * 2 ^ i ∧ u * 2 ^ i + 2 ^ i ≤ 65536) ∧ x * 2 ^ i / 65536 < 2 ^ i ∧ x * 2 ^ i < 4294967296 ∧ 0 < 2 ^ i ∧ 2 ^ i ≤ 32768 := by
 have h2 : 2 ^ i * 2 ^ (16 - i) = 65536 := by rw [← Nat.pow_add, show i + (16 - i) = 16 by omega]
 have hp : 0 < 2 ^ i := Nat.pow_pos (by omega)
 have h16 : 2 ^ i ≤ 32768 := by
  have : 2 ^ i ≤ 2 ^ 15 := Nat.pow_le_pow_right (by omega) (by omega)
  simpa using this
 have hm : x * 2 ^ i % 65536 = x % 2 ^ (16 - i) * 2 ^ i := by
  rw [← h2, Nat.mul_comm (2 ^ i), Nat.mul_mod_mul_right]
 refine ⟨⟨x % 2 ^ (16 - i), hm, ?_⟩, ?_, ?_, hp, h16⟩
 ·have h3 : x % 2 ^ (16 - i) + 1 ≤ 2 ^ (16 - i) := Nat.mod_lt _ (Nat.pow_pos (by omega))
  have := Nat.mul_le_mul_right (2 ^ i) h3
  rw [Nat.add_mul, Nat.one_mul, Nat.mul_comm (2 ^ (16 - i)), h2] at this
  exact this
 ·rw [Nat.div_lt_iff_lt_mul (by omega), Nat.mul_comm (2 ^ i)]
  exact Nat.mul_lt_mul_of_pos_right hx hp
 ·calc x * 2 ^ i ≤ x * 32768 := Nat.mul_le_mul_left _ h16
   _ < 4294967296 := by omega

/-- At the loop's head. -/
structure ShlAt (x n b g i : Nat) (w wr : World) (l : List Nat) : Prop where
 len : l.length = n + 1
 lim : Lim l
 v : val l = val ((limbs x).take i) * 2 ^ b
 hi : ∀ j, i < j → dig l j = 0
 top : dig l i < 2 ^ b
 row : Row wr g l
 keep : Keeps (fun b => w.heap.size ≤ b) w wr

theorem ShlAt.step {x n b g i lo hi : Nat} {w wr : World} {l : List Nat} (h : ShlAt x n b g i w wr l) (hin : i < siz x) (hn : siz x = n) (hb : b < 16) (hg : w.heap.size ≤ g)
    (hlo : lo = dig (limbs x) i * 2 ^ b % 65536) (hhi : hi = dig (limbs x) i * 2 ^ b / 65536) :
    ShlAt x n b g (i + 1) w ((wr.setCell ⟨g, i, none⟩ (.int .u16 ((dig l i + lo : Nat) : Int))).setCell ⟨g, i + 1, none⟩ (.int .u16 ((hi : Nat) : Int))) ((l.set i (dig l i + lo)).set (i + 1) hi) := by
 have lx : dig (limbs x) i < 65536 := (lim_limbs x).getD i
 obtain ⟨⟨u, hu, hu2⟩, h1, h2, h3, h4⟩ := shl_parts lx hb
 rw [← hlo] at hu
 rw [← hhi] at h1
 have ht := h.top
 have hlen := h.len
 have e1 := val_set l i (dig l i + lo) (by omega)
 have e2 := val_set (l.set i (dig l i + lo)) (i + 1) hi (by simp; omega)
 have z1 : (l.set i (dig l i + lo)).getD (i + 1) 0 = 0 := by
  have := dig_set l i (i + 1) (dig l i + lo) (by omega)
  rw [if_neg (by omega), h.hi (i + 1) (by omega)] at this
  exact this
 have lim2 : Lim ((l.set i (dig l i + lo)).set (i + 1) hi) := (h.lim.set _ _ (by omega)).set _ _ (by omega)
 refine ⟨by simp [h.len], lim2, ?_, fun j hj => ?_, ?_, (h.row.set i _).set (i + 1) _, (h.keep.setCell (p := ⟨g, i, none⟩) hg _).setCell (p := ⟨g, i + 1, none⟩) hg _⟩
 ·rw [val_take_succ (l := limbs x) (k := i) hin, Nat.add_mul, ← h.v]
  rw [z1, Nat.mul_zero, Nat.add_zero] at e2
  have e3 : lo + 65536 * hi = dig (limbs x) i * 2 ^ b := by rw [hlo, hhi]; exact Nat.mod_add_div _ _
  have e4 : 65536 ^ i * (dig (limbs x) i * 2 ^ b) = 65536 ^ i * lo + 65536 ^ (i + 1) * hi := by
   rw [← e3, Nat.pow_succ]; grind
  rw [Nat.mul_add] at e1
  have e5 : 65536 ^ i * (limbs x).getD i 0 * 2 ^ b = 65536 ^ i * (dig (limbs x) i * 2 ^ b) := Nat.mul_assoc _ _ _
  rw [e5, e4, e2]
  unfold dig at *
  omega
 ·rw [dig_set _ _ _ _ (by simp; omega), if_neg (by omega), dig_set _ _ _ _ (by omega), if_neg (by omega)]
  exact h.hi j (by omega)
 ·rw [dig_set _ _ _ _ (by simp; omega), if_pos rfl]; exact h1

set_option maxRecDepth 100000 in
set_option maxHeartbeats 1000000 in
theorem shifted_any (p : Option Addr) (n cp : Nat) (x b : Nat) (w : World) (hp : U16 w p n cp (limbs x)) (hb : b < 16) (hn : n ≤ 1048576) :
    Calls Tryz.prog 211 #[.slice p n cp, .int .i64 (b : Nat)] w fun e w' =>
     ∃ g l, e = .returned (.slice (some ⟨g, 0, none⟩) (n + 1) (n + 1)) ∧ w.heap.size ≤ g ∧ Row w' g l ∧ l.length = n + 1 ∧ Lim l ∧ val l = x * 2 ^ b ∧ Ext w w' := by
 have hhp := hp.has
 have Hsx : Hid (siz x = n) := hp.len
 go_enter Tryz.func211, Tryz.ntmps211
 have hmk := run_make16 w ((n : Int) + 1) ((n : Int) + 1) (n + 1) (n + 1) (by omega) (by omega) (by omega) (by omega)
 have hho : Has (some ⟨w.heap.size, 0, none⟩) (n + 1) := Has.some _ _
 go_wp2
 clear hmk
 have hA0 : ShlAt x n b w.heap.size 0 w (w.alloc (.cells (zrow (n + 1)) 153)) (List.replicate (n + 1) 0) :=
  ⟨by simp, lim_replicate _, by simp [val_replicate, val], fun j _ => by simp [dig, List.getD_eq_getElem?_getD, List.getElem?_replicate]; split <;> rfl, by simp [dig, List.getD_eq_getElem?_getD]; exact Nat.pow_pos (by omega), Row.zeros _ _, (Keeps.refl _ _).alloc _⟩
 go_loopw [15] (fun v wr => ∃ i l, v = .int .i64 (i : Nat) ∧ i ≤ n ∧ ShlAt x n b w.heap.size i w wr l) (fun v _ => (n - intOf v).toNat)
 case atStart => exact ⟨0, _, rfl, by omega, hA0⟩
 case round =>
  obtain ⟨i, l, rfl, hi, hA⟩ := hrel
  clear hA0
  by_cases hin : i < n
  ·have cx := hA.keep.cell (hp.cell i hin) (by have := hp.block hin; omega)
   have lx := hp.lt i
   have cl := hA.row.cell (j := i) (by rw [hA.len]; omega)
   have fl := hA.row.free i
   obtain ⟨⟨u, hu, hu2⟩, h1, h2, h3, h4⟩ := shl_parts lx hb
   obtain ⟨s, hs⟩ : ∃ s, s = dig (limbs x) i * 2 ^ b := ⟨_, rfl⟩
   obtain ⟨lo, hlo⟩ : ∃ lo, lo = dig (limbs x) i * 2 ^ b % 65536 := ⟨_, rfl⟩
   obtain ⟨hi', hhi⟩ : ∃ hi, hi = dig (limbs x) i * 2 ^ b / 65536 := ⟨_, rfl⟩
   have ht := hA.top
   rw [← hlo] at hu
   rw [← hhi] at h1
   rw [← hs] at h2
   have hs' : (dig (limbs x) i : Int) * 2 ^ b = (s : Int) := by rw [hs]; simp
   have hw32 : IntKind.u32.wrap (s : Int) = (s : Int) := by simp [IntKind.wrap, IntKind.bits, IntKind.signed]; omega
   have hw16 : IntKind.u16.wrap (s : Int) = (lo : Int) := by rw [hlo, ← hs]; simp [IntKind.wrap, IntKind.bits, IntKind.signed]
   have hd16 : (s : Int) / 65536 = (hi' : Int) := by rw [hhi, ← hs]; rfl
   have hw16' : IntKind.u16.wrap (hi' : Int) = (hi' : Int) := by simp [IntKind.wrap, IntKind.bits, IntKind.signed]; omega
   have hor : bits .or .u16 (dig l i : Int) (lo : Int) = ((dig l i + lo : Nat) : Int) := by
    have e : dig l i ||| lo = dig l i + lo := by rw [hu]; exact or_shift b u _ ht
    rw [← e]; exact bits_or16 _ _ (by omega) (by omega) (by rw [e]; omega)
   have cl2 := hA.row.cell (j := i + 1) (by rw [hA.len]; omega)
   have fl2 := hA.row.free (i + 1)
   have Hs := Lib.hid hs
   have Hlo := Lib.hid hlo
   have Hhi := Lib.hid hhi
   have Hu := Lib.hid hu
   clear hs hlo hhi hu
   go_wp2
   go_roundw
   case rel => exact ⟨i + 1, _, rfl, by omega, hA.step (by rw [Hsx.out]; exact hin) Hsx.out hb (by omega) Hlo.out Hhi.out⟩
   case measure => simp [intOf]; omega
  ·obtain rfl : i = n := by omega
   have hv := hA.v
   rw [List.take_of_length_le (l := limbs x) (by show siz x ≤ i; rw [Hsx.out]; omega), val_limbs] at hv
   have Hv := Lib.hid hv
   clear hv
   go_wp2
   go_ret
   exact ⟨_, l, rfl, by omega, hA.row, hA.len, hA.lim, Hv.out, hA.keep.ext fun b hb => hb⟩
end Go.Proofs.YtndgaecfeaedeaaGreat
