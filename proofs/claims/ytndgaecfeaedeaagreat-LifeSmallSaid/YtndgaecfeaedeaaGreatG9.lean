/- Walks of the document's answer on absolute values: Plus. Walks of the document's answer on absolute values: Minus. Walks of the document's answer on absolute values: Divided. Walks of the document's answer on numbers: FromInt, Same. Walks of the document's answer on numbers: Same. -/
import Derived.Deep.LoopGhost
import Derived.Test.YtndgaecfeaedeaaGreatG8
set_option linter.unusedSimpArgs false
set_option linter.unusedVariables false
namespace Go.Proofs.YtndgaecfeaedeaaGreat
open Go.RowKit Lex Mth
attribute [local go_sem] run_indexAt_at add_zero_map Oper.semAt_some at_zero

/-- In round k. -/
structure PlusAt (x y t k : Nat) (w wr : World) (c : Nat) (vo : Value) (out : List Nat) : Prop where
 c1 : c ≤ 1
 len : out.length = k
 lim : Lim out
 v : val out + c * 65536 ^ k = val ((limbs x).take k) + val ((limbs y).take k)
 own : wr.ownsRow w.heap.size 153 1 vo k (u16s out)
 keep : Keeps (fun b => w.heap.size ≤ b) w wr
 kt : k ≤ t ∨ (k = t + 1 ∧ c = 0 ∧ 65536 ^ t ≤ x + y)

theorem PlusAt.step {x y t k : Nat} {w wr w' : World} {c dx dy s : Nat} {v v' : Value} {out : List Nat} (h : PlusAt x y t k w wr c v out) (hx : val ((limbs x).take (k + 1)) = val ((limbs x).take k) + 65536 ^ k * dx) (hy : val ((limbs y).take (k + 1)) = val ((limbs y).take k) + 65536 ^ k * dy)
    (hdx : dx < 65536) (hdy : dy < 65536) (hs : s = dx + dy + c) (hkt : k < t ∨ (k = t ∧ dx = 0 ∧ dy = 0 ∧ c = 1 ∧ siz x ≤ t ∧ siz y ≤ t))
    (hown : w'.ownsRow w.heap.size 153 1 v' (k + 1) (u16s (out ++ [s % 65536]))) (hk : Keeps (fun b => w.heap.size ≤ b) w w') : PlusAt x y t (k + 1) w w' (s / 65536) v' (out ++ [s % 65536]) := by
 have h1 := h.c1
 refine ⟨by omega, by simp [h.len], Lim.append.2 ⟨h.lim, Lim.cons.2 ⟨Nat.mod_lt _ (by omega), Lim.nil⟩⟩, ?_, hown, hk, ?_⟩
 ·rw [hx, hy]; exact put_val h.len h.v hs
 ·rcases hkt with hkt | ⟨hkt, rfl, rfl, hc, h2, h3⟩
  ·exact .inl (by omega)
  ·refine .inr ⟨by omega, by omega, ?_⟩
   have hv := h.v
   rw [List.take_of_length_le (l := limbs x) (by show siz x ≤ k; omega), List.take_of_length_le (l := limbs y) (by show siz y ≤ k; omega), val_limbs, val_limbs, hc, Nat.one_mul] at hv
   rw [← hkt]; omega

theorem PlusAt.done {x y t k : Nat} {w wr : World} {v : Value} {out : List Nat} (h : PlusAt x y t k w wr 0 v out) (hx : siz x ≤ k) (hy : siz y ≤ k) (ht : t = siz x ∨ t = siz y) : out = limbs (x + y) := by
 have hv := h.v
 rw [List.take_of_length_le (l := limbs x) hx, List.take_of_length_le (l := limbs y) hy, val_limbs, val_limbs, Nat.zero_mul, Nat.add_zero] at hv
 rw [← hv]
 refine (limbs_of_length h.lim fun hne => ?_).symm
 have hk0 : 0 < k := by rw [← h.len]; exact List.length_pos_iff.2 hne
 rw [h.len, hv]
 rcases h.kt with hk | ⟨rfl, _, hk⟩
 ·rcases ht with ht | ht
  ·have hkx : siz x = k := by omega
   have := pow_siz_le (n := x) (fun h0 => by rw [h0, siz_zero] at hkx; omega)
   rw [hkx] at this; omega
  ·have hky : siz y = k := by omega
   have := pow_siz_le (n := y) (fun h0 => by rw [h0, siz_zero] at hky; omega)
   rw [hky] at this; omega
 ·rw [Nat.add_sub_cancel]; exact hk

set_option maxRecDepth 100000 in
set_option maxHeartbeats 2000000 in
theorem Plus_any (p q : Option Addr) (n cp m cq : Nat) (x y : Nat) (w : World) (hp : U16 w p n cp (limbs x)) (hq : U16 w q m cq (limbs y)) (hb : n ≤ 4194304) (hb' : m ≤ 4194304) :
    Calls Tryz.prog 192 #[.slice p n cp, .slice q m cq] w fun e w' => ∃ p' n' c', e = .returned (.slice p' n' c') ∧ U16 w' p' n' c' (limbs (x + y)) ∧ Own w.heap.size w' p' c' ∧ Ext w w' := by
 have hhp := hp.has
 have hhq := hq.has
 have Hsx : Hid (siz x = n) := hp.len
 have Hsy : Hid (siz y = m) := hq.len
 obtain ⟨i0, hi, hz0, hz1, hz2⟩ := info_parts Tryz.info16
 obtain ⟨t, ht⟩ : ∃ t, t = max n m := ⟨_, rfl⟩
 have hA0 : PlusAt x y t 0 w w 0 (.slice none 0 0) [] := ⟨by omega, rfl, Lim.nil, by simp [val], World.ownsRow_nil _ _ _ _, Keeps.refl _ _, .inl (by omega)⟩
 go_enter Tryz.func192, Tryz.ntmps192
 go_wp2_with fail
 go_loopw [7, 6, 5] (fun v7 v6 v5 wr => ∃ (k c : Nat) (out : List Nat), v7 = .int .i64 (k : Nat) ∧ v6 = .int .i64 (c : Nat) ∧ k ≤ t + 1 ∧ PlusAt x y t k w wr c v5 out) (fun v7 _ _ _ => (t + 1 - intOf v7).toNat)
 case atStart => exact ⟨0, 0, [], rfl, rfl, by omega, hA0⟩
 case round =>
  clear hA0
  obtain ⟨k, c, out, rfl, rfl, hk, hA⟩ := hrel
  have hc1 := hA.c1
  by_cases hkn : k < n
  ·by_cases hkm : k < m
   ·skip
    have cx := hA.keep.cell (hp.cell k hkn) (by have := hp.block hkn; omega)
    have lx := hp.lt k
    have cy := hA.keep.cell (hq.cell k hkm) (by have := hq.block hkm; omega)
    have ly := hq.lt k
    obtain ⟨s, hs⟩ : ∃ s, s = dig (limbs x) k + dig (limbs y) k + c := ⟨_, rfl⟩
    have hsI : (c : Int) + (dig (limbs x) k : Int) + (dig (limbs y) k : Int) = (s : Int) := by omega
    have hsb : s < 131072 := by omega
    have hw16 : IntKind.u16.wrap ((s : Int) % 65536) = ((s % 65536 : Nat) : Int) := by simp [IntKind.wrap, IntKind.bits, IntKind.signed]
    have Hs := Lib.hid hs
    clear hs
    go_wp2_with (at_builtin; refine wpList_append_own _ rfl (.tmp 46) (.tmp 50) 36 rfl w.heap.size 153 i0 (.int .u16 0) 1 2 Tryz.underlying36 hi hz0 hz1 hz2 rfl (by omega) _ k (u16s out) rfl (hA.own.alloc _) ⟨wr.heap.size, 0, none⟩ 1 1 [.int .u16 ((s % 65536 : Nat) : Int)] rfl rfl ?c1 ?c2 (by unfold maxLen; omega) (by omega) (by have := hA.keep.size; simp; omega) ?_)
    case c1 =>
     intro j u hj
     match j, hj with
     | 0, hj => simp at hj; subst hj; simp [Addr.add]
    case c2 => intro u hu; simp at hu; subst hu; rfl
    intro v' w' hown hgrow hnil
    have hk2 : Keeps (fun b => w.heap.size ≤ b) w w' := (hA.keep.alloc _).grown hgrow (fun b hb => (hA.own.lt b hb).1)
    have hst := hA.step (s := s) (dx := dig (limbs x) k) (dy := dig (limbs y) k) (val_take_succ (by show k < siz x; rw [Hsx.out]; exact hkn)) (val_take_succ (by show k < siz y; rw [Hsy.out]; exact hkm)) (by omega) (by omega) Hs.out (.inl (by omega)) (by rw [u16s, List.map_append]; exact hown) hk2
    have Hst := Lib.hid hst
    clear hst hnil hgrow hown
    go_wp2_with fail
    go_roundw
    case rel => exact ⟨k + 1, s / 65536, _, rfl, rfl, by omega, Hst.out⟩
    case measure => simp [intOf] <;> omega
   ·skip
    have cx := hA.keep.cell (hp.cell k hkn) (by have := hp.block hkn; omega)
    have lx := hp.lt k
    obtain ⟨s, hs⟩ : ∃ s, s = dig (limbs x) k + 0 + c := ⟨_, rfl⟩
    have hsI : (c : Int) + (dig (limbs x) k : Int) = (s : Int) := by omega
    have hsb : s < 131072 := by omega
    have hw16 : IntKind.u16.wrap ((s : Int) % 65536) = ((s % 65536 : Nat) : Int) := by simp [IntKind.wrap, IntKind.bits, IntKind.signed]
    have Hs := Lib.hid hs
    clear hs
    go_wp2_with (at_builtin; refine wpList_append_own _ rfl (.tmp 46) (.tmp 50) 36 rfl w.heap.size 153 i0 (.int .u16 0) 1 2 Tryz.underlying36 hi hz0 hz1 hz2 rfl (by omega) _ k (u16s out) rfl (hA.own.alloc _) ⟨wr.heap.size, 0, none⟩ 1 1 [.int .u16 ((s % 65536 : Nat) : Int)] rfl rfl ?c1 ?c2 (by unfold maxLen; omega) (by omega) (by have := hA.keep.size; simp; omega) ?_)
    case c1 =>
     intro j u hj
     match j, hj with
     | 0, hj => simp at hj; subst hj; simp [Addr.add]
    case c2 => intro u hu; simp at hu; subst hu; rfl
    intro v' w' hown hgrow hnil
    have hk2 : Keeps (fun b => w.heap.size ≤ b) w w' := (hA.keep.alloc _).grown hgrow (fun b hb => (hA.own.lt b hb).1)
    have hst := hA.step (s := s) (dx := dig (limbs x) k) (dy := 0) (val_take_succ (by show k < siz x; rw [Hsx.out]; exact hkn)) (take_ge (by show siz y ≤ k; rw [Hsy.out]; omega)) (by omega) (by omega) Hs.out (.inl (by omega)) (by rw [u16s, List.map_append]; exact hown) hk2
    have Hst := Lib.hid hst
    clear hst hnil hgrow hown
    go_wp2_with fail
    go_roundw
    case rel => exact ⟨k + 1, s / 65536, _, rfl, rfl, by omega, Hst.out⟩
    case measure => simp [intOf] <;> omega
  ·by_cases hkm : k < m
   ·skip
    have cy := hA.keep.cell (hq.cell k hkm) (by have := hq.block hkm; omega)
    have ly := hq.lt k
    obtain ⟨s, hs⟩ : ∃ s, s = 0 + dig (limbs y) k + c := ⟨_, rfl⟩
    have hsI : (c : Int) + (dig (limbs y) k : Int) = (s : Int) := by omega
    have hsb : s < 131072 := by omega
    have hw16 : IntKind.u16.wrap ((s : Int) % 65536) = ((s % 65536 : Nat) : Int) := by simp [IntKind.wrap, IntKind.bits, IntKind.signed]
    have Hs := Lib.hid hs
    clear hs
    go_wp2_with (at_builtin; refine wpList_append_own _ rfl (.tmp 46) (.tmp 50) 36 rfl w.heap.size 153 i0 (.int .u16 0) 1 2 Tryz.underlying36 hi hz0 hz1 hz2 rfl (by omega) _ k (u16s out) rfl (hA.own.alloc _) ⟨wr.heap.size, 0, none⟩ 1 1 [.int .u16 ((s % 65536 : Nat) : Int)] rfl rfl ?c1 ?c2 (by unfold maxLen; omega) (by omega) (by have := hA.keep.size; simp; omega) ?_)
    case c1 =>
     intro j u hj
     match j, hj with
     | 0, hj => simp at hj; subst hj; simp [Addr.add]
    case c2 => intro u hu; simp at hu; subst hu; rfl
    intro v' w' hown hgrow hnil
    have hk2 : Keeps (fun b => w.heap.size ≤ b) w w' := (hA.keep.alloc _).grown hgrow (fun b hb => (hA.own.lt b hb).1)
    have hst := hA.step (s := s) (dx := 0) (dy := dig (limbs y) k) (take_ge (by show siz x ≤ k; rw [Hsx.out]; omega)) (val_take_succ (by show k < siz y; rw [Hsy.out]; exact hkm)) (by omega) (by omega) Hs.out (.inl (by omega)) (by rw [u16s, List.map_append]; exact hown) hk2
    have Hst := Lib.hid hst
    clear hst hnil hgrow hown
    go_wp2_with fail
    go_roundw
    case rel => exact ⟨k + 1, s / 65536, _, rfl, rfl, by omega, Hst.out⟩
    case measure => simp [intOf] <;> omega
   ·rcases Nat.eq_zero_or_pos c with rfl | hc0
    ·have hend := hA.done (by rw [Hsx.out]; omega) (by rw [Hsy.out]; omega) (by rw [Hsx.out, Hsy.out]; omega)
     have Hend := Lib.hid hend
     clear hend
     go_wp2_with fail
     go_ret
     obtain ⟨p', c', rfl, hU, hO⟩ := U16.of_owns hA.own (by rw [Hend.out]; exact lim_limbs _) (by omega)
     exact ⟨p', _, c', rfl, by rw [← Hend.out]; exact hU, hO, hA.keep.ext fun b hb => hb⟩
    ·have hkt : k = t := by rcases hA.kt with h | ⟨h1, h2, _⟩ <;> omega
     obtain ⟨s, hs⟩ : ∃ s, s = 0 + 0 + c := ⟨_, rfl⟩
     have hsI : (c : Int) = (s : Int) := by omega
     have Hkt := Lib.hid hkt
     clear hkt
     have hsb : s < 131072 := by omega
     have hw16 : IntKind.u16.wrap ((s : Int) % 65536) = ((s % 65536 : Nat) : Int) := by simp [IntKind.wrap, IntKind.bits, IntKind.signed]
     have Hs := Lib.hid hs
     clear hs
     go_wp2_with (at_builtin; refine wpList_append_own _ rfl (.tmp 46) (.tmp 50) 36 rfl w.heap.size 153 i0 (.int .u16 0) 1 2 Tryz.underlying36 hi hz0 hz1 hz2 rfl (by omega) _ k (u16s out) rfl (hA.own.alloc _) ⟨wr.heap.size, 0, none⟩ 1 1 [.int .u16 ((s % 65536 : Nat) : Int)] rfl rfl ?c1 ?c2 (by unfold maxLen; omega) (by omega) (by have := hA.keep.size; simp; omega) ?_)
     case c1 =>
      intro j u hj
      match j, hj with
      | 0, hj => simp at hj; subst hj; simp [Addr.add]
     case c2 => intro u hu; simp at hu; subst hu; rfl
     intro v' w' hown hgrow hnil
     have hk2 : Keeps (fun b => w.heap.size ≤ b) w w' := (hA.keep.alloc _).grown hgrow (fun b hb => (hA.own.lt b hb).1)
     have hst := hA.step (s := s) (dx := 0) (dy := 0) (take_ge (by show siz x ≤ k; rw [Hsx.out]; omega)) (take_ge (by show siz y ≤ k; rw [Hsy.out]; omega)) (by omega) (by omega) Hs.out (.inr ⟨Hkt.out, rfl, rfl, by omega, by rw [Hsx.out]; have := Hkt.out; omega, by rw [Hsy.out]; have := Hkt.out; omega⟩) (by rw [u16s, List.map_append]; exact hown) hk2
     have Hst := Lib.hid hst
     clear hst hnil hgrow hown
     go_wp2_with fail
     go_roundw
     case rel => exact ⟨k + 1, s / 65536, _, rfl, rfl, by have := Hkt.out; omega, Hst.out⟩
     case measure => have := Hkt.out; simp [intOf] <;> omega
end Go.Proofs.YtndgaecfeaedeaaGreat
namespace Go.Proofs.YtndgaecfeaedeaaGreat
open Go.RowKit Lex Mth
attribute [local go_sem] run_indexAt_at add_zero_map Oper.semAt_some at_zero

/-- In round k. -/
structure MinusAt (x y k : Nat) (w wr : World) (c : Nat) (vo : Value) (out : List Nat) : Prop where
 c1 : c ≤ 1
 len : out.length = k
 lim : Lim out
 v : val out + val ((limbs y).take k) = val ((limbs x).take k) + c * 65536 ^ k
 own : wr.ownsRow w.heap.size 153 1 vo k (u16s out)
 keep : Keeps (fun b => w.heap.size ≤ b) w wr

theorem MinusAt.step {x y k : Nat} {w wr w' : World} {c dx dy s : Nat} {v v' : Value} {out : List Nat} (h : MinusAt x y k w wr c v out) (hx : val ((limbs x).take (k + 1)) = val ((limbs x).take k) + 65536 ^ k * dx) (hy : val ((limbs y).take (k + 1)) = val ((limbs y).take k) + 65536 ^ k * dy)
    (hdx : dx < 65536) (hdy : dy < 65536) (hs : s + c + dy = 65536 + dx) (hown : w'.ownsRow w.heap.size 153 1 v' (k + 1) (u16s (out ++ [s % 65536]))) (hk : Keeps (fun b => w.heap.size ≤ b) w w') : MinusAt x y (k + 1) w w' (1 - s / 65536) v' (out ++ [s % 65536]) := by
 have h1 := h.c1
 refine ⟨by omega, by simp [h.len], Lim.append.2 ⟨h.lim, Lim.cons.2 ⟨Nat.mod_lt _ (by omega), Lim.nil⟩⟩, ?_, hown, hk⟩
 rw [hx, hy]
 exact sub_val h.len h.v (by omega)

set_option maxRecDepth 100000 in
set_option maxHeartbeats 2000000 in
theorem Minus_any (p q : Option Addr) (n cp m cq : Nat) (x y : Nat) (w : World) (hp : U16 w p n cp (limbs x)) (hq : U16 w q m cq (limbs y)) (hxy : y ≤ x) (hb : n ≤ 4194304) :
    Calls Tryz.prog 194 #[.slice p n cp, .slice q m cq] w fun e w' => ∃ p' n' c', e = .returned (.slice p' n' c') ∧ U16 w' p' n' c' (limbs (x - y)) ∧ Own w.heap.size w' p' c' ∧ Ext w w' := by
 have hhp := hp.has
 have hhq := hq.has
 have Hsx : Hid (siz x = n) := hp.len
 have Hsy : Hid (siz y = m) := hq.len
 have hmn : m ≤ n := by rw [← Hsx.out, ← Hsy.out]; exact siz_mono hxy
 have Hxy := Lib.hid hxy
 clear hxy
 obtain ⟨i0, hi, hz0, hz1, hz2⟩ := info_parts Tryz.info16
 have hA0 : MinusAt x y 0 w w 0 (.slice none 0 0) [] := ⟨by omega, rfl, Lim.nil, by simp [val], World.ownsRow_nil _ _ _ _, Keeps.refl _ _⟩
 go_enter Tryz.func194, Tryz.ntmps194
 go_wp2_with fail
 go_loopw [7, 6, 5] (fun v7 v6 v5 wr => ∃ (k c : Nat) (out : List Nat), v7 = .int .i64 (k : Nat) ∧ v6 = .int .i64 (c : Nat) ∧ k ≤ n ∧ MinusAt x y k w wr c v5 out) (fun v7 _ _ _ => (n - intOf v7).toNat)
 case atStart => exact ⟨0, 0, [], rfl, rfl, by omega, hA0⟩
 case round =>
  clear hA0
  obtain ⟨k, c, out, rfl, rfl, hk, hA⟩ := hrel
  have hc1 := hA.c1
  by_cases hkn : k < n
  ·by_cases hkm : k < m
   ·skip
    have cx := hA.keep.cell (hp.cell k hkn) (by have := hp.block hkn; omega)
    have lx := hp.lt k
    have cy := hA.keep.cell (hq.cell k hkm) (by have := hq.block hkm; omega)
    have ly := hq.lt k
    obtain ⟨s, hs⟩ : ∃ s, s = 65536 + dig (limbs x) k - c - dig (limbs y) k := ⟨_, rfl⟩
    have hsI : 65536 + (dig (limbs x) k : Int) - (c : Int) - (dig (limbs y) k : Int) = (s : Int) := by omega
    have hsb : s < 131072 := by omega
    have hs2 : s + c + dig (limbs y) k = 65536 + dig (limbs x) k := by omega
    have hw16 : IntKind.u16.wrap ((s : Int) % 65536) = ((s % 65536 : Nat) : Int) := by simp [IntKind.wrap, IntKind.bits, IntKind.signed]
    have Hs := Lib.hid hs2
    clear hs hs2
    go_wp2_with (at_builtin; refine wpList_append_own _ rfl (.tmp 34) (.tmp 38) 36 rfl w.heap.size 153 i0 (.int .u16 0) 1 2 Tryz.underlying36 hi hz0 hz1 hz2 rfl (by omega) _ k (u16s out) rfl (hA.own.alloc _) ⟨wr.heap.size, 0, none⟩ 1 1 [.int .u16 ((s % 65536 : Nat) : Int)] rfl rfl ?c1 ?c2 (by unfold maxLen; omega) (by omega) (by have := hA.keep.size; simp; omega) ?_)
    case c1 =>
     intro j u hj
     match j, hj with
     | 0, hj => simp at hj; subst hj; simp [Addr.add]
    case c2 => intro u hu; simp at hu; subst hu; rfl
    intro v' w' hown hgrow hnil
    have hk2 : Keeps (fun b => w.heap.size ≤ b) w w' := (hA.keep.alloc _).grown hgrow (fun b hb => (hA.own.lt b hb).1)
    have hst := hA.step (s := s) (dx := dig (limbs x) k) (dy := dig (limbs y) k) (val_take_succ (by show k < siz x; rw [Hsx.out]; exact hkn)) (val_take_succ (by show k < siz y; rw [Hsy.out]; exact hkm)) (by omega) (by omega) Hs.out (by rw [u16s, List.map_append]; exact hown) hk2
    have Hst := Lib.hid hst
    have hq2 : (1 : Int) - (s : Int) / 65536 = ((1 - s / 65536 : Nat) : Int) := by omega
    clear hst hnil hgrow hown
    go_wp2_with fail
    go_roundw
    case rel => exact ⟨k + 1, 1 - s / 65536, _, rfl, rfl, by omega, Hst.out⟩
    case measure => simp [intOf] <;> omega
   ·skip
    have cx := hA.keep.cell (hp.cell k hkn) (by have := hp.block hkn; omega)
    have lx := hp.lt k
    obtain ⟨s, hs⟩ : ∃ s, s = 65536 + dig (limbs x) k - c - 0 := ⟨_, rfl⟩
    have hsI : 65536 + (dig (limbs x) k : Int) - (c : Int) = (s : Int) := by omega
    have hsb : s < 131072 := by omega
    have hs2 : s + c + 0 = 65536 + dig (limbs x) k := by omega
    have hw16 : IntKind.u16.wrap ((s : Int) % 65536) = ((s % 65536 : Nat) : Int) := by simp [IntKind.wrap, IntKind.bits, IntKind.signed]
    have Hs := Lib.hid hs2
    clear hs hs2
    go_wp2_with (at_builtin; refine wpList_append_own _ rfl (.tmp 34) (.tmp 38) 36 rfl w.heap.size 153 i0 (.int .u16 0) 1 2 Tryz.underlying36 hi hz0 hz1 hz2 rfl (by omega) _ k (u16s out) rfl (hA.own.alloc _) ⟨wr.heap.size, 0, none⟩ 1 1 [.int .u16 ((s % 65536 : Nat) : Int)] rfl rfl ?c1 ?c2 (by unfold maxLen; omega) (by omega) (by have := hA.keep.size; simp; omega) ?_)
    case c1 =>
     intro j u hj
     match j, hj with
     | 0, hj => simp at hj; subst hj; simp [Addr.add]
    case c2 => intro u hu; simp at hu; subst hu; rfl
    intro v' w' hown hgrow hnil
    have hk2 : Keeps (fun b => w.heap.size ≤ b) w w' := (hA.keep.alloc _).grown hgrow (fun b hb => (hA.own.lt b hb).1)
    have hst := hA.step (s := s) (dx := dig (limbs x) k) (dy := 0) (val_take_succ (by show k < siz x; rw [Hsx.out]; exact hkn)) (take_ge (by show siz y ≤ k; rw [Hsy.out]; omega)) (by omega) (by omega) Hs.out (by rw [u16s, List.map_append]; exact hown) hk2
    have Hst := Lib.hid hst
    have hq2 : (1 : Int) - (s : Int) / 65536 = ((1 - s / 65536 : Nat) : Int) := by omega
    clear hst hnil hgrow hown
    go_wp2_with fail
    go_roundw
    case rel => exact ⟨k + 1, 1 - s / 65536, _, rfl, rfl, by omega, Hst.out⟩
    case measure => simp [intOf] <;> omega
  ·obtain rfl : k = n := by omega
   have hv : Hid (val out = x - y) := by
    have := hA.v
    rw [List.take_of_length_le (l := limbs y) (by show siz y ≤ k; rw [Hsy.out]; omega), List.take_of_length_le (l := limbs x) (by show siz x ≤ k; rw [Hsx.out]; omega), val_limbs, val_limbs] at this
    have hxy := Hxy.out
    have h2 := val_lt hA.lim
    rw [hA.len] at h2
    have h0 : c = 0 := by
     rcases Nat.eq_zero_or_pos c with h0 | h0
     ·exact h0
     ·obtain rfl : c = 1 := by omega
      omega
    subst h0
    unfold Hid
    omega
   obtain ⟨p', c', rfl, hU, hO⟩ := U16.of_owns hA.own hA.lim (by omega)
   go_wp2_with fail
   refine (Trim_any _ _ _ _ _ hU).mono ?_
   rintro e w' ⟨rfl, rfl⟩
   go_wp2_with fail
   go_ret
   exact ⟨_, _, _, rfl, by rw [← hv.out]; exact hU.trim, hO, hA.keep.ext fun b hb => hb⟩
end Go.Proofs.YtndgaecfeaedeaaGreat
namespace Go.Proofs.YtndgaecfeaedeaaGreat
open Go.RowKit Lex Mth
attribute [local go_sem] run_indexAt_at add_zero_map Oper.semAt_some at_zero

theorem pow_bits {x y N n : Nat} (hx : siz x ≤ n) (hy : 0 < y) (h : y * 2 ^ N ≤ x) : N < 16 * n := by
 have h1 := siz_le.1 hx
 rw [show (65536 : Nat) = 2 ^ 16 from rfl, ← Nat.pow_mul] at h1
 have h2 : 2 ^ N ≤ y * 2 ^ N := Nat.le_mul_of_pos_left _ hy
 exact (Nat.pow_lt_pow_iff_right (by omega : 1 < 2)).1 (by omega)
theorem siz_double {d x n : Nat} (hx : siz x ≤ n) (h : d ≤ x) : siz (d + d) ≤ n + 1 := by
 have := siz_add d d
 have h2 := siz_mono h
 omega
theorem bit_step {x d q r : Nat} (hd : 0 < d) (hq : q = x / (2 * d)) (hr : r = x % (2 * d)) : (r < d → x / d = q + q ∧ x % d = r) ∧ (d ≤ r → x / d = q + q + 1 ∧ x % d = r - d) := by
 have h1 : x % (2 * d) + 2 * d * (x / (2 * d)) = x := Nat.mod_add_div _ _
 have h2 := Nat.mod_lt x (show 0 < 2 * d by omega)
 rw [← hq, ← hr] at h1
 rw [← hr] at h2
 have e : 2 * d * q = d * (q + q) := by grind
 rw [e] at h1
 constructor
 ·intro h
  rw [← h1, Nat.add_mul_div_left _ _ hd, Nat.div_eq_of_lt h, Nat.add_mul_mod_self_left, Nat.mod_eq_of_lt h]
  exact ⟨by omega, rfl⟩
 ·intro h
  have e2 : x = (r - d) + d * (q + q + 1) := by rw [Nat.mul_add]; omega
  rw [e2, Nat.add_mul_div_left _ _ hd, Nat.add_mul_mod_self_left, Nat.div_eq_of_lt (by omega), Nat.mod_eq_of_lt (by omega)]
  exact ⟨by omega, rfl⟩

set_option maxRecDepth 100000 in
theorem Divided_one (p q : Option Addr) (n cp cq : Nat) (x y : Nat) (w : World) (hp : U16 w p n cp (limbs x)) (hq : U16 w q 1 cq (limbs y)) (hb : n ≤ 1048576) :
    Calls Tryz.prog 141 #[.slice p n cp, .slice q 1 cq] w fun e w' => DivR w.heap.size x y e w' ∧ Ext w w' := by
 have hy : limbs y = [dig (limbs y) 0] := by
  have := hq.len
  match hl : limbs y, this with
  | [a], _ => rfl
 have hyv : y = dig (limbs y) 0 := by
  have := val_limbs y
  rw [hy] at this
  simpa [val] using this.symm
 have hy0 : 0 < dig (limbs y) 0 := by
  have := limbs_last (n := y) (fun h => by have := hq.len; rw [h, limbs_zero] at this; simp at this)
  rw [hq.len] at this
  exact Nat.pos_of_ne_zero this
 have hyl := hq.lt 0
 have hho := hq.has
 have cy := hq.cell 0 (by omega)
 have Hy := Lib.hid hyv
 clear hyv hy
 go_enter Tryz.func141, Tryz.ntmps141
 go_wp2_with fail
 refine (rshort_any _ _ _ x (dig (limbs y) 0) _ hp hy0 (by omega) hb).mono ?_
 rintro e w' ⟨⟨p1, n1, c1, p2, n2, c2, rfl, h1, h2, h3, h4⟩, hE⟩
 rw [← Hy.out] at h1 h2
 go_wp2_with fail
 go_ret2
 exact ⟨⟨_, _, _, _, _, _, rfl, h1, h2, h3, h4⟩, hE⟩

set_option maxRecDepth 100000 in
set_option maxHeartbeats 2000000 in
theorem Divided_long (p q : Option Addr) (n cp m cq : Nat) (x y : Nat) (w : World) (hp : U16 w p n cp (limbs x)) (hq : U16 w q m cq (limbs y)) (hm : 2 ≤ m) (hb : n ≤ 1048576) (hmb : m ≤ 1048576) :
    Calls Tryz.prog 141 #[.slice p n cp, .slice q m cq] w fun e w' => DivR w.heap.size x y e w' ∧ Ext w w' := by
 have hhp := hp.has
 have hhq := hq.has
 have Hsx : Hid (siz x = n) := hp.len
 have Hsy : Hid (siz y = m) := hq.len
 have hy0 : 0 < y := by
  rcases Nat.eq_zero_or_pos y with h | h
  ·have := Hsy.out; rw [h, siz_zero] at this; omega
  ·exact h
 have hm1 : ((m : Int) == 1) = false := by simp; omega
 go_enter Tryz.func141, Tryz.ntmps141
 go_upto_block 0 with fail
 go_cut [6, 7] (fun s6 s7 wx => ∃ N : Nat, s6 = .int .i64 (N : Nat) ∧ N ≤ 16 * n ∧ Hid (x < y * 2 ^ N) ∧ Hid (∀ j, j < N → y * 2 ^ j ≤ x) ∧ Ext w wx)
 case first =>
  go_wp2_with fail
  go_loopg [6, 7] (x + 1 - y) (fun g s6 s7 wr => ∃ (N : Nat) (pd : Option Addr) (nd cd : Nat), s6 = .int .i64 (N : Nat) ∧ s7 = .slice pd nd cd ∧ g = x + 1 - y * 2 ^ N ∧ N ≤ 16 * n ∧ nd ≤ 2097152 ∧ U16 wr pd nd cd (limbs (y * 2 ^ N)) ∧ Hid (∀ j, j < N → y * 2 ^ j ≤ x) ∧ Ext w wr)
  case atStart => exact ⟨0, q, m, cq, rfl, rfl, by simp, by omega, by omega, by simpa using hq, Lib.hid (fun j hj => absurd hj (Nat.not_lt_zero _)), Below.refl _ _⟩
  case round =>
   obtain ⟨N, pd, nd, cd, rfl, rfl, hgk, hN, hnd, hd, hall, hE⟩ := hrel
   have Hg := Lib.hid hgk
   clear hgk
   go_wp2_with fail
   refine (Less_any _ _ _ _ _ _ x (y * 2 ^ N) _ (hp.ext hE) hd).mono ?_
   rintro e w2 ⟨rfl, hE2⟩
   have hE3 : Ext w w2 := hE.trans (hE2.mono hE.size)
   by_cases hlt : x < y * 2 ^ N
   ·rw [decide_eq_true hlt]
    have Hlt := Lib.hid hlt
    clear hlt
    go_wp2_with fail
    go_meet
    case rel => exact ⟨N, rfl, hN, Hlt, hall, hE3⟩
   ·rw [decide_eq_false hlt]
    have hle : y * 2 ^ N ≤ x := by omega
    have hNlt : N < 16 * n := pow_bits (Nat.le_of_eq Hsx.out) hy0 hle
    have hs2 : Hid (siz (y * 2 ^ N + y * 2 ^ N) ≤ n + 1) := siz_double (Nat.le_of_eq Hsx.out) hle
    have e2 : Hid (y * 2 ^ N + y * 2 ^ N = y * 2 ^ (N + 1)) := by unfold Hid; rw [Nat.pow_succ]; grind
    have hpos : Hid (0 < y * 2 ^ N) := Nat.mul_pos hy0 (Nat.pow_pos (by omega))
    have Hle := Lib.hid hle
    clear hle hlt
    go_wp2_with fail
    refine (Plus_any _ _ _ _ _ _ _ _ _ (hd.ext hE2) (hd.ext hE2) (by omega) (by omega)).mono ?_
    rintro e w3 ⟨p3, n3, c3, rfl, hU3, _, hE4⟩
    rw [e2.out] at hU3
    have hn3 : n3 ≤ n + 1 := by have h1 : siz (y * 2 ^ (N + 1)) = n3 := hU3.len; have h2 := hs2.out; rw [e2.out] at h2; omega
    go_wp2_with fail
    go_roundg (x + 1 - y * 2 ^ (N + 1))
    case measure => have := Hg.out; have := Hle.out; have := e2.out; have := hpos.out; omega
    case rel => exact ⟨N + 1, p3, n3, c3, rfl, rfl, rfl, by omega, by omega, hU3, Lib.hid (fun j hj => (Nat.lt_or_eq_of_le (Nat.le_of_lt_succ hj)).elim (hall.out j) (fun e => e ▸ Hle.out)), hE3.trans (hE4.mono hE3.size)⟩
 case rest =>
 obtain ⟨N, rfl, hN, hxN, hall, hE⟩ := hcut
 go_upto_block 2 with fail
 go_cut [8] (fun s8 wx => ∃ (pd : Option Addr) (nd cd : Nat), s8 = .slice pd nd cd ∧ nd ≤ 2097152 ∧ U16 wx pd nd cd (limbs (y * 2 ^ N)) ∧ Ext w wx)
 case first =>
  go_wp2_with fail
  go_loopw [9, 8] (fun v9 v8 wr => ∃ (i : Nat) (pd : Option Addr) (nd cd : Nat), v9 = .int .i64 (i : Nat) ∧ v8 = .slice pd nd cd ∧ i ≤ N ∧ nd ≤ 2097152 ∧ U16 wr pd nd cd (limbs (y * 2 ^ i)) ∧ Ext w wr) (fun v9 _ _ => (N - intOf v9).toNat)
  case atStart => exact ⟨0, q, m, cq, rfl, rfl, by omega, by omega, by simpa using hq.ext hE, hE⟩
  case round =>
   obtain ⟨i, pd, nd, cd, rfl, rfl, hi, hnd, hd, hE2⟩ := hrel
   by_cases hiN : i < N
   ·have hle : y * 2 ^ i ≤ x := hall.out i hiN
    have hs2 : Hid (siz (y * 2 ^ i + y * 2 ^ i) ≤ n + 1) := siz_double (Nat.le_of_eq Hsx.out) hle
    have e2 : Hid (y * 2 ^ i + y * 2 ^ i = y * 2 ^ (i + 1)) := by unfold Hid; rw [Nat.pow_succ]; grind
    clear hle
    go_wp2_with fail
    refine (Plus_any _ _ _ _ _ _ _ _ _ hd hd (by omega) (by omega)).mono ?_
    rintro e w3 ⟨p3, n3, c3, rfl, hU3, _, hE4⟩
    rw [e2.out] at hU3
    have hn3 : n3 ≤ n + 1 := by have h1 : siz (y * 2 ^ (i + 1)) = n3 := hU3.len; have h2 := hs2.out; rw [e2.out] at h2; omega
    go_wp2_with fail
    go_roundw
    case rel => exact ⟨i + 1, p3, n3, c3, rfl, rfl, by omega, by omega, hU3, hE2.trans (hE4.mono hE2.size)⟩
    case measure => simp [intOf] <;> omega
   ·obtain rfl : i = N := by omega
    go_wp2_with fail
    go_meet
    case rel => exact ⟨pd, nd, cd, rfl, hnd, hd, hE2⟩
 case rest =>
 clear hE
 obtain ⟨pd, nd, cd, rfl, hnd, hd, hE⟩ := hcut
 obtain ⟨i0, hi, hz0, hz1, hz2⟩ := info_parts Tryz.info16
 go_upto_region 14 with fail
 go_cut [11] (fun s11 wx => ∃ (pr : Option Addr) (nr cr : Nat), s11 = .slice pr nr cr ∧ U16 wx pr nr cr (limbs x) ∧ Own w.heap.size wx pr cr ∧ U16 wx pd nd cd (limbs (y * 2 ^ N)) ∧ Ext w wx)
 case first =>
  cases p with
  | none =>
   have h0 : n = 0 := by have := hp.has; unfold Has at this; simpa using this
   have hx0 : limbs x = [] := List.eq_nil_of_length_eq_zero (by rw [hp.len]; exact h0)
   have Hx0 := Lib.hid hx0
   subst h0
   clear hx0
   go_wp2_with fail
   go_meet
   case rel =>
    have ha : Ext wc (wc.alloc (.cells #[] 153)) := (Below.refl _ _).alloc (Nat.le_refl _) _
    refine ⟨_, 0, 0, rfl, ?_, .inl rfl, hd.ext ha, hE.trans (ha.mono hE.size)⟩
    rw [Hx0.out]
    exact ⟨rfl, Nat.le_refl _, by omega, Has.some _ _, Lim.nil, fun j hj => absurd hj (Nat.not_lt_zero _)⟩
  | some ad =>
   have hpc := hp.ext hE
   have hlen : (limbs x).length = n := hp.len
   have hcell := hpc.cell
   have hlt : ∀ j u, (u16s (limbs x))[j]? = some u → (wc.alloc (.cells #[] 153)).cell? (ad.add j) = some u := by
    intro j u hj
    rw [List.getElem?_map, Option.map_eq_some_iff] at hj
    obtain ⟨a, ha, rfl⟩ := hj
    obtain ⟨hjl, ha'⟩ := List.getElem?_eq_some_iff.1 ha
    have hc := hcell j (by omega)
    have e : at_ (some ad) j = ad.add j := by unfold at_; rfl
    rw [e] at hc
    have hd : dig (limbs x) j = a := by unfold dig; rw [List.getD_eq_getElem?_getD, ha]; rfl
    rw [hd] at hc
    exact (((Below.refl wc.heap.size wc).alloc (Nat.le_refl _) (.cells #[] 153)).cell (World.block_lt_of_cell? wc _ hc)).trans hc
   have hown0 : (wc.alloc (.cells #[] 153)).ownsRow wc.heap.size 153 1 (.slice (some ⟨wc.heap.size, 0, none⟩) 0 0) 0 [] := World.ownsRow_made wc _ 0 (Nat.le_refl _) (by unfold maxLen; omega) rfl
   have hsc := hE.size
   go_wp2_with (at_builtin; refine wpList_append_own _ rfl (.tmp 43) (.tmp 44) 36 rfl wc.heap.size 153 i0 (.int .u16 0) 1 2 Tryz.underlying36 hi hz0 hz1 hz2 rfl (by omega) (.slice (some ⟨wc.heap.size, 0, none⟩) 0 0) 0 [] rfl hown0 ad n cp (u16s (limbs x)) rfl (by simp [hlen]) hlt (by intro u hu; obtain ⟨x, _, rfl⟩ := List.mem_map.1 hu; rfl) (by unfold maxLen; omega) (by omega) (by simp) ?_)
   intro v' w' hown hgrow hnil
   have he : Below wc.heap.size wc w' := ((Below.refl _ wc).alloc (Nat.le_refl _) (.cells #[] 153)).grown hgrow (by simp) (fun b hb => by simp [Value.ownBlock] at hb; omega)
   clear hnil hlen
   go_wp2_with fail
   go_meet
   case rel =>
    obtain ⟨p', c', rfl, hU, hO⟩ := U16.of_owns hown (lim_limbs _) (by omega)
    exact ⟨p', _, c', rfl, hU, hO.mono hsc, hd.ext he, hE.trans (he.mono hsc)⟩
 case rest =>
 clear hE hd
 obtain ⟨pr, nr, cr, rfl, hr, hOr, hd, hE⟩ := hcut
 have hrn : nr ≤ n := by have h1 : siz x = nr := hr.len; have := Hsx.out; omega
 have hl1 : limbs 1 = [1] := by rw [limbs_pos (by omega)]; simp [limbs_zero]
 have Hl1 := Lib.hid hl1
 have hst0 : Hid (0 = x / (y * 2 ^ N) ∧ x = x % (y * 2 ^ N)) := ⟨(Nat.div_eq_of_lt hxN.out).symm, (Nat.mod_eq_of_lt hxN.out).symm⟩
 clear hl1
 go_wp2_with fail
 go_loopw [12, 8, 10, 11] (fun v12 v8 v10 v11 wr => ∃ (i : Nat) (pd : Option Addr) (nd cd : Nat) (pq : Option Addr) (nq cq : Nat) (pr : Option Addr) (nr cr : Nat) (Q R : Nat), v12 = .int .i64 (i : Nat) ∧ v8 = .slice pd nd cd ∧ v10 = .slice pq nq cq ∧ v11 = .slice pr nr cr ∧ i ≤ N ∧ nd ≤ 2097152 ∧ nq ≤ 2097152 ∧ nr ≤ 2097152 ∧
  U16 wr pd nd cd (limbs (y * 2 ^ (N - i))) ∧ U16 wr pq nq cq (limbs Q) ∧ U16 wr pr nr cr (limbs R) ∧ Own w.heap.size wr pq cq ∧ Own w.heap.size wr pr cr ∧ Hid (Q = x / (y * 2 ^ (N - i)) ∧ R = x % (y * 2 ^ (N - i))) ∧ Ext w wr) (fun v12 _ _ _ _ => (N - intOf v12).toNat)
 case atStart => exact ⟨0, pd, nd, cd, none, 0, 0, pr, nr, cr, 0, x, rfl, rfl, rfl, rfl, by omega, hnd, by omega, by omega, hd, by rw [limbs_zero]; exact U16.nil _, hr, .inl rfl, hOr, hst0, hE⟩
 case round =>
  clear hd hr hOr hE
  obtain ⟨i, pd, nd, cd, pq, nq, cq', pr, nr, cr, Q, R, rfl, rfl, rfl, rfl, hiN', hnd, hnq, hnr, hd, hQ, hR, hOq, hOr, hst, hE⟩ := hrel
  by_cases hiN : i < N
  ·obtain ⟨D, hD⟩ : ∃ D, D = y * 2 ^ (N - (i + 1)) := ⟨_, rfl⟩
   have hD2 : y * 2 ^ (N - i) = 2 * D := by rw [hD, show N - i = N - (i + 1) + 1 by omega, Nat.pow_succ]; grind
   rw [hD2] at hd hst
   have hDpos : 0 < D := by rw [hD]; exact Nat.mul_pos hy0 (Nat.pow_pos (by omega))
   have hbs := bit_step hDpos hst.out.1 hst.out.2
   have Hbs := Lib.hid hbs
   have HD := Lib.hid hD
   have hDle : Hid (D ≤ x) := by rw [hD]; exact hall.out _ (by omega)
   have hsd2 : siz (2 * D) = nd := hd.len
   have hsQ : siz Q = nq := hQ.len
   have hqx : Hid (Q + Q + 1 ≤ 2 * x + 1) := by
    have h1 := hst.out.1
    have : Q ≤ x := by rw [h1]; exact Nat.div_le_self _ _
    unfold Hid; omega
   have Hs := Lib.hid hsd2
   have HsQ := Lib.hid hsQ
   clear hbs hD hD2 hsd2 hsQ
   have hq2 : Hid (∀ K, K ≤ Q + Q + 1 → siz K ≤ n + 1) := by
    intro K hK
    have h0 := siz_mono (Nat.le_trans hK hqx.out)
    have h1 : siz (2 * x + 1) ≤ n + 1 := by
     have hx := siz_le.1 (Nat.le_of_eq Hsx.out)
     rw [siz_le, Nat.pow_succ]; omega
    omega
   have hDn : Hid (siz D ≤ n) := by have h := siz_mono hDle.out; have := Hsx.out; unfold Hid; omega
   go_wp2_with fail
   refine (Half_any _ _ _ _ _ hd (by omega)).mono ?_
   rintro e w2 ⟨p2, n2, c2, rfl, hU2, _, hE2⟩
   rw [Nat.mul_div_cancel_left D (by omega)] at hU2
   have hn2 : n2 ≤ n := by have h1 : siz D = n2 := hU2.len; have := hDn.out; omega
   have hQ2 := hQ.ext hE2
   have hR2 := hR.ext hE2
   go_wp2_with fail
   refine (Plus_any _ _ _ _ _ _ _ _ _ hQ2 hQ2 (by omega) (by omega)).mono ?_
   rintro e w3 ⟨p3, n3, c3, rfl, hU3, hO3, hE3⟩
   have hn3 : n3 ≤ n + 1 := by have h1 : siz (Q + Q) = n3 := hU3.len; have := hq2.out (Q + Q) (by omega); omega
   have hD3 := hU2.ext hE3
   have hR3 := hR2.ext hE3
   have hs2 : wr.heap.size ≤ w2.heap.size := hE2.size
   have hs3 : w2.heap.size ≤ w3.heap.size := hE3.size
   have hs0 : w.heap.size ≤ wr.heap.size := hE.size
   go_wp2_with fail
   refine (Less_any _ _ _ _ _ _ R D _ hR3 hD3).mono ?_
   rintro e w4 ⟨rfl, hE4⟩
   have hEn : Ext wr w4 := hE2.trans ((hE3.trans (hE4.mono hE3.size)).mono hE2.size)
   have hEw : Ext w w4 := hE.trans (hEn.mono hE.size)
   by_cases hlt : R < D
   ·rw [decide_eq_true hlt]
    have hb := Hbs.out.1 hlt
    have Hb := Lib.hid hb
    have HD' := HD.out
    have Hfin : Hid (Q + Q = x / (y * 2 ^ (N - (i + 1))) ∧ R = x % (y * 2 ^ (N - (i + 1)))) := by rw [← HD']; exact ⟨hb.1.symm, hb.2.symm⟩
    have HDD : Hid (D = y * 2 ^ (N - (i + 1))) := HD
    clear hb hlt HD'
    go_wp2_with fail
    go_roundw
    case rel => exact ⟨i + 1, p2, n2, c2, p3, n3, c3, pr, nr, cr, Q + Q, R, rfl, rfl, rfl, rfl, by omega, by omega, by omega, by omega, by rw [← HDD.out]; exact hD3.ext hE4, hU3.ext hE4, hR3.ext hE4, (hO3.ext hE4).mono (by omega), hOr.ext hEn, Hfin, hEw⟩
    case measure => simp [intOf] <;> omega
   ·rw [decide_eq_false hlt]
    have hb := Hbs.out.2 (by omega)
    have hDR : D ≤ R := by omega
    have HDR := Lib.hid hDR
    have HD' := HD.out
    have Hfin : Hid (Q + Q + 1 = x / (y * 2 ^ (N - (i + 1))) ∧ R - D = x % (y * 2 ^ (N - (i + 1)))) := by rw [← HD']; exact ⟨hb.1.symm, hb.2.symm⟩
    have HDD : Hid (D = y * 2 ^ (N - (i + 1))) := HD
    have hsr4 : w3.heap.size ≤ w4.heap.size := hE4.size
    clear hb hlt HD' hDR
    go_wp2_with fail
    refine (Minus_any _ _ _ _ _ _ R D _ (hR3.ext hE4) (hD3.ext hE4) HDR.out (by omega)).mono ?_
    rintro e w5 ⟨p5, n5, c5, rfl, hU5, hO5, hE5⟩
    have hn5 : n5 ≤ 2097152 := by have h1 : siz (R - D) = n5 := hU5.len; have h2 := siz_mono (Nat.sub_le R D); have h3 : siz R = nr := hR.len; omega
    have hs5 : w4.heap.size ≤ w5.heap.size := hE5.size
    have hQ5 := (hU3.ext hE4).ext hE5
    have hD5 := (hD3.ext hE4).ext hE5
    go_wp2_with fail
    have hRow : Row (w5.alloc (.cells #[.int .u16 1] 153)) w5.heap.size [1] := Row.new w5 [1]
    have hU1 : U16 (w5.alloc (.cells #[.int .u16 1] 153)) (some ⟨w5.heap.size, 0, none⟩) 1 1 (limbs 1) := by rw [Hl1.out]; exact hRow.u16 (Lim.cons.2 ⟨by omega, Lim.nil⟩) (by simp) (by omega) (by omega)
    have hEa : Ext w5 (w5.alloc (.cells #[.int .u16 1] 153)) := (Below.refl _ _).alloc (Nat.le_refl _) _
    refine (Plus_any _ _ _ _ _ _ _ _ _ (hQ5.ext hEa) hU1 (by omega) (by omega)).mono ?_
    rintro e w6 ⟨p6, n6, c6, rfl, hU6, hO6, hE6⟩
    have hn6 : n6 ≤ n + 1 := by have h1 : siz (Q + Q + 1) = n6 := hU6.len; have := hq2.out (Q + Q + 1) (by omega); omega
    have hE56 : Ext w5 w6 := hEa.trans (hE6.mono hEa.size)
    go_wp2_with fail
    go_roundw
    case rel => exact ⟨i + 1, p2, n2, c2, p6, n6, c6, p5, n5, c5, Q + Q + 1, R - D, rfl, rfl, rfl, rfl, by omega, by omega, by omega, by omega, by rw [← HDD.out]; exact hD5.ext hE56, hU6, hU5.ext hE56, hO6.mono (by simp; omega), (hO5.ext hE56).mono (by omega), Hfin, hEw.trans ((hE5.trans (hE56.mono hE5.size)).mono hEw.size)⟩
    case measure => simp [intOf] <;> omega
  ·obtain rfl : i = N := by omega
   have h1 := hst.out.1
   have h2 := hst.out.2
   simp only [Nat.sub_self, Nat.pow_zero, Nat.mul_one] at h1 h2
   have H1 := Lib.hid h1
   have H2 := Lib.hid h2
   clear h1 h2
   go_wp2_with fail
   go_ret2
   exact ⟨⟨_, _, _, _, _, _, rfl, by rw [← H1.out]; exact hQ, by rw [← H2.out]; exact hR, hOq, hOr⟩, hE⟩

theorem Divided_any (p q : Option Addr) (n cp m cq : Nat) (x y : Nat) (w : World) (hp : U16 w p n cp (limbs x)) (hq : U16 w q m cq (limbs y)) (hy : y ≠ 0) (hb : n ≤ 1048576) (hmb : m ≤ 1048576) :
    Calls Tryz.prog 141 #[.slice p n cp, .slice q m cq] w fun e w' => DivR w.heap.size x y e w' ∧ Ext w w' := by
 have hsy : siz y = m := hq.len
 have := siz_pos hy
 rcases Nat.lt_or_ge 1 m with h | h
 ·exact Divided_long p q n cp m cq x y w hp hq h hb hmb
 ·obtain rfl : m = 1 := by omega
  exact Divided_one p q n cp cq x y w hp hq hb

set_option maxRecDepth 100000 in
theorem Common_any (p q : Option Addr) (n cp m cq : Nat) (x y : Nat) (w : World) (hp : U16 w p n cp (limbs x)) (hq : U16 w q m cq (limbs y)) (hb : n ≤ 1048576) (hmb : m ≤ 1048576) :
    Calls Tryz.prog 83 #[.slice p n cp, .slice q m cq] w fun e w' => ∃ p' n' c', e = .returned (.slice p' n' c') ∧ U16 w' p' n' c' (limbs (Nat.gcd x y)) ∧ Ext w w' := by
 go_enter Tryz.func83, Tryz.ntmps83
 go_wp2_with fail
 go_loopg [0, 1] y (fun g s0 s1 wr => ∃ (a : Nat) (p : Option Addr) (n c : Nat) (q : Option Addr) (m d : Nat), s0 = .slice p n c ∧ s1 = .slice q m d ∧ Hid (Nat.gcd a g = Nat.gcd x y) ∧ n ≤ 1048576 ∧ m ≤ 1048576 ∧ U16 wr p n c (limbs a) ∧ U16 wr q m d (limbs g) ∧ Ext w wr)
 case atStart => exact ⟨x, p, n, cp, q, m, cq, rfl, rfl, Lib.hid rfl, hb, hmb, hp, hq, Below.refl _ _⟩
 case round =>
  obtain ⟨a, p, n, c, q, m, d, rfl, rfl, hg, hn, hm, hU, hV, hE⟩ := hrel
  have hsm : Hid (siz gk = m) := hV.len
  rcases Nat.eq_zero_or_pos m with h0 | h0
  ·subst h0
   have hb0 : gk = 0 := siz_eq_zero.1 hsm.out
   have Hb0 := Lib.hid hb0
   clear hb0
   go_wp2_with fail
   go_ret
   have h1 := hg.out
   rw [Hb0.out, Nat.gcd_zero_right] at h1
   exact ⟨p, n, c, rfl, by rw [← h1]; exact hU, hE⟩
  ·have hb0 : gk ≠ 0 := fun h => by have := hsm.out; rw [h, siz_zero] at this; omega
   have Hb0 := Lib.hid hb0
   clear hb0
   go_wp2_with fail
   refine (Divided_any _ _ _ _ _ _ a gk _ hU hV Hb0.out (by omega) (by omega)).mono ?_
   rintro e w5 ⟨⟨q1, k3, c3, q2, k4, c4, rfl, hU3, hU4, hO3, hO4⟩, hE7⟩
   have hmod := Nat.mod_lt a (Nat.pos_of_ne_zero Hb0.out)
   have hk4 : k4 ≤ 1048576 := by
    have h1 : siz (a % gk) = k4 := hU4.len
    have h2 : siz (a % gk) ≤ siz gk := siz_mono (Nat.le_of_lt hmod)
    have h3 := hsm.out
    omega
   have hgc : Hid (Nat.gcd gk (a % gk) = Nat.gcd x y) := by
    unfold Hid
    rw [← hg.out, Nat.gcd_comm a gk, Nat.gcd_rec gk a, Nat.gcd_comm]
   have Hmod := Lib.hid hmod
   clear hmod
   go_wp2_with fail
   go_roundg (a % gk)
   case measure => exact Hmod.out
   case rel => exact ⟨gk, q, m, d, q2, k4, c4, rfl, rfl, hgc, hm, hk4, hV.ext hE7, hU4, hE.trans (hE7.mono hE.size)⟩

theorem Make_any (neg : Bool) (p : Option Addr) (n cap : Nat) (w : World) (hn : n ≤ 70368744177664) :
    Calls Tryz.prog 144 #[.bool neg, .slice p n cap] w fun e w' => e = .returned (.agg #[.bool (neg && decide (0 < n)), .slice p n cap]) ∧ Ext w w' := by
 cases neg
 ·go_enter Tryz.func144, Tryz.ntmps144
  go_wp2
  exact bodyPost_ret (v := .agg #[.bool false, .slice p n cap]) (by simp [results, Tryz.results144, go_sem]) rfl ⟨rfl, (Below.refl _ _).alloc (Nat.le_refl _) _⟩
 ·by_cases h0 : 0 < n
  ·go_enter Tryz.func144, Tryz.ntmps144
   go_wp2
   exact bodyPost_ret (v := .agg #[.bool true, .slice p n cap]) (by simp [results, Tryz.results144, go_sem]) rfl ⟨by simp [h0], (Below.refl _ _).alloc (Nat.le_refl _) _⟩
  ·obtain rfl : n = 0 := by omega
   go_enter Tryz.func144, Tryz.ntmps144
   go_wp2
   exact bodyPost_ret (v := .agg #[.bool false, .slice p 0 cap]) (by simp [results, Tryz.results144, go_sem]) rfl ⟨rfl, (Below.refl _ _).alloc (Nat.le_refl _) _⟩
end Go.Proofs.YtndgaecfeaedeaaGreat
namespace Go.Proofs.YtndgaecfeaedeaaGreat
open Go.RowKit Lex Mth
attribute [local go_sem] run_indexAt_at add_zero_map Oper.semAt_some at_zero

set_option maxRecDepth 100000 in
set_option maxHeartbeats 400000 in
theorem rFromInt_any (n : Int) (w : World) (h1 : -9223372036854775808 ≤ n) (h2 : n ≤ 9223372036854775807) :
    Calls Tryz.prog 124 #[.int .i64 n] w fun e w' => ∃ b p k c, e = .returned (.agg #[.bool b, .slice p k c]) ∧ RW w' (.agg #[.bool b, .slice p k c]) n ∧ Own w.heap.size w' p c ∧ Ext w w' := by
 obtain ⟨u, hu⟩ : ∃ u, u = n.natAbs := ⟨_, rfl⟩
 have hub : u < 18446744073709551616 := by omega
 have hw64 : IntKind.u64.wrap (if n < 0 then -(IntKind.u64.wrap n) else n) = (u : Int) := by
  simp only [IntKind.wrap, IntKind.bits, IntKind.signed]
  split <;> simp <;> omega
 have Hu := Lib.hid hu
 have hs4 : siz u ≤ 4 := by rw [siz_le]; omega
 have Hs4 := Lib.hid hs4
 obtain ⟨i0, hi, hz0, hz1, hz2⟩ := info_parts Tryz.info16
 clear hu hs4
 obtain ⟨W, hW⟩ : ∃ W, w.alloc (.cells #[.bool false, .slice none 0 0] 38) = W := ⟨_, rfl⟩
 have hE : Ext w W := by rw [← hW]; exact (Below.refl _ _).alloc (Nat.le_refl _) _
 have A1 : Cells W w.heap.size 38 #[.bool false, .slice none 0 0] := by rw [← hW]; exact Cells.newAt _ _ rfl
 have hsz : W.heap.size = w.heap.size + 1 := by rw [← hW]; simp
 have Hsz := Lib.hid hsz
 clear hsz
 by_cases hn : n < 0
 ·skip
  rw [if_pos hn] at hw64
  go_enter Tryz.func124, Tryz.ntmps124
  go_wp2_with fail
  go_loopw [3, 4] (fun v3 v4 wr => ∃ (k U : Nat) (out : List Nat), v3 = .int .u64 (U : Nat) ∧ U ≤ u ∧ Hid (out ++ limbs U = limbs u) ∧ out.length = k ∧ wr.ownsRow W.heap.size 153 1 v4 k (u16s out) ∧ Keeps (fun b => W.heap.size ≤ b) W wr) (fun v3 _ _ => (intOf v3).toNat)
  case atStart => exact ⟨0, u, [], rfl, Nat.le_refl _, Lib.hid rfl, rfl, World.ownsRow_nil _ _ _ _, Keeps.refl _ _⟩
  case round =>
   obtain ⟨k, U, out, rfl, hUu, hout, hlen, hown, hkeep⟩ := hrel
   have hk4 : k + siz U ≤ 4 := by
    have := congrArg List.length hout.out
    rw [List.length_append, hlen] at this
    have h2 := Hs4.out
    unfold siz at *
    omega
   have Hlen := Lib.hid hlen
   clear hlen
   rcases Nat.eq_zero_or_pos U with h0 | h0
   ·subst h0
    have ho := hout.out
    rw [limbs_zero, List.append_nil] at ho
    have Ho := Lib.hid ho
    clear ho
    obtain ⟨p', c', rfl, hU, hO⟩ := U16.of_owns hown (by rw [Ho.out]; exact lim_limbs _) (by omega)
    rw [Ho.out] at hU
    have B := A1.keeps hkeep (by have := Hsz.out; omega)
    go_wp2_with fail
    obtain ⟨f, hf⟩ : ∃ f, f = (true && decide (0 < k)) := ⟨_, rfl⟩
    have hR0 := made_RW true hU
    rw [← hf] at hR0
    refine (Make_any true p' k c' _ (by omega)).mono ?_
    rintro e w4 ⟨rfl, hE4⟩
    rw [← hf]
    clear hf
    have B4 := B.ext hE4
    have b0 := B4.cell (k := 0) rfl
    have b1 := B4.cell (k := 1) rfl
    have g0 := B4.frozen 0
    have g1 := B4.frozen 1
    have l1 := B4.lt
    have hs := hE.size
    go_wp2_with fail
    have C := B4.set2 (.bool f) (.slice p' k c')
    have d0 := C.cell (k := 0) rfl
    have d1 := C.cell (k := 1) rfl
    have hR := hR0.ext hE4
    have hsg : sgn true u = n := by have := Hu.out; unfold sgn; simp; omega
    rw [hsg] at hR
    have hEw : Ext w wr := hE.trans ((hkeep.ext fun b hb => hb).mono hs)
    exact bodyPost_ret (v := .agg #[.bool f, .slice p' k c']) (by simp [results, Tryz.results124, go_sem, d0, d1]) rfl
     ⟨_, p', _, c', rfl, hR.set2 B4 ni0 _ _, ((hO.ext hE4).mono hs).cells B4 (by decide) (set2_keeps _ _ _ _), Ext.set2 (hEw.trans (hE4.mono hEw.size)) (Nat.le_refl _) _ _⟩
   ·have hp := limbs_pos (n := U) (by omega)
    have Hp := Lib.hid hp
    have hU0 : (0 : Int) < (U : Int) := by omega
    have hw16 : IntKind.u16.wrap ((U : Int) % 65536) = ((U % 65536 : Nat) : Int) := by simp [IntKind.wrap, IntKind.bits, IntKind.signed]
    have hsU := siz_pos (n := U) (by omega)
    clear hp
    go_wp2_with (at_builtin; refine wpList_append_own _ rfl (.tmp 13) (.tmp 17) 36 rfl W.heap.size 153 i0 (.int .u16 0) 1 2 Tryz.underlying36 hi hz0 hz1 hz2 rfl (by omega) _ k (u16s out) rfl (hown.alloc _) ⟨wr.heap.size, 0, none⟩ 1 1 [.int .u16 ((U % 65536 : Nat) : Int)] rfl rfl ?c1 ?c2 (by unfold maxLen; omega) (by omega) (by have := hkeep.size; simp; omega) ?_)
    case c1 =>
     intro j u hj
     match j, hj with
     | 0, hj => simp at hj; subst hj; simp [Addr.add]
    case c2 => intro u hu; simp at hu; subst hu; rfl
    intro v' w' hown' hgrow hnil
    have hk2 : Keeps (fun b => W.heap.size ≤ b) W w' := (hkeep.alloc _).grown hgrow (fun b hb => (hown.lt b hb).1)
    have hst : Hid ((out ++ [U % 65536]) ++ limbs (U / 65536) = limbs u) := by
     unfold Hid
     rw [← hout.out, Hp.out]; simp
    have hown2 : w'.ownsRow W.heap.size 153 1 v' (k + 1) (u16s (out ++ [U % 65536])) := by rw [u16s, List.map_append]; exact hown'
    have Hown2 := Lib.hid hown2
    clear hnil hgrow hown' hown2
    go_wp2_with fail
    go_roundw
    case rel =>
     exact ⟨k + 1, U / 65536, _, rfl, by omega, hst, by simp [Hlen.out], Hown2.out, hk2⟩
    case measure => simp [intOf] <;> omega
 ·have hnu : n = (u : Int) := by have := Hu.out; omega
  subst hnu
  rw [if_neg hn] at hw64
  go_enter Tryz.func124, Tryz.ntmps124
  go_wp2_with fail
  go_loopw [3, 4] (fun v3 v4 wr => ∃ (k U : Nat) (out : List Nat), v3 = .int .u64 (U : Nat) ∧ U ≤ u ∧ Hid (out ++ limbs U = limbs u) ∧ out.length = k ∧ wr.ownsRow W.heap.size 153 1 v4 k (u16s out) ∧ Keeps (fun b => W.heap.size ≤ b) W wr) (fun v3 _ _ => (intOf v3).toNat)
  case atStart => exact ⟨0, u, [], rfl, Nat.le_refl _, Lib.hid rfl, rfl, World.ownsRow_nil _ _ _ _, Keeps.refl _ _⟩
  case round =>
   obtain ⟨k, U, out, rfl, hUu, hout, hlen, hown, hkeep⟩ := hrel
   have hk4 : k + siz U ≤ 4 := by
    have := congrArg List.length hout.out
    rw [List.length_append, hlen] at this
    have h2 := Hs4.out
    unfold siz at *
    omega
   have Hlen := Lib.hid hlen
   clear hlen
   rcases Nat.eq_zero_or_pos U with h0 | h0
   ·subst h0
    have ho := hout.out
    rw [limbs_zero, List.append_nil] at ho
    have Ho := Lib.hid ho
    clear ho
    obtain ⟨p', c', rfl, hU, hO⟩ := U16.of_owns hown (by rw [Ho.out]; exact lim_limbs _) (by omega)
    rw [Ho.out] at hU
    have B := A1.keeps hkeep (by have := Hsz.out; omega)
    go_wp2_with fail
    obtain ⟨f, hf⟩ : ∃ f, f = (false && decide (0 < k)) := ⟨_, rfl⟩
    have hR0 := made_RW false hU
    rw [← hf] at hR0
    refine (Make_any false p' k c' _ (by omega)).mono ?_
    rintro e w4 ⟨rfl, hE4⟩
    rw [← hf]
    clear hf
    have B4 := B.ext hE4
    have b0 := B4.cell (k := 0) rfl
    have b1 := B4.cell (k := 1) rfl
    have g0 := B4.frozen 0
    have g1 := B4.frozen 1
    have l1 := B4.lt
    have hs := hE.size
    go_wp2_with fail
    have C := B4.set2 (.bool f) (.slice p' k c')
    have d0 := C.cell (k := 0) rfl
    have d1 := C.cell (k := 1) rfl
    have hR := hR0.ext hE4
    have hsg : sgn false u = (u : Int) := by unfold sgn; simp
    rw [hsg] at hR
    have hEw : Ext w wr := hE.trans ((hkeep.ext fun b hb => hb).mono hs)
    exact bodyPost_ret (v := .agg #[.bool f, .slice p' k c']) (by simp [results, Tryz.results124, go_sem, d0, d1]) rfl
     ⟨_, p', _, c', rfl, hR.set2 B4 ni0 _ _, ((hO.ext hE4).mono hs).cells B4 (by decide) (set2_keeps _ _ _ _), Ext.set2 (hEw.trans (hE4.mono hEw.size)) (Nat.le_refl _) _ _⟩
   ·have hp := limbs_pos (n := U) (by omega)
    have Hp := Lib.hid hp
    have hU0 : (0 : Int) < (U : Int) := by omega
    have hw16 : IntKind.u16.wrap ((U : Int) % 65536) = ((U % 65536 : Nat) : Int) := by simp [IntKind.wrap, IntKind.bits, IntKind.signed]
    have hsU := siz_pos (n := U) (by omega)
    clear hp
    go_wp2_with (at_builtin; refine wpList_append_own _ rfl (.tmp 13) (.tmp 17) 36 rfl W.heap.size 153 i0 (.int .u16 0) 1 2 Tryz.underlying36 hi hz0 hz1 hz2 rfl (by omega) _ k (u16s out) rfl (hown.alloc _) ⟨wr.heap.size, 0, none⟩ 1 1 [.int .u16 ((U % 65536 : Nat) : Int)] rfl rfl ?c1 ?c2 (by unfold maxLen; omega) (by omega) (by have := hkeep.size; simp; omega) ?_)
    case c1 =>
     intro j u hj
     match j, hj with
     | 0, hj => simp at hj; subst hj; simp [Addr.add]
    case c2 => intro u hu; simp at hu; subst hu; rfl
    intro v' w' hown' hgrow hnil
    have hk2 : Keeps (fun b => W.heap.size ≤ b) W w' := (hkeep.alloc _).grown hgrow (fun b hb => (hown.lt b hb).1)
    have hst : Hid ((out ++ [U % 65536]) ++ limbs (U / 65536) = limbs u) := by
     unfold Hid
     rw [← hout.out, Hp.out]; simp
    have hown2 : w'.ownsRow W.heap.size 153 1 v' (k + 1) (u16s (out ++ [U % 65536])) := by rw [u16s, List.map_append]; exact hown'
    have Hown2 := Lib.hid hown2
    clear hnil hgrow hown' hown2
    go_wp2_with fail
    go_roundw
    case rel =>
     exact ⟨k + 1, U / 65536, _, rfl, by omega, hst, by simp [Hlen.out], Hown2.out, hk2⟩
    case measure => simp [intOf] <;> omega
end Go.Proofs.YtndgaecfeaedeaaGreat
namespace Go.Proofs.YtndgaecfeaedeaaGreat
open Go.RowKit Lex Mth
attribute [local go_sem] run_indexAt_at add_zero_map Oper.semAt_some at_zero

set_option maxRecDepth 100000 in
set_option maxHeartbeats 1000000 in
theorem rSame_any (n1 n2 : Bool) (p1 p2 : Option Addr) (k1 c1 k2 c2 : Nat) (l1 l2 : List Nat) (w : World) (h1 : U16 w p1 k1 c1 l1) (h2 : U16 w p2 k2 c2 l2) :
    Calls Tryz.prog 87 #[.agg #[.bool n1, .slice p1 k1 c1], .agg #[.bool n2, .slice p2 k2 c2]] w fun e w' => e = .returned (.bool ((n1 == n2) && decide (l1 = l2))) ∧ Ext w w' := by
 obtain ⟨W, hW⟩ : ∃ W, (w.alloc (.cells #[.bool n1, .slice p1 k1 c1] 38)).alloc (.cells #[.bool n2, .slice p2 k2 c2] 38) = W := ⟨_, rfl⟩
 have hE : Ext w W := by rw [← hW]; exact ((Below.refl _ _).alloc (Nat.le_refl _) _).alloc (by simp) _
 have A1 : Cells W w.heap.size 38 #[.bool n1, .slice p1 k1 c1] := by rw [← hW]; exact (Cells.newAt _ _ rfl).alloc _
 have A2 : Cells W (w.heap.size + 1) 38 #[.bool n2, .slice p2 k2 c2] := by rw [← hW]; exact Cells.newAt _ _ (by simp)
 have hhp := h1.has
 have hhq := h2.has
 have hr1 := h1.reach
 have hr2 := h2.reach
 have hl1 := h1.len
 have hl2 := h2.len
 have a10 := A1.cell (k := 0) rfl
 have a11 := A1.cell (k := 1) rfl
 have a20 := A2.cell (k := 0) rfl
 have a21 := A2.cell (k := 1) rfl
 by_cases hn : n1 = n2
 ·by_cases hk : k1 = k2
  ·subst hn
   subst hk
   have Hl1 := Lib.hid hl1
   have Hl2 := Lib.hid hl2
   have hkk : ((k1 : Int) != (k1 : Int)) = false := by simp
   clear hl1 hl2
   go_enter Tryz.func87, Tryz.ntmps87
   go_wp2_with fail
   clear hW
   go_loopw [5] (fun v wr => ∃ k : Nat, v = .int .i64 (k : Nat) ∧ k ≤ k1 ∧ Hid (∀ j, j < k → dig l1 j = dig l2 j) ∧ Ext W wr) (fun v _ => (k1 - intOf v).toNat)
   case atStart => exact ⟨0, rfl, by omega, Lib.hid (fun j hj => absurd hj (Nat.not_lt_zero _)), Below.refl _ _⟩
   case round =>
    obtain ⟨k, rfl, hk, hall, hE2⟩ := hrel
    have B1 := A1.ext hE2
    have B2 := A2.ext hE2
    have b11 := B1.cell (k := 1) rfl
    have m1 := B1.lt
    have m2 := B2.lt
    have hEw : Ext w wr := hE.trans (hE2.mono hE.size)
    by_cases hkn : k < k1
    ·have b21 := B2.cell (k := 1) rfl
     have e1 : ∀ w1, Ext wr w1 → w1.cell? (at_ p1 k) = some (.int .u16 (dig l1 k : Nat)) := fun w1 hI => ((h1.ext hEw).ext hI).cell k hkn
     have e2 : ∀ w1, Ext wr w1 → w1.cell? (at_ p2 k) = some (.int .u16 (dig l2 k : Nat)) := fun w1 hI => ((h2.ext hEw).ext hI).cell k hkn
     have E1 := Lib.hid e1
     have E2 := Lib.hid e2
     clear e1 e2
     go_wp2_with fail
     refine Lex.regionE 11 (fun _ => false) (fun _ _ => True) (fun _ _ _ => True) (by kernel_rfl) (by kernel_rfl) (fun _ _ _ _ h _ => h) ?_
     iterate 4
      refine Walk.one (x := ?_) rfl rfl (fun w1 hI hL K hK => ?_) ?_
      rotate_left
      ·obtain ⟨hc, hf⟩ := bcell hI
       go_simp
       repeat (first | (go_ints; try go_simp) | (simp only [↓IntWalk.iteOmega]; try go_simp))
       exact hK
      simp only [Pq1]
     refine Walk.one (x := ?_) rfl rfl (fun w1 hI hL K hK => ?_) ?_
     rotate_left
     ·have c := E1.out w1 hI
      go_simp
      repeat (first | (go_ints; try go_simp) | (simp only [↓IntWalk.iteOmega]; try go_simp))
      exact hK
     simp only [Pq1]
     iterate 4
      refine Walk.one (x := ?_) rfl rfl (fun w1 hI hL K hK => ?_) ?_
      rotate_left
      ·obtain ⟨hc, hf⟩ := bcell hI
       go_simp
       repeat (first | (go_ints; try go_simp) | (simp only [↓IntWalk.iteOmega]; try go_simp))
       exact hK
      simp only [Pq1]
     refine Walk.one (x := ?_) rfl rfl (fun w1 hI hL K hK => ?_) ?_
     rotate_left
     ·have c := E2.out w1 hI
      go_simp
      repeat (first | (go_ints; try go_simp) | (simp only [↓IntWalk.iteOmega]; try go_simp))
      exact hK
     simp only [Pq1]
     refine Walk.one (x := ?_) rfl rfl (fun w1 hI hL K hK => ?_) ?_
     rotate_left
     ·go_simp
      repeat (first | (go_ints; try go_simp) | (simp only [↓IntWalk.iteOmega]; try go_simp))
      exact hK
     simp only [Pq1]
     refine Walk.nil fun w3 hI3 _ => ?_
     simp only [List.drop_succ_cons, List.drop_nil]
     have hE3 : Ext W w3 := hE2.trans (hI3.mono hE2.size)
     by_cases hd : dig l1 k = dig l2 k
     ·have hd' : (((dig l1 k : Nat) : Int) != ((dig l2 k : Nat) : Int)) = false := by simp [hd]
      have Hd := Lib.hid hd
      clear hd
      go_wp2_with fail
      go_roundw
      case rel => exact ⟨k + 1, rfl, by omega, Lib.hid (fun j hj => (Nat.lt_or_eq_of_le (Nat.le_of_lt_succ hj)).elim (hall.out j) (fun e => e ▸ Hd.out)), hE3⟩
      case measure => simp [intOf]; omega
     ·have hd' : (((dig l1 k : Nat) : Int) != ((dig l2 k : Nat) : Int)) = true := by rw [bne_iff_ne]; omega
      have Hd := Lib.hid hd
      clear hd
      go_wp2_with fail
      go_ret
      have : ¬ l1 = l2 := fun e => Hd.out (by rw [e])
      exact ⟨by simp [this], hE.trans (hE3.mono hE.size)⟩
    ·obtain rfl : k = k1 := by omega
     go_wp2_with fail
     go_ret
     have : l1 = l2 := eq_of_dig (by rw [Hl1.out, Hl2.out]) (by rw [Hl1.out]; exact hall.out)
     exact ⟨by simp [this], hEw⟩
  ·have hne : ((k1 : Int) != (k2 : Int)) = true := by rw [bne_iff_ne]; omega
   have hll : ¬ l1 = l2 := fun e => hk (by rw [← hl1, ← hl2, e])
   have Hll := Lib.hid hll
   subst hn
   clear hll hl1 hl2
   go_enter Tryz.func87, Tryz.ntmps87
   go_wp2_with fail
   go_ret
   exact ⟨by simp [Hll.out], hE⟩
 ·have hnb : (n1 != n2) = true := by rw [bne_iff_ne]; exact hn
  have hnb' : (n1 == n2) = false := by simpa using hn
  go_enter Tryz.func87, Tryz.ntmps87
  go_wp2_with fail
  go_ret
  exact ⟨by simp [hnb'], hE⟩
end Go.Proofs.YtndgaecfeaedeaaGreat
