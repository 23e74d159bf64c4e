/- A law on a region of code whose order of evaluation is open: each of its operations is shown once, in the order of the text, and the region is shown for every order. No condition: a law on the calculus of walks. -/
import Derived.WalkKit
import Derived.StillTail
import Derived.OrdersIn
import Derived.TacticsIn
set_option linter.unusedSimpArgs false
set_option linter.unusedVariables false
namespace Go.Proofs.YtndgaecfeaedeaaGreat.Lex
open Go.RowKit

/-- The world w' is w with new blocks: nothing that was there has turned. -/
abbrev Ext (w w' : World) : Prop := Below w.heap.size w w'

/-- What an operation that is carried out comes to: a value and a world. -/
def Eff (P : Program) (o : Oper) (a : Act) (w : World) (R : Value → World → Prop) : Prop :=
 match (execOp a.eval o).run P w with
 | .ok (.value v) w' => R v w'
 | .ok .skip w' => ∃ v, (v = undef ∨ o.dst = none) ∧ R v w'
 | .ok (.enter f args) w' => Calls P f args w' fun e w'' => ∃ v, e = .returned v ∧ R v w''
 | _ => False

theorem Eff.mono {P : Program} {o : Oper} {a : Act} {w : World} {R R' : Value → World → Prop} (h : Eff P o a w R) (hr : ∀ v w', R v w' → R' v w') : Eff P o a w R' := by
 unfold Eff at *
 split <;> rename_i heq <;> simp only [heq] at h
 ·exact hr _ _ h
 ·obtain ⟨v, h1, h2⟩ := h; exact ⟨v, h1, hr _ _ h2⟩
 ·exact h.mono fun e w' ⟨v, he, hv⟩ => ⟨v, he, hr _ _ hv⟩

/-- Which operations come before number i, by the edges that bind, one behind the other. -/
def predF (ops : Array Oper) : Nat → Nat → Nat → Bool
 | 0, _, _ => false
 | f + 1, i, j => match ops[i]? with
  | none => false
  | some o => o.after.any fun e => Region.binds .any e && (e.on == j || predF ops f e.on j)
def pred (ops : Array Oper) (i j : Nat) : Bool := predF ops ops.size i j

section
variable {P : Program} {ops : Array Oper} {R : Nat → Bool} {S : Nat → Value → Prop} {A : Nat → Value → World → Prop} {I : World → Prop} {Ch : Nat → Value → World → World → Prop} {X : Nat → Value → Nat → Value → Prop} {U : Nat → World → Prop} {Fin : Act → World → Prop}

/-- What is known of the told ones of which D holds: each one's fact, and how any two stand to each other. -/
def Kn (A : Nat → Value → World → Prop) (X : Nat → Value → Nat → Value → Prop) (D : Nat → Bool) (L : List (Nat × Value)) (w : World) : Prop :=
 (∀ p ∈ L, D p.1 = true → A p.1 p.2 w) ∧ (∀ p ∈ L, ∀ q ∈ L, D p.1 = true → D q.1 = true → p.1 ≠ q.1 → X p.1 p.2 q.1 q.2)
/-- How a told one stands to those that come before it. -/
def Xs (X : Nat → Value → Nat → Value → Prop) (D : Nat → Bool) (L : List (Nat × Value)) (k : Nat) (v : Value) : Prop := ∀ p ∈ L, D p.1 = true → X p.1 p.2 k v ∧ X k v p.1 p.2

/-- Each operation once, in the order of the text. R k: number k is told by what it gives (S: of the value alone; A: of the world too: a call, an alloc; Ch: how it changes the world; X: how any two stand to each other); else it yields one value and leaves the world as it is. -/
def Walk (P : Program) (ops : Array Oper) (R : Nat → Bool) (S : Nat → Value → Prop) (A : Nat → Value → World → Prop) (I : World → Prop) (Ch : Nat → Value → World → World → Prop) (X : Nat → Value → Nat → Value → Prop) (U : Nat → World → Prop) (Fin : Act → World → Prop) :
    List (Nat × Value) → Nat → List Oper → Act → Prop
 | L, _, [], a => ∀ w, I w → Kn A X (fun _ => true) L w → Fin a w
 | L, k, o :: rest, a => if R k = true then
     (∃ v, S k v) ∧
     (∀ w, I w → U k w → Kn A X (pred ops k) L w →
      if Region.wanted o (yielded ops a.tmps) then Eff P o a w (fun v w' => S k v ∧ A k v w' ∧ I w' ∧ Ch k v w w' ∧ Xs X (pred ops k) L k v) else S k undef ∧ A k undef w ∧ Ch k undef w w ∧ Xs X (pred ops k) L k undef) ∧
     (∀ v, S k v → Walk P ops R S A I Ch X U Fin ((k, v) :: L) (k + 1) rest (a.put o.dst v))
  else ∃ x,
   (∀ w, I w → Kn A X (pred ops k) L w →
    if Region.wanted o (yielded ops a.tmps) then (execOp a.eval o).run P w = .ok (.value x) w else x = undef) ∧
   Walk P ops R S A I Ch X U Fin L (k + 1) rest (a.put o.dst x)

/-- The state in the lexical order, the operations' values being given. -/
def putAll (ops : Array Oper) (vs : Nat → Value) : Nat → Act → Act
 | 0, a => a
 | k + 1, a => (putAll ops vs k a).put ((ops[k]?).bind (·.dst)) (vs k)

def listOf (R : Nat → Bool) (vs : Nat → Value) : Nat → List (Nat × Value)
 | 0 => []
 | k + 1 => if R k = true then (k, vs k) :: listOf R vs k else listOf R vs k

theorem mem_listOf {vs : Nat → Value} : ∀ {k : Nat} {p : Nat × Value}, p ∈ listOf R vs k ↔ p.1 < k ∧ R p.1 = true ∧ p.2 = vs p.1
 | 0, p => by simp [listOf]
 | k + 1, p => by
  obtain ⟨i, v⟩ := p
  simp only [listOf]
  split
  ·rename_i hR
   simp only [List.mem_cons, Prod.mk.injEq, mem_listOf]
   constructor
   ·rintro (⟨rfl, rfl⟩ | ⟨h, h2, h3⟩)
    ·exact ⟨by omega, hR, rfl⟩
    ·exact ⟨by omega, h2, h3⟩
   ·rintro ⟨h, h2, rfl⟩
    by_cases he : i = k
    ·subst he; exact .inl ⟨rfl, rfl⟩
    ·exact .inr ⟨by omega, h2, rfl⟩
  ·rename_i hR
   rw [mem_listOf]
   constructor
   ·rintro ⟨h, h2⟩; exact ⟨by omega, h2⟩
   ·rintro ⟨h, h2, h3⟩
    refine ⟨?_, h2, h3⟩
    have : i ≠ k := fun e => hR (by rw [← e]; exact h2)
    have h' : i < k + 1 := h
    show i < k
    omega

/-- A choice of values that fits the walk: what it shows at each operation and at the end. -/
structure Good (P : Program) (ops : Array Oper) (R : Nat → Bool) (S : Nat → Value → Prop) (A : Nat → Value → World → Prop) (I : World → Prop) (Ch : Nat → Value → World → World → Prop) (X : Nat → Value → Nat → Value → Prop) (U : Nat → World → Prop) (Fin : Act → World → Prop) (N : Nat) (a0 : Act) (vs : Nat → Value) (n : Nat) : Prop where
 rel : ∀ k, k < n → R k = true → S k (vs k)
 walk : ∀ k, k ≤ n → Walk P ops R S A I Ch X U Fin (listOf R vs k) k ((ops.toList.take N).drop k) (putAll ops vs k a0)
 one : ∀ k o, k < n → R k = false → ops[k]? = some o → ∀ w, I w → Kn A X (pred ops k) (listOf R vs k) w →
  if Region.wanted o (yielded ops (putAll ops vs k a0).tmps) then (execOp (putAll ops vs k a0).eval o).run P w = .ok (.value (vs k)) w else vs k = undef

theorem putAll_congr {vs vs' : Nat → Value} (a : Act) : ∀ k, (∀ j, j < k → vs j = vs' j) → putAll ops vs k a = putAll ops vs' k a
 | 0, _ => rfl
 | k + 1, h => by simp only [putAll]; rw [putAll_congr a k (fun j hj => h j (by omega)), h k (by omega)]
theorem listOf_congr {vs vs' : Nat → Value} : ∀ k, (∀ j, j < k → vs j = vs' j) → listOf R vs k = listOf R vs' k
 | 0, _ => rfl
 | k + 1, h => by simp only [listOf]; rw [listOf_congr k (fun j hj => h j (by omega)), h k (by omega)]

/-- The told ones' values may be chosen; the others follow. -/
theorem Good.exists {N : Nat} {a0 : Act} (us : Nat → Value) (hus : ∀ k, k < N → R k = true → S k (us k)) (hN : N ≤ ops.size)
    (h : Walk P ops R S A I Ch X U Fin [] 0 (ops.toList.take N) a0) : ∀ n, n ≤ N → ∃ vs, Good P ops R S A I Ch X U Fin N a0 vs n ∧ ∀ k, k < n → R k = true → vs k = us k
 | 0, _ => ⟨us, ⟨fun _ h => absurd h (Nat.not_lt_zero _), fun k hk => by
     obtain rfl : k = 0 := by omega
     simpa [listOf, putAll] using h, fun _ _ h => absurd h (Nat.not_lt_zero _)⟩, fun _ h => absurd h (Nat.not_lt_zero _)⟩
 | n + 1, hn => by
  obtain ⟨vs, g, hu⟩ := Good.exists us hus hN h n (by omega)
  have hat := g.walk n (Nat.le_refl _)
  have hlt : n < (ops.toList.take N).length := by simp; omega
  rw [List.drop_eq_getElem_cons hlt] at hat
  have ho : ops[n]? = some ((ops.toList.take N)[n]) := by
   simp only [List.getElem_take, Array.getElem_toList]
   exact Array.getElem?_eq_getElem (by omega)
  -- the next value
  have key : ∃ x, (R n = true → x = us n) ∧ (R n = true → S n x) ∧
      (R n = false → ∀ w, I w → Kn A X (pred ops n) (listOf R vs n) w →
       if Region.wanted ((ops.toList.take N)[n]) (yielded ops (putAll ops vs n a0).tmps) then (execOp (putAll ops vs n a0).eval ((ops.toList.take N)[n])).run P w = .ok (.value x) w else x = undef) ∧
      Walk P ops R S A I Ch X U Fin (if R n = true then (n, x) :: listOf R vs n else listOf R vs n) (n + 1) ((ops.toList.take N).drop (n + 1)) ((putAll ops vs n a0).put ((ops.toList.take N)[n]).dst x) := by
   unfold Walk at hat
   by_cases hR : R n = true
   ·rw [if_pos hR] at hat
    exact ⟨us n, fun _ => rfl, fun _ => hus n (by omega) hR, fun h => absurd hR (by simp [h]), by rw [if_pos hR]; exact hat.2.2 (us n) (hus n (by omega) hR)⟩
   ·rw [if_neg hR] at hat
    obtain ⟨x, h1, h2⟩ := hat
    exact ⟨x, fun h => absurd h hR, fun h => absurd h hR, fun _ => h1, by rw [if_neg hR]; exact h2⟩
  obtain ⟨x, hx1, hx2, hx3, hx4⟩ := key
  let vs' : Nat → Value := fun k => if k = n then x else vs k
  have hsame : ∀ j, j < n → vs' j = vs j := fun j hj => if_neg (by omega)
  have hn' : vs' n = x := if_pos rfl
  refine ⟨vs', ⟨?_, ?_, ?_⟩, ?_⟩
  ·intro k hk hR
   by_cases hkn : k = n
   ·subst hkn; rw [hn']; exact hx2 hR
   ·rw [hsame k (by omega)]; exact g.rel k (by omega) hR
  ·intro k hk
   by_cases hkn : k = n + 1
   ·subst hkn
    simp only [listOf, putAll, hn', ho, Option.bind_some]
    rw [listOf_congr n hsame, putAll_congr a0 n hsame]
    exact hx4
   ·rw [listOf_congr k (fun j hj => hsame j (by omega)), putAll_congr a0 k (fun j hj => hsame j (by omega))]
    exact g.walk k (by omega)
  ·intro k o hk hR hok w hI hL
   by_cases hkn : k = n
   ·subst hkn
    rw [listOf_congr k hsame] at hL
    rw [putAll_congr a0 k hsame, hn']
    have e : o = (ops.toList.take N)[k] := Option.some.inj (hok.symm.trans ho)
    rw [e]
    exact hx3 hR w hI hL
   ·rw [listOf_congr k (fun j hj => hsame j (by omega))] at hL
    rw [putAll_congr a0 k (fun j hj => hsame j (by omega)), hsame k (by omega)]
    exact g.one k o (by omega) hR hok w hI hL
  ·intro k hk hR
   by_cases hkn : k = n
   ·subst hkn; rw [hn']; exact hx1 hR
   ·rw [hsame k (by omega)]; exact hu k (by omega) hR

/-- The checks, by the kernel: the heads are all but the last; whoever looks at a slot that an operation writes comes behind it; distinct slots, all of them in the frame; no select. -/
def looksOk (ops : Array Oper) (N : Nat) : Bool :=
 (List.range N).all fun i => match ops[i]? with
  | none => false
  | some o =>
   (o.after.all fun e => !Region.binds .any e || decide (e.on < i)) &&
   (List.range N).all fun j => match (ops[j]?).bind (·.dst) with
    | none => true
    | some d => (j == i || (o.dst != some d)) && (!(o.looksAt ops).contains d || (decide (j < i) && pred ops i j))
def dstsOk (ops : Array Oper) (N size : Nat) : Bool :=
 (List.range N).all fun i => match (ops[i]?).bind (·.dst) with
  | none => true
  | some d => decide (d < size)
def headB (ops : Array Oper) (N size : Nat) : Bool :=
 Region.noSelect ops && decide (N ≤ ops.size) && looksOk ops N && dstsOk ops N size &&
 (decide (N = ops.size) || (decide (N < ops.size) && Region.sinkB .any ops N && Region.chainB .any ops N)) &&
 Region.seqB .any ops (ops.size - N) N (Array.replicate N true ++ Array.replicate (ops.size - N) false)

/-- Whatever order is picked, whatever the calculus. -/
def AnyG (ops : Array Oper) (step : Nat → (Act → World → Prop) → Act → World → Prop) (Qn : Act → World → Prop) : Nat → Array Bool → Act → World → Prop
 | 0, listed, a, w => Region.ready .any ops listed = [] ∧ Qn a w
 | fuel + 1, listed, a, w =>
  (Region.ready .any ops listed = [] → Qn a w) ∧
  ∀ i ∈ Region.ready .any ops listed, step i (AnyG ops step Qn fuel (listed.setIfInBounds i true)) a w

/-- The state in the middle of a region. -/
structure Mid (P : Program) (ops : Array Oper) (R : Nat → Bool) (S : Nat → Value → Prop) (A : Nat → Value → World → Prop) (I : World → Prop) (Ch : Nat → Value → World → World → Prop) (X : Nat → Value → Nat → Value → Prop) (U : Nat → World → Prop) (Fin : Act → World → Prop) (N : Nat) (a0 : Act) (listed : Array Bool) (a : Act) (w : World) : Prop where
 inv : HeadInv .any ops N listed
 defers : a.defers = a0.defers
 size : a.tmps.size = a0.tmps.size
 rest : ∀ s, (∀ j, j < N → (ops[j]?).bind (·.dst) ≠ some s) → a.tmps[s]? = a0.tmps[s]?
 val : ∃ vs, Good P ops R S A I Ch X U Fin N a0 vs N ∧ ∀ j, j < N → listed.getD j false = true → (R j = true → A j (vs j) w ∧ ∀ k, k < N → k ≠ j → R k = true → listed.getD k false = true → X j (vs j) k (vs k)) ∧ ∀ d, (ops[j]?).bind (·.dst) = some d → a.tmps[d]? = some (vs j)
 world : I w
 bef : ∀ j, j < N → R j = true → listed.getD j false = false → U j w

theorem getD_eq_of {x y : Array Value} {t : Nat} (h : x[t]? = y[t]?) : x.getD t undef = y.getD t undef := by
 simp [Array.getD_eq_getD_getElem?, h]

theorem putAll_size (vs : Nat → Value) (a : Act) : ∀ k, (putAll ops vs k a).tmps.size = a.tmps.size
 | 0 => rfl
 | k + 1 => by
  simp only [putAll]
  unfold Act.put
  split
  ·simp [putAll_size vs a k]
  ·exact putAll_size vs a k
theorem putAll_defers (vs : Nat → Value) (a : Act) : ∀ k, (putAll ops vs k a).defers = a.defers
 | 0 => rfl
 | k + 1 => by
  simp only [putAll]
  unfold Act.put
  split
  ·exact putAll_defers vs a k
  ·exact putAll_defers vs a k
theorem putAll_other (vs : Nat → Value) (a : Act) (s : Nat) : ∀ k, (∀ j, j < k → (ops[j]?).bind (·.dst) ≠ some s) → (putAll ops vs k a).tmps[s]? = a.tmps[s]?
 | 0, _ => rfl
 | k + 1, h => by
  have ih := putAll_other vs a s k (fun j hj => h j (by omega))
  have hk := h k (by omega)
  simp only [putAll]
  unfold Act.put
  split
  ·rename_i d hd
   have hne : d ≠ s := fun e => hk (by rw [hd, e])
   simp [Array.getElem?_setIfInBounds_ne hne, ih]
  ·exact ih
theorem putAll_own (vs : Nat → Value) (a : Act) (s j : Nat) (hs : s < a.tmps.size) (hd : (ops[j]?).bind (·.dst) = some s) :
    ∀ k, j < k → (∀ j', j' < k → j' ≠ j → (ops[j']?).bind (·.dst) ≠ some s) → (putAll ops vs k a).tmps[s]? = some (vs j)
 | 0, hk, _ => by omega
 | k + 1, hk, h => by
  simp only [putAll]
  by_cases hjk : j = k
  ·subst hjk
   rw [hd]
   simp only [Act.put]
   rw [Array.getElem?_setIfInBounds_self_of_lt (by rw [putAll_size]; exact hs)]
  ·have ih := putAll_own vs a s j hs hd k (by omega) (fun j' hj' => h j' (by omega))
   have hkk := h k (by omega) (Ne.symm hjk)
   unfold Act.put
   split
   ·rename_i d hd'
    have hne : d ≠ s := fun e => hkk (by rw [hd', e])
    simp [Array.getElem?_setIfInBounds_ne hne, ih]
   ·exact ih

theorem predF_listed {listed : Array Bool} {N : Nat} (inv : HeadInv .any ops N listed) : ∀ (f i j : Nat),
    (∀ o, ops[i]? = some o → ∀ e ∈ o.after, Region.binds .any e = true → listed.getD e.on false = true) → predF ops f i j = true → listed.getD j false = true
 | 0, _, _, _, h => by simp [predF] at h
 | f + 1, i, j, hi, h => by
  simp only [predF] at h
  split at h
  ·cases h
  ·rename_i o ho
   obtain ⟨e, he, hb⟩ := Array.any_eq_true'.1 h
   simp only [Bool.and_eq_true, Bool.or_eq_true, beq_iff_eq] at hb
   have h1 := hi o ho e he hb.1
   rcases hb.2 with rfl | h2
   ·exact h1
   ·exact predF_listed inv f e.on j (fun o' ho' e' he' hb' => inv.closed e.on o' ho' h1 e' he' hb') h2

theorem wanted_congr (o : Oper) {t t' : Array Value} (h : ∀ g want d, o.guard = some (g, want) → (ops[g]?).bind (·.dst) = some d → t[d]? = t'[d]?) :
    Region.wanted o (yielded ops t) = Region.wanted o (yielded ops t') := by
 unfold Region.wanted
 cases hg : o.guard with
 | none => rfl
 | some gw =>
  obtain ⟨g, want⟩ := gw
  have : yielded ops t g = yielded ops t' g := by
   unfold yielded
   cases hd : (ops[g]?).bind (·.dst) with
   | none => rfl
   | some d => simp [h g want d hg hd]
  simp only [this]

theorem guard_looked {o : Oper} {g d : Nat} {want : Bool} (hg : o.guard = some (g, want)) (hd : (ops[g]?).bind (·.dst) = some d) : d ∈ o.looksAt ops := by
 simp [Oper.looksAt, hg, hd]

variable {N : Nat} {a0 : Act}

/-- What a number's operation looks at is written by those before it (or by none). -/
theorem looked (hlook : looksOk ops N = true) (hdst : dstsOk ops N a0.tmps.size = true) {i : Nat} {o : Oper} (ho : ops[i]? = some o) (hin : i < N) (vs : Nat → Value) (t : Nat) (ht : t ∈ o.looksAt ops) :
    (∃ j, j < i ∧ pred ops i j = true ∧ (ops[j]?).bind (·.dst) = some t ∧ (putAll ops vs i a0).tmps[t]? = some (vs j)) ∨ ((∀ j, j < N → (ops[j]?).bind (·.dst) ≠ some t) ∧ (putAll ops vs i a0).tmps[t]? = a0.tmps[t]?) := by
 have hlk := List.all_eq_true.1 hlook i (List.mem_range.2 hin)
 simp only [ho, Bool.and_eq_true] at hlk
 by_cases hex : ∃ j, j < N ∧ (ops[j]?).bind (·.dst) = some t
 ·obtain ⟨j, hj, hd⟩ := hex
  have h2 := List.all_eq_true.1 hlk.2 j (List.mem_range.2 hj)
  simp only [hd, Bool.and_eq_true, Bool.or_eq_true, Bool.not_eq_true', List.contains_eq_mem] at h2
  have hpj : j < i ∧ pred ops i j = true := by
   rcases h2.2 with h3 | h3
   ·simp [ht] at h3
   ·exact ⟨by simpa using h3.1, h3.2⟩
  have hts : t < a0.tmps.size := by
   have h4 := List.all_eq_true.1 hdst j (List.mem_range.2 hj)
   simpa [hd] using h4
  refine .inl ⟨j, hpj.1, hpj.2, hd, putAll_own vs a0 t j hts hd i hpj.1 fun j' hj' hne hd' => ?_⟩
  have h5 := List.all_eq_true.1 hlook j' (List.mem_range.2 (by omega))
  cases hoj : ops[j']? with
  | none => simp [hoj] at h5
  | some oj =>
   simp only [hoj, Bool.and_eq_true] at h5
   have h6 := List.all_eq_true.1 h5.2 j (List.mem_range.2 hj)
   simp only [hd, Bool.and_eq_true, Bool.or_eq_true, beq_iff_eq, bne_iff_ne, ne_eq] at h6
   rw [hoj] at hd'
   rcases h6.1 with h7 | h7
   ·exact hne h7.symm
   ·exact h7 (by simpa using hd')
 ·have hno : ∀ j, j < N → (ops[j]?).bind (·.dst) ≠ some t := fun j hj hd => hex ⟨j, hj, hd⟩
  exact .inr ⟨hno, putAll_other vs a0 t i (fun j hj => hno j (by omega))⟩

theorem execOp_slots {o : Oper} (hs : ∀ cs b, o.op ≠ .select cs b) {a a' : Act} (h : ∀ t, t ∈ o.looksAt ops → a.tmps[t]? = a'.tmps[t]?) : execOp a.eval o = execOp a'.eval o := by
 refine execOp_congr o hs fun x hx => ?_
 cases x with
 | tmp t =>
  simp only [Act.eval]
  exact getD_eq_of (h t (List.mem_append_left _ (List.mem_filterMap.2 ⟨.tmp t, by simpa using hx, rfl⟩)))
 | const _ => rfl
 | global _ => rfl
 | func _ => rfl
theorem wanted_slots {o : Oper} {a a' : Act} (h : ∀ t, t ∈ o.looksAt ops → a.tmps[t]? = a'.tmps[t]?) : Region.wanted o (yielded ops a.tmps) = Region.wanted o (yielded ops a'.tmps) :=
 wanted_congr o fun _ _ d hg hd => h d (guard_looked hg hd)

/-- Two choices that agree on the told ones that have come up agree on all that have come up. -/
theorem Good.agree {listed : Array Bool} {w : World} {vs vs' : Nat → Value} (hns : Region.noSelect ops = true) (hlook : looksOk ops N = true) (hdst : dstsOk ops N a0.tmps.size = true) (hNle : N ≤ ops.size)
    (inv : HeadInv .any ops N listed) (hI : I w)
    (g : Good P ops R S A I Ch X U Fin N a0 vs N) (g' : Good P ops R S A I Ch X U Fin N a0 vs' N) (hfact : ∀ j, j < N → listed.getD j false = true → R j = true → A j (vs j) w ∧ ∀ k, k < N → k ≠ j → R k = true → listed.getD k false = true → X j (vs j) k (vs k))
    (hrel : ∀ j, j < N → listed.getD j false = true → R j = true → vs' j = vs j) : ∀ n j, j < n → j < N → listed.getD j false = true → vs' j = vs j
 | 0, _, h, _, _ => absurd h (Nat.not_lt_zero _)
 | n + 1, j, hj, hjN, hl => by
  have ih := Good.agree hns hlook hdst hNle inv hI g g' hfact hrel n
  by_cases hR : R j = true
  ·exact hrel j hjN hl hR
  ·have hRf : R j = false := by simpa using hR
   obtain ⟨o, ho⟩ : ∃ o, ops[j]? = some o := ⟨_, Array.getElem?_eq_getElem (by omega)⟩
   have hpl : ∀ k, pred ops j k = true → listed.getD k false = true := fun k hk => predF_listed inv _ j k (fun o2 ho2 e he hb => inv.closed j o2 ho2 hl e he hb) hk
   have hsl : ∀ t, t ∈ o.looksAt ops → (putAll ops vs' j a0).tmps[t]? = (putAll ops vs j a0).tmps[t]? := fun t ht => by
    rcases looked hlook hdst ho hjN vs' t ht with ⟨k, hk1, hk2, hk3, hk4⟩ | ⟨hk1, hk2⟩
    ·rcases looked hlook hdst ho hjN vs t ht with ⟨k', hk1', hk2', hk3', hk4'⟩ | ⟨hk1', hk2'⟩
     ·have hkk : k = k' := by
       by_cases hne : k = k'
       ·exact hne
       ·exfalso
        have h5 := List.all_eq_true.1 hlook k (List.mem_range.2 (by omega))
        cases hoj : ops[k]? with
        | none => simp [hoj] at h5
        | some oj =>
         simp only [hoj, Bool.and_eq_true] at h5
         have h6 := List.all_eq_true.1 h5.2 k' (List.mem_range.2 (by omega))
         simp only [hk3', Bool.and_eq_true, Bool.or_eq_true, beq_iff_eq, bne_iff_ne, ne_eq] at h6
         rw [hoj] at hk3
         rcases h6.1 with h7 | h7
         ·exact hne h7.symm
         ·exact h7 (by simpa using hk3)
      subst hkk
      rw [hk4, hk4', ih k (by omega) (by omega) (hpl k hk2)]
     ·exact absurd hk3 (hk1' k (by omega))
    ·rcases looked hlook hdst ho hjN vs t ht with ⟨k', hk1', hk2', hk3', hk4'⟩ | ⟨hk1', hk2'⟩
     ·exact absurd hk3' (hk1 k' (by omega))
     ·rw [hk2, hk2']
   have hf : Kn A X (pred ops j) (listOf R vs j) w := ⟨fun p hp hpr => by
    obtain ⟨h1, h2, h3⟩ := mem_listOf.1 hp
    rw [h3]; exact (hfact p.1 (by omega) (hpl p.1 hpr) h2).1, fun p hp q hq hpr hqr hne => by
    obtain ⟨h1, h2, h3⟩ := mem_listOf.1 hp
    obtain ⟨h1', h2', h3'⟩ := mem_listOf.1 hq
    rw [h3, h3']; exact (hfact p.1 (by omega) (hpl p.1 hpr) h2).2 q.1 (by omega) (Ne.symm hne) h2' (hpl q.1 hqr)⟩
   have hf' : Kn A X (pred ops j) (listOf R vs' j) w := ⟨fun p hp hpr => by
    obtain ⟨h1, h2, h3⟩ := mem_listOf.1 hp
    rw [h3, hrel p.1 (by omega) (hpl p.1 hpr) h2]; exact (hfact p.1 (by omega) (hpl p.1 hpr) h2).1, fun p hp q hq hpr hqr hne => by
    obtain ⟨h1, h2, h3⟩ := mem_listOf.1 hp
    obtain ⟨h1', h2', h3'⟩ := mem_listOf.1 hq
    rw [h3, h3', hrel p.1 (by omega) (hpl p.1 hpr) h2, hrel q.1 (by omega) (hpl q.1 hqr) h2']; exact (hfact p.1 (by omega) (hpl p.1 hpr) h2).2 q.1 (by omega) (Ne.symm hne) h2' (hpl q.1 hqr)⟩
   have e1 := g.one j o hjN hRf ho w hI hf
   have e2 := g'.one j o hjN hRf ho w hI hf'
   rw [execOp_slots (fun cs b => Region.noSelect_spec hns j o cs b ho) hsl, wanted_slots hsl] at e2
   by_cases hw : Region.wanted o (yielded ops (putAll ops vs j a0).tmps) = true
   ·rw [if_pos hw] at e1 e2
    rw [e1] at e2
    injection e2 with e3 _
    injection e3 with e4
    exact e4.symm
   ·rw [if_neg hw] at e1 e2
    rw [e1, e2]

theorem predF_lt {N : Nat} (hlook : looksOk ops N = true) : ∀ (f i j : Nat), i < N → predF ops f i j = true → j < i
 | 0, _, _, _, h => by simp [predF] at h
 | f + 1, i, j, hi, h => by
  simp only [predF] at h
  have hlk := List.all_eq_true.1 hlook i (List.mem_range.2 hi)
  split at h
  ·cases h
  ·rename_i o ho
   simp only [ho, Bool.and_eq_true] at hlk
   obtain ⟨e, he, hb⟩ := Array.any_eq_true'.1 h
   simp only [Bool.and_eq_true, Bool.or_eq_true, beq_iff_eq] at hb
   have h1 := Array.all_eq_true_iff_forall_mem.1 hlk.1 e he
   simp only [hb.1, Bool.not_true, Bool.false_or, decide_eq_true_eq] at h1
   rcases hb.2 with rfl | h2
   ·exact h1
   ·have := predF_lt hlook f e.on j (by omega) h2
    omega

theorem Mid.step {listed : Array Bool} {a : Act} {w : World} (hB : headB ops N a0.tmps.size = true) (hW : Walk P ops R S A I Ch X U Fin [] 0 (ops.toList.take N) a0)
    (hA : ∀ i v k u w w', i ≠ k → R i = true → R k = true → A i v w → Ch k u w w' → X i v k u → A i v w') (hX : ∀ i v k u w w', i ≠ k → R i = true → R k = true → pred ops k i = false → pred ops i k = false → A i v w → Ch k u w w' → X i v k u ∧ X k u i v) (hU : ∀ i k u w w', i ≠ k → R i = true → R k = true → U i w → Ch k u w w' → U i w')
    (m : Mid P ops R S A I Ch X U Fin N a0 listed a w) {i : Nat} {o : Oper} (ho : ops[i]? = some o) (hi : i ∈ Region.ready .any ops listed) (hin : i < N) {K : Act → World → Prop}
    (hK : ∀ a' w', Mid P ops R S A I Ch X U Fin N a0 (listed.setIfInBounds i true) a' w' → K a' w') :
    if Region.wanted o (yielded ops a.tmps) then Eff P o a w (fun v w' => K (a.put o.dst v) w') else K (a.put o.dst undef) w := by
 simp only [headB, Bool.and_eq_true, decide_eq_true_eq] at hB
 obtain ⟨⟨⟨⟨⟨hns, hNle⟩, hlook⟩, hdst⟩, _⟩, _⟩ := hB
 obtain ⟨hun, o', ho', hall⟩ := mem_ready.1 hi
 have e := Option.some.inj (ho'.symm.trans ho); subst e
 have hlk := List.all_eq_true.1 hlook i (List.mem_range.2 hin)
 simp only [ho, Bool.and_eq_true] at hlk
 obtain ⟨vs, g, hv⟩ := m.val
 have hpl : ∀ k, pred ops i k = true → listed.getD k false = true := fun k hk => predF_listed m.inv _ i k (fun o2 ho2 e he hb => by
  have e2 := Option.some.inj (ho2.symm.trans ho); subst e2; exact hall e he hb) hk
 have hslot : ∀ t, t ∈ o'.looksAt ops → a.tmps[t]? = (putAll ops vs i a0).tmps[t]? := fun t ht => by
  rcases looked hlook hdst ho hin vs t ht with ⟨k, hk1, hk2, hk3, hk4⟩ | ⟨hk1, hk2⟩
  ·rw [hk4]; exact (hv k (by omega) (hpl k hk2)).2 t hk3
  ·rw [hk2]; exact m.rest t hk1
 have heval := execOp_slots (fun cs b => Region.noSelect_spec hns i o' cs b ho) hslot
 have hwant := wanted_slots hslot
 have hfact : Kn A X (pred ops i) (listOf R vs i) w := ⟨fun p hp hpr => by
  obtain ⟨h1, h2, h3⟩ := mem_listOf.1 hp
  rw [h3]; exact ((hv p.1 (by omega) (hpl p.1 hpr)).1 h2).1, fun p hp q hq hpr hqr hne => by
  obtain ⟨h1, h2, h3⟩ := mem_listOf.1 hp
  obtain ⟨h1', h2', h3'⟩ := mem_listOf.1 hq
  rw [h3, h3']; exact ((hv p.1 (by omega) (hpl p.1 hpr)).1 h2).2 q.1 (by omega) (Ne.symm hne) h2' (hpl q.1 hqr)⟩
 -- behind it
 have next : ∀ v w', (∃ vs', Good P ops R S A I Ch X U Fin N a0 vs' N ∧ vs' i = v ∧ ∀ j, j < N → listed.getD j false = true → vs' j = vs j) → (R i = true → A i v w') → I w' → (∀ j, j < N → j ≠ i → R j = true → listed.getD j false = true → A j (vs j) w' ∧ (R i = true → X j (vs j) i v ∧ X i v j (vs j))) → (∀ j, j < N → R j = true → (listed.setIfInBounds i true).getD j false = false → U j w') → K (a.put o'.dst v) w' := fun v w' ⟨vs', g', hvi, hag⟩ hAv hI hext hbf => by
  refine hK _ _ ⟨m.inv.set hi hin, ?_, ?_, ?_, ?_, hI, hbf⟩
  ·unfold Act.put; split <;> exact m.defers
  ·unfold Act.put; split
   ·simp [m.size]
   ·exact m.size
  ·intro s hs
   have hsi := hs i hin
   rw [ho] at hsi
   unfold Act.put
   split
   ·rename_i d hd
    have hne : d ≠ s := fun e => hsi (by simp [hd, e])
    simp [Array.getElem?_setIfInBounds_ne hne, m.rest s hs]
   ·exact m.rest s hs
  ·refine ⟨vs', g', fun j hj hl => ?_⟩
   by_cases hji : j = i
   ·subst hji
    rw [hvi]
    refine ⟨fun hR => ⟨hAv hR, fun k hk hne hRk hlk => ?_⟩, fun d hd => ?_⟩
    ·rw [getD_set_ne false (Ne.symm hne)] at hlk
     rw [hag k hk hlk]
     exact ((hext k hk hne hRk hlk).2 hR).2
    rw [ho] at hd
    have hd' : o'.dst = some d := by simpa using hd
    rw [hd']
    simp only [Act.put]
    have h4 := List.all_eq_true.1 hdst j (List.mem_range.2 hj)
    simp only [ho, Option.bind_some, hd', decide_eq_true_eq] at h4
    rw [Array.getElem?_setIfInBounds_self_of_lt (by rw [m.size]; exact h4)]
   ·rw [getD_set_ne false (Ne.symm hji)] at hl
    obtain ⟨h2, h3⟩ := hv j hj hl
    rw [hag j hj hl]
    refine ⟨fun hR => ⟨(hext j hj hji hR hl).1, fun k hk hne hRk hlk => ?_⟩, fun d hd => ?_⟩
    ·by_cases hki : k = i
     ·subst hki; rw [hvi]; exact ((hext j hj hji hR hl).2 hRk).1
     ·rw [getD_set_ne false (Ne.symm hki)] at hlk
      rw [hag k hk hlk]
      exact (h2 hR).2 k hk hne hRk hlk
    have h5 := List.all_eq_true.1 hlk.2 j (List.mem_range.2 hj)
    simp only [hd, Bool.and_eq_true, Bool.or_eq_true, beq_iff_eq, bne_iff_ne, ne_eq] at h5
    have hne2 : o'.dst ≠ some d := by rcases h5.1 with h6 | h6; exact absurd h6 hji; exact h6
    unfold Act.put
    split
    ·rename_i d2 hd2
     have hne : d2 ≠ d := fun e => hne2 (by rw [hd2, e])
     simp only [Array.getElem?_setIfInBounds_ne hne]
     exact h3 d hd
    ·exact h3 d hd
 have notyet : ∀ j, (listed.setIfInBounds i true).getD j false = false → listed.getD j false = false ∧ j ≠ i := fun j hl => by
  have hne : j ≠ i := fun e => by
   subst e
   have hlt : j < listed.size := by rw [m.inv.size]; omega
   rw [Array.getD_eq_getD_getElem?, Array.getElem?_setIfInBounds_self_of_lt hlt] at hl
   cases hl
  rw [getD_set_ne false (Ne.symm hne)] at hl
  exact ⟨hl, hne⟩
 rw [hwant]
 by_cases hR : R i = true
 ·-- a told one: a new choice
  have hat := g.walk i (by omega)
  have hlt : i < (ops.toList.take N).length := by simp; omega
  rw [List.drop_eq_getElem_cons hlt] at hat
  have hoi : (ops.toList.take N)[i] = o' := by
   simp only [List.getElem_take, Array.getElem_toList]
   have := Array.getElem?_eq_getElem (xs := ops) (i := i) (by omega)
   rw [ho] at this; exact (Option.some.inj this).symm
  rw [hoi] at hat
  unfold Walk at hat
  rw [if_pos hR] at hat
  have hstep := hat.2.1 w m.world (m.bef i hin hR (getD_both hun)) hfact
  have choice : ∀ v, S i v → ∃ vs', Good P ops R S A I Ch X U Fin N a0 vs' N ∧ vs' i = v ∧ ∀ j, j < N → listed.getD j false = true → vs' j = vs j := fun v hS => by
   obtain ⟨vs', g', hu⟩ := Good.exists (fun k => if k = i then v else vs k) (fun k hk hRk => by
    by_cases hki : k = i
    ·subst hki; simpa using hS
    ·simpa [hki] using g.rel k hk hRk) hNle hW N (Nat.le_refl _)
   have hni : ∀ j, listed.getD j false = true → j ≠ i := fun j hl e => by
    subst e; rw [getD_both hun] at hl; cases hl
   refine ⟨vs', g', by rw [hu i hin hR]; simp, fun j hj hl => ?_⟩
   refine Good.agree hns hlook hdst hNle m.inv m.world g g' (fun j hj hl hRj => (hv j hj hl).1 hRj) (fun j hj hl hRj => ?_) (j + 1) j (by omega) hj hl
   rw [hu j hj hRj, if_neg (hni j hl)]
  have ubef : ∀ v w', Ch i v w w' → ∀ j, j < N → R j = true → (listed.setIfInBounds i true).getD j false = false → U j w' := fun v w' hc j hj hRj hl =>
   hU j i v w w' (notyet j hl).2 hRj hR (m.bef j hj hRj (notyet j hl).1) hc
  have cross : ∀ v w', Ch i v w w' → Xs X (pred ops i) (listOf R vs i) i v → ∀ j, j < N → j ≠ i → R j = true → listed.getD j false = true → A j (vs j) w' ∧ (R i = true → X j (vs j) i v ∧ X i v j (vs j)) := fun v w' hc hx j hj hji hRj hl => by
   have hAj := ((hv j hj hl).1 hRj).1
   have hXj : X j (vs j) i v ∧ X i v j (vs j) := by
    cases hp : pred ops i j with
    | true => exact hx (j, vs j) (mem_listOf.2 ⟨predF_lt hlook _ _ _ hin hp, hRj, rfl⟩) hp
    | false =>
     refine hX j (vs j) i v w w' hji hRj hR hp ?_ hAj hc
     cases hp2 : pred ops j i with
     | false => rfl
     | true =>
      have hpj : listed.getD i false = true := by
       obtain ⟨oj, hoj⟩ : ∃ o, ops[j]? = some o := ⟨_, Array.getElem?_eq_getElem (by omega)⟩
       exact predF_listed m.inv _ j i (fun o2 ho2 e he hb => m.inv.closed j o2 ho2 hl e he hb) hp2
      rw [getD_both hun] at hpj; cases hpj
   exact ⟨hA j (vs j) i v w w' hji hRj hR hAj hc hXj.1, fun _ => hXj⟩
  split
  ·rename_i hw
   rw [if_pos hw] at hstep
   unfold Eff at *
   rw [heval]
   exact Eff.mono (R' := fun v w' => K (a.put o'.dst v) w') hstep (fun v w' ⟨h1, h2, h3, h4, h5⟩ => next v w' (choice v h1) (fun _ => h2) h3 (cross v w' h4 h5) (ubef v w' h4))
  ·rename_i hw
   rw [if_neg hw] at hstep
   exact next _ _ (choice _ hstep.1) (fun _ => hstep.2.1) m.world (cross _ _ hstep.2.2.1 hstep.2.2.2) (ubef _ _ hstep.2.2.1)
 ·have hRf : R i = false := by simpa using hR
  have hone := g.one i o' hin hRf ho w m.world hfact
  split
  ·rename_i hw
   rw [if_pos hw] at hone
   unfold Eff
   rw [heval, hone]
   exact next _ _ ⟨vs, g, rfl, fun _ _ _ => rfl⟩ (fun h => absurd h hR) m.world (fun j hj _ hRj hl => ⟨((hv j hj hl).1 hRj).1, fun h => absurd h hR⟩) (fun j hj hRj hl => m.bef j hj hRj (notyet j hl).1)
  ·rename_i hw
   rw [if_neg hw] at hone
   have := next (vs i) w ⟨vs, g, rfl, fun _ _ _ => rfl⟩ (fun h => absurd h hR) m.world (fun j hj _ hRj hl => ⟨((hv j hj hl).1 hRj).1, fun h => absurd h hR⟩) (fun j hj hRj hl => m.bef j hj hRj (notyet j hl).1)
   rwa [hone] at this

/-- All have come up but the tail. -/
theorem Mid.whole {a : Act} {w : World} (hB : headB ops N a0.tmps.size = true) {listed : Array Bool} (m : Mid P ops R S A I Ch X U Fin N a0 listed a w)
    (hall : ∀ j, j < N → listed.getD j false = true) : ∃ vs : Nat → Value, Good P ops R S A I Ch X U Fin N a0 vs N ∧ (∀ j, j < N → R j = true → A j (vs j) w ∧ ∀ k, k < N → k ≠ j → R k = true → X j (vs j) k (vs k)) ∧ a = putAll ops vs N a0 := by
 simp only [headB, Bool.and_eq_true, decide_eq_true_eq] at hB
 obtain ⟨⟨⟨⟨⟨_, hNle⟩, hlook⟩, hdst⟩, _⟩, _⟩ := hB
 obtain ⟨vs, g, hv⟩ := m.val
 refine ⟨vs, g, fun j hj hR => ⟨((hv j hj (hall j hj)).1 hR).1, fun k hk hne hRk => ((hv j hj (hall j hj)).1 hR).2 k hk hne hRk (hall k hk)⟩, ?_⟩
 have htm : a.tmps = (putAll ops vs N a0).tmps := by
  apply Array.ext'
  apply List.ext_getElem?
  intro s
  simp only [Array.getElem?_toList]
  by_cases hex : ∃ j, j < N ∧ (ops[j]?).bind (·.dst) = some s
  ·obtain ⟨j, hj, hd⟩ := hex
   rw [(hv j hj (hall j hj)).2 s hd]
   have hts : s < a0.tmps.size := by
    have h4 := List.all_eq_true.1 hdst j (List.mem_range.2 hj)
    simpa [hd] using h4
   refine (putAll_own vs a0 s j hts hd N hj fun j' hj' hne hd' => ?_).symm
   have h5 := List.all_eq_true.1 hlook j' (List.mem_range.2 hj')
   cases hoj : ops[j']? with
   | none => simp [hoj] at h5
   | some oj =>
    simp only [hoj, Bool.and_eq_true] at h5
    have h6 := List.all_eq_true.1 h5.2 j (List.mem_range.2 hj)
    simp only [hd, Bool.and_eq_true, Bool.or_eq_true, beq_iff_eq, bne_iff_ne, ne_eq] at h6
    rw [hoj] at hd'
    rcases h6.1 with h7 | h7
    ·exact hne h7.symm
    ·exact h7 (by simpa using hd')
  ·have hno : ∀ j, j < N → (ops[j]?).bind (·.dst) ≠ some s := fun j hj hd => hex ⟨j, hj, hd⟩
   rw [m.rest s hno, putAll_other vs a0 s N hno]
 have hde : a.defers = (putAll ops vs N a0).defers := by rw [m.defers, putAll_defers]
 cases a with
 | mk t d =>
  simp only at htm hde
  rw [htm, hde]

/-- While a head is left, one may come up, and none of the tail. -/
theorem ready_head {listed : Array Bool} {size : Nat} (hB : headB ops N size = true) (inv : HeadInv .any ops N listed) (hex : ∃ j, j < N ∧ listed.getD j false = false) :
    Region.ready .any ops listed ≠ [] ∧ ∀ i ∈ Region.ready .any ops listed, i < N := by
 simp only [headB, Bool.and_eq_true, decide_eq_true_eq, Bool.or_eq_true] at hB
 obtain ⟨⟨⟨⟨⟨_, hNle⟩, hlook⟩, _⟩, htail⟩, _⟩ := hB
 -- the least one
 have least : ∀ n, (∃ j, j < n ∧ listed.getD j false = false) → ∃ j, j < n ∧ listed.getD j false = false ∧ ∀ k, k < j → listed.getD k false = true := by
  intro n
  induction n with
  | zero => rintro ⟨j, hj, _⟩; omega
  | succ n ih =>
   rintro ⟨j, hj, hl⟩
   by_cases h : ∃ j, j < n ∧ listed.getD j false = false
   ·obtain ⟨k, h1, h2, h3⟩ := ih h
    exact ⟨k, by omega, h2, h3⟩
   ·have hjn : j = n := by
     rcases Nat.lt_or_ge j n with h' | h'
     ·exact absurd ⟨j, h', hl⟩ h
     ·omega
    subst hjn
    refine ⟨j, by omega, hl, fun k hk => ?_⟩
    cases hk' : listed.getD k false with
    | true => rfl
    | false => exact absurd ⟨k, hk, hk'⟩ h
 obtain ⟨i, hiN, hil, hlt⟩ := least N hex
 have his : i < listed.size := by rw [inv.size]; omega
 have hun := getD_in his hil
 constructor
 ·intro h0
  have hmem : i ∈ Region.ready .any ops listed := by
   refine mem_ready.2 ⟨hun, ?_⟩
   have h5 := List.all_eq_true.1 hlook i (List.mem_range.2 hiN)
   cases ho : ops[i]? with
   | none => simp [ho] at h5
   | some o =>
    simp only [ho, Bool.and_eq_true] at h5
    refine ⟨o, rfl, fun e he hb => hlt _ ?_⟩
    have h6 := Array.all_eq_true_iff_forall_mem.1 h5.1 e he
    simpa [hb] using h6
  rw [h0] at hmem
  cases hmem
 ·intro k hk
  rcases Nat.lt_or_ge k N with h | h
  ·exact h
  ·rcases htail with h1 | h1
   ·obtain ⟨_, o, ho, _⟩ := mem_ready.1 hk
    have := (Array.getElem?_eq_some_iff.1 ho).1
    omega
   ·exact absurd hk (tail_waits h1.1.2 h1.2 h1.1.1 inv _ i rfl hiN hun k h)

theorem listed_whole {listed : Array Bool} (hN : N ≤ ops.size) (inv : HeadInv .any ops N listed) (hall : ∀ j, j < N → listed.getD j false = true) :
    listed = Array.replicate N true ++ Array.replicate (ops.size - N) false := by
 apply Array.ext
 ·simp [inv.size]; omega
 ·intro i h1 h2
  by_cases hi : i < N
  ·have := hall i hi
   rw [Array.getElem_append_left (by simpa using hi)]
   simp [h1] at this
   simp [this]
  ·have := inv.tail i (by omega) (by rw [← inv.size]; exact h1)
   rw [Array.getElem_append_right (by simp; omega)]
   simp [h1] at this
   simp [this]

/-- What a step of a calculus must bear. -/
def Bears (P : Program) (ops : Array Oper) (step : Nat → (Act → World → Prop) → Act → World → Prop) : Prop :=
 ∀ i o a w (K : Act → World → Prop), ops[i]? = some o → (if Region.wanted o (yielded ops a.tmps) then Eff P o a w (fun v w' => K (a.put o.dst v) w') else K (a.put o.dst undef) w) → step i K a w

/-- How many of the heads are still to come. -/
def left (listed : Array Bool) : Nat → Nat
 | 0 => 0
 | k + 1 => left listed k + (if listed.getD k false then 0 else 1)
theorem left_zero {listed : Array Bool} : ∀ {k : Nat}, left listed k = 0 → ∀ j, j < k → listed.getD j false = true
 | 0, _, j, hj => by omega
 | k + 1, h, j, hj => by
  simp only [left] at h
  by_cases hk : listed.getD k false = true
  ·rcases Nat.lt_or_ge j k with h' | h'
   ·exact left_zero (by omega) j h'
   ·have : j = k := by omega
    subst this; exact hk
  ·simp [hk] at h
theorem left_pos {listed : Array Bool} : ∀ {k n : Nat}, left listed k = n + 1 → ∃ j, j < k ∧ listed.getD j false = false
 | 0, _, h => by simp [left] at h
 | k + 1, n, h => by
  by_cases hk : listed.getD k false = true
  ·simp only [left, hk, if_true, Nat.add_zero] at h
   obtain ⟨j, hj, hl⟩ := left_pos h
   exact ⟨j, by omega, hl⟩
  ·exact ⟨k, by omega, by simpa using hk⟩
theorem left_set {listed : Array Bool} {i : Nat} (hi : i < listed.size) (hl : listed.getD i false = false) : ∀ {k : Nat}, i < k → left (listed.setIfInBounds i true) k + 1 = left listed k
 | 0, h => by omega
 | k + 1, h => by
  simp only [left]
  by_cases hik : i = k
  ·subst hik
   have hrest : ∀ k, k ≤ i → left (listed.setIfInBounds i true) k = left listed k := fun k => by
    induction k with
    | zero => intro _; rfl
    | succ k ih => intro hk; simp only [left]; rw [ih (by omega), getD_set_ne false (by omega)]
   rw [hrest i (Nat.le_refl _)]
   have : (listed.setIfInBounds i true).getD i false = true := by simp [hi]
   rw [this, hl]; simp
  ·rw [getD_set_ne false hik]
   have := left_set hi hl (k := k) (by omega)
   omega

/-- **THE LAW, for any calculus.** -/
theorem anyG_of_walk {step : Nat → (Act → World → Prop) → Act → World → Prop} {Qn : Act → World → Prop}
    (hstep : Bears P ops step) (hB : headB ops N a0.tmps.size = true) (hA : ∀ i v k u w w', i ≠ k → R i = true → R k = true → A i v w → Ch k u w w' → X i v k u → A i v w') (hX : ∀ i v k u w w', i ≠ k → R i = true → R k = true → pred ops k i = false → pred ops i k = false → A i v w → Ch k u w w' → X i v k u ∧ X k u i v) (hU : ∀ i k u w w', i ≠ k → R i = true → R k = true → U i w → Ch k u w w' → U i w')
    (hW : Walk P ops R S A I Ch X U Fin [] 0 (ops.toList.take N) a0)
    (hF : ∀ a w, Fin a w → AnyG ops step Qn (ops.size - N) (Array.replicate N true ++ Array.replicate (ops.size - N) false) a w) :
    ∀ (f : Nat) (listed : Array Bool) (a : Act) (w : World), left listed N = f → Mid P ops R S A I Ch X U Fin N a0 listed a w → AnyG ops step Qn (f + (ops.size - N)) listed a w
 | 0, listed, a, w, hf, m => by
  have hall := left_zero hf
  have hB' := hB
  simp only [headB, Bool.and_eq_true, decide_eq_true_eq] at hB'
  have hNle := hB'.1.1.1.1.2
  rw [listed_whole hNle m.inv hall, Nat.zero_add]
  obtain ⟨vs, g, hv, ha⟩ := m.whole hB hall
  rw [ha]
  refine hF _ _ ?_
  have hat := g.walk N (Nat.le_refl _)
  rw [List.drop_of_length_le (by simp; omega)] at hat
  exact hat w m.world ⟨fun p hp _ => by obtain ⟨h1, h2, h3⟩ := mem_listOf.1 hp; rw [h3]; exact (hv p.1 h1 h2).1, fun p hp q hq _ _ hne => by
   obtain ⟨h1, h2, h3⟩ := mem_listOf.1 hp
   obtain ⟨h1', h2', h3'⟩ := mem_listOf.1 hq
   rw [h3, h3']; exact (hv p.1 h1 h2).2 q.1 h1' (Ne.symm hne) h2'⟩
 | f + 1, listed, a, w, hf, m => by
  rw [show f + 1 + (ops.size - N) = (f + (ops.size - N)) + 1 by omega]
  obtain ⟨hne, hlt⟩ := ready_head hB m.inv (left_pos hf)
  refine ⟨fun h => absurd h hne, fun i hi => ?_⟩
  obtain ⟨hun, o, ho, _⟩ := mem_ready.1 hi
  have hin := hlt i hi
  refine hstep i o a w _ ho (m.step hB hW hA hX hU ho hi hin fun a' w' m' => ?_)
  refine anyG_of_walk hstep hB hA hX hU hW hF f _ a' w' ?_ m'
  have hB' := hB
  simp only [headB, Bool.and_eq_true, decide_eq_true_eq] at hB'
  have hNle := hB'.1.1.1.1.2
  have := left_set (listed := listed) (i := i) (by rw [m.inv.size]; omega) (getD_both hun) hin
  omega

theorem wit_of_walk : ∀ {L : List (Nat × Value)} {k : Nat} {l : List Oper} {a : Act}, Walk P ops R S A I Ch X U Fin L k l a → ∀ j, k ≤ j → j < k + l.length → R j = true → ∃ v, S j v
 | _, _, [], _, _, j, h1, h2, _ => by simp at h2; omega
 | _, k, o :: rest, a, h, j, h1, h2, hR => by
  unfold Walk at h
  by_cases hk : R k = true
  ·rw [if_pos hk] at h
   obtain ⟨⟨v, hv⟩, _, h3⟩ := h
   by_cases hj : j = k
   ·subst hj; exact ⟨v, hv⟩
   ·exact wit_of_walk (h3 v hv) j (by omega) (by simp at h2; omega) hR
  ·rw [if_neg hk] at h
   obtain ⟨x, _, h3⟩ := h
   by_cases hj : j = k
   ·subst hj; exact absurd hR hk
   ·exact wit_of_walk h3 j (by omega) (by simp at h2; omega) hR

theorem Mid.start {w : World} (hI : I w) (hU0 : ∀ i, R i = true → U i w) (hN : N ≤ ops.size) (hW : Walk P ops R S A I Ch X U Fin [] 0 (ops.toList.take N) a0) : Mid P ops R S A I Ch X U Fin N a0 (Array.replicate ops.size false) a0 w := by
 classical
 have hwit : ∀ k, k < N → R k = true → ∃ v, S k v := fun k hk hR => wit_of_walk hW k (Nat.zero_le _) (by simp; omega) hR
 obtain ⟨vs, g, _⟩ := Good.exists (fun k => if h : k < N ∧ R k = true then Classical.choose (hwit k h.1 h.2) else undef) (fun k hk hR => by
  have e : (if h : k < N ∧ R k = true then Classical.choose (hwit k h.1 h.2) else undef) = Classical.choose (hwit k hk hR) := dif_pos ⟨hk, hR⟩
  rw [e]; exact Classical.choose_spec (hwit k hk hR)) hN hW N (Nat.le_refl _)
 refine ⟨⟨by simp, fun j oj _ hl => ?_, fun t ht ht' => ?_⟩, rfl, rfl, fun _ _ => rfl, ⟨vs, g, fun j _ hl => ?_⟩, hI, fun j _ hRj _ => hU0 j hRj⟩
 ·rw [getD_replicate_false] at hl; cases hl
 ·simp [ht']
 ·rw [getD_replicate_false] at hl; cases hl

theorem left_start : ∀ k m : Nat, left (Array.replicate m false) k = k
 | 0, _ => rfl
 | k + 1, m => by simp only [left, left_start k m, getD_replicate_false]; simp

theorem anyG_start {step : Nat → (Act → World → Prop) → Act → World → Prop} {Qn : Act → World → Prop} {w : World}
    (hstep : Bears P ops step) (hB : headB ops N a0.tmps.size = true) (hA : ∀ i v k u w w', i ≠ k → R i = true → R k = true → A i v w → Ch k u w w' → X i v k u → A i v w') (hX : ∀ i v k u w w', i ≠ k → R i = true → R k = true → pred ops k i = false → pred ops i k = false → A i v w → Ch k u w w' → X i v k u ∧ X k u i v) (hU : ∀ i k u w w', i ≠ k → R i = true → R k = true → U i w → Ch k u w w' → U i w') (hI : I w) (hU0 : ∀ i, R i = true → U i w)
    (hW : Walk P ops R S A I Ch X U Fin [] 0 (ops.toList.take N) a0)
    (hF : ∀ a w, Fin a w → AnyG ops step Qn (ops.size - N) (Array.replicate N true ++ Array.replicate (ops.size - N) false) a w) :
    AnyG ops step Qn ops.size (Array.replicate ops.size false) a0 w := by
 have hB' := hB
 simp only [headB, Bool.and_eq_true, decide_eq_true_eq] at hB'
 have hNle := hB'.1.1.1.1.2
 have := anyG_of_walk hstep hB hA hX hU hW hF N (Array.replicate ops.size false) a0 w (left_start N _) (Mid.start hI hU0 hNle hW)
 rwa [show N + (ops.size - N) = ops.size by omega] at this

theorem anyG_seq {step : Nat → (Act → World → Prop) → Act → World → Prop} {Qn : Act → World → Prop} {lst : List Oper → Act → World → Prop}
    (h0 : ∀ a w, lst [] a w → Qn a w) (h1 : ∀ k o l a w, ops[k]? = some o → lst (o :: l) a w → step k (lst l) a w) (hm : ∀ i K K' a w, (∀ a w, K a w → K' a w) → step i K a w → step i K' a w) :
    ∀ (l : List Oper) (k : Nat) (listed : Array Bool) (a : Act) (w : World), (∀ j, l[j]? = ops[k + j]?) →
    Region.seqB .any ops l.length k listed = true → lst l a w → AnyG ops step Qn l.length listed a w
 | [], _, _, _, _, _, hB, h => ⟨by simpa [Region.seqB] using hB, h0 _ _ h⟩
 | o :: l, k, listed, a, w, hl, hB, h => by
  have ho : ops[k]? = some o := by simpa using (hl 0).symm
  simp only [List.length_cons, Region.seqB, Bool.and_eq_true, decide_eq_true_eq] at hB
  refine ⟨fun h1 => (by rw [hB.1] at h1; cases h1), fun i hi => ?_⟩
  rw [hB.1] at hi
  have hik : i = k := by simpa using hi
  subst hik
  exact hm _ _ _ _ _ (fun a' w' h' => anyG_seq h0 h1 hm l (i + 1) _ a' w' (fun j => by have := hl (j + 1); simpa [Nat.add_assoc, Nat.add_comm 1 j] using this) hB.2 h') (h1 _ _ _ _ _ ho h)

theorem seq_head {size : Nat} (hB : headB ops N size = true) : N ≤ ops.size ∧ Region.seqB .any ops (ops.toList.drop N).length N (Array.replicate N true ++ Array.replicate (ops.size - N) false) = true ∧
    ∀ j, (ops.toList.drop N)[j]? = ops[N + j]? := by
 simp only [headB, Bool.and_eq_true, decide_eq_true_eq] at hB
 exact ⟨hB.1.1.1.1.2, by simpa using hB.2, fun j => by simp⟩

/-! ### The two calculi -/
theorem anyG_wpAny {Q : Exit → Act → World → Prop} : ∀ (f : Nat) (listed : Array Bool) (a : Act) (w : World), AnyG ops (wpOp P ops Q) (Q .normal) f listed a w → wpAny P .any ops Q f listed a w
 | 0, _, _, _, h => h
 | f + 1, _, _, _, h => ⟨h.1, fun i hi => wpOp_mono (fun a' w' h' => anyG_wpAny f _ a' w' h') (h.2 i hi)⟩

theorem bears_wpOp {Q : Exit → Act → World → Prop} : Bears P ops (wpOp P ops Q) := fun i o a w K ho h => by
 unfold wpOp
 simp only [ho]
 split
 ·rename_i hw
  rw [if_pos hw] at h
  refine .inl ?_
  unfold Eff at h
  unfold Oper.wp
  generalize (execOp a.eval o).run P w = r at *
  cases r with
  | ok n w' =>
   cases n <;> simp only at h <;> simp only [Oper.upon]
   case value v => exact h
   case skip =>
    obtain ⟨v, hv, hk⟩ := h
    have e : a.put o.dst undef = a.put o.dst v := by rcases hv with rfl | hv; exact rfl; simp [Act.put, hv]
    rw [e]; exact hk
   case enter f args => exact h.mono fun e w'' ⟨v, he, hv⟩ => by subst he; exact hv
  | halt x w' => simp only at h
 ·rename_i hw
  rw [if_neg hw] at h
  exact h

/-- **A REGION THAT DRAWS ITS ORDER: EACH OPERATION ONCE.** N: how many come before the tail (which comes in the order of the text). -/
theorem region (N : Nat) (R : Nat → Bool) (S : Nat → Value → Prop) (A : Nat → Value → World → Prop) (I : World → Prop) (Ch : Nat → Value → World → World → Prop) (X : Nat → Value → Nat → Value → Prop) (U : Nat → World → Prop) {id : Nat} {l : List Oper} {Q : Exit → Act → World → Prop} {a : Act} {w : World}
    (hm : P.follows .mixedOrders = true) (hB : headB l.toArray N a.tmps.size = true) (hA : ∀ i v k u w w', i ≠ k → R i = true → R k = true → A i v w → Ch k u w w' → X i v k u → A i v w') (hX : ∀ i v k u w w', i ≠ k → R i = true → R k = true → pred l.toArray k i = false → pred l.toArray i k = false → A i v w → Ch k u w w' → X i v k u ∧ X k u i v) (hU : ∀ i k u w w', i ≠ k → R i = true → R k = true → U i w → Ch k u w w' → U i w') (hI : I w.drew) (hU0 : ∀ i, R i = true → U i w.drew)
    (hW : Walk P l.toArray R S A I Ch X U (wpList P l.toArray Q (l.drop N)) [] 0 (l.take N) a) : (Code.region id l.toArray true).wp P Q a w := by
 refine wp_region_any hm (anyG_wpAny _ _ _ _ ?_)
 obtain ⟨_, h2, h3⟩ := seq_head hB
 refine anyG_start bears_wpOp hB hA hX hU hI hU0 (by simpa using hW) fun a w hF => ?_
 have := anyG_seq (ops := l.toArray) (step := wpOp P l.toArray Q) (Qn := Q .normal) (lst := fun l' a w => wpList P l.toArray Q l' a w) (fun _ _ h => h)
  (fun k o l' a w ho h => by unfold wpOp; simp only [ho]; exact h) (fun i K K' a w hk h => wpOp_mono hk h) (l.toArray.toList.drop N) N _ a w h3 h2 (by simpa using hF)
 simpa using this

theorem anyG_wpAnyIn {F : Fence} {n : Nat} {Q : Exit → Act → World → Prop} : ∀ (f : Nat) (listed : Array Bool) (a : Act) (w : World), AnyG ops (wpOpIn F n P ops Q) (Q .normal) f listed a w → wpAnyIn F n P .any ops Q f listed a w
 | 0, _, _, _, h => h
 | f + 1, _, _, _, h => ⟨h.1, fun i hi => wpOpIn_mono (fun a' w' h' => anyG_wpAnyIn f _ a' w' h') (h.2 i hi)⟩

theorem callsIn_round {n : Nat} {f : FuncId} {args : Array Value} {w : World} {R : Ending → World → Prop} (l : Nat) (h : Calls P f args w R) : CallsIn (Fence.wide.inRound l) n P f args w R :=
 (callsIn_wide (n := n)).2 h

/-- The wide fence; or a round of a loop in it. -/
def WideF (F : Fence) : Prop := F = Fence.wide ∨ ∃ r, F = Fence.wide.inRound r
theorem WideF.calls {F : Fence} (hF : WideF F) {n : Nat} {f : FuncId} {args : Array Value} {w : World} {R : Ending → World → Prop} (h : Calls P f args w R) : CallsIn F n P f args w R := by
 rcases hF with rfl | ⟨l, rfl⟩
 ·exact (callsIn_wide (n := n)).2 h
 ·exact callsIn_round l h
theorem WideF.fn {F : Fence} (hF : WideF F) (f : FuncId) : F.fn f := by rcases hF with rfl | ⟨l, rfl⟩ <;> exact trivial
theorem WideF.sem {F : Fence} (_ : WideF F) (ρ : Operand → Value) (o : Oper) (h : ∀ c, o.op ≠ .defer c) : o.semAt F.round ρ = execOp ρ o := by
 cases F.round with
 | none => simp [Oper.semAt]
 | some l => exact Oper.semAt_some l _ _ h

theorem bears_wpOpIn {F : Fence} (hF : WideF F) {n : Nat} {Q : Exit → Act → World → Prop} (hd : ∀ o ∈ ops, ∀ c, o.op ≠ .defer c) : Bears P ops (wpOpIn F n P ops Q) := fun i o a w K ho h => by
 unfold wpOpIn
 simp only [ho]
 split
 ·rename_i hw
  rw [if_pos hw] at h
  refine ⟨fun f _ => hF.fn f, ?_⟩
  rw [hF.sem _ _ (hd o (Array.mem_of_getElem? ho))]
  unfold Eff at h
  generalize (execOp a.eval o).run P w = r at *
  cases r with
  | ok n w' =>
   cases n <;> simp only at h <;> simp only [Oper.uponIn]
   case value v => exact h
   case skip =>
    obtain ⟨v, hv, hk⟩ := h
    have e : a.put o.dst undef = a.put o.dst v := by rcases hv with rfl | hv; exact rfl; simp [Act.put, hv]
    rw [e]; exact hk
   case enter f args => exact ⟨fun h' => (by rcases hF with rfl | ⟨l, rfl⟩ <;> cases h'), hF.calls (h.mono fun e w'' ⟨v, he, hv⟩ => (by subst he; exact hv))⟩
  | halt x w' => simp only at h
 ·rename_i hw
  rw [if_neg hw] at h
  exact ⟨fun f _ => hF.fn f, h⟩

def noDefer (ops : Array Oper) : Bool := ops.all fun o => match o.op with | .defer _ => false | _ => true
theorem noDefer_spec (h : noDefer ops = true) : ∀ o ∈ ops, ∀ c, o.op ≠ .defer c := fun o ho c heq => by
 have := Array.all_eq_true_iff_forall_mem.1 h o ho
 simp [heq] at this

/-- The same inside the wide fence, or in the body of a loop over an iterator. -/
theorem regionIn (N : Nat) (R : Nat → Bool) (S : Nat → Value → Prop) (A : Nat → Value → World → Prop) (I : World → Prop) (Ch : Nat → Value → World → World → Prop) (X : Nat → Value → Nat → Value → Prop) (U : Nat → World → Prop) {F : Fence} (hF : WideF F) {id n : Nat} {l : List Oper} {Q : Exit → Act → World → Prop} {a : Act} {w : World}
    (hm : P.follows .mixedOrders = true) (hd : noDefer l.toArray = true) (hB : headB l.toArray N a.tmps.size = true) (hA : ∀ i v k u w w', i ≠ k → R i = true → R k = true → A i v w → Ch k u w w' → X i v k u → A i v w') (hX : ∀ i v k u w w', i ≠ k → R i = true → R k = true → pred l.toArray k i = false → pred l.toArray i k = false → A i v w → Ch k u w w' → X i v k u ∧ X k u i v) (hU : ∀ i k u w w', i ≠ k → R i = true → R k = true → U i w → Ch k u w w' → U i w') (hI : I w.drew) (hU0 : ∀ i, R i = true → U i w.drew)
    (hW : Walk P l.toArray R S A I Ch X U (wpListIn F n P l.toArray Q (l.drop N)) [] 0 (l.take N) a) : (Code.region id l.toArray true).wpIn F n P Q a w := by
 refine wpIn_region_any hm (anyG_wpAnyIn _ _ _ _ ?_)
 obtain ⟨_, h2, h3⟩ := seq_head hB
 refine anyG_start (bears_wpOpIn hF (noDefer_spec hd)) hB hA hX hU hI hU0 (by simpa using hW) fun a w hFin => ?_
 have := anyG_seq (ops := l.toArray) (step := wpOpIn F n P l.toArray Q) (Qn := Q .normal) (lst := fun l' a w => wpListIn F n P l.toArray Q l' a w) (fun _ _ h => h)
  (fun k o l' a w ho h => by unfold wpOpIn; simp only [ho]; exact h) (fun i K K' a w hk h => wpOpIn_mono hk h) (l.toArray.toList.drop N) N _ a w h3 h2 (by simpa using hFin)
 simpa using this

/-- The law at its common use: what was there when the region began is still there. -/
abbrev ChE (_ : Nat) (_ : Value) (w w' : World) : Prop := Ext w w'
abbrev XE (_ : Nat) (_ : Value) (_ : Nat) (_ : Value) : Prop := True
abbrev UE (_ : Nat) (_ : World) : Prop := True
theorem regionE (N : Nat) (R : Nat → Bool) (S : Nat → Value → Prop) (A : Nat → Value → World → Prop) {id : Nat} {l : List Oper} {Q : Exit → Act → World → Prop} {a : Act} {w : World}
    (hm : P.follows .mixedOrders = true) (hB : headB l.toArray N a.tmps.size = true) (hA : ∀ i v w w', A i v w → Ext w w' → A i v w')
    (hW : Walk P l.toArray R S A (Ext w) ChE XE UE (wpList P l.toArray Q (l.drop N)) [] 0 (l.take N) a) : (Code.region id l.toArray true).wp P Q a w :=
 region N R S A (Ext w) ChE XE UE hm hB (fun i v _ _ w w' _ _ _ h1 h2 _ => hA i v w w' h1 h2) (fun _ _ _ _ _ _ _ _ _ _ _ _ _ => ⟨trivial, trivial⟩) (fun _ _ _ _ _ _ _ _ _ _ => trivial) (Below.refl _ _).drew (fun _ _ => trivial) hW
theorem regionInE (N : Nat) (R : Nat → Bool) (S : Nat → Value → Prop) (A : Nat → Value → World → Prop) {F : Fence} (hF : WideF F) {id n : Nat} {l : List Oper} {Q : Exit → Act → World → Prop} {a : Act} {w : World}
    (hm : P.follows .mixedOrders = true) (hd : noDefer l.toArray = true) (hB : headB l.toArray N a.tmps.size = true) (hA : ∀ i v w w', A i v w → Ext w w' → A i v w')
    (hW : Walk P l.toArray R S A (Ext w) ChE XE UE (wpListIn F n P l.toArray Q (l.drop N)) [] 0 (l.take N) a) : (Code.region id l.toArray true).wpIn F n P Q a w :=
 regionIn N R S A (Ext w) ChE XE UE hF hm hd hB (fun i v _ _ w w' _ _ _ h1 h2 _ => hA i v w w' h1 h2) (fun _ _ _ _ _ _ _ _ _ _ _ _ _ => ⟨trivial, trivial⟩) (fun _ _ _ _ _ _ _ _ _ _ => trivial) (Below.refl _ _).drew (fun _ _ => trivial) hW

/-- The law where what is made must be told apart: Bl k v: the blocks that number k has made, if it gave v. -/
abbrev AF (Bl : Nat → Value → List Nat) (A : Nat → Value → World → Prop) (i : Nat) (v : Value) (w : World) : Prop := A i v w ∧ ∀ b ∈ Bl i v, b < w.heap.size
abbrev ChF (Bl : Nat → Value → List Nat) (k : Nat) (u : Value) (w w' : World) : Prop := Ext w w' ∧ ∀ b ∈ Bl k u, w.heap.size ≤ b
abbrev XF (Bl : Nat → Value → List Nat) (i : Nat) (v : Value) (k : Nat) (u : Value) : Prop := ∀ b ∈ Bl i v, b ∉ Bl k u
theorem xF {Bl : Nat → Value → List Nat} {A : Nat → Value → World → Prop} {i k : Nat} {v u : Value} {w w' : World} (h : AF Bl A i v w) (c : ChF Bl k u w w') : XF Bl i v k u ∧ XF Bl k u i v :=
 ⟨fun b h1 h2 => by have := h.2 b h1; have := c.2 b h2; omega, fun b h1 h2 => by have := h.2 b h2; have := c.2 b h1; omega⟩
theorem regionF (N : Nat) (R : Nat → Bool) (S : Nat → Value → Prop) (A : Nat → Value → World → Prop) (Bl : Nat → Value → List Nat) {id : Nat} {l : List Oper} {Q : Exit → Act → World → Prop} {a : Act} {w : World}
    (hm : P.follows .mixedOrders = true) (hB : headB l.toArray N a.tmps.size = true) (hA : ∀ i v w w', A i v w → Ext w w' → A i v w')
    (hW : Walk P l.toArray R S (AF Bl A) (Ext w) (ChF Bl) (XF Bl) UE (wpList P l.toArray Q (l.drop N)) [] 0 (l.take N) a) : (Code.region id l.toArray true).wp P Q a w :=
 region N R S (AF Bl A) (Ext w) (ChF Bl) (XF Bl) UE hm hB (fun i v _ _ w w' _ _ _ h1 h2 _ => ⟨hA i v w w' h1.1 h2.1, fun b hb => Nat.lt_of_lt_of_le (h1.2 b hb) h2.1.size⟩) (fun _ _ _ _ _ _ _ _ _ _ _ h1 h2 => xF h1 h2) (fun _ _ _ _ _ _ _ _ _ _ => trivial) (Below.refl _ _).drew (fun _ _ => trivial) hW
theorem regionInF (N : Nat) (R : Nat → Bool) (S : Nat → Value → Prop) (A : Nat → Value → World → Prop) (Bl : Nat → Value → List Nat) {F : Fence} (hF : WideF F) {id n : Nat} {l : List Oper} {Q : Exit → Act → World → Prop} {a : Act} {w : World}
    (hm : P.follows .mixedOrders = true) (hd : noDefer l.toArray = true) (hB : headB l.toArray N a.tmps.size = true) (hA : ∀ i v w w', A i v w → Ext w w' → A i v w')
    (hW : Walk P l.toArray R S (AF Bl A) (Ext w) (ChF Bl) (XF Bl) UE (wpListIn F n P l.toArray Q (l.drop N)) [] 0 (l.take N) a) : (Code.region id l.toArray true).wpIn F n P Q a w :=
 regionIn N R S (AF Bl A) (Ext w) (ChF Bl) (XF Bl) UE hF hm hd hB (fun i v _ _ w w' _ _ _ h1 h2 _ => ⟨hA i v w w' h1.1 h2.1, fun b hb => Nat.lt_of_lt_of_le (h1.2 b hb) h2.1.size⟩) (fun _ _ _ _ _ _ _ _ _ _ _ h1 h2 => xF h1 h2) (fun _ _ _ _ _ _ _ _ _ _ => trivial) (Below.refl _ _).drew (fun _ _ => trivial) hW

/-- The cells and the marks of what was there. -/
theorem bcell {W w1 : World} (hb : Ext W w1) : (∀ b o, b < W.heap.size → w1.cell? ⟨b, o, none⟩ = W.cell? ⟨b, o, none⟩) ∧ (∀ b o, b < W.heap.size → w1.frozen? ⟨b, o, none⟩ = W.frozen? ⟨b, o, none⟩) :=
 ⟨fun b o h => hb.cell (p := ⟨b, o, none⟩) h, fun b o h => hb.frozen (p := ⟨b, o, none⟩) h⟩

/-! ### The steps, as a walk meets them -/

/-- What an operation has come to, handed on: a value alone (the world as it was) ¦ a value, or a call. -/
def UponV (K : Value → World → Prop) : Result Next → Prop
 | .ok (.value v) w' => K v w'
 | _ => False
def Upon (P : Program) (K : Value → World → Prop) : Result Next → Prop
 | .ok (.value v) w' => K v w'
 | .ok .skip w' => K undef w'
 | .ok (.enter f args) w' => Calls P f args w' fun e w'' => ∃ v, e = .returned v ∧ K v w''
 | _ => False
@[go_sem] theorem Upon_skip (K : Value → World → Prop) (w : World) : Upon P K (.ok .skip w) = K undef w := rfl
@[go_sem] theorem UponV_value (K : Value → World → Prop) (v : Value) (w : World) : UponV K (.ok (.value v) w) = K v w := rfl
@[go_sem] theorem Upon_value (K : Value → World → Prop) (v : Value) (w : World) : Upon P K (.ok (.value v) w) = K v w := rfl
@[go_sem] theorem Upon_enter (K : Value → World → Prop) (f : FuncId) (args : Array Value) (w : World) : Upon P K (.ok (.enter f args) w) = Calls P f args w fun e w'' => ∃ v, e = .returned v ∧ K v w'' := rfl

theorem uponV_one {r : Result Next} {x : Value} {w : World} (h : ∀ K : Value → World → Prop, K x w → UponV K r) : r = .ok (.value x) w := by
 have := h (fun v w' => v = x ∧ w' = w) ⟨rfl, rfl⟩
 unfold UponV at this
 split at this
 ·rw [this.1, this.2]
 ·exact this.elim
theorem upon_eff {o : Oper} {a : Act} {w : World} {T : Value → World → Prop} (h : Upon P T ((execOp a.eval o).run P w)) : Eff P o a w T := by
 unfold Eff
 generalize (execOp a.eval o).run P w = r at *
 cases r with
 | ok n w' =>
  cases n <;> first | exact ⟨undef, .inl rfl, h⟩ | exact h | exact (h : False).elim
 | halt x w' => exact (h : False).elim

/-- A store, met: K of the world behind it. -/
def UponS (K : World → Prop) : Result Next → Prop
 | .ok .skip w' => K w'
 | _ => False
@[go_sem] theorem UponS_skip (K : World → Prop) (w : World) : UponS K (.ok .skip w) = K w := rfl
theorem eff_store {o : Oper} {a : Act} {w : World} {T : Value → World → Prop} (v : Value) (hd : o.dst = none) (h : UponS (fun w' => T v w') ((execOp a.eval o).run P w)) : Eff P o a w T := by
 unfold Eff
 generalize (execOp a.eval o).run P w = r at *
 cases r with
 | ok n w' => cases n <;> first | exact ⟨v, .inr hd, h⟩ | exact (h : False).elim
 | halt x w' => exact (h : False).elim

/-- What is known, behind those that come before it. -/
abbrev Knows (ops : Array Oper) (A : Nat → Value → World → Prop) (L : List (Nat × Value)) (k : Nat) (w : World) : Prop := ∀ p ∈ L, pred ops k p.1 = true → A p.1 p.2 w

theorem Walk.nil {L : List (Nat × Value)} {k : Nat} {a : Act} (h : ∀ w, I w → (∀ p ∈ L, A p.1 p.2 w) → Fin a w) : Walk P ops R S A I Ch X U Fin L k [] a := fun w hI hL => h w hI fun p hp => hL.1 p hp rfl
/-- The end, and how any two stand to each other. -/
theorem Walk.nilX {L : List (Nat × Value)} {k : Nat} {a : Act} (h : ∀ w, I w → (∀ p ∈ L, A p.1 p.2 w) → (∀ p ∈ L, ∀ q ∈ L, p.1 ≠ q.1 → X p.1 p.2 q.1 q.2) → Fin a w) : Walk P ops R S A I Ch X U Fin L k [] a :=
 fun w hI hL => h w hI (fun p hp => hL.1 p hp rfl) fun p hp q hq hne => hL.2 p hp q hq rfl rfl hne
theorem Walk.nilF {Bl : Nat → Value → List Nat} {L : List (Nat × Value)} {k : Nat} {a : Act} (h : ∀ w, I w → (∀ p ∈ L, A p.1 p.2 w) → (∀ p ∈ L, ∀ q ∈ L, p.1 ≠ q.1 → ∀ b ∈ Bl p.1 p.2, b ∉ Bl q.1 q.2) → Fin a w) :
    Walk P ops R S (AF Bl A) I (ChF Bl) (XF Bl) UE Fin L k [] a :=
 Walk.nilX fun w hI hL hX => h w hI (fun p hp => (hL p hp).1) hX

theorem Walk.one {L : List (Nat × Value)} {k : Nat} {o : Oper} {rest : List Oper} {a : Act} {x : Value} (hR : R k = false) (hg : o.guard = none)
    (h : ∀ w, I w → Knows ops A L k w → ∀ K : Value → World → Prop, K x w → UponV K ((execOp a.eval o).run P w))
    (hr : Walk P ops R S A I Ch X U Fin L (k + 1) rest (a.put o.dst x)) : Walk P ops R S A I Ch X U Fin L k (o :: rest) a := by
 unfold Walk
 rw [if_neg (by simp [hR])]
 refine ⟨x, fun w hI hL => ?_, hr⟩
 rw [if_pos (by simp [Region.wanted, hg])]
 exact uponV_one (h w hI hL.1)

/-- A told one: in general. -/
theorem Walk.toldX {L : List (Nat × Value)} {k : Nat} {o : Oper} {rest : List Oper} {a : Act} (hR : R k = true) (hg : o.guard = none) (hw : ∃ v, S k v)
    (h : ∀ w, I w → U k w → Kn A X (pred ops k) L w → Eff P o a w (fun v w' => S k v ∧ A k v w' ∧ I w' ∧ Ch k v w w' ∧ Xs X (pred ops k) L k v))
    (hr : ∀ v, S k v → Walk P ops R S A I Ch X U Fin ((k, v) :: L) (k + 1) rest (a.put o.dst v)) : Walk P ops R S A I Ch X U Fin L k (o :: rest) a := by
 unfold Walk
 rw [if_pos hR]
 refine ⟨hw, fun w hI hu hL => ?_, hr⟩
 rw [if_pos (by simp [Region.wanted, hg])]
 exact h w hI hu hL

/-- The same, what is to be shown behind it being hidden from the walk. -/
theorem Walk.toldK {L : List (Nat × Value)} {k : Nat} {o : Oper} {rest : List Oper} {a : Act} (hR : R k = true) (hg : o.guard = none) (hw : ∃ v, S k v)
    (h : ∀ w, I w → U k w → Kn A X (pred ops k) L w → ∀ K : Value → World → Prop, (∀ v w', S k v → A k v w' → I w' → Ch k v w w' → Xs X (pred ops k) L k v → K v w') → Upon P K ((execOp a.eval o).run P w))
    (hr : ∀ v, S k v → Walk P ops R S A I Ch X U Fin ((k, v) :: L) (k + 1) rest (a.put o.dst v)) : Walk P ops R S A I Ch X U Fin L k (o :: rest) a :=
 Walk.toldX hR hg hw (fun w hI hu hL => upon_eff (h w hI hu hL _ (fun v w' h1 h2 h3 h4 h5 => ⟨h1, h2, h3, h4, h5⟩))) hr

theorem Walk.told {Ch : World → World → Prop} {L : List (Nat × Value)} {k : Nat} {o : Oper} {rest : List Oper} {a : Act} (hR : R k = true) (hg : o.guard = none) (hw : ∃ v, S k v)
    (h : ∀ w, I w → Knows ops A L k w → ∀ K : Value → World → Prop, (∀ v w', S k v → A k v w' → I w' → Ch w w' → K v w') → Upon P K ((execOp a.eval o).run P w))
    (hr : ∀ v, S k v → Walk P ops R S A I (fun _ _ => Ch) XE UE Fin ((k, v) :: L) (k + 1) rest (a.put o.dst v)) : Walk P ops R S A I (fun _ _ => Ch) XE UE Fin L k (o :: rest) a :=
 Walk.toldX hR hg hw (fun w hI _ hL => upon_eff (h w hI hL.1 _ (fun v w' h1 h2 h3 h4 => ⟨h1, h2, h3, h4, fun _ _ _ => ⟨trivial, trivial⟩⟩))) hr

theorem Walk.toldF {Bl : Nat → Value → List Nat} {L : List (Nat × Value)} {k : Nat} {o : Oper} {rest : List Oper} {a : Act} (hR : R k = true) (hg : o.guard = none) (hw : ∃ v, S k v)
    (h : ∀ w, I w → Knows ops A L k w → ∀ K : Value → World → Prop, (∀ v w', S k v → A k v w' → I w' → Ext w w' → (∀ b ∈ Bl k v, w.heap.size ≤ b ∧ b < w'.heap.size) → K v w') → Upon P K ((execOp a.eval o).run P w))
    (hr : ∀ v, S k v → Walk P ops R S (AF Bl A) I (ChF Bl) (XF Bl) UE Fin ((k, v) :: L) (k + 1) rest (a.put o.dst v)) : Walk P ops R S (AF Bl A) I (ChF Bl) (XF Bl) UE Fin L k (o :: rest) a :=
 Walk.toldX hR hg hw (fun w hI _ hL => upon_eff (h w hI (fun p hp hpr => (hL.1 p hp hpr).1) _ (fun v w' h1 h2 h3 h4 h5 =>
  ⟨h1, ⟨h2, fun b hb => (h5 b hb).2⟩, h3, ⟨h4, fun b hb => (h5 b hb).1⟩, fun p hp hpr => xF (hL.1 p hp hpr) (⟨h4, fun b hb => (h5 b hb).1⟩ : ChF Bl k v w w')⟩))) hr

/-- Where the guard says no. -/
theorem Walk.skip {L : List (Nat × Value)} {k : Nat} {o : Oper} {rest : List Oper} {a : Act} (hR : R k = false) (hn : Region.wanted o (yielded ops a.tmps) = false)
    (hr : Walk P ops R S A I Ch X U Fin L (k + 1) rest (a.put o.dst undef)) : Walk P ops R S A I Ch X U Fin L k (o :: rest) a := by
 unfold Walk
 rw [if_neg (by simp [hR])]
 exact ⟨undef, fun w hI hL => by rw [if_neg (by simp [hn])], hr⟩

end
end Go.Proofs.YtndgaecfeaedeaaGreat.Lex
