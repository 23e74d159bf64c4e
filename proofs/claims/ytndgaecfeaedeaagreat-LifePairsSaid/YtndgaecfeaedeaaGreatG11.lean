/- A region whose order is open in which a new box is filled before all has been carried out. No condition: a law on the calculus of walks. A kind of result: a fraction and an error's number, wherever the fraction lies. No condition. The checks of a region whose order is open, by bit masks: what comes before an operation is computed once. No condition: laws on lists. Fractions: what the program's ways of adding and multiplying come to; sizes. No condition: plain laws of numbers. Walks of package frac: on whole numbers. -/
import Derived.Test.YtndgaecfeaedeaaGreatG10
namespace Go.Proofs.YtndgaecfeaedeaaGreat
set_option linter.unusedSimpArgs false
set_option linter.unusedVariables false
open Go.RowKit Lex Mth

/-- What a kind tells stays when a box is written. -/
def Tl.St (t : Tl) : Prop := ∀ {B v w b ty c}, t.A B v w → Cells w b ty c → NoU c → ty ≠ 153 → ∀ k l, NoU l.toArray → t.A B v (sets w b k l)
theorem st_v (x : Value) : (Tl.v x).St := fun _ _ _ _ _ _ _ => trivial
theorem st_w (z : Int) : (Tl.w z).St := fun h hC hn ht k l _ X hX => ⟨WR.sets (h X hX).1 hC hn k l, OW.sets (h X hX).2 hC ht k l⟩
theorem st_we (z n : Int) : (Tl.we z n).St := fun h hC hn ht k l _ X hX => ⟨WR.sets (h X hX).1 hC hn k l, OW.sets (h X hX).2 hC ht k l⟩
theorem st_f (q : Rat) : (Tl.f q).St := fun h hC hn ht k l _ X hX => ⟨FR.sets (h X hX).1 hC hn k l, OF.sets (h X hX).2 hC ht k l⟩
theorem st_fe (q : Rat) (n : Int) : (Tl.fe q n).St := fun h hC hn ht k l _ X hX => ⟨FR.sets (h X hX).1 hC hn k l, OF.sets (h X hX).2 hC ht k l⟩
theorem st_fe0 (q : Rat) (n : Int) : (Tl.fe0 q n).St := fun h hC hn ht k l _ X hX => ⟨FR.sets (h X hX).1 hC hn k l, OF.sets (h X hX).2 hC ht k l⟩
theorem st_f0 (q : Rat) : (Tl.f0 q).St := fun h hC hn _ k l _ X hX => FR.sets (h X hX) hC hn k l
theorem st_w0 (q : Int) : (Tl.w0 q).St := fun h hC hn _ k l _ X hX => WR.sets (h X hX) hC hn k l

/-- A new box, whatever it holds. -/
def Tl.boxS (t : TypeId) (n : Nat) : Tl where
  S v := ∃ g, v = .pointer (some ⟨g, 0, none⟩)
  Bs := Bl
  A B v w := ∀ g, v = .pointer (some ⟨g, 0, none⟩) → (∃ c, Cells w g t c ∧ c.size = n ∧ NoU c) ∧ B ≤ g
  wit := ⟨_, 0, rfl⟩
  ext h e X hX := ⟨let ⟨c, h1, h2⟩ := (h X hX).1; ⟨c, h1.ext e, h2⟩, (h X hX).2⟩
  mono h e X hX := ⟨(h X hX).1, Nat.le_trans e (h X hX).2⟩
  bl := by
    rintro B _ w ⟨g, rfl⟩ h b hb
    obtain ⟨⟨c, h1, _⟩, h2⟩ := h g rfl
    simp [Bl, Bl1] at hb
    subst hb
    exact ⟨h2, h1.lt⟩
theorem Tl.getBS {t : TypeId} {n : Nat} {B : Nat} {w : World} {g : Nat} (h : (Tl.boxS t n).A B (.pointer (some ⟨g, 0, none⟩)) w) : (∃ c, Cells w g t c ∧ c.size = n ∧ NoU c) ∧ B ≤ g := h g rfl
theorem tellBS {t : TypeId} {n : Nat} {c : Array Value} {w1 : World} {K : Value → World → Prop} (hn : c.size = n) (hu : NoU c) (hK : ∀ v w', (Tl.boxS t n).S v → (Tl.boxS t n).A w1.heap.size v w' → Ext w1 w' → K v w') : K (.pointer (some ⟨w1.heap.size, 0, none⟩)) (w1.alloc (.cells c t)) :=
  hK _ _ ⟨_, rfl⟩ (fun g hg => by
    simp only [Value.pointer.injEq, Option.some.injEq, Addr.mk.injEq, and_true] at hg
    subst hg
    exact ⟨⟨c, Cells.newAt _ _ rfl, hn, hu⟩, Nat.le_refl _⟩) ((Below.refl _ _).alloc (Nat.le_refl _) _)

theorem splice_size : ∀ (l : List Value) (c : Array Value) (k : Nat), (splice c k l).size = c.size
  | [], _, _ => rfl
  | v :: r, c, k => by rw [splice, splice_size r]; simp
theorem NoU.splice : ∀ (l : List Value) {c : Array Value} (k : Nat), NoU c → NoU l.toArray → NoU (Go.Proofs.YtndgaecfeaedeaaGreat.splice c k l)
  | [], _, _, h, _ => h
  | v :: r, c, k, h, hl => by
    refine NoU.splice r (k + 1) ?_ (fun x hx => hl x (by simpa using List.mem_cons_of_mem _ (by simpa using hx)))
    intro x hx i e
    rw [Array.toList_setIfInBounds] at hx
    rcases List.mem_or_eq_of_mem_set hx with h' | h'
    · exact h x h' i e
    · exact hl v (by simp) i (h' ▸ e)
theorem st_bs (t : TypeId) (n : Nat) : (Tl.boxS t n).St := fun {B v w b ty c} h hC hn _ k l hl g hg => by
  obtain ⟨⟨c0, h1, h2, h3⟩, h4⟩ := h g hg
  by_cases e : g = b
  · subst e
    have e2 : t = ty ∧ c0 = c := by
      have := h1.symm.trans (show w.heap[g]? = _ from hC)
      simp only [Option.some.injEq, Obj.cells.injEq, and_true] at this
      exact ⟨this.2, this.1⟩
    obtain ⟨rfl, rfl⟩ := e2
    exact ⟨⟨_, Cells.sets l h1 k, by rw [splice_size, h2], NoU.splice l k h3 hl⟩, h4⟩
  · exact ⟨⟨c0, Cells.off h1 e k l, h2, h3⟩, h4⟩
section
variable {P : Program} {ops : Array Oper}

/-- The leaves of a pair's first part. -/
def lvT (v : Value) : List Value := match v with
  | .tuple vs => match vs.toList with
    | .agg cs :: _ => cs.toList
    | _ => []
  | _ => []
/-- The store ks fills the box of ka with what the call kc has given (its leaves: lv). -/
structure St1 where
  ks : Nat
  ka : Nat
  kc : Nat
  t : TypeId
  n : Nat
  lv : Value → List Value

def SR (s : St1) (T : Nat → Option Tl) (k : Nat) : Bool := (T k).isSome || k == s.ks
def SS (s : St1) (T : Nat → Option Tl) (k : Nat) (v : Value) : Prop := if k = s.ks then True else TS T k v
def SA (s : St1) (T : Nat → Option Tl) (B : Nat) (k : Nat) (v : Value) (w : World) : Prop :=
  if k = s.ks then ∀ g y, v = .tuple #[.pointer (some ⟨g, 0, none⟩), y] → Cells w g s.t (s.lv y).toArray ∧ B ≤ g else TA T B k v w ∧ ∀ b ∈ TB T k v, b < w.heap.size
def SC (s : St1) (T : Nat → Option Tl) (k : Nat) (u : Value) (w w' : World) : Prop :=
  if k = s.ks then ∃ g c l, Cells w g s.t c ∧ NoU c ∧ NoU l.toArray ∧ w' = sets w g 0 l else ChF (TB T) k u w w'
def SX (s : St1) (T : Nat → Option Tl) (i : Nat) (v : Value) (k : Nat) (u : Value) : Prop :=
  (i = s.ka → k = s.ks → ∃ y, u = .tuple #[v, y]) ∧ (i = s.kc → k = s.ks → ∃ x, u = .tuple #[x, v]) ∧ (i ≠ s.ks → k ≠ s.ks → XF (TB T) i v k u)
abbrev WalkS (s : St1) (P : Program) (ops : Array Oper) (T : Nat → Option Tl) (w : World) (Fin : Act → World → Prop) : List (Nat × Value) → Nat → List Oper → Act → Prop :=
  Walk P ops (SR s T) (SS s T) (SA s T w.heap.size) (Ext w) (SC s T) (SX s T) UE Fin

theorem regionS (s : St1) (N : Nat) (T : Nat → Option Tl) {id : Nat} {l : List Oper} {Q : Exit → Act → World → Prop} {a : Act} {w : World}
    (hm : P.follows .mixedOrders = true) (hB : headB l.toArray N a.tmps.size = true) (ht : s.t ≠ 153)
    (hT : ∀ k t, T k = some t → t.St) (hks : T s.ks = none) (hpa : pred l.toArray s.ks s.ka = true) (hpc : pred l.toArray s.ks s.kc = true)
    (hW : WalkS s P l.toArray T w (wpList P l.toArray Q (l.drop N)) [] 0 (l.take N) a) : (Code.region id l.toArray true).wp P Q a w := by
  refine region N (SR s T) (SS s T) (SA s T w.heap.size) (Ext w) (SC s T) (SX s T) UE hm hB ?_ ?_ (fun _ _ _ _ _ _ _ _ _ _ => trivial) (Below.refl _ _).drew (fun _ _ => trivial) hW
  · intro i v k u w1 w2 hik _ _ h hc _
    unfold SA SC at *
    by_cases hi : i = s.ks
    · rw [if_pos hi] at h ⊢
      rw [if_neg (fun e => hik (hi.trans e.symm))] at hc
      intro g y hg
      exact ⟨(h g y hg).1.ext hc.1, (h g y hg).2⟩
    · rw [if_neg hi] at h ⊢
      by_cases hk : k = s.ks
      · rw [if_pos hk] at hc
        obtain ⟨g, c, l', h1, h2, h3, rfl⟩ := hc
        refine ⟨?_, fun b hb => by rw [size_sets]; exact h.2 b hb⟩
        have h0 := h.1
        unfold TA at *
        split <;> rename_i hte <;> simp only [hte] at h0
        · exact ⟨h0.1, hT _ _ hte h0.2 h1 h2 ht _ _ h3⟩
        · trivial
      · rw [if_neg hk] at hc
        refine ⟨?_, fun b hb => Nat.lt_of_lt_of_le (h.2 b hb) hc.1.size⟩
        have h0 := h.1
        unfold TA at *
        split <;> rename_i hte <;> simp only [hte] at h0
        · exact ⟨h0.1, Tl.ext _ h0.2 hc.1⟩
        · trivial
  · intro i v k u w1 w2 hik _ _ p1 p2 h hc
    unfold SA SC at *
    refine ⟨⟨fun e1 e2 => ?_, fun e1 e2 => ?_, fun e1 e2 => ?_⟩, ⟨fun e1 e2 => ?_, fun e1 e2 => ?_, fun e1 e2 => ?_⟩⟩
    · subst e1 e2; rw [hpa] at p1; cases p1
    · subst e1 e2; rw [hpc] at p1; cases p1
    · rw [if_neg e1] at h; rw [if_neg e2] at hc
      exact (xF (A := TA T w.heap.size) h hc).1
    · subst e1 e2; rw [hpa] at p2; cases p2
    · subst e1 e2; rw [hpc] at p2; cases p2
    · rw [if_neg e2] at h; rw [if_neg e1] at hc
      exact (xF (A := TA T w.heap.size) h hc).2

variable {s : St1} {T : Nat → Option Tl} {Fin : Act → World → Prop} {w : World} {L : List (Nat × Value)} {k : Nat} {o : Oper} {rest : List Oper} {a : Act}

theorem Walk.tellS {t : Tl} (hT : T k = some t) (hk : (k == s.ks) = false) (hz : (∀ p ∈ L, p.1 ≠ s.ks) ∨ (k ≠ s.ka ∧ k ≠ s.kc)) (hg : o.guard = none)
    (h : ∀ w1, Ext w w1 → Knows ops (SA s T w.heap.size) L k w1 → ∀ K : Value → World → Prop, (∀ v w', t.S v → t.A w1.heap.size v w' → Ext w1 w' → K v w') → Upon P K ((execOp a.eval o).run P w1))
    (hr : ∀ v, t.S v → WalkS s P ops T w Fin ((k, v) :: L) (k + 1) rest (a.put o.dst v)) : WalkS s P ops T w Fin L k (o :: rest) a := by
  have hk' : k ≠ s.ks := by simpa using hk
  refine Walk.toldX (by simp [SR, hT]) hg (by simp only [SS, if_neg hk', TS, hT]; exact t.wit) (fun w1 hI _ hL => upon_eff (h w1 hI hL.1 _ (fun v w' h1 h2 h3 => ?_))) (fun v hv => hr v (by simpa only [SS, if_neg hk', TS, hT] using hv))
  have hb : ∀ b ∈ TB T k v, w1.heap.size ≤ b ∧ b < w'.heap.size := by simp only [TB, hT]; exact t.bl h1 h2
  have hc : ChF (TB T) k v w1 w' := ⟨h3, fun b h => (hb b h).1⟩
  refine ⟨by simpa only [SS, if_neg hk', TS, hT] using h1, ?_, hI.trans (h3.mono hI.size), by unfold SC; rw [if_neg hk']; exact hc, fun p hp hpr => ?_⟩
  · unfold SA; rw [if_neg hk']
    exact ⟨by simp only [TA, hT]; exact ⟨h1, t.mono h2 hI.size⟩, fun b h => (hb b h).2⟩
  · have hp' := hL.1 p hp hpr
    unfold SA at hp'
    refine ⟨⟨fun _ e => absurd e hk', fun _ e => absurd e hk', fun e1 _ => ?_⟩, ⟨fun e1 e2 => ?_, fun e1 e2 => ?_, fun _ e1 => ?_⟩⟩
    · rw [if_neg e1] at hp'; exact (xF (A := TA T w.heap.size) hp' hc).1
    · exact hz.elim (fun z => absurd e2 (z p hp)) (fun z => absurd e1 z.1)
    · exact hz.elim (fun z => absurd e2 (z p hp)) (fun z => absurd e1 z.2)
    · rw [if_neg e1] at hp'; exact (xF (A := TA T w.heap.size) hp' hc).2

/-- What is known of a told one. -/
theorem knS {i : Nat} {v : Value} {t : Tl} {B : Nat} {w1 : World} (hT : T i = some t) (hi : (i == s.ks) = false) (hm : (i, v) ∈ L) (hp : pred ops k i = true) (h : Knows ops (SA s T B) L k w1) : t.A B v w1 := by
  have := h (i, v) hm hp
  have hi' : i ≠ s.ks := by simpa using hi
  unfold SA at this
  rw [if_neg hi'] at this
  have h1 := this.1
  simp only [TA, hT] at h1
  exact h1.2
theorem kzS {i : Nat} {v : Value} {t : Tl} {B : Nat} {w1 : World} (hT : T i = some t) (hi : (i == s.ks) = false) (hm : (i, v) ∈ L) (h : ∀ p ∈ L, SA s T B p.1 p.2 w1) : t.A B v w1 := by
  have := h (i, v) hm
  have hi' : i ≠ s.ks := by simpa using hi
  unfold SA at this
  rw [if_neg hi'] at this
  have h1 := this.1
  simp only [TA, hT] at h1
  exact h1.2

theorem Walk.storeS {g : Nat} {vc : Value} (hk : k = s.ks) (hg : o.guard = none) (hd : o.dst = none)
    (hTa : T s.ka = some (.boxS s.t s.n)) (hka : (s.ka == s.ks) = false) (hma : (s.ka, .pointer (some ⟨g, 0, none⟩)) ∈ L) (hpa : pred ops s.ks s.ka = true)
    (hua : ∀ p ∈ L, p.1 = s.ka → p.2 = .pointer (some ⟨g, 0, none⟩)) (huc : ∀ p ∈ L, p.1 = s.kc → p.2 = vc) (hnk : ∀ p ∈ L, p.1 ≠ s.ks)
    (hsp : ∀ c : Array Value, c.size = s.n → splice c 0 (s.lv vc) = (s.lv vc).toArray) (hnu : NoU (s.lv vc).toArray)
    (h : ∀ w1 c, Ext w w1 → Cells w1 g s.t c → c.size = s.n → Knows ops (SA s T w.heap.size) L k w1 → ∀ K : World → Prop, K (sets w1 g 0 (s.lv vc)) → UponS K ((execOp a.eval o).run P w1))
    (hr : ∀ v, WalkS s P ops T w Fin ((k, v) :: L) (k + 1) rest (a.put o.dst v)) : WalkS s P ops T w Fin L k (o :: rest) a := by
  subst hk
  refine Walk.toldX (by simp [SR]) hg ⟨undef, by unfold SS; rw [if_pos rfl]; trivial⟩ (fun w1 hI _ hL => ?_) (fun v _ => hr v)
  obtain ⟨⟨c, hC, hn, hu⟩, hB⟩ := Tl.getBS (knS hTa hka hma hpa hL.1)
  refine eff_store (.tuple #[.pointer (some ⟨g, 0, none⟩), vc]) hd (h w1 c hI hC hn hL.1 _ ?_)
  refine ⟨by unfold SS; rw [if_pos rfl]; trivial, ?_, Ext.sets hI hB 0 _, ?_, fun p hp _ => ?_⟩
  · unfold SA
    rw [if_pos rfl]
    intro g' y e
    simp only [Value.tuple.injEq, Array.mk.injEq, List.cons.injEq, Value.pointer.injEq, Option.some.injEq, Addr.mk.injEq, and_true] at e
    obtain ⟨rfl, rfl⟩ := e
    refine ⟨?_, hB⟩
    have := Cells.sets (s.lv vc) hC 0
    rwa [hsp c hn] at this
  · unfold SC
    rw [if_pos rfl]
    exact ⟨g, c, _, hC, hu, hnu, rfl⟩
  · have hpk := hnk p hp
    refine ⟨⟨fun e _ => ?_, fun e _ => ?_, fun _ e => absurd rfl e⟩, ⟨fun _ e => absurd e hpk, fun _ e => absurd e hpk, fun e _ => absurd rfl e⟩⟩
    · rw [hua p hp e]; exact ⟨_, rfl⟩
    · rw [huc p hp e]; exact ⟨_, rfl⟩

/-- The end: what is known of each told one, of the box, and how any two stand to each other. -/
theorem Walk.nilS {g : Nat} {vc : Value} (hma : (s.ka, .pointer (some ⟨g, 0, none⟩)) ∈ L) (hmc : (s.kc, vc) ∈ L) {vs : Value} (hms : (s.ks, vs) ∈ L) (ha : s.ka ≠ s.ks) (hc : s.kc ≠ s.ks)
    (h : ∀ w1, Ext w w1 → (∀ p ∈ L, SA s T w.heap.size p.1 p.2 w1) → Cells w1 g s.t (s.lv vc).toArray ∧ w.heap.size ≤ g → (∀ p ∈ L, ∀ q ∈ L, p.1 ≠ q.1 → p.1 ≠ s.ks → q.1 ≠ s.ks → ∀ b ∈ TB T p.1 p.2, b ∉ TB T q.1 q.2) → Fin a w1) : WalkS s P ops T w Fin L k [] a :=
  Walk.nilX fun w1 hI hL hX => h w1 hI hL (by
    obtain ⟨y, e1⟩ := (hX _ hma _ hms ha).1 rfl rfl
    obtain ⟨x, e2⟩ := (hX _ hmc _ hms hc).2.1 rfl rfl
    have := hL _ hms
    unfold SA at this
    rw [if_pos rfl] at this
    have e1' : vs = .tuple #[.pointer (some ⟨g, 0, none⟩), y] := e1
    have e2' : vs = .tuple #[x, vc] := e2
    rw [e1'] at e2'
    simp only [Value.tuple.injEq, Array.mk.injEq, List.cons.injEq, and_true] at e2'
    obtain ⟨_, rfl⟩ := e2'
    exact this g y e1') (fun p hp q hq hne hp' hq' => (hX p hp q hq hne).2.2 hp' hq')
end
/-! ### A list of operations, one by one -/
section
variable {P : Program} {ops : Array Oper} {Q : Exit → Act → World → Prop} {a : Act} {w : World} {o : Oper} {rest : List Oper}
theorem wpList_one {x : Value} (hg : Region.wanted o (yielded ops a.tmps) = true) (h : ∀ K : Value → World → Prop, K x w → UponV K ((execOp a.eval o).run P w)) (hr : wpList P ops Q rest (a.put o.dst x) w) : wpList P ops Q (o :: rest) a w := by
  unfold wpList
  rw [if_pos hg]
  left
  unfold Oper.wp
  rw [uponV_one h]
  exact hr
theorem wpList_skip (hg : Region.wanted o (yielded ops a.tmps) = false) (hr : wpList P ops Q rest (a.put o.dst undef) w) : wpList P ops Q (o :: rest) a w := by
  unfold wpList
  rw [if_neg (by simp [hg])]
  exact hr
theorem wpList_tell {t : Tl} (hg : Region.wanted o (yielded ops a.tmps) = true)
    (h : ∀ K : Value → World → Prop, (∀ v w', t.S v → t.A w.heap.size v w' → Ext w w' → K v w') → Upon P K ((execOp a.eval o).run P w))
    (hr : ∀ v w', t.S v → t.A w.heap.size v w' → Ext w w' → wpList P ops Q rest (a.put o.dst v) w') : wpList P ops Q (o :: rest) a w := by
  unfold wpList
  rw [if_pos hg]
  left
  have := h (fun v w' => wpList P ops Q rest (a.put o.dst v) w') hr
  unfold Oper.wp
  generalize (execOp a.eval o).run P w = r at *
  cases r with
  | ok n w' =>
    cases n with
    | value v => exact this
    | enter f args =>
      refine Calls.mono (this : Calls P f args w' _) ?_
      rintro e w'' ⟨v, rfl, hv⟩
      exact hv
    | skip => exact this
    | _ => exact (this : False).elim
  | halt x w' => exact (this : False).elim
end
theorem splice4 (a b c d : Value) (x : Array Value) (h : x.size = 4) : splice x 0 [a, b, c, d] = #[a, b, c, d] := by
  obtain ⟨l⟩ := x
  match l, h with
  | [_, _, _, _], _ => rfl
theorem splice2 (a b : Value) (x : Array Value) (h : x.size = 2) : splice x 0 [a, b] = #[a, b] := by
  obtain ⟨l⟩ := x
  match l, h with
  | [_, _], _ => rfl
/-- The cells of a box, its content unknown. -/
theorem Cells.frees {w : World} {b : Nat} {t : TypeId} {c : Array Value} (h : Cells w b t c) : ∀ k, w.frozen? ⟨b, k, none⟩ = false := h.frozen
theorem Cells.some {w : World} {b : Nat} {t : TypeId} {c : Array Value} (h : Cells w b t c) {k : Nat} (hk : k < c.size) : ∃ v, w.cell? ⟨b, k, none⟩ = Option.some v := ⟨c[k], h.cell (by simp [hk])⟩
end Go.Proofs.YtndgaecfeaedeaaGreat

namespace Go.Proofs.YtndgaecfeaedeaaGreat
set_option linter.unusedSimpArgs false
set_option linter.unusedVariables false
open Go.RowKit Lex Mth

def Tl.fn (q : Rat) (n : Int) : Tl where
  S v := ∃ X : Fr, v = .tuple #[X.val, .int .i64 n]
  Bs _ := []
  A _ v w := ∀ X : Fr, v = .tuple #[X.val, .int .i64 n] → FR w X q
  wit := ⟨_, ⟨⟨false, none, 0, 0⟩, ⟨false, none, 0, 0⟩⟩, rfl⟩
  ext h e X hX := (h X hX).ext e
  mono h _ := h
  bl := by rintro B _ w _ h b hb; cases hb
theorem Tl.getFn {q : Rat} {n : Int} {B : Nat} {w : World} {X : Fr} (h : (Tl.fn q n).A B (.tuple #[.agg #[.bool X.N.b, .slice X.N.p X.N.n X.N.c, .bool X.D.b, .slice X.D.p X.D.n X.D.c], .int .i64 n]) w) : FR w X q := h X rfl
theorem Tl.putFn {q : Rat} {n : Int} {B : Nat} {w : World} {X : Fr} (h : FR w X q) : (Tl.fn q n).A B (.tuple #[X.val, .int .i64 n]) w := by
  intro Y hY
  have : X.val = Y.val := by
    simp only [Value.tuple.injEq, Array.mk.injEq, List.cons.injEq, and_true] at hY
    exact hY
  obtain rfl := fr_inj this
  exact h
theorem st_fn (q : Rat) (n : Int) : (Tl.fn q n).St := fun h hC hn _ k l _ X hX => FR.sets (h X hX) hC hn k l
theorem Gv.fn {q : Rat} {n : Int} {w : World} {e : Ending} {w' : World} (h : Gv (.fn q n) w e w') : ∃ X : Fr, e = .returned (.tuple #[.agg #[.bool X.N.b, .slice X.N.p X.N.n X.N.c, .bool X.D.b, .slice X.D.p X.D.n X.D.c], .int .i64 n]) ∧ FR w' X q ∧ Ext w w' := by
  obtain ⟨v, rfl, ⟨X, rfl⟩, h2, h3⟩ := h; exact ⟨X, rfl, h2 X rfl, h3⟩
theorem Gv.of_fn {q : Rat} {n : Int} {X : Fr} {w w' : World} (h : FR w' X q) (e : Ext w w') : Gv (.fn q n) w (.returned (.tuple #[.agg #[.bool X.N.b, .slice X.N.p X.N.n X.N.c, .bool X.D.b, .slice X.D.p X.D.n X.D.c], .int .i64 n])) w' := ⟨_, rfl, ⟨X, rfl⟩, Tl.putFn h, e⟩
theorem Gv.fe_fn {q : Rat} {n : Int} {w : World} {e : Ending} {w' : World} (h : Gv (.fe q n) w e w') : Gv (.fn q n) w e w' := by
  obtain ⟨X, rfl, h1, _, h3⟩ := Gv.fe h; exact Gv.of_fn h1 h3
end Go.Proofs.YtndgaecfeaedeaaGreat

namespace Go.Proofs.YtndgaecfeaedeaaGreat
set_option linter.unusedSimpArgs false
set_option linter.unusedVariables false
namespace Lex

/-- What comes before an operation, out of what comes before those ahead of it. -/
def maskOf (rs : List Nat) : List Edge → Nat
  | [] => 0
  | e :: l => if Region.binds .any e then (1 <<< e.on ||| rs.getD e.on 0) ||| maskOf rs l else maskOf rs l
def rowsM : List Nat → List Oper → List Nat
  | rs, [] => rs
  | rs, o :: l => rowsM (rs ++ [maskOf rs o.after.toList]) l
def predM (ops : Array Oper) (i j : Nat) : Bool := ((rowsM [] ops.toList).getD i 0).testBit j

theorem maskOf_bit {rs : List Nat} {j : Nat} : ∀ {l : List Edge}, (maskOf rs l).testBit j = true → ∃ e ∈ l, Region.binds .any e = true ∧ (e.on = j ∨ (rs.getD e.on 0).testBit j = true)
  | [], h => by simp [maskOf] at h
  | e :: l, h => by
    unfold maskOf at h
    split at h
    · rename_i hb
      rw [Nat.testBit_or, Nat.testBit_or, Bool.or_eq_true, Bool.or_eq_true] at h
      rcases h with (h | h) | h
      · rw [Nat.testBit_shiftLeft] at h
        simp only [Bool.and_eq_true, decide_eq_true_eq] at h
        have h2 := h.2
        rw [Nat.testBit_one_eq_true_iff_self_eq_zero] at h2
        exact ⟨e, List.mem_cons_self .., hb, .inl (by omega)⟩
      · exact ⟨e, List.mem_cons_self .., hb, .inr h⟩
      · obtain ⟨e', h1, h2⟩ := maskOf_bit h
        exact ⟨e', List.mem_cons_of_mem _ h1, h2⟩
    · obtain ⟨e', h1, h2⟩ := maskOf_bit h
      exact ⟨e', List.mem_cons_of_mem _ h1, h2⟩

theorem predF_mono {ops : Array Oper} : ∀ {f g i j : Nat}, f ≤ g → predF ops f i j = true → predF ops g i j = true
  | 0, _, _, _, _, h => by simp [predF] at h
  | f + 1, 0, _, _, hg, _ => by omega
  | f + 1, g + 1, i, j, hg, h => by
    simp only [predF] at h ⊢
    split at h
    · exact h
    · rename_i o ho
      simp only [Array.any_eq_true', Bool.and_eq_true, Bool.or_eq_true] at h ⊢
      obtain ⟨e, he, hb, h⟩ := h
      exact ⟨e, he, hb, h.imp id (predF_mono (by omega))⟩

/-- The rows so far are sound. -/
def Sound (ops : Array Oper) (rs : List Nat) : Prop := ∀ i j, (rs.getD i 0).testBit j = true → predF ops (i + 1) i j = true
theorem rowsM_sound {ops : Array Oper} : ∀ (l : List Oper) (rs : List Nat), Sound ops rs → (∀ k, l[k]? = ops[rs.length + k]?) → Sound ops (rowsM rs l)
  | [], rs, h, _ => h
  | o :: l, rs, h, hl => by
    refine rowsM_sound l _ ?_ (fun k => ?_)
    · intro i j hb
      rcases Nat.lt_trichotomy i rs.length with hi | hi | hi
      · rw [List.getD_eq_getElem?_getD, List.getElem?_append_left hi, ← List.getD_eq_getElem?_getD] at hb
        exact h i j hb
      · subst hi
        rw [List.getD_eq_getElem?_getD, List.getElem?_append_right (Nat.le_refl _)] at hb
        simp only [Nat.sub_self, List.getElem?_cons_zero, Option.getD_some] at hb
        obtain ⟨e, he, hbe, h2⟩ := maskOf_bit hb
        have ho : ops[rs.length]? = some o := by have := hl 0; simpa using this.symm
        simp only [predF, ho, Array.any_eq_true', Bool.and_eq_true, Bool.or_eq_true]
        refine ⟨e, by simpa using he, hbe, ?_⟩
        rcases h2 with h2 | h2
        · exact .inl (beq_iff_eq.2 h2)
        · right
          have hlt : e.on < rs.length := by
            apply Decidable.byContradiction
            intro hn
            rw [List.getD_eq_getElem?_getD, List.getElem?_eq_none (by omega)] at h2
            simp at h2
          exact predF_mono (by omega) (h e.on j h2)
      · rw [List.getD_eq_getElem?_getD, List.getElem?_eq_none (by simp; omega)] at hb
        simp at hb
    · have := hl (k + 1)
      simp only [List.getElem?_cons_succ] at this
      rw [this, List.length_append]
      congr 1
      simp; omega
theorem pred_of {ops : Array Oper} {i j : Nat} (h : predM ops i j = true) : pred ops i j = true := by
  have hs : Sound ops (rowsM [] ops.toList) := rowsM_sound _ _ (fun i j h => by simp at h) (fun k => by simp)
  have h1 := hs i j h
  by_cases hi : i < ops.size
  · exact predF_mono (by omega) h1
  · simp [predF, Array.getElem?_eq_none (show ops.size ≤ i by omega)] at h1

def looksM (ops : Array Oper) (N : Nat) : Bool :=
  (List.range N).all fun i => match ops[i]? with
    | none => false
    | some o =>
      (o.after.all fun e => !Region.binds .any e || decide (e.on < i)) &&
      (List.range N).all fun j => match (ops[j]?).bind (·.dst) with
        | none => true
        | some d => (j == i || (o.dst != some d)) && (!(o.looksAt ops).contains d || (decide (j < i) && predM ops i j))
theorem looks_of {ops : Array Oper} {N : Nat} (h : looksM ops N = true) : looksOk ops N = true := by
  unfold looksM at h
  unfold looksOk
  rw [List.all_eq_true] at h ⊢
  intro i hi
  have hx := h i hi
  cases ho : ops[i]? with
  | none => rw [ho] at hx; simp at hx
  | some o =>
    rw [ho] at hx
    simp only [Bool.and_eq_true] at hx ⊢
    refine ⟨hx.1, ?_⟩
    rw [List.all_eq_true]
    have h2 := List.all_eq_true.1 hx.2
    intro j hj
    have hy := h2 j hj
    cases hd : (ops[j]?).bind (·.dst) with
    | none => rfl
    | some d =>
      rw [hd] at hy
      simp only [Bool.and_eq_true, Bool.or_eq_true] at hy ⊢
      exact ⟨hy.1, hy.2.imp id fun h3 => ⟨h3.1, pred_of h3.2⟩⟩
def headM (ops : Array Oper) (N size : Nat) : Bool :=
  Region.noSelect ops && decide (N ≤ ops.size) && looksM ops N && dstsOk ops N size &&
  (decide (N = ops.size) || (decide (N < ops.size) && Region.sinkB .any ops N && Region.chainB .any ops N)) &&
  Region.seqB .any ops (ops.size - N) N (Array.replicate N true ++ Array.replicate (ops.size - N) false)
theorem head_of {ops : Array Oper} {N size : Nat} (h : headM ops N size = true) : headB ops N size = true := by
  unfold headM at h
  unfold headB
  simp only [Bool.and_eq_true] at h ⊢
  obtain ⟨⟨⟨⟨⟨h1, h2⟩, h3⟩, h4⟩, h5⟩, h6⟩ := h
  exact ⟨⟨⟨⟨⟨h1, h2⟩, looks_of h3⟩, h4⟩, h5⟩, h6⟩
end Lex
end Go.Proofs.YtndgaecfeaedeaaGreat

namespace Go.Proofs.YtndgaecfeaedeaaGreat
set_option linter.unusedSimpArgs false
set_option linter.unusedVariables false
open Go.RowKit Lex Mth

/-- A fraction whose parts are short enough. -/
def Sz (q : Rat) : Prop := siz q.num.natAbs ≤ 256 ∧ siz q.den ≤ 256
theorem WR.cast {w : World} {X : Wh} {z z' : Int} (h : WR w X z) (e : z = z') : WR w X z' := e ▸ h
theorem den_ne (q : Rat) : ((q.den : Nat) : Int) ≠ 0 := by have := q.den_nz; omega

theorem mul_num (x y : Rat) : Int.fdiv x.num (Int.gcd x.num y.den : Nat) * Int.fdiv y.num (Int.gcd y.num x.den : Nat) = (x * y).num := by
  show _ = (Rat.mul x y).num
  unfold Rat.mul
  simp only [Int.divExact_eq_ediv]
  rw [Int.fdiv_eq_ediv_of_nonneg _ (by omega), Int.fdiv_eq_ediv_of_nonneg _ (by omega)]
  rfl
theorem mul_den (x y : Rat) : Int.fdiv (x.den : Int) (Int.gcd y.num x.den : Nat) * Int.fdiv (y.den : Int) (Int.gcd x.num y.den : Nat) = ((x * y).den : Int) := by
  show _ = ((Rat.mul x y).den : Int)
  unfold Rat.mul
  simp only [Nat.divExact_eq_div]
  rw [Int.fdiv_eq_ediv_of_nonneg _ (by omega), Int.fdiv_eq_ediv_of_nonneg _ (by omega)]
  rfl

/-- The sum's numerator before it is brought to lowest terms. -/
def sN (x y : Rat) : Int := x.num * Int.fdiv (y.den : Int) (Int.gcd x.den y.den : Nat) + y.num * Int.fdiv (x.den : Int) (Int.gcd x.den y.den : Nat)
theorem add_eq (x y : Rat) : (x + y).num = Int.fdiv (sN x y) (Int.gcd (sN x y) (Int.gcd x.den y.den : Nat) : Nat) ∧ ((x + y).den : Int) = Int.fdiv (x.den : Int) (Int.gcd x.den y.den : Nat) * Int.fdiv (y.den : Int) (Int.gcd (sN x y) (Int.gcd x.den y.den : Nat) : Nat) := by
  have hs : sN x y = x.num * ((y.den / Nat.gcd x.den y.den : Nat) : Int) + y.num * ((x.den / Nat.gcd x.den y.den : Nat) : Int) := by
    unfold sN
    rw [Int.fdiv_eq_ediv_of_nonneg _ (by omega), Int.fdiv_eq_ediv_of_nonneg _ (by omega)]
    rfl
  rw [Int.fdiv_eq_ediv_of_nonneg _ (by omega), Int.fdiv_eq_ediv_of_nonneg _ (by omega), Int.fdiv_eq_ediv_of_nonneg _ (by omega)]
  have hg : Int.gcd (sN x y) (Int.gcd x.den y.den : Nat) = Nat.gcd (sN x y).natAbs (Nat.gcd x.den y.den) := rfl
  rw [hg]
  show (Rat.add x y).num = _ ∧ ((Rat.add x y).den : Int) = _
  unfold Rat.add
  by_cases h1 : x.den.gcd y.den = 1
  · simp only [h1, dif_pos]
    rw [hs, h1]
    simp only [Nat.div_one, Nat.gcd_one_right]
    have h1' : Int.gcd (x.den : Int) (y.den : Int) = 1 := h1
    rw [h1']
    constructor
    · simp
    · simp
  · simp only [h1, dif_neg, not_false_eq_true]
    rw [Rat.maybeNormalize_eq]
    simp only [Int.divExact_eq_ediv, Nat.divExact_eq_div]
    rw [← hs]
    constructor
    · rfl
    · have e : (x.den / x.den.gcd y.den * y.den) / ((sN x y).natAbs.gcd (x.den.gcd y.den)) = (x.den / x.den.gcd y.den) * (y.den / ((sN x y).natAbs.gcd (x.den.gcd y.den))) :=
        Nat.mul_div_assoc _ (Nat.dvd_trans (Nat.gcd_dvd_right _ _) (Nat.gcd_dvd_right _ _))
      rw [e]
      rfl
theorem add_num (x y : Rat) : Int.fdiv (sN x y) (Int.gcd (sN x y) (Int.gcd x.den y.den : Nat) : Nat) = (x + y).num := (add_eq x y).1.symm
theorem add_den (x y : Rat) : Int.fdiv (x.den : Int) (Int.gcd x.den y.den : Nat) * Int.fdiv (y.den : Int) (Int.gcd (sN x y) (Int.gcd x.den y.den : Nat) : Nat) = ((x + y).den : Int) := (add_eq x y).2.symm

theorem gcd_ne_left {x : Int} {y : Int} (h : y ≠ 0) : ((Int.gcd x y : Nat) : Int) ≠ 0 := by
  have := Int.gcd_eq_zero_iff (a := x) (b := y)
  omega
theorem siz_gcd {x y : Int} (h : y ≠ 0) : siz (((Int.gcd x y : Nat) : Int)).natAbs ≤ siz y.natAbs := by
  rw [Int.natAbs_natCast]
  exact siz_mono (Nat.le_of_dvd (by omega) (Int.gcd_dvd_natAbs_right x y))
theorem fdiv_le (x : Int) {y : Int} (h : 0 ≤ y) : (Int.fdiv x y).natAbs ≤ x.natAbs := by
  rw [Int.fdiv_eq_ediv_of_nonneg _ h]
  exact Int.natAbs_ediv_le_natAbs x y
theorem siz_fdiv (x : Int) {y : Int} (h : 0 ≤ y) : siz (Int.fdiv x y).natAbs ≤ siz x.natAbs := siz_mono (fdiv_le x h)
theorem siz_imul (x y : Int) : siz (x * y).natAbs ≤ siz x.natAbs + siz y.natAbs := by rw [Int.natAbs_mul]; exact siz_mul _ _
theorem siz_iadd (x y : Int) : siz (x + y).natAbs ≤ max (siz x.natAbs) (siz y.natAbs) + 1 := Nat.le_trans (siz_mono (Int.natAbs_add_le x y)) (siz_add _ _)
end Go.Proofs.YtndgaecfeaedeaaGreat

namespace Go.Proofs.YtndgaecfeaedeaaGreat
set_option linter.unusedSimpArgs false
set_option linter.unusedVariables false
open Go.RowKit Lex Mth
attribute [local go_sem] run_indexAt_at add_zero_map Oper.semAt_some at_zero

/-- Package whole, in these words. -/
theorem kMul (X Y : Wh) (x y : Int) (w : World) (hx : WR w X x) (hy : WR w Y y) (b : siz x.natAbs + siz y.natAbs ≤ 1024) :
    Calls Tryz.prog 137 #[X.val, Y.val] w (Gv (.we (x * y) 0) w) :=
  (Mul_any _ _ _ _ _ _ _ _ x y w hx hy b).mono fun _ _ ⟨b, p, n, c, he, h1, h2, h3⟩ => by subst he; exact Gv.of_we (X := ⟨b, p, n, c⟩) h1 h2 h3
theorem kAdd (X Y : Wh) (x y : Int) (w : World) (hx : WR w X x) (hy : WR w Y y) (b : siz x.natAbs ≤ 1000) (b' : siz y.natAbs ≤ 1000) :
    Calls Tryz.prog 206 #[X.val, Y.val] w (Gv (.we (x + y) 0) w) :=
  (Add_any _ _ _ _ _ _ _ _ x y w hx hy b b').mono fun _ _ ⟨b, p, n, c, he, h1, h2, h3⟩ => by subst he; exact Gv.of_we (X := ⟨b, p, n, c⟩) h1 h2 h3
theorem kGcd (X Y : Wh) (x y : Int) (w : World) (hx : WR w X x) (hy : WR w Y y) (b : siz x.natAbs ≤ 1024) (b' : siz y.natAbs ≤ 1024) :
    Calls Tryz.prog 182 #[X.val, Y.val] w (Gv (.we (Int.gcd x y : Nat) 0) w) :=
  (Gcd_any _ _ _ _ _ _ _ _ x y w hx hy b b').mono fun _ _ ⟨b, p, n, c, he, h1, h2, h3⟩ => by subst he; exact Gv.of_we (X := ⟨b, p, n, c⟩) h1 h2 h3

set_option maxRecDepth 100000 in
theorem fproduct (X : Wh) (Y : Wh) (x : Int) (y : Int) (w : World) (hX : WR w X x) (hY : WR w Y y) (b : siz x.natAbs + siz y.natAbs ≤ 1024) :
    Calls Tryz.prog 76 #[.agg #[.bool X.b, .slice X.p X.n X.c], .agg #[.bool Y.b, .slice Y.p Y.n Y.c]] w (Gv (.w (x * y)) w) := by
  have hEw : Ext w w := Below.refl _ _
  obtain ⟨w1, hww1⟩ : ∃ W, w.alloc (.cells #[.bool X.b, .slice X.p X.n X.c] 38) = W := ⟨_, rfl⟩
  have ew1 : Ext w w1 := by rw [← hww1]; exact ea _ _
  have B1 : Cells w1 (w.heap.size) 38 #[.bool X.b, .slice X.p X.n X.c] := by rw [← hww1]; exact Cells.newAt _ _ (by omega)
  replace hX := hX.ext ew1
  replace hY := hY.ext ew1
  have zw1 := alloc_lt hww1
  have hEw1 := eg hEw ew1
  have lB1_w1 := B1.lt
  obtain ⟨w2, hww2⟩ : ∃ W, w1.alloc (.cells #[.bool Y.b, .slice Y.p Y.n Y.c] 38) = W := ⟨_, rfl⟩
  have ew2 : Ext w1 w2 := by rw [← hww2]; exact ea _ _
  have B2 : Cells w2 (w.heap.size + 1) 38 #[.bool Y.b, .slice Y.p Y.n Y.c] := by rw [← hww2]; exact Cells.newAt _ _ (by omega)
  replace hX := hX.ext ew2
  replace hY := hY.ext ew2
  replace B1 := B1.ext ew2
  have zw2 := alloc_lt hww2
  have hEw2 := eg hEw1 ew2
  have lB1_w2 := B1.lt
  have lB2_w2 := B2.lt
  obtain ⟨w3, hww3⟩ : ∃ W, w2.alloc (.cells #[.bool false, .slice none 0 0] 38) = W := ⟨_, rfl⟩
  have ew3 : Ext w2 w3 := by rw [← hww3]; exact ea _ _
  have B3 : Cells w3 (w.heap.size + 1 + 1) 38 #[.bool false, .slice none 0 0] := by rw [← hww3]; exact Cells.newAt _ _ (by omega)
  replace hX := hX.ext ew3
  replace hY := hY.ext ew3
  replace B1 := B1.ext ew3
  replace B2 := B2.ext ew3
  have zw3 := alloc_lt hww3
  have hEw3 := eg hEw2 ew3
  have b1_0_w3 := B1.cell (k := 0) rfl
  have b1_1_w3 := B1.cell (k := 1) rfl
  have b2_0_w3 := B2.cell (k := 0) rfl
  have b2_1_w3 := B2.cell (k := 1) rfl
  have lB1_w3 := B1.lt
  have lB2_w3 := B2.lt
  have lB3_w3 := B3.lt
  go_enter Tryz.func76, Tryz.ntmps76
  go_wp2_with fail
  clear hww1
  clear hww2
  clear hww3
  clear lB1_w1 lB1_w2 lB2_w2
  have yw1 := Nat.le_of_eq zw1
  replace zw1 := Nat.le_of_eq zw1.symm
  have yw2 := Nat.le_of_eq zw2
  replace zw2 := Nat.le_of_eq zw2.symm
  have yw3 := Nat.le_of_eq zw3
  replace zw3 := Nat.le_of_eq zw3.symm
  refine (kMul X Y _ _ _ (hX) (hY) (b)).mono ?_
  intro ee w4 gg
  obtain ⟨Z10, rfl, hZ10, oZ10, ew4⟩ := Gv.we gg
  replace hX := hX.ext ew4
  replace hY := hY.ext ew4
  replace B1 := B1.ext ew4
  replace B2 := B2.ext ew4
  replace B3 := B3.ext ew4
  have hEw4 := eg hEw3 ew4
  have zw4 := ew4.size
  replace oZ10 := oZ10.mono hEw3.size
  have lB1_w4 := B1.lt
  have lB2_w4 := B2.lt
  have lB3_w4 := B3.lt
  obtain ⟨w5, hww5⟩ : ∃ W, w4.alloc (.cells #[.bool Z10.b, .slice Z10.p Z10.n Z10.c] 38) = W := ⟨_, rfl⟩
  have ew5 : Ext w4 w5 := by rw [← hww5]; exact ea _ _
  have B4 : Cells w5 (w4.heap.size) 38 #[.bool Z10.b, .slice Z10.p Z10.n Z10.c] := by rw [← hww5]; exact Cells.newAt _ _ (by omega)
  replace hX := hX.ext ew5
  replace hY := hY.ext ew5
  replace hZ10 := hZ10.ext ew5
  replace oZ10 := oZ10.ext ew5
  replace B1 := B1.ext ew5
  replace B2 := B2.ext ew5
  replace B3 := B3.ext ew5
  have zw5 := alloc_lt hww5
  have hEw5 := eg hEw4 ew5
  have b4_0_w5 := B4.cell (k := 0) rfl
  have b4_1_w5 := B4.cell (k := 1) rfl
  have b3_0_w5 := B3.cell (k := 0) rfl
  have fb3_0_w5 := B3.frozen 0
  have b3_1_w5 := B3.cell (k := 1) rfl
  have fb3_1_w5 := B3.frozen 1
  have lB1_w5 := B1.lt
  have lB2_w5 := B2.lt
  have lB3_w5 := B3.lt
  have lB4_w5 := B4.lt
  obtain ⟨w6, hww6⟩ : ∃ W, ((w5).setCell ⟨w.heap.size + 1 + 1, 0, none⟩ (.bool Z10.b)).setCell ⟨w.heap.size + 1 + 1, 1, none⟩ (.slice Z10.p Z10.n Z10.c) = W := ⟨_, rfl⟩
  have nuw6 : NoU #[.bool false, .slice none 0 0] := by simp [NoU]
  replace hX := WR.sets hX B3 nuw6 0 [.bool Z10.b, .slice Z10.p Z10.n Z10.c]
  replace hY := WR.sets hY B3 nuw6 0 [.bool Z10.b, .slice Z10.p Z10.n Z10.c]
  replace hZ10 := WR.sets hZ10 B3 nuw6 0 [.bool Z10.b, .slice Z10.p Z10.n Z10.c]
  replace oZ10 := OW.sets oZ10 B3 (by decide) 0 [.bool Z10.b, .slice Z10.p Z10.n Z10.c]
  have hEw6 := Ext.sets hEw5 (b := w.heap.size + 1 + 1) (by omega) 0 [.bool Z10.b, .slice Z10.p Z10.n Z10.c]
  replace B1 := Cells.off B1 (b' := w.heap.size + 1 + 1) (by omega) 0 [.bool Z10.b, .slice Z10.p Z10.n Z10.c]
  replace B2 := Cells.off B2 (b' := w.heap.size + 1 + 1) (by omega) 0 [.bool Z10.b, .slice Z10.p Z10.n Z10.c]
  replace B4 := Cells.off B4 (b' := w.heap.size + 1 + 1) (by omega) 0 [.bool Z10.b, .slice Z10.p Z10.n Z10.c]
  replace B3 : Cells (sets w5 (w.heap.size + 1 + 1) 0 [.bool Z10.b, .slice Z10.p Z10.n Z10.c]) (w.heap.size + 1 + 1) 38 #[.bool Z10.b, .slice Z10.p Z10.n Z10.c] := Cells.sets [.bool Z10.b, .slice Z10.p Z10.n Z10.c] B3 0
  have zw6 := size_sets (w.heap.size + 1 + 1) [.bool Z10.b, .slice Z10.p Z10.n Z10.c] w5 0
  replace hww6 : sets w5 (w.heap.size + 1 + 1) 0 [.bool Z10.b, .slice Z10.p Z10.n Z10.c] = w6 := hww6
  rw [hww6] at hX hY hZ10 oZ10 B1 B2 B3 B4 hEw6 zw6
  replace hww6 : ((w5).setCell ⟨w.heap.size + 1 + 1, 0, none⟩ (.bool Z10.b)).setCell ⟨w.heap.size + 1 + 1, 1, none⟩ (.slice Z10.p Z10.n Z10.c) = w6 := hww6
  have b3_0_w6 := B3.cell (k := 0) rfl
  have b3_1_w6 := B3.cell (k := 1) rfl
  have lB1_w6 := B1.lt
  have lB2_w6 := B2.lt
  have lB3_w6 := B3.lt
  have lB4_w6 := B4.lt
  go_wp2_with fail
  clear hww5
  clear hww6
  clear b1_0_w3 b1_1_w3 b2_0_w3 b2_1_w3 b4_0_w5 b4_1_w5 b3_0_w5 fb3_0_w5 b3_1_w5 fb3_1_w5 lB1_w3 lB2_w3 lB3_w3 lB1_w4 lB2_w4 lB3_w4 lB1_w5 lB2_w5 lB3_w5 lB4_w5
  have yw5 := Nat.le_of_eq zw5
  replace zw5 := Nat.le_of_eq zw5.symm
  have yw6 := Nat.le_of_eq zw6
  replace zw6 := Nat.le_of_eq zw6.symm
  refine bodyPost_ret (v := .agg #[.bool Z10.b, .slice Z10.p Z10.n Z10.c]) (by simp [results, Tryz.results76, go_sem, b3_0_w6, b3_1_w6]) rfl ?_
  exact Gv.of_w (X := Z10) (hZ10) (oZ10) hEw6

set_option maxRecDepth 100000 in
theorem fsum (X : Wh) (Y : Wh) (x : Int) (y : Int) (w : World) (hX : WR w X x) (hY : WR w Y y) (b : siz x.natAbs ≤ 1000) (b' : siz y.natAbs ≤ 1000) :
    Calls Tryz.prog 184 #[.agg #[.bool X.b, .slice X.p X.n X.c], .agg #[.bool Y.b, .slice Y.p Y.n Y.c]] w (Gv (.w (x + y)) w) := by
  have hEw : Ext w w := Below.refl _ _
  obtain ⟨w1, hww1⟩ : ∃ W, w.alloc (.cells #[.bool X.b, .slice X.p X.n X.c] 38) = W := ⟨_, rfl⟩
  have ew1 : Ext w w1 := by rw [← hww1]; exact ea _ _
  have B1 : Cells w1 (w.heap.size) 38 #[.bool X.b, .slice X.p X.n X.c] := by rw [← hww1]; exact Cells.newAt _ _ (by omega)
  replace hX := hX.ext ew1
  replace hY := hY.ext ew1
  have zw1 := alloc_lt hww1
  have hEw1 := eg hEw ew1
  have lB1_w1 := B1.lt
  obtain ⟨w2, hww2⟩ : ∃ W, w1.alloc (.cells #[.bool Y.b, .slice Y.p Y.n Y.c] 38) = W := ⟨_, rfl⟩
  have ew2 : Ext w1 w2 := by rw [← hww2]; exact ea _ _
  have B2 : Cells w2 (w.heap.size + 1) 38 #[.bool Y.b, .slice Y.p Y.n Y.c] := by rw [← hww2]; exact Cells.newAt _ _ (by omega)
  replace hX := hX.ext ew2
  replace hY := hY.ext ew2
  replace B1 := B1.ext ew2
  have zw2 := alloc_lt hww2
  have hEw2 := eg hEw1 ew2
  have lB1_w2 := B1.lt
  have lB2_w2 := B2.lt
  obtain ⟨w3, hww3⟩ : ∃ W, w2.alloc (.cells #[.bool false, .slice none 0 0] 38) = W := ⟨_, rfl⟩
  have ew3 : Ext w2 w3 := by rw [← hww3]; exact ea _ _
  have B3 : Cells w3 (w.heap.size + 1 + 1) 38 #[.bool false, .slice none 0 0] := by rw [← hww3]; exact Cells.newAt _ _ (by omega)
  replace hX := hX.ext ew3
  replace hY := hY.ext ew3
  replace B1 := B1.ext ew3
  replace B2 := B2.ext ew3
  have zw3 := alloc_lt hww3
  have hEw3 := eg hEw2 ew3
  have b1_0_w3 := B1.cell (k := 0) rfl
  have b1_1_w3 := B1.cell (k := 1) rfl
  have b2_0_w3 := B2.cell (k := 0) rfl
  have b2_1_w3 := B2.cell (k := 1) rfl
  have lB1_w3 := B1.lt
  have lB2_w3 := B2.lt
  have lB3_w3 := B3.lt
  go_enter Tryz.func184, Tryz.ntmps184
  go_wp2_with fail
  clear hww1
  clear hww2
  clear hww3
  clear lB1_w1 lB1_w2 lB2_w2
  have yw1 := Nat.le_of_eq zw1
  replace zw1 := Nat.le_of_eq zw1.symm
  have yw2 := Nat.le_of_eq zw2
  replace zw2 := Nat.le_of_eq zw2.symm
  have yw3 := Nat.le_of_eq zw3
  replace zw3 := Nat.le_of_eq zw3.symm
  refine (kAdd X Y _ _ _ (hX) (hY) (b) (b')).mono ?_
  intro ee w4 gg
  obtain ⟨Z10, rfl, hZ10, oZ10, ew4⟩ := Gv.we gg
  replace hX := hX.ext ew4
  replace hY := hY.ext ew4
  replace B1 := B1.ext ew4
  replace B2 := B2.ext ew4
  replace B3 := B3.ext ew4
  have hEw4 := eg hEw3 ew4
  have zw4 := ew4.size
  replace oZ10 := oZ10.mono hEw3.size
  have lB1_w4 := B1.lt
  have lB2_w4 := B2.lt
  have lB3_w4 := B3.lt
  obtain ⟨w5, hww5⟩ : ∃ W, w4.alloc (.cells #[.bool Z10.b, .slice Z10.p Z10.n Z10.c] 38) = W := ⟨_, rfl⟩
  have ew5 : Ext w4 w5 := by rw [← hww5]; exact ea _ _
  have B4 : Cells w5 (w4.heap.size) 38 #[.bool Z10.b, .slice Z10.p Z10.n Z10.c] := by rw [← hww5]; exact Cells.newAt _ _ (by omega)
  replace hX := hX.ext ew5
  replace hY := hY.ext ew5
  replace hZ10 := hZ10.ext ew5
  replace oZ10 := oZ10.ext ew5
  replace B1 := B1.ext ew5
  replace B2 := B2.ext ew5
  replace B3 := B3.ext ew5
  have zw5 := alloc_lt hww5
  have hEw5 := eg hEw4 ew5
  have b4_0_w5 := B4.cell (k := 0) rfl
  have b4_1_w5 := B4.cell (k := 1) rfl
  have b3_0_w5 := B3.cell (k := 0) rfl
  have fb3_0_w5 := B3.frozen 0
  have b3_1_w5 := B3.cell (k := 1) rfl
  have fb3_1_w5 := B3.frozen 1
  have lB1_w5 := B1.lt
  have lB2_w5 := B2.lt
  have lB3_w5 := B3.lt
  have lB4_w5 := B4.lt
  obtain ⟨w6, hww6⟩ : ∃ W, ((w5).setCell ⟨w.heap.size + 1 + 1, 0, none⟩ (.bool Z10.b)).setCell ⟨w.heap.size + 1 + 1, 1, none⟩ (.slice Z10.p Z10.n Z10.c) = W := ⟨_, rfl⟩
  have nuw6 : NoU #[.bool false, .slice none 0 0] := by simp [NoU]
  replace hX := WR.sets hX B3 nuw6 0 [.bool Z10.b, .slice Z10.p Z10.n Z10.c]
  replace hY := WR.sets hY B3 nuw6 0 [.bool Z10.b, .slice Z10.p Z10.n Z10.c]
  replace hZ10 := WR.sets hZ10 B3 nuw6 0 [.bool Z10.b, .slice Z10.p Z10.n Z10.c]
  replace oZ10 := OW.sets oZ10 B3 (by decide) 0 [.bool Z10.b, .slice Z10.p Z10.n Z10.c]
  have hEw6 := Ext.sets hEw5 (b := w.heap.size + 1 + 1) (by omega) 0 [.bool Z10.b, .slice Z10.p Z10.n Z10.c]
  replace B1 := Cells.off B1 (b' := w.heap.size + 1 + 1) (by omega) 0 [.bool Z10.b, .slice Z10.p Z10.n Z10.c]
  replace B2 := Cells.off B2 (b' := w.heap.size + 1 + 1) (by omega) 0 [.bool Z10.b, .slice Z10.p Z10.n Z10.c]
  replace B4 := Cells.off B4 (b' := w.heap.size + 1 + 1) (by omega) 0 [.bool Z10.b, .slice Z10.p Z10.n Z10.c]
  replace B3 : Cells (sets w5 (w.heap.size + 1 + 1) 0 [.bool Z10.b, .slice Z10.p Z10.n Z10.c]) (w.heap.size + 1 + 1) 38 #[.bool Z10.b, .slice Z10.p Z10.n Z10.c] := Cells.sets [.bool Z10.b, .slice Z10.p Z10.n Z10.c] B3 0
  have zw6 := size_sets (w.heap.size + 1 + 1) [.bool Z10.b, .slice Z10.p Z10.n Z10.c] w5 0
  replace hww6 : sets w5 (w.heap.size + 1 + 1) 0 [.bool Z10.b, .slice Z10.p Z10.n Z10.c] = w6 := hww6
  rw [hww6] at hX hY hZ10 oZ10 B1 B2 B3 B4 hEw6 zw6
  replace hww6 : ((w5).setCell ⟨w.heap.size + 1 + 1, 0, none⟩ (.bool Z10.b)).setCell ⟨w.heap.size + 1 + 1, 1, none⟩ (.slice Z10.p Z10.n Z10.c) = w6 := hww6
  have b3_0_w6 := B3.cell (k := 0) rfl
  have b3_1_w6 := B3.cell (k := 1) rfl
  have lB1_w6 := B1.lt
  have lB2_w6 := B2.lt
  have lB3_w6 := B3.lt
  have lB4_w6 := B4.lt
  go_wp2_with fail
  clear hww5
  clear hww6
  clear b1_0_w3 b1_1_w3 b2_0_w3 b2_1_w3 b4_0_w5 b4_1_w5 b3_0_w5 fb3_0_w5 b3_1_w5 fb3_1_w5 lB1_w3 lB2_w3 lB3_w3 lB1_w4 lB2_w4 lB3_w4 lB1_w5 lB2_w5 lB3_w5 lB4_w5
  have yw5 := Nat.le_of_eq zw5
  replace zw5 := Nat.le_of_eq zw5.symm
  have yw6 := Nat.le_of_eq zw6
  replace zw6 := Nat.le_of_eq zw6.symm
  refine bodyPost_ret (v := .agg #[.bool Z10.b, .slice Z10.p Z10.n Z10.c]) (by simp [results, Tryz.results184, go_sem, b3_0_w6, b3_1_w6]) rfl ?_
  exact Gv.of_w (X := Z10) (hZ10) (oZ10) hEw6

set_option maxRecDepth 100000 in
theorem fcommon (X : Wh) (Y : Wh) (x : Int) (y : Int) (w : World) (hX : WR w X x) (hY : WR w Y y) (b : siz x.natAbs ≤ 1024) (b' : siz y.natAbs ≤ 1024) :
    Calls Tryz.prog 128 #[.agg #[.bool X.b, .slice X.p X.n X.c], .agg #[.bool Y.b, .slice Y.p Y.n Y.c]] w (Gv (.w (Int.gcd x y : Nat)) w) := by
  have hEw : Ext w w := Below.refl _ _
  obtain ⟨w1, hww1⟩ : ∃ W, w.alloc (.cells #[.bool X.b, .slice X.p X.n X.c] 38) = W := ⟨_, rfl⟩
  have ew1 : Ext w w1 := by rw [← hww1]; exact ea _ _
  have B1 : Cells w1 (w.heap.size) 38 #[.bool X.b, .slice X.p X.n X.c] := by rw [← hww1]; exact Cells.newAt _ _ (by omega)
  replace hX := hX.ext ew1
  replace hY := hY.ext ew1
  have zw1 := alloc_lt hww1
  have hEw1 := eg hEw ew1
  have lB1_w1 := B1.lt
  obtain ⟨w2, hww2⟩ : ∃ W, w1.alloc (.cells #[.bool Y.b, .slice Y.p Y.n Y.c] 38) = W := ⟨_, rfl⟩
  have ew2 : Ext w1 w2 := by rw [← hww2]; exact ea _ _
  have B2 : Cells w2 (w.heap.size + 1) 38 #[.bool Y.b, .slice Y.p Y.n Y.c] := by rw [← hww2]; exact Cells.newAt _ _ (by omega)
  replace hX := hX.ext ew2
  replace hY := hY.ext ew2
  replace B1 := B1.ext ew2
  have zw2 := alloc_lt hww2
  have hEw2 := eg hEw1 ew2
  have lB1_w2 := B1.lt
  have lB2_w2 := B2.lt
  obtain ⟨w3, hww3⟩ : ∃ W, w2.alloc (.cells #[.bool false, .slice none 0 0] 38) = W := ⟨_, rfl⟩
  have ew3 : Ext w2 w3 := by rw [← hww3]; exact ea _ _
  have B3 : Cells w3 (w.heap.size + 1 + 1) 38 #[.bool false, .slice none 0 0] := by rw [← hww3]; exact Cells.newAt _ _ (by omega)
  replace hX := hX.ext ew3
  replace hY := hY.ext ew3
  replace B1 := B1.ext ew3
  replace B2 := B2.ext ew3
  have zw3 := alloc_lt hww3
  have hEw3 := eg hEw2 ew3
  have b1_0_w3 := B1.cell (k := 0) rfl
  have b1_1_w3 := B1.cell (k := 1) rfl
  have b2_0_w3 := B2.cell (k := 0) rfl
  have b2_1_w3 := B2.cell (k := 1) rfl
  have lB1_w3 := B1.lt
  have lB2_w3 := B2.lt
  have lB3_w3 := B3.lt
  go_enter Tryz.func128, Tryz.ntmps128
  go_wp2_with fail
  clear hww1
  clear hww2
  clear hww3
  clear lB1_w1 lB1_w2 lB2_w2
  have yw1 := Nat.le_of_eq zw1
  replace zw1 := Nat.le_of_eq zw1.symm
  have yw2 := Nat.le_of_eq zw2
  replace zw2 := Nat.le_of_eq zw2.symm
  have yw3 := Nat.le_of_eq zw3
  replace zw3 := Nat.le_of_eq zw3.symm
  refine (kGcd X Y _ _ _ (hX) (hY) (b) (b')).mono ?_
  intro ee w4 gg
  obtain ⟨Z10, rfl, hZ10, oZ10, ew4⟩ := Gv.we gg
  replace hX := hX.ext ew4
  replace hY := hY.ext ew4
  replace B1 := B1.ext ew4
  replace B2 := B2.ext ew4
  replace B3 := B3.ext ew4
  have hEw4 := eg hEw3 ew4
  have zw4 := ew4.size
  replace oZ10 := oZ10.mono hEw3.size
  have lB1_w4 := B1.lt
  have lB2_w4 := B2.lt
  have lB3_w4 := B3.lt
  obtain ⟨w5, hww5⟩ : ∃ W, w4.alloc (.cells #[.bool Z10.b, .slice Z10.p Z10.n Z10.c] 38) = W := ⟨_, rfl⟩
  have ew5 : Ext w4 w5 := by rw [← hww5]; exact ea _ _
  have B4 : Cells w5 (w4.heap.size) 38 #[.bool Z10.b, .slice Z10.p Z10.n Z10.c] := by rw [← hww5]; exact Cells.newAt _ _ (by omega)
  replace hX := hX.ext ew5
  replace hY := hY.ext ew5
  replace hZ10 := hZ10.ext ew5
  replace oZ10 := oZ10.ext ew5
  replace B1 := B1.ext ew5
  replace B2 := B2.ext ew5
  replace B3 := B3.ext ew5
  have zw5 := alloc_lt hww5
  have hEw5 := eg hEw4 ew5
  have b4_0_w5 := B4.cell (k := 0) rfl
  have b4_1_w5 := B4.cell (k := 1) rfl
  have b3_0_w5 := B3.cell (k := 0) rfl
  have fb3_0_w5 := B3.frozen 0
  have b3_1_w5 := B3.cell (k := 1) rfl
  have fb3_1_w5 := B3.frozen 1
  have lB1_w5 := B1.lt
  have lB2_w5 := B2.lt
  have lB3_w5 := B3.lt
  have lB4_w5 := B4.lt
  obtain ⟨w6, hww6⟩ : ∃ W, ((w5).setCell ⟨w.heap.size + 1 + 1, 0, none⟩ (.bool Z10.b)).setCell ⟨w.heap.size + 1 + 1, 1, none⟩ (.slice Z10.p Z10.n Z10.c) = W := ⟨_, rfl⟩
  have nuw6 : NoU #[.bool false, .slice none 0 0] := by simp [NoU]
  replace hX := WR.sets hX B3 nuw6 0 [.bool Z10.b, .slice Z10.p Z10.n Z10.c]
  replace hY := WR.sets hY B3 nuw6 0 [.bool Z10.b, .slice Z10.p Z10.n Z10.c]
  replace hZ10 := WR.sets hZ10 B3 nuw6 0 [.bool Z10.b, .slice Z10.p Z10.n Z10.c]
  replace oZ10 := OW.sets oZ10 B3 (by decide) 0 [.bool Z10.b, .slice Z10.p Z10.n Z10.c]
  have hEw6 := Ext.sets hEw5 (b := w.heap.size + 1 + 1) (by omega) 0 [.bool Z10.b, .slice Z10.p Z10.n Z10.c]
  replace B1 := Cells.off B1 (b' := w.heap.size + 1 + 1) (by omega) 0 [.bool Z10.b, .slice Z10.p Z10.n Z10.c]
  replace B2 := Cells.off B2 (b' := w.heap.size + 1 + 1) (by omega) 0 [.bool Z10.b, .slice Z10.p Z10.n Z10.c]
  replace B4 := Cells.off B4 (b' := w.heap.size + 1 + 1) (by omega) 0 [.bool Z10.b, .slice Z10.p Z10.n Z10.c]
  replace B3 : Cells (sets w5 (w.heap.size + 1 + 1) 0 [.bool Z10.b, .slice Z10.p Z10.n Z10.c]) (w.heap.size + 1 + 1) 38 #[.bool Z10.b, .slice Z10.p Z10.n Z10.c] := Cells.sets [.bool Z10.b, .slice Z10.p Z10.n Z10.c] B3 0
  have zw6 := size_sets (w.heap.size + 1 + 1) [.bool Z10.b, .slice Z10.p Z10.n Z10.c] w5 0
  replace hww6 : sets w5 (w.heap.size + 1 + 1) 0 [.bool Z10.b, .slice Z10.p Z10.n Z10.c] = w6 := hww6
  rw [hww6] at hX hY hZ10 oZ10 B1 B2 B3 B4 hEw6 zw6
  replace hww6 : ((w5).setCell ⟨w.heap.size + 1 + 1, 0, none⟩ (.bool Z10.b)).setCell ⟨w.heap.size + 1 + 1, 1, none⟩ (.slice Z10.p Z10.n Z10.c) = w6 := hww6
  have b3_0_w6 := B3.cell (k := 0) rfl
  have b3_1_w6 := B3.cell (k := 1) rfl
  have lB1_w6 := B1.lt
  have lB2_w6 := B2.lt
  have lB3_w6 := B3.lt
  have lB4_w6 := B4.lt
  go_wp2_with fail
  clear hww5
  clear hww6
  clear b1_0_w3 b1_1_w3 b2_0_w3 b2_1_w3 b4_0_w5 b4_1_w5 b3_0_w5 fb3_0_w5 b3_1_w5 fb3_1_w5 lB1_w3 lB2_w3 lB3_w3 lB1_w4 lB2_w4 lB3_w4 lB1_w5 lB2_w5 lB3_w5 lB4_w5
  have yw5 := Nat.le_of_eq zw5
  replace zw5 := Nat.le_of_eq zw5.symm
  have yw6 := Nat.le_of_eq zw6
  replace zw6 := Nat.le_of_eq zw6.symm
  refine bodyPost_ret (v := .agg #[.bool Z10.b, .slice Z10.p Z10.n Z10.c]) (by simp [results, Tryz.results128, go_sem, b3_0_w6, b3_1_w6]) rfl ?_
  exact Gv.of_w (X := Z10) (hZ10) (oZ10) hEw6
end Go.Proofs.YtndgaecfeaedeaaGreat
