/- A region whose order is open in which a new box is filled before all has been carried out. No condition: a law on the calculus of walks. A kind of result: a fraction and an error's number, wherever the fraction lies. No condition. The checks of a region whose order is open, by bit masks: what comes before an operation is computed once. No condition: laws on lists. A kind of result: a fraction, or the error that an argument is not valid. No condition. Short words for walks: an alloc, a store, what a call gives, each in one line. No condition: laws on the model's worlds. Walks of the kit's copies: limbs. -/
import Derived.Test.YtndgaecfeaedeaaGreatG10
namespace Go.Proofs.YtndgaecfeaedeaaGreat
set_option linter.unusedSimpArgs false
set_option linter.unusedVariables false
open Go.RowKit Lex Mth

/-- What a kind tells stays when a box is written. -/
def Tl.St (t : Tl) : Prop := ∀ {B v w b ty c}, t.A B v w → Cells w b ty c → NoU c → ty ≠ 153 → ∀ k l, NoU l.toArray → t.A B v (sets w b k l)
theorem st_v (x : Value) : (Tl.v x).St := fun _ _ _ _ _ _ _ => trivial
theorem st_w (z : Int) : (Tl.w z).St := fun h hC hn ht k l _ X hX => ⟨WR.sets (h X hX).1 hC hn k l, OW.sets (h X hX).2 hC ht k l⟩
theorem st_we (z n : Int) : (Tl.we z n).St := fun h hC hn ht k l _ X hX => ⟨WR.sets (h X hX).1 hC hn k l, OW.sets (h X hX).2 hC ht k l⟩
theorem st_f (q : Rat) : (Tl.f q).St := fun h hC hn ht k l _ X hX => ⟨FR.sets (h X hX).1 hC hn k l, OF.sets (h X hX).2 hC ht k l⟩
theorem st_fe (q : Rat) (n : Int) : (Tl.fe q n).St := fun h hC hn ht k l _ X hX => ⟨FR.sets (h X hX).1 hC hn k l, OF.sets (h X hX).2 hC ht k l⟩
theorem st_fe0 (q : Rat) (n : Int) : (Tl.fe0 q n).St := fun h hC hn ht k l _ X hX => ⟨FR.sets (h X hX).1 hC hn k l, OF.sets (h X hX).2 hC ht k l⟩
theorem st_f0 (q : Rat) : (Tl.f0 q).St := fun h hC hn _ k l _ X hX => FR.sets (h X hX) hC hn k l
theorem st_w0 (q : Int) : (Tl.w0 q).St := fun h hC hn _ k l _ X hX => WR.sets (h X hX) hC hn k l

/-- A new box, whatever it holds. -/
def Tl.boxS (t : TypeId) (n : Nat) : Tl where
  S v := ∃ g, v = .pointer (some ⟨g, 0, none⟩)
  Bs := Bl
  A B v w := ∀ g, v = .pointer (some ⟨g, 0, none⟩) → (∃ c, Cells w g t c ∧ c.size = n ∧ NoU c) ∧ B ≤ g
  wit := ⟨_, 0, rfl⟩
  ext h e X hX := ⟨let ⟨c, h1, h2⟩ := (h X hX).1; ⟨c, h1.ext e, h2⟩, (h X hX).2⟩
  mono h e X hX := ⟨(h X hX).1, Nat.le_trans e (h X hX).2⟩
  bl := by
    rintro B _ w ⟨g, rfl⟩ h b hb
    obtain ⟨⟨c, h1, _⟩, h2⟩ := h g rfl
    simp [Bl, Bl1] at hb
    subst hb
    exact ⟨h2, h1.lt⟩
theorem Tl.getBS {t : TypeId} {n : Nat} {B : Nat} {w : World} {g : Nat} (h : (Tl.boxS t n).A B (.pointer (some ⟨g, 0, none⟩)) w) : (∃ c, Cells w g t c ∧ c.size = n ∧ NoU c) ∧ B ≤ g := h g rfl
theorem tellBS {t : TypeId} {n : Nat} {c : Array Value} {w1 : World} {K : Value → World → Prop} (hn : c.size = n) (hu : NoU c) (hK : ∀ v w', (Tl.boxS t n).S v → (Tl.boxS t n).A w1.heap.size v w' → Ext w1 w' → K v w') : K (.pointer (some ⟨w1.heap.size, 0, none⟩)) (w1.alloc (.cells c t)) :=
  hK _ _ ⟨_, rfl⟩ (fun g hg => by
    simp only [Value.pointer.injEq, Option.some.injEq, Addr.mk.injEq, and_true] at hg
    subst hg
    exact ⟨⟨c, Cells.newAt _ _ rfl, hn, hu⟩, Nat.le_refl _⟩) ((Below.refl _ _).alloc (Nat.le_refl _) _)

theorem splice_size : ∀ (l : List Value) (c : Array Value) (k : Nat), (splice c k l).size = c.size
  | [], _, _ => rfl
  | v :: r, c, k => by rw [splice, splice_size r]; simp
theorem NoU.splice : ∀ (l : List Value) {c : Array Value} (k : Nat), NoU c → NoU l.toArray → NoU (Go.Proofs.YtndgaecfeaedeaaGreat.splice c k l)
  | [], _, _, h, _ => h
  | v :: r, c, k, h, hl => by
    refine NoU.splice r (k + 1) ?_ (fun x hx => hl x (by simpa using List.mem_cons_of_mem _ (by simpa using hx)))
    intro x hx i e
    rw [Array.toList_setIfInBounds] at hx
    rcases List.mem_or_eq_of_mem_set hx with h' | h'
    · exact h x h' i e
    · exact hl v (by simp) i (h' ▸ e)
theorem st_bs (t : TypeId) (n : Nat) : (Tl.boxS t n).St := fun {B v w b ty c} h hC hn _ k l hl g hg => by
  obtain ⟨⟨c0, h1, h2, h3⟩, h4⟩ := h g hg
  by_cases e : g = b
  · subst e
    have e2 : t = ty ∧ c0 = c := by
      have := h1.symm.trans (show w.heap[g]? = _ from hC)
      simp only [Option.some.injEq, Obj.cells.injEq, and_true] at this
      exact ⟨this.2, this.1⟩
    obtain ⟨rfl, rfl⟩ := e2
    exact ⟨⟨_, Cells.sets l h1 k, by rw [splice_size, h2], NoU.splice l k h3 hl⟩, h4⟩
  · exact ⟨⟨c0, Cells.off h1 e k l, h2, h3⟩, h4⟩
section
variable {P : Program} {ops : Array Oper}

/-- The leaves of a pair's first part. -/
def lvT (v : Value) : List Value := match v with
  | .tuple vs => match vs.toList with
    | .agg cs :: _ => cs.toList
    | _ => []
  | _ => []
/-- The store ks fills the box of ka with what the call kc has given (its leaves: lv). -/
structure St1 where
  ks : Nat
  ka : Nat
  kc : Nat
  t : TypeId
  n : Nat
  lv : Value → List Value

def SR (s : St1) (T : Nat → Option Tl) (k : Nat) : Bool := (T k).isSome || k == s.ks
def SS (s : St1) (T : Nat → Option Tl) (k : Nat) (v : Value) : Prop := if k = s.ks then True else TS T k v
def SA (s : St1) (T : Nat → Option Tl) (B : Nat) (k : Nat) (v : Value) (w : World) : Prop :=
  if k = s.ks then ∀ g y, v = .tuple #[.pointer (some ⟨g, 0, none⟩), y] → Cells w g s.t (s.lv y).toArray ∧ B ≤ g else TA T B k v w ∧ ∀ b ∈ TB T k v, b < w.heap.size
def SC (s : St1) (T : Nat → Option Tl) (k : Nat) (u : Value) (w w' : World) : Prop :=
  if k = s.ks then ∃ g c l, Cells w g s.t c ∧ NoU c ∧ NoU l.toArray ∧ w' = sets w g 0 l else ChF (TB T) k u w w'
def SX (s : St1) (T : Nat → Option Tl) (i : Nat) (v : Value) (k : Nat) (u : Value) : Prop :=
  (i = s.ka → k = s.ks → ∃ y, u = .tuple #[v, y]) ∧ (i = s.kc → k = s.ks → ∃ x, u = .tuple #[x, v]) ∧ (i ≠ s.ks → k ≠ s.ks → XF (TB T) i v k u)
abbrev WalkS (s : St1) (P : Program) (ops : Array Oper) (T : Nat → Option Tl) (w : World) (Fin : Act → World → Prop) : List (Nat × Value) → Nat → List Oper → Act → Prop :=
  Walk P ops (SR s T) (SS s T) (SA s T w.heap.size) (Ext w) (SC s T) (SX s T) UE Fin

theorem regionS (s : St1) (N : Nat) (T : Nat → Option Tl) {id : Nat} {l : List Oper} {Q : Exit → Act → World → Prop} {a : Act} {w : World}
    (hm : P.follows .mixedOrders = true) (hB : headB l.toArray N a.tmps.size = true) (ht : s.t ≠ 153)
    (hT : ∀ k t, T k = some t → t.St) (hks : T s.ks = none) (hpa : pred l.toArray s.ks s.ka = true) (hpc : pred l.toArray s.ks s.kc = true)
    (hW : WalkS s P l.toArray T w (wpList P l.toArray Q (l.drop N)) [] 0 (l.take N) a) : (Code.region id l.toArray true).wp P Q a w := by
  refine region N (SR s T) (SS s T) (SA s T w.heap.size) (Ext w) (SC s T) (SX s T) UE hm hB ?_ ?_ (fun _ _ _ _ _ _ _ _ _ _ => trivial) (Below.refl _ _).drew (fun _ _ => trivial) hW
  · intro i v k u w1 w2 hik _ _ h hc _
    unfold SA SC at *
    by_cases hi : i = s.ks
    · rw [if_pos hi] at h ⊢
      rw [if_neg (fun e => hik (hi.trans e.symm))] at hc
      intro g y hg
      exact ⟨(h g y hg).1.ext hc.1, (h g y hg).2⟩
    · rw [if_neg hi] at h ⊢
      by_cases hk : k = s.ks
      · rw [if_pos hk] at hc
        obtain ⟨g, c, l', h1, h2, h3, rfl⟩ := hc
        refine ⟨?_, fun b hb => by rw [size_sets]; exact h.2 b hb⟩
        have h0 := h.1
        unfold TA at *
        split <;> rename_i hte <;> simp only [hte] at h0
        · exact ⟨h0.1, hT _ _ hte h0.2 h1 h2 ht _ _ h3⟩
        · trivial
      · rw [if_neg hk] at hc
        refine ⟨?_, fun b hb => Nat.lt_of_lt_of_le (h.2 b hb) hc.1.size⟩
        have h0 := h.1
        unfold TA at *
        split <;> rename_i hte <;> simp only [hte] at h0
        · exact ⟨h0.1, Tl.ext _ h0.2 hc.1⟩
        · trivial
  · intro i v k u w1 w2 hik _ _ p1 p2 h hc
    unfold SA SC at *
    refine ⟨⟨fun e1 e2 => ?_, fun e1 e2 => ?_, fun e1 e2 => ?_⟩, ⟨fun e1 e2 => ?_, fun e1 e2 => ?_, fun e1 e2 => ?_⟩⟩
    · subst e1 e2; rw [hpa] at p1; cases p1
    · subst e1 e2; rw [hpc] at p1; cases p1
    · rw [if_neg e1] at h; rw [if_neg e2] at hc
      exact (xF (A := TA T w.heap.size) h hc).1
    · subst e1 e2; rw [hpa] at p2; cases p2
    · subst e1 e2; rw [hpc] at p2; cases p2
    · rw [if_neg e2] at h; rw [if_neg e1] at hc
      exact (xF (A := TA T w.heap.size) h hc).2

variable {s : St1} {T : Nat → Option Tl} {Fin : Act → World → Prop} {w : World} {L : List (Nat × Value)} {k : Nat} {o : Oper} {rest : List Oper} {a : Act}

theorem Walk.tellS {t : Tl} (hT : T k = some t) (hk : (k == s.ks) = false) (hz : (∀ p ∈ L, p.1 ≠ s.ks) ∨ (k ≠ s.ka ∧ k ≠ s.kc)) (hg : o.guard = none)
    (h : ∀ w1, Ext w w1 → Knows ops (SA s T w.heap.size) L k w1 → ∀ K : Value → World → Prop, (∀ v w', t.S v → t.A w1.heap.size v w' → Ext w1 w' → K v w') → Upon P K ((execOp a.eval o).run P w1))
    (hr : ∀ v, t.S v → WalkS s P ops T w Fin ((k, v) :: L) (k + 1) rest (a.put o.dst v)) : WalkS s P ops T w Fin L k (o :: rest) a := by
  have hk' : k ≠ s.ks := by simpa using hk
  refine Walk.toldX (by simp [SR, hT]) hg (by simp only [SS, if_neg hk', TS, hT]; exact t.wit) (fun w1 hI _ hL => upon_eff (h w1 hI hL.1 _ (fun v w' h1 h2 h3 => ?_))) (fun v hv => hr v (by simpa only [SS, if_neg hk', TS, hT] using hv))
  have hb : ∀ b ∈ TB T k v, w1.heap.size ≤ b ∧ b < w'.heap.size := by simp only [TB, hT]; exact t.bl h1 h2
  have hc : ChF (TB T) k v w1 w' := ⟨h3, fun b h => (hb b h).1⟩
  refine ⟨by simpa only [SS, if_neg hk', TS, hT] using h1, ?_, hI.trans (h3.mono hI.size), by unfold SC; rw [if_neg hk']; exact hc, fun p hp hpr => ?_⟩
  · unfold SA; rw [if_neg hk']
    exact ⟨by simp only [TA, hT]; exact ⟨h1, t.mono h2 hI.size⟩, fun b h => (hb b h).2⟩
  · have hp' := hL.1 p hp hpr
    unfold SA at hp'
    refine ⟨⟨fun _ e => absurd e hk', fun _ e => absurd e hk', fun e1 _ => ?_⟩, ⟨fun e1 e2 => ?_, fun e1 e2 => ?_, fun _ e1 => ?_⟩⟩
    · rw [if_neg e1] at hp'; exact (xF (A := TA T w.heap.size) hp' hc).1
    · exact hz.elim (fun z => absurd e2 (z p hp)) (fun z => absurd e1 z.1)
    · exact hz.elim (fun z => absurd e2 (z p hp)) (fun z => absurd e1 z.2)
    · rw [if_neg e1] at hp'; exact (xF (A := TA T w.heap.size) hp' hc).2

/-- What is known of a told one. -/
theorem knS {i : Nat} {v : Value} {t : Tl} {B : Nat} {w1 : World} (hT : T i = some t) (hi : (i == s.ks) = false) (hm : (i, v) ∈ L) (hp : pred ops k i = true) (h : Knows ops (SA s T B) L k w1) : t.A B v w1 := by
  have := h (i, v) hm hp
  have hi' : i ≠ s.ks := by simpa using hi
  unfold SA at this
  rw [if_neg hi'] at this
  have h1 := this.1
  simp only [TA, hT] at h1
  exact h1.2
theorem kzS {i : Nat} {v : Value} {t : Tl} {B : Nat} {w1 : World} (hT : T i = some t) (hi : (i == s.ks) = false) (hm : (i, v) ∈ L) (h : ∀ p ∈ L, SA s T B p.1 p.2 w1) : t.A B v w1 := by
  have := h (i, v) hm
  have hi' : i ≠ s.ks := by simpa using hi
  unfold SA at this
  rw [if_neg hi'] at this
  have h1 := this.1
  simp only [TA, hT] at h1
  exact h1.2

theorem Walk.storeS {g : Nat} {vc : Value} (hk : k = s.ks) (hg : o.guard = none) (hd : o.dst = none)
    (hTa : T s.ka = some (.boxS s.t s.n)) (hka : (s.ka == s.ks) = false) (hma : (s.ka, .pointer (some ⟨g, 0, none⟩)) ∈ L) (hpa : pred ops s.ks s.ka = true)
    (hua : ∀ p ∈ L, p.1 = s.ka → p.2 = .pointer (some ⟨g, 0, none⟩)) (huc : ∀ p ∈ L, p.1 = s.kc → p.2 = vc) (hnk : ∀ p ∈ L, p.1 ≠ s.ks)
    (hsp : ∀ c : Array Value, c.size = s.n → splice c 0 (s.lv vc) = (s.lv vc).toArray) (hnu : NoU (s.lv vc).toArray)
    (h : ∀ w1 c, Ext w w1 → Cells w1 g s.t c → c.size = s.n → Knows ops (SA s T w.heap.size) L k w1 → ∀ K : World → Prop, K (sets w1 g 0 (s.lv vc)) → UponS K ((execOp a.eval o).run P w1))
    (hr : ∀ v, WalkS s P ops T w Fin ((k, v) :: L) (k + 1) rest (a.put o.dst v)) : WalkS s P ops T w Fin L k (o :: rest) a := by
  subst hk
  refine Walk.toldX (by simp [SR]) hg ⟨undef, by unfold SS; rw [if_pos rfl]; trivial⟩ (fun w1 hI _ hL => ?_) (fun v _ => hr v)
  obtain ⟨⟨c, hC, hn, hu⟩, hB⟩ := Tl.getBS (knS hTa hka hma hpa hL.1)
  refine eff_store (.tuple #[.pointer (some ⟨g, 0, none⟩), vc]) hd (h w1 c hI hC hn hL.1 _ ?_)
  refine ⟨by unfold SS; rw [if_pos rfl]; trivial, ?_, Ext.sets hI hB 0 _, ?_, fun p hp _ => ?_⟩
  · unfold SA
    rw [if_pos rfl]
    intro g' y e
    simp only [Value.tuple.injEq, Array.mk.injEq, List.cons.injEq, Value.pointer.injEq, Option.some.injEq, Addr.mk.injEq, and_true] at e
    obtain ⟨rfl, rfl⟩ := e
    refine ⟨?_, hB⟩
    have := Cells.sets (s.lv vc) hC 0
    rwa [hsp c hn] at this
  · unfold SC
    rw [if_pos rfl]
    exact ⟨g, c, _, hC, hu, hnu, rfl⟩
  · have hpk := hnk p hp
    refine ⟨⟨fun e _ => ?_, fun e _ => ?_, fun _ e => absurd rfl e⟩, ⟨fun _ e => absurd e hpk, fun _ e => absurd e hpk, fun e _ => absurd rfl e⟩⟩
    · rw [hua p hp e]; exact ⟨_, rfl⟩
    · rw [huc p hp e]; exact ⟨_, rfl⟩

/-- The end: what is known of each told one, of the box, and how any two stand to each other. -/
theorem Walk.nilS {g : Nat} {vc : Value} (hma : (s.ka, .pointer (some ⟨g, 0, none⟩)) ∈ L) (hmc : (s.kc, vc) ∈ L) {vs : Value} (hms : (s.ks, vs) ∈ L) (ha : s.ka ≠ s.ks) (hc : s.kc ≠ s.ks)
    (h : ∀ w1, Ext w w1 → (∀ p ∈ L, SA s T w.heap.size p.1 p.2 w1) → Cells w1 g s.t (s.lv vc).toArray ∧ w.heap.size ≤ g → (∀ p ∈ L, ∀ q ∈ L, p.1 ≠ q.1 → p.1 ≠ s.ks → q.1 ≠ s.ks → ∀ b ∈ TB T p.1 p.2, b ∉ TB T q.1 q.2) → Fin a w1) : WalkS s P ops T w Fin L k [] a :=
  Walk.nilX fun w1 hI hL hX => h w1 hI hL (by
    obtain ⟨y, e1⟩ := (hX _ hma _ hms ha).1 rfl rfl
    obtain ⟨x, e2⟩ := (hX _ hmc _ hms hc).2.1 rfl rfl
    have := hL _ hms
    unfold SA at this
    rw [if_pos rfl] at this
    have e1' : vs = .tuple #[.pointer (some ⟨g, 0, none⟩), y] := e1
    have e2' : vs = .tuple #[x, vc] := e2
    rw [e1'] at e2'
    simp only [Value.tuple.injEq, Array.mk.injEq, List.cons.injEq, and_true] at e2'
    obtain ⟨_, rfl⟩ := e2'
    exact this g y e1') (fun p hp q hq hne hp' hq' => (hX p hp q hq hne).2.2 hp' hq')
end
/-! ### A list of operations, one by one -/
section
variable {P : Program} {ops : Array Oper} {Q : Exit → Act → World → Prop} {a : Act} {w : World} {o : Oper} {rest : List Oper}
theorem wpList_one {x : Value} (hg : Region.wanted o (yielded ops a.tmps) = true) (h : ∀ K : Value → World → Prop, K x w → UponV K ((execOp a.eval o).run P w)) (hr : wpList P ops Q rest (a.put o.dst x) w) : wpList P ops Q (o :: rest) a w := by
  unfold wpList
  rw [if_pos hg]
  left
  unfold Oper.wp
  rw [uponV_one h]
  exact hr
theorem wpList_skip (hg : Region.wanted o (yielded ops a.tmps) = false) (hr : wpList P ops Q rest (a.put o.dst undef) w) : wpList P ops Q (o :: rest) a w := by
  unfold wpList
  rw [if_neg (by simp [hg])]
  exact hr
theorem wpList_tell {t : Tl} (hg : Region.wanted o (yielded ops a.tmps) = true)
    (h : ∀ K : Value → World → Prop, (∀ v w', t.S v → t.A w.heap.size v w' → Ext w w' → K v w') → Upon P K ((execOp a.eval o).run P w))
    (hr : ∀ v w', t.S v → t.A w.heap.size v w' → Ext w w' → wpList P ops Q rest (a.put o.dst v) w') : wpList P ops Q (o :: rest) a w := by
  unfold wpList
  rw [if_pos hg]
  left
  have := h (fun v w' => wpList P ops Q rest (a.put o.dst v) w') hr
  unfold Oper.wp
  generalize (execOp a.eval o).run P w = r at *
  cases r with
  | ok n w' =>
    cases n with
    | value v => exact this
    | enter f args =>
      refine Calls.mono (this : Calls P f args w' _) ?_
      rintro e w'' ⟨v, rfl, hv⟩
      exact hv
    | skip => exact this
    | _ => exact (this : False).elim
  | halt x w' => exact (this : False).elim
end
theorem splice4 (a b c d : Value) (x : Array Value) (h : x.size = 4) : splice x 0 [a, b, c, d] = #[a, b, c, d] := by
  obtain ⟨l⟩ := x
  match l, h with
  | [_, _, _, _], _ => rfl
theorem splice2 (a b : Value) (x : Array Value) (h : x.size = 2) : splice x 0 [a, b] = #[a, b] := by
  obtain ⟨l⟩ := x
  match l, h with
  | [_, _], _ => rfl
/-- The cells of a box, its content unknown. -/
theorem Cells.frees {w : World} {b : Nat} {t : TypeId} {c : Array Value} (h : Cells w b t c) : ∀ k, w.frozen? ⟨b, k, none⟩ = false := h.frozen
theorem Cells.some {w : World} {b : Nat} {t : TypeId} {c : Array Value} (h : Cells w b t c) {k : Nat} (hk : k < c.size) : ∃ v, w.cell? ⟨b, k, none⟩ = Option.some v := ⟨c[k], h.cell (by simp [hk])⟩
end Go.Proofs.YtndgaecfeaedeaaGreat

namespace Go.Proofs.YtndgaecfeaedeaaGreat
set_option linter.unusedSimpArgs false
set_option linter.unusedVariables false
open Go.RowKit Lex Mth

def Tl.fn (q : Rat) (n : Int) : Tl where
  S v := ∃ X : Fr, v = .tuple #[X.val, .int .i64 n]
  Bs _ := []
  A _ v w := ∀ X : Fr, v = .tuple #[X.val, .int .i64 n] → FR w X q
  wit := ⟨_, ⟨⟨false, none, 0, 0⟩, ⟨false, none, 0, 0⟩⟩, rfl⟩
  ext h e X hX := (h X hX).ext e
  mono h _ := h
  bl := by rintro B _ w _ h b hb; cases hb
theorem Tl.getFn {q : Rat} {n : Int} {B : Nat} {w : World} {X : Fr} (h : (Tl.fn q n).A B (.tuple #[.agg #[.bool X.N.b, .slice X.N.p X.N.n X.N.c, .bool X.D.b, .slice X.D.p X.D.n X.D.c], .int .i64 n]) w) : FR w X q := h X rfl
theorem Tl.putFn {q : Rat} {n : Int} {B : Nat} {w : World} {X : Fr} (h : FR w X q) : (Tl.fn q n).A B (.tuple #[X.val, .int .i64 n]) w := by
  intro Y hY
  have : X.val = Y.val := by
    simp only [Value.tuple.injEq, Array.mk.injEq, List.cons.injEq, and_true] at hY
    exact hY
  obtain rfl := fr_inj this
  exact h
theorem st_fn (q : Rat) (n : Int) : (Tl.fn q n).St := fun h hC hn _ k l _ X hX => FR.sets (h X hX) hC hn k l
theorem Gv.fn {q : Rat} {n : Int} {w : World} {e : Ending} {w' : World} (h : Gv (.fn q n) w e w') : ∃ X : Fr, e = .returned (.tuple #[.agg #[.bool X.N.b, .slice X.N.p X.N.n X.N.c, .bool X.D.b, .slice X.D.p X.D.n X.D.c], .int .i64 n]) ∧ FR w' X q ∧ Ext w w' := by
  obtain ⟨v, rfl, ⟨X, rfl⟩, h2, h3⟩ := h; exact ⟨X, rfl, h2 X rfl, h3⟩
theorem Gv.of_fn {q : Rat} {n : Int} {X : Fr} {w w' : World} (h : FR w' X q) (e : Ext w w') : Gv (.fn q n) w (.returned (.tuple #[.agg #[.bool X.N.b, .slice X.N.p X.N.n X.N.c, .bool X.D.b, .slice X.D.p X.D.n X.D.c], .int .i64 n])) w' := ⟨_, rfl, ⟨X, rfl⟩, Tl.putFn h, e⟩
theorem Gv.fe_fn {q : Rat} {n : Int} {w : World} {e : Ending} {w' : World} (h : Gv (.fe q n) w e w') : Gv (.fn q n) w e w' := by
  obtain ⟨X, rfl, h1, _, h3⟩ := Gv.fe h; exact Gv.of_fn h1 h3
end Go.Proofs.YtndgaecfeaedeaaGreat

namespace Go.Proofs.YtndgaecfeaedeaaGreat
set_option linter.unusedSimpArgs false
set_option linter.unusedVariables false
namespace Lex

/-- What comes before an operation, out of what comes before those ahead of it. -/
def maskOf (rs : List Nat) : List Edge → Nat
  | [] => 0
  | e :: l => if Region.binds .any e then (1 <<< e.on ||| rs.getD e.on 0) ||| maskOf rs l else maskOf rs l
def rowsM : List Nat → List Oper → List Nat
  | rs, [] => rs
  | rs, o :: l => rowsM (rs ++ [maskOf rs o.after.toList]) l
def predM (ops : Array Oper) (i j : Nat) : Bool := ((rowsM [] ops.toList).getD i 0).testBit j

theorem maskOf_bit {rs : List Nat} {j : Nat} : ∀ {l : List Edge}, (maskOf rs l).testBit j = true → ∃ e ∈ l, Region.binds .any e = true ∧ (e.on = j ∨ (rs.getD e.on 0).testBit j = true)
  | [], h => by simp [maskOf] at h
  | e :: l, h => by
    unfold maskOf at h
    split at h
    · rename_i hb
      rw [Nat.testBit_or, Nat.testBit_or, Bool.or_eq_true, Bool.or_eq_true] at h
      rcases h with (h | h) | h
      · rw [Nat.testBit_shiftLeft] at h
        simp only [Bool.and_eq_true, decide_eq_true_eq] at h
        have h2 := h.2
        rw [Nat.testBit_one_eq_true_iff_self_eq_zero] at h2
        exact ⟨e, List.mem_cons_self .., hb, .inl (by omega)⟩
      · exact ⟨e, List.mem_cons_self .., hb, .inr h⟩
      · obtain ⟨e', h1, h2⟩ := maskOf_bit h
        exact ⟨e', List.mem_cons_of_mem _ h1, h2⟩
    · obtain ⟨e', h1, h2⟩ := maskOf_bit h
      exact ⟨e', List.mem_cons_of_mem _ h1, h2⟩

theorem predF_mono {ops : Array Oper} : ∀ {f g i j : Nat}, f ≤ g → predF ops f i j = true → predF ops g i j = true
  | 0, _, _, _, _, h => by simp [predF] at h
  | f + 1, 0, _, _, hg, _ => by omega
  | f + 1, g + 1, i, j, hg, h => by
    simp only [predF] at h ⊢
    split at h
    · exact h
    · rename_i o ho
      simp only [Array.any_eq_true', Bool.and_eq_true, Bool.or_eq_true] at h ⊢
      obtain ⟨e, he, hb, h⟩ := h
      exact ⟨e, he, hb, h.imp id (predF_mono (by omega))⟩

/-- The rows so far are sound. -/
def Sound (ops : Array Oper) (rs : List Nat) : Prop := ∀ i j, (rs.getD i 0).testBit j = true → predF ops (i + 1) i j = true
theorem rowsM_sound {ops : Array Oper} : ∀ (l : List Oper) (rs : List Nat), Sound ops rs → (∀ k, l[k]? = ops[rs.length + k]?) → Sound ops (rowsM rs l)
  | [], rs, h, _ => h
  | o :: l, rs, h, hl => by
    refine rowsM_sound l _ ?_ (fun k => ?_)
    · intro i j hb
      rcases Nat.lt_trichotomy i rs.length with hi | hi | hi
      · rw [List.getD_eq_getElem?_getD, List.getElem?_append_left hi, ← List.getD_eq_getElem?_getD] at hb
        exact h i j hb
      · subst hi
        rw [List.getD_eq_getElem?_getD, List.getElem?_append_right (Nat.le_refl _)] at hb
        simp only [Nat.sub_self, List.getElem?_cons_zero, Option.getD_some] at hb
        obtain ⟨e, he, hbe, h2⟩ := maskOf_bit hb
        have ho : ops[rs.length]? = some o := by have := hl 0; simpa using this.symm
        simp only [predF, ho, Array.any_eq_true', Bool.and_eq_true, Bool.or_eq_true]
        refine ⟨e, by simpa using he, hbe, ?_⟩
        rcases h2 with h2 | h2
        · exact .inl (beq_iff_eq.2 h2)
        · right
          have hlt : e.on < rs.length := by
            apply Decidable.byContradiction
            intro hn
            rw [List.getD_eq_getElem?_getD, List.getElem?_eq_none (by omega)] at h2
            simp at h2
          exact predF_mono (by omega) (h e.on j h2)
      · rw [List.getD_eq_getElem?_getD, List.getElem?_eq_none (by simp; omega)] at hb
        simp at hb
    · have := hl (k + 1)
      simp only [List.getElem?_cons_succ] at this
      rw [this, List.length_append]
      congr 1
      simp; omega
theorem pred_of {ops : Array Oper} {i j : Nat} (h : predM ops i j = true) : pred ops i j = true := by
  have hs : Sound ops (rowsM [] ops.toList) := rowsM_sound _ _ (fun i j h => by simp at h) (fun k => by simp)
  have h1 := hs i j h
  by_cases hi : i < ops.size
  · exact predF_mono (by omega) h1
  · simp [predF, Array.getElem?_eq_none (show ops.size ≤ i by omega)] at h1

def looksM (ops : Array Oper) (N : Nat) : Bool :=
  (List.range N).all fun i => match ops[i]? with
    | none => false
    | some o =>
      (o.after.all fun e => !Region.binds .any e || decide (e.on < i)) &&
      (List.range N).all fun j => match (ops[j]?).bind (·.dst) with
        | none => true
        | some d => (j == i || (o.dst != some d)) && (!(o.looksAt ops).contains d || (decide (j < i) && predM ops i j))
theorem looks_of {ops : Array Oper} {N : Nat} (h : looksM ops N = true) : looksOk ops N = true := by
  unfold looksM at h
  unfold looksOk
  rw [List.all_eq_true] at h ⊢
  intro i hi
  have hx := h i hi
  cases ho : ops[i]? with
  | none => rw [ho] at hx; simp at hx
  | some o =>
    rw [ho] at hx
    simp only [Bool.and_eq_true] at hx ⊢
    refine ⟨hx.1, ?_⟩
    rw [List.all_eq_true]
    have h2 := List.all_eq_true.1 hx.2
    intro j hj
    have hy := h2 j hj
    cases hd : (ops[j]?).bind (·.dst) with
    | none => rfl
    | some d =>
      rw [hd] at hy
      simp only [Bool.and_eq_true, Bool.or_eq_true] at hy ⊢
      exact ⟨hy.1, hy.2.imp id fun h3 => ⟨h3.1, pred_of h3.2⟩⟩
def headM (ops : Array Oper) (N size : Nat) : Bool :=
  Region.noSelect ops && decide (N ≤ ops.size) && looksM ops N && dstsOk ops N size &&
  (decide (N = ops.size) || (decide (N < ops.size) && Region.sinkB .any ops N && Region.chainB .any ops N)) &&
  Region.seqB .any ops (ops.size - N) N (Array.replicate N true ++ Array.replicate (ops.size - N) false)
theorem head_of {ops : Array Oper} {N size : Nat} (h : headM ops N size = true) : headB ops N size = true := by
  unfold headM at h
  unfold headB
  simp only [Bool.and_eq_true] at h ⊢
  obtain ⟨⟨⟨⟨⟨h1, h2⟩, h3⟩, h4⟩, h5⟩, h6⟩ := h
  exact ⟨⟨⟨⟨⟨h1, h2⟩, looks_of h3⟩, h4⟩, h5⟩, h6⟩
end Lex
end Go.Proofs.YtndgaecfeaedeaaGreat

namespace Go.Proofs.YtndgaecfeaedeaaGreat
set_option linter.unusedSimpArgs false
set_option linter.unusedVariables false
open Go.RowKit Lex Mth

def erO : Option Rat → Int
  | some _ => 0
  | none => 2
/-- A fraction if the arguments are right. -/
def oL (b : Bool) (q : Rat) : Option Rat := if b then some q else none
theorem oL_true (q : Rat) : oL true q = some q := rfl
theorem oL_false (q : Rat) : oL false q = none := rfl
def RO (w : World) (X : Fr) : Option Rat → Prop
  | some q => FR w X q
  | none => X = ⟨zeroWh, zeroWh⟩
theorem RO.ext {w w' : World} {X : Fr} : ∀ {o : Option Rat}, RO w X o → Ext w w' → RO w' X o
  | some _, h, e => FR.ext h e
  | none, h, _ => h
theorem RO.sets {w : World} {X : Fr} : ∀ {o : Option Rat}, RO w X o → ∀ {b : Nat} {t : TypeId} {c : Array Value} (_ : Cells w b t c) (_ : NoU c) (k : Nat) (l : List Value), RO (Go.Proofs.YtndgaecfeaedeaaGreat.sets w b k l) X o
  | some _, h, _, _, _, hC, hv, k, l => FR.sets h hC hv k l
  | none, h, _, _, _, _, _, _, _ => h
/-- As numbers: the same option gives the same parts. -/
theorem RO.pr {w : World} {X : Fr} : ∀ {o : Option Rat}, RO w X o → PR w X (match o with | some q => q.num | none => 0) (match o with | some q => q.den | none => 0)
  | some _, h => h
  | none, h => by rw [h]; exact ⟨zeroWh_R _, zeroWh_R _⟩
def Tl.ro (o : Option Rat) : Tl where
  S v := ∃ X : Fr, v = .tuple #[X.val, .int .i64 (erO o)]
  Bs _ := []
  A _ v w := ∀ X : Fr, v = .tuple #[X.val, .int .i64 (erO o)] → RO w X o
  wit := ⟨_, ⟨⟨false, none, 0, 0⟩, ⟨false, none, 0, 0⟩⟩, rfl⟩
  ext h e X hX := (h X hX).ext e
  mono h _ := h
  bl := by rintro B _ w _ h b hb; cases hb
theorem Tl.getRo {o : Option Rat} {B : Nat} {w : World} {X : Fr} (h : (Tl.ro o).A B (.tuple #[.agg #[.bool X.N.b, .slice X.N.p X.N.n X.N.c, .bool X.D.b, .slice X.D.p X.D.n X.D.c], .int .i64 (erO o)]) w) : RO w X o := h X rfl
theorem Tl.putRo {o : Option Rat} {B : Nat} {w : World} {X : Fr} (h : RO w X o) : (Tl.ro o).A B (.tuple #[X.val, .int .i64 (erO o)]) w := by
  intro Y hY
  have : X.val = Y.val := by
    simp only [Value.tuple.injEq, Array.mk.injEq, List.cons.injEq, and_true] at hY
    exact hY
  obtain rfl := fr_inj this
  exact h
theorem Gv.ro {o : Option Rat} {w : World} {e : Ending} {w' : World} (h : Gv (.ro o) w e w') : ∃ X : Fr, e = .returned (.tuple #[.agg #[.bool X.N.b, .slice X.N.p X.N.n X.N.c, .bool X.D.b, .slice X.D.p X.D.n X.D.c], .int .i64 (erO o)]) ∧ RO w' X o ∧ Ext w w' := by
  obtain ⟨v, rfl, ⟨X, rfl⟩, h2, h3⟩ := h; exact ⟨X, rfl, h2 X rfl, h3⟩
theorem Gv.of_ro {o : Option Rat} {X : Fr} {w w' : World} (h : RO w' X o) (e : Ext w w') : Gv (.ro o) w (.returned (.tuple #[.agg #[.bool X.N.b, .slice X.N.p X.N.n X.N.c, .bool X.D.b, .slice X.D.p X.D.n X.D.c], .int .i64 (erO o)])) w' := ⟨_, rfl, ⟨X, rfl⟩, Tl.putRo h, e⟩
theorem Gv.fn_ro {b : Bool} {q : Rat} {w : World} {e : Ending} {w' : World} (h : Gv (.fn q 0) w e w') (hb : b = true) : Gv (.ro (oL b q)) w e w' := by
  subst hb
  obtain ⟨X, rfl, h1, h3⟩ := Gv.fn h
  exact Gv.of_ro (o := some q) (X := X) h1 h3
theorem Gv.v_ro {b : Bool} {q : Rat} {w : World} {e : Ending} {w' : World} (h : Gv (.v (.tuple #[.agg #[.bool false, .slice none 0 0, .bool false, .slice none 0 0], .int .i64 2])) w e w') (hb : b = false) : Gv (.ro (oL b q)) w e w' := by
  subst hb
  obtain ⟨rfl, h3⟩ := Gv.v h
  exact Gv.of_ro (o := none) (X := ⟨zeroWh, zeroWh⟩) rfl h3
theorem st_ro (o : Option Rat) : (Tl.ro o).St := fun h hC hn _ k l _ X hX => RO.sets (h X hX) hC hn k l
end Go.Proofs.YtndgaecfeaedeaaGreat

namespace Go.Proofs.YtndgaecfeaedeaaGreat
set_option linter.unusedSimpArgs false
set_option linter.unusedVariables false
open Go.RowKit Lex Mth

theorem le2 {a b : Nat} (h : a = b) : a ≤ b ∧ b ≤ a := ⟨Nat.le_of_eq h, Nat.le_of_eq h.symm⟩
theorem alloc_at (w : World) (n : Nat) (hn : n = w.heap.size) (c : Array Value) (t : TypeId) : ∃ W, w.alloc (.cells c t) = W ∧ Ext w W ∧ Cells W n t c ∧ W.heap.size = n + 1 := by
  subst hn
  exact ⟨_, rfl, ea _ _, Cells.newAt _ _ rfl, by simp⟩
theorem Ext.kb {w w1 w2 : World} {b : Nat} (h : Ext w w1) (k : Keeps (fun x => x = b) w1 w2) (hb : w.heap.size ≤ b) : Ext w w2 :=
  ((Keeps.of_ext (M := fun x => w.heap.size ≤ x) h).trans (k.mono fun x _ hx => by omega)).ext fun _ h => h
theorem Cells.kb {w w' : World} {b b' : Nat} {t : TypeId} {c : Array Value} (h : Cells w b t c) (k : Keeps (fun x => x = b') w w') (hb : b ≠ b') : Cells w' b t c := h.keeps k hb
theorem UW.kb {w w' : World} {X : Wh} {u : List Nat} (h : UW w X u) {b : Nat} {t : TypeId} {c : Array Value} (hC : Cells w b t c) (hv : NoU c) (k : Keeps (fun x => x = b) w w') : UW w' X u :=
  k.u16 h fun _ hj => U16.offU h hC hv hj
theorem WR.kb {w w' : World} {X : Wh} {z : Int} (h : WR w X z) {b : Nat} {t : TypeId} {c : Array Value} (hC : Cells w b t c) (hv : NoU c) (k : Keeps (fun x => x = b) w w') : WR w' X z := WR.mk h.neg (UW.kb h.u16.2 hC hv k)
theorem FR.kb {w w' : World} {X : Fr} {q : Rat} (h : FR w X q) {b : Nat} {t : TypeId} {c : Array Value} (hC : Cells w b t c) (hv : NoU c) (k : Keeps (fun x => x = b) w w') : FR w' X q := ⟨WR.kb h.1 hC hv k, WR.kb h.2 hC hv k⟩
theorem PR.kb {w w' : World} {X : Fr} {p q : Int} (h : PR w X p q) {b : Nat} {t : TypeId} {c : Array Value} (hC : Cells w b t c) (hv : NoU c) (k : Keeps (fun x => x = b) w w') : PR w' X p q := ⟨WR.kb h.1 hC hv k, WR.kb h.2 hC hv k⟩
theorem UF.kb {w w' : World} {X : Fr} {l m : List Nat} (h : UF w X l m) {b : Nat} {t : TypeId} {c : Array Value} (hC : Cells w b t c) (hv : NoU c) (k : Keeps (fun x => x = b) w w') : UF w' X l m := ⟨UW.kb h.1 hC hv k, UW.kb h.2 hC hv k⟩
theorem RO.kb {w w' : World} {X : Fr} : ∀ {o : Option Rat}, RO w X o → ∀ {b : Nat} {t : TypeId} {c : Array Value} (_ : Cells w b t c) (_ : NoU c) (_ : Keeps (fun x => x = b) w w'), RO w' X o
  | some _, h, _, _, _, hC, hv, k => FR.kb h hC hv k
  | none, h, _, _, _, _, _, _ => h
theorem OW.kb {B : Nat} {w w' : World} {X : Wh} (h : OW B w X) {b : Nat} {t : TypeId} {c : Array Value} (hC : Cells w b t c) (ht : t ≠ 153) (k : Keeps (fun x => x = b) w w') : OW B w' X := Own.cells h hC ht k
theorem OF.kb {B : Nat} {w w' : World} {X : Fr} (h : OF B w X) {b : Nat} {t : TypeId} {c : Array Value} (hC : Cells w b t c) (ht : t ≠ 153) (k : Keeps (fun x => x = b) w w') : OF B w' X := ⟨OW.kb h.1 hC ht k, OW.kb h.2.1 hC ht k, h.2.2⟩

theorem Cells.c1 {w : World} {b : Nat} {t : TypeId} {v0 : Value} (h : Cells w b t #[v0]) : b < w.heap.size ∧ w.cell? ⟨b, 0, none⟩ = Option.some v0 :=
  ⟨h.lt, h.cell (k := 0) rfl⟩
theorem Cells.f1 {w : World} {b : Nat} {t : TypeId} {c : Array Value} (h : Cells w b t c) : w.frozen? ⟨b, 0, none⟩ = false :=
  h.frozen 0
theorem Cells.c2 {w : World} {b : Nat} {t : TypeId} {v0 v1 : Value} (h : Cells w b t #[v0, v1]) : b < w.heap.size ∧ w.cell? ⟨b, 0, none⟩ = Option.some v0 ∧ w.cell? ⟨b, 1, none⟩ = Option.some v1 :=
  ⟨h.lt, h.cell (k := 0) rfl, h.cell (k := 1) rfl⟩
theorem Cells.f2 {w : World} {b : Nat} {t : TypeId} {c : Array Value} (h : Cells w b t c) : w.frozen? ⟨b, 0, none⟩ = false ∧ w.frozen? ⟨b, 1, none⟩ = false :=
  ⟨h.frozen 0, h.frozen 1⟩
theorem Cells.c3 {w : World} {b : Nat} {t : TypeId} {v0 v1 v2 : Value} (h : Cells w b t #[v0, v1, v2]) : b < w.heap.size ∧ w.cell? ⟨b, 0, none⟩ = Option.some v0 ∧ w.cell? ⟨b, 1, none⟩ = Option.some v1 ∧ w.cell? ⟨b, 2, none⟩ = Option.some v2 :=
  ⟨h.lt, h.cell (k := 0) rfl, h.cell (k := 1) rfl, h.cell (k := 2) rfl⟩
theorem Cells.f3 {w : World} {b : Nat} {t : TypeId} {c : Array Value} (h : Cells w b t c) : w.frozen? ⟨b, 0, none⟩ = false ∧ w.frozen? ⟨b, 1, none⟩ = false ∧ w.frozen? ⟨b, 2, none⟩ = false :=
  ⟨h.frozen 0, h.frozen 1, h.frozen 2⟩
theorem Cells.c4 {w : World} {b : Nat} {t : TypeId} {v0 v1 v2 v3 : Value} (h : Cells w b t #[v0, v1, v2, v3]) : b < w.heap.size ∧ w.cell? ⟨b, 0, none⟩ = Option.some v0 ∧ w.cell? ⟨b, 1, none⟩ = Option.some v1 ∧ w.cell? ⟨b, 2, none⟩ = Option.some v2 ∧ w.cell? ⟨b, 3, none⟩ = Option.some v3 :=
  ⟨h.lt, h.cell (k := 0) rfl, h.cell (k := 1) rfl, h.cell (k := 2) rfl, h.cell (k := 3) rfl⟩
theorem Cells.f4 {w : World} {b : Nat} {t : TypeId} {c : Array Value} (h : Cells w b t c) : w.frozen? ⟨b, 0, none⟩ = false ∧ w.frozen? ⟨b, 1, none⟩ = false ∧ w.frozen? ⟨b, 2, none⟩ = false ∧ w.frozen? ⟨b, 3, none⟩ = false :=
  ⟨h.frozen 0, h.frozen 1, h.frozen 2, h.frozen 3⟩
theorem Cells.c5 {w : World} {b : Nat} {t : TypeId} {v0 v1 v2 v3 v4 : Value} (h : Cells w b t #[v0, v1, v2, v3, v4]) : b < w.heap.size ∧ w.cell? ⟨b, 0, none⟩ = Option.some v0 ∧ w.cell? ⟨b, 1, none⟩ = Option.some v1 ∧ w.cell? ⟨b, 2, none⟩ = Option.some v2 ∧ w.cell? ⟨b, 3, none⟩ = Option.some v3 ∧ w.cell? ⟨b, 4, none⟩ = Option.some v4 :=
  ⟨h.lt, h.cell (k := 0) rfl, h.cell (k := 1) rfl, h.cell (k := 2) rfl, h.cell (k := 3) rfl, h.cell (k := 4) rfl⟩
theorem Cells.f5 {w : World} {b : Nat} {t : TypeId} {c : Array Value} (h : Cells w b t c) : w.frozen? ⟨b, 0, none⟩ = false ∧ w.frozen? ⟨b, 1, none⟩ = false ∧ w.frozen? ⟨b, 2, none⟩ = false ∧ w.frozen? ⟨b, 3, none⟩ = false ∧ w.frozen? ⟨b, 4, none⟩ = false :=
  ⟨h.frozen 0, h.frozen 1, h.frozen 2, h.frozen 3, h.frozen 4⟩
theorem Cells.c6 {w : World} {b : Nat} {t : TypeId} {v0 v1 v2 v3 v4 v5 : Value} (h : Cells w b t #[v0, v1, v2, v3, v4, v5]) : b < w.heap.size ∧ w.cell? ⟨b, 0, none⟩ = Option.some v0 ∧ w.cell? ⟨b, 1, none⟩ = Option.some v1 ∧ w.cell? ⟨b, 2, none⟩ = Option.some v2 ∧ w.cell? ⟨b, 3, none⟩ = Option.some v3 ∧ w.cell? ⟨b, 4, none⟩ = Option.some v4 ∧ w.cell? ⟨b, 5, none⟩ = Option.some v5 :=
  ⟨h.lt, h.cell (k := 0) rfl, h.cell (k := 1) rfl, h.cell (k := 2) rfl, h.cell (k := 3) rfl, h.cell (k := 4) rfl, h.cell (k := 5) rfl⟩
theorem Cells.f6 {w : World} {b : Nat} {t : TypeId} {c : Array Value} (h : Cells w b t c) : w.frozen? ⟨b, 0, none⟩ = false ∧ w.frozen? ⟨b, 1, none⟩ = false ∧ w.frozen? ⟨b, 2, none⟩ = false ∧ w.frozen? ⟨b, 3, none⟩ = false ∧ w.frozen? ⟨b, 4, none⟩ = false ∧ w.frozen? ⟨b, 5, none⟩ = false :=
  ⟨h.frozen 0, h.frozen 1, h.frozen 2, h.frozen 3, h.frozen 4, h.frozen 5⟩
theorem Cells.c8 {w : World} {b : Nat} {t : TypeId} {v0 v1 v2 v3 v4 v5 v6 v7 : Value} (h : Cells w b t #[v0, v1, v2, v3, v4, v5, v6, v7]) : b < w.heap.size ∧ w.cell? ⟨b, 0, none⟩ = Option.some v0 ∧ w.cell? ⟨b, 1, none⟩ = Option.some v1 ∧ w.cell? ⟨b, 2, none⟩ = Option.some v2 ∧ w.cell? ⟨b, 3, none⟩ = Option.some v3 ∧ w.cell? ⟨b, 4, none⟩ = Option.some v4 ∧ w.cell? ⟨b, 5, none⟩ = Option.some v5 ∧ w.cell? ⟨b, 6, none⟩ = Option.some v6 ∧ w.cell? ⟨b, 7, none⟩ = Option.some v7 :=
  ⟨h.lt, h.cell (k := 0) rfl, h.cell (k := 1) rfl, h.cell (k := 2) rfl, h.cell (k := 3) rfl, h.cell (k := 4) rfl, h.cell (k := 5) rfl, h.cell (k := 6) rfl, h.cell (k := 7) rfl⟩
theorem Cells.f8 {w : World} {b : Nat} {t : TypeId} {c : Array Value} (h : Cells w b t c) : w.frozen? ⟨b, 0, none⟩ = false ∧ w.frozen? ⟨b, 1, none⟩ = false ∧ w.frozen? ⟨b, 2, none⟩ = false ∧ w.frozen? ⟨b, 3, none⟩ = false ∧ w.frozen? ⟨b, 4, none⟩ = false ∧ w.frozen? ⟨b, 5, none⟩ = false ∧ w.frozen? ⟨b, 6, none⟩ = false ∧ w.frozen? ⟨b, 7, none⟩ = false :=
  ⟨h.frozen 0, h.frozen 1, h.frozen 2, h.frozen 3, h.frozen 4, h.frozen 5, h.frozen 6, h.frozen 7⟩
theorem Cells.c10 {w : World} {b : Nat} {t : TypeId} {v0 v1 v2 v3 v4 v5 v6 v7 v8 v9 : Value} (h : Cells w b t #[v0, v1, v2, v3, v4, v5, v6, v7, v8, v9]) : b < w.heap.size ∧ w.cell? ⟨b, 0, none⟩ = Option.some v0 ∧ w.cell? ⟨b, 1, none⟩ = Option.some v1 ∧ w.cell? ⟨b, 2, none⟩ = Option.some v2 ∧ w.cell? ⟨b, 3, none⟩ = Option.some v3 ∧ w.cell? ⟨b, 4, none⟩ = Option.some v4 ∧ w.cell? ⟨b, 5, none⟩ = Option.some v5 ∧ w.cell? ⟨b, 6, none⟩ = Option.some v6 ∧ w.cell? ⟨b, 7, none⟩ = Option.some v7 ∧ w.cell? ⟨b, 8, none⟩ = Option.some v8 ∧ w.cell? ⟨b, 9, none⟩ = Option.some v9 :=
  ⟨h.lt, h.cell (k := 0) rfl, h.cell (k := 1) rfl, h.cell (k := 2) rfl, h.cell (k := 3) rfl, h.cell (k := 4) rfl, h.cell (k := 5) rfl, h.cell (k := 6) rfl, h.cell (k := 7) rfl, h.cell (k := 8) rfl, h.cell (k := 9) rfl⟩
theorem Cells.f10 {w : World} {b : Nat} {t : TypeId} {c : Array Value} (h : Cells w b t c) : w.frozen? ⟨b, 0, none⟩ = false ∧ w.frozen? ⟨b, 1, none⟩ = false ∧ w.frozen? ⟨b, 2, none⟩ = false ∧ w.frozen? ⟨b, 3, none⟩ = false ∧ w.frozen? ⟨b, 4, none⟩ = false ∧ w.frozen? ⟨b, 5, none⟩ = false ∧ w.frozen? ⟨b, 6, none⟩ = false ∧ w.frozen? ⟨b, 7, none⟩ = false ∧ w.frozen? ⟨b, 8, none⟩ = false ∧ w.frozen? ⟨b, 9, none⟩ = false :=
  ⟨h.frozen 0, h.frozen 1, h.frozen 2, h.frozen 3, h.frozen 4, h.frozen 5, h.frozen 6, h.frozen 7, h.frozen 8, h.frozen 9⟩
theorem Cells.c24 {w : World} {b : Nat} {t : TypeId} {v0 v1 v2 v3 v4 v5 v6 v7 v8 v9 v10 v11 v12 v13 v14 v15 v16 v17 v18 v19 v20 v21 v22 v23 : Value} (h : Cells w b t #[v0, v1, v2, v3, v4, v5, v6, v7, v8, v9, v10, v11, v12, v13, v14, v15, v16, v17, v18, v19, v20, v21, v22, v23]) : b < w.heap.size ∧ w.cell? ⟨b, 0, none⟩ = Option.some v0 ∧ w.cell? ⟨b, 1, none⟩ = Option.some v1 ∧ w.cell? ⟨b, 2, none⟩ = Option.some v2 ∧ w.cell? ⟨b, 3, none⟩ = Option.some v3 ∧ w.cell? ⟨b, 4, none⟩ = Option.some v4 ∧ w.cell? ⟨b, 5, none⟩ = Option.some v5 ∧ w.cell? ⟨b, 6, none⟩ = Option.some v6 ∧ w.cell? ⟨b, 7, none⟩ = Option.some v7 ∧ w.cell? ⟨b, 8, none⟩ = Option.some v8 ∧ w.cell? ⟨b, 9, none⟩ = Option.some v9 ∧ w.cell? ⟨b, 10, none⟩ = Option.some v10 ∧ w.cell? ⟨b, 11, none⟩ = Option.some v11 ∧ w.cell? ⟨b, 12, none⟩ = Option.some v12 ∧ w.cell? ⟨b, 13, none⟩ = Option.some v13 ∧ w.cell? ⟨b, 14, none⟩ = Option.some v14 ∧ w.cell? ⟨b, 15, none⟩ = Option.some v15 ∧ w.cell? ⟨b, 16, none⟩ = Option.some v16 ∧ w.cell? ⟨b, 17, none⟩ = Option.some v17 ∧ w.cell? ⟨b, 18, none⟩ = Option.some v18 ∧ w.cell? ⟨b, 19, none⟩ = Option.some v19 ∧ w.cell? ⟨b, 20, none⟩ = Option.some v20 ∧ w.cell? ⟨b, 21, none⟩ = Option.some v21 ∧ w.cell? ⟨b, 22, none⟩ = Option.some v22 ∧ w.cell? ⟨b, 23, none⟩ = Option.some v23 :=
  ⟨h.lt, h.cell (k := 0) rfl, h.cell (k := 1) rfl, h.cell (k := 2) rfl, h.cell (k := 3) rfl, h.cell (k := 4) rfl, h.cell (k := 5) rfl, h.cell (k := 6) rfl, h.cell (k := 7) rfl, h.cell (k := 8) rfl, h.cell (k := 9) rfl, h.cell (k := 10) rfl, h.cell (k := 11) rfl, h.cell (k := 12) rfl, h.cell (k := 13) rfl, h.cell (k := 14) rfl, h.cell (k := 15) rfl, h.cell (k := 16) rfl, h.cell (k := 17) rfl, h.cell (k := 18) rfl, h.cell (k := 19) rfl, h.cell (k := 20) rfl, h.cell (k := 21) rfl, h.cell (k := 22) rfl, h.cell (k := 23) rfl⟩
theorem Cells.f24 {w : World} {b : Nat} {t : TypeId} {c : Array Value} (h : Cells w b t c) : w.frozen? ⟨b, 0, none⟩ = false ∧ w.frozen? ⟨b, 1, none⟩ = false ∧ w.frozen? ⟨b, 2, none⟩ = false ∧ w.frozen? ⟨b, 3, none⟩ = false ∧ w.frozen? ⟨b, 4, none⟩ = false ∧ w.frozen? ⟨b, 5, none⟩ = false ∧ w.frozen? ⟨b, 6, none⟩ = false ∧ w.frozen? ⟨b, 7, none⟩ = false ∧ w.frozen? ⟨b, 8, none⟩ = false ∧ w.frozen? ⟨b, 9, none⟩ = false ∧ w.frozen? ⟨b, 10, none⟩ = false ∧ w.frozen? ⟨b, 11, none⟩ = false ∧ w.frozen? ⟨b, 12, none⟩ = false ∧ w.frozen? ⟨b, 13, none⟩ = false ∧ w.frozen? ⟨b, 14, none⟩ = false ∧ w.frozen? ⟨b, 15, none⟩ = false ∧ w.frozen? ⟨b, 16, none⟩ = false ∧ w.frozen? ⟨b, 17, none⟩ = false ∧ w.frozen? ⟨b, 18, none⟩ = false ∧ w.frozen? ⟨b, 19, none⟩ = false ∧ w.frozen? ⟨b, 20, none⟩ = false ∧ w.frozen? ⟨b, 21, none⟩ = false ∧ w.frozen? ⟨b, 22, none⟩ = false ∧ w.frozen? ⟨b, 23, none⟩ = false :=
  ⟨h.frozen 0, h.frozen 1, h.frozen 2, h.frozen 3, h.frozen 4, h.frozen 5, h.frozen 6, h.frozen 7, h.frozen 8, h.frozen 9, h.frozen 10, h.frozen 11, h.frozen 12, h.frozen 13, h.frozen 14, h.frozen 15, h.frozen 16, h.frozen 17, h.frozen 18, h.frozen 19, h.frozen 20, h.frozen 21, h.frozen 22, h.frozen 23⟩
theorem Cells.put1 {w : World} {b : Nat} {t : TypeId} {v0 : Value} (h : Cells w b t #[v0]) (a0 : Value) : ∃ W, (w).setCell ⟨b, 0, none⟩ a0 = W ∧ Keeps (fun x => x = b) w W ∧ Cells W b t #[a0] ∧ W.heap.size = w.heap.size :=
  ⟨_, rfl, sets_keeps b [a0] w 0, Cells.sets [a0] h 0, size_sets b [a0] w 0⟩
theorem Cells.put2 {w : World} {b : Nat} {t : TypeId} {v0 v1 : Value} (h : Cells w b t #[v0, v1]) (a0 a1 : Value) : ∃ W, ((w).setCell ⟨b, 0, none⟩ a0).setCell ⟨b, 1, none⟩ a1 = W ∧ Keeps (fun x => x = b) w W ∧ Cells W b t #[a0, a1] ∧ W.heap.size = w.heap.size :=
  ⟨_, rfl, sets_keeps b [a0, a1] w 0, Cells.sets [a0, a1] h 0, size_sets b [a0, a1] w 0⟩
theorem Cells.put3 {w : World} {b : Nat} {t : TypeId} {v0 v1 v2 : Value} (h : Cells w b t #[v0, v1, v2]) (a0 a1 a2 : Value) : ∃ W, (((w).setCell ⟨b, 0, none⟩ a0).setCell ⟨b, 1, none⟩ a1).setCell ⟨b, 2, none⟩ a2 = W ∧ Keeps (fun x => x = b) w W ∧ Cells W b t #[a0, a1, a2] ∧ W.heap.size = w.heap.size :=
  ⟨_, rfl, sets_keeps b [a0, a1, a2] w 0, Cells.sets [a0, a1, a2] h 0, size_sets b [a0, a1, a2] w 0⟩
theorem Cells.put4 {w : World} {b : Nat} {t : TypeId} {v0 v1 v2 v3 : Value} (h : Cells w b t #[v0, v1, v2, v3]) (a0 a1 a2 a3 : Value) : ∃ W, ((((w).setCell ⟨b, 0, none⟩ a0).setCell ⟨b, 1, none⟩ a1).setCell ⟨b, 2, none⟩ a2).setCell ⟨b, 3, none⟩ a3 = W ∧ Keeps (fun x => x = b) w W ∧ Cells W b t #[a0, a1, a2, a3] ∧ W.heap.size = w.heap.size :=
  ⟨_, rfl, sets_keeps b [a0, a1, a2, a3] w 0, Cells.sets [a0, a1, a2, a3] h 0, size_sets b [a0, a1, a2, a3] w 0⟩
theorem Cells.put5 {w : World} {b : Nat} {t : TypeId} {v0 v1 v2 v3 v4 : Value} (h : Cells w b t #[v0, v1, v2, v3, v4]) (a0 a1 a2 a3 a4 : Value) : ∃ W, (((((w).setCell ⟨b, 0, none⟩ a0).setCell ⟨b, 1, none⟩ a1).setCell ⟨b, 2, none⟩ a2).setCell ⟨b, 3, none⟩ a3).setCell ⟨b, 4, none⟩ a4 = W ∧ Keeps (fun x => x = b) w W ∧ Cells W b t #[a0, a1, a2, a3, a4] ∧ W.heap.size = w.heap.size :=
  ⟨_, rfl, sets_keeps b [a0, a1, a2, a3, a4] w 0, Cells.sets [a0, a1, a2, a3, a4] h 0, size_sets b [a0, a1, a2, a3, a4] w 0⟩
theorem Gv.onV {x : Value} {w : World} {K : Ending → World → Prop} (h : ∀ (w' : World), Ext w w' → w.heap.size ≤ w'.heap.size → K (.returned x) w') : ∀ e w', Gv (.v x) w e w' → K e w' := fun _ _ g => by
  obtain ⟨rfl, h3⟩ := Gv.v g
  exact h _ h3 h3.size
theorem Gv.onF {q : Rat} {w : World} {K : Ending → World → Prop} (h : ∀ (X : Fr) (w' : World), FR w' X q → Ext w w' → w.heap.size ≤ w'.heap.size → K (.returned (.agg #[.bool X.N.b, .slice X.N.p X.N.n X.N.c, .bool X.D.b, .slice X.D.p X.D.n X.D.c])) w') : ∀ e w', Gv (.f q) w e w' → K e w' := fun _ _ g => by
  obtain ⟨X, rfl, h1, h2, h3⟩ := Gv.f g
  exact h X _ h1 h3 h3.size
theorem Gv.onFo {q : Rat} {w : World} {K : Ending → World → Prop} (h : ∀ (X : Fr) (w' : World), FR w' X q → OF w.heap.size w' X → Ext w w' → w.heap.size ≤ w'.heap.size → K (.returned (.agg #[.bool X.N.b, .slice X.N.p X.N.n X.N.c, .bool X.D.b, .slice X.D.p X.D.n X.D.c])) w') : ∀ e w', Gv (.f q) w e w' → K e w' := fun _ _ g => by
  obtain ⟨X, rfl, h1, h2, h3⟩ := Gv.f g
  exact h X _ h1 h2 h3 h3.size
theorem Gv.onFe {q : Rat} {n : Int} {w : World} {K : Ending → World → Prop} (h : ∀ (X : Fr) (w' : World), FR w' X q → Ext w w' → w.heap.size ≤ w'.heap.size → K (.returned (.tuple #[.agg #[.bool X.N.b, .slice X.N.p X.N.n X.N.c, .bool X.D.b, .slice X.D.p X.D.n X.D.c], .int .i64 n])) w') : ∀ e w', Gv (.fe q n) w e w' → K e w' := fun _ _ g => by
  obtain ⟨X, rfl, h1, h2, h3⟩ := Gv.fe g
  exact h X _ h1 h3 h3.size
theorem Gv.onFeo {q : Rat} {n : Int} {w : World} {K : Ending → World → Prop} (h : ∀ (X : Fr) (w' : World), FR w' X q → OF w.heap.size w' X → Ext w w' → w.heap.size ≤ w'.heap.size → K (.returned (.tuple #[.agg #[.bool X.N.b, .slice X.N.p X.N.n X.N.c, .bool X.D.b, .slice X.D.p X.D.n X.D.c], .int .i64 n])) w') : ∀ e w', Gv (.fe q n) w e w' → K e w' := fun _ _ g => by
  obtain ⟨X, rfl, h1, h2, h3⟩ := Gv.fe g
  exact h X _ h1 h2 h3 h3.size
theorem Gv.onFn {q : Rat} {n : Int} {w : World} {K : Ending → World → Prop} (h : ∀ (X : Fr) (w' : World), FR w' X q → Ext w w' → w.heap.size ≤ w'.heap.size → K (.returned (.tuple #[.agg #[.bool X.N.b, .slice X.N.p X.N.n X.N.c, .bool X.D.b, .slice X.D.p X.D.n X.D.c], .int .i64 n])) w') : ∀ e w', Gv (.fn q n) w e w' → K e w' := fun _ _ g => by
  obtain ⟨X, rfl, h1, h3⟩ := Gv.fn g
  exact h X _ h1 h3 h3.size
theorem Gv.onF0 {q : Rat} {w : World} {K : Ending → World → Prop} (h : ∀ (X : Fr) (w' : World), FR w' X q → Ext w w' → w.heap.size ≤ w'.heap.size → K (.returned (.agg #[.bool X.N.b, .slice X.N.p X.N.n X.N.c, .bool X.D.b, .slice X.D.p X.D.n X.D.c])) w') : ∀ e w', Gv (.f0 q) w e w' → K e w' := fun _ _ g => by
  obtain ⟨X, rfl, h1, h3⟩ := Gv.f0 g
  exact h X _ h1 h3 h3.size
theorem Gv.onRo {q : Option Rat} {w : World} {K : Ending → World → Prop} (h : ∀ (X : Fr) (w' : World), RO w' X q → Ext w w' → w.heap.size ≤ w'.heap.size → K (.returned (.tuple #[.agg #[.bool X.N.b, .slice X.N.p X.N.n X.N.c, .bool X.D.b, .slice X.D.p X.D.n X.D.c], .int .i64 (erO q)])) w') : ∀ e w', Gv (.ro q) w e w' → K e w' := fun _ _ g => by
  obtain ⟨X, rfl, h1, h3⟩ := Gv.ro g
  exact h X _ h1 h3 h3.size
theorem Gv.onW {z : Int} {w : World} {K : Ending → World → Prop} (h : ∀ (X : Wh) (w' : World), WR w' X z → Ext w w' → w.heap.size ≤ w'.heap.size → K (.returned (.agg #[.bool X.b, .slice X.p X.n X.c])) w') : ∀ e w', Gv (.w z) w e w' → K e w' := fun _ _ g => by
  obtain ⟨X, rfl, h1, h2, h3⟩ := Gv.w g
  exact h X _ h1 h3 h3.size
theorem Gv.onWo {z : Int} {w : World} {K : Ending → World → Prop} (h : ∀ (X : Wh) (w' : World), WR w' X z → OW w.heap.size w' X → Ext w w' → w.heap.size ≤ w'.heap.size → K (.returned (.agg #[.bool X.b, .slice X.p X.n X.c])) w') : ∀ e w', Gv (.w z) w e w' → K e w' := fun _ _ g => by
  obtain ⟨X, rfl, h1, h2, h3⟩ := Gv.w g
  exact h X _ h1 h2 h3 h3.size
theorem Gv.onWe {z n : Int} {w : World} {K : Ending → World → Prop} (h : ∀ (X : Wh) (w' : World), WR w' X z → Ext w w' → w.heap.size ≤ w'.heap.size → K (.returned (.tuple #[.agg #[.bool X.b, .slice X.p X.n X.c], .int .i64 n])) w') : ∀ e w', Gv (.we z n) w e w' → K e w' := fun _ _ g => by
  obtain ⟨X, rfl, h1, h2, h3⟩ := Gv.we g
  exact h X _ h1 h3 h3.size
theorem Gv.onWeo {z n : Int} {w : World} {K : Ending → World → Prop} (h : ∀ (X : Wh) (w' : World), WR w' X z → OW w.heap.size w' X → Ext w w' → w.heap.size ≤ w'.heap.size → K (.returned (.tuple #[.agg #[.bool X.b, .slice X.p X.n X.c], .int .i64 n])) w') : ∀ e w', Gv (.we z n) w e w' → K e w' := fun _ _ g => by
  obtain ⟨X, rfl, h1, h2, h3⟩ := Gv.we g
  exact h X _ h1 h2 h3 h3.size
theorem Gv.onW0 {z : Int} {w : World} {K : Ending → World → Prop} (h : ∀ (X : Wh) (w' : World), WR w' X z → Ext w w' → w.heap.size ≤ w'.heap.size → K (.returned (.agg #[.bool X.b, .slice X.p X.n X.c])) w') : ∀ e w', Gv (.w0 z) w e w' → K e w' := fun _ _ g => by
  obtain ⟨X, rfl, h1, h3⟩ := Gv.w0 g
  exact h X _ h1 h3 h3.size
theorem Gv.onC {l : List Nat} {w : World} {K : Ending → World → Prop} (h : ∀ (X : Wh) (w' : World), UW w' X l → Ext w w' → w.heap.size ≤ w'.heap.size → K (.returned (.slice X.p X.n X.c)) w') : ∀ e w', Gv (.c l) w e w' → K e w' := fun _ _ g => by
  obtain ⟨X, rfl, h1, h2, h3⟩ := Gv.c g
  exact h X _ h1 h3 h3.size
theorem Gv.onCo {l : List Nat} {w : World} {K : Ending → World → Prop} (h : ∀ (X : Wh) (w' : World), UW w' X l → OW w.heap.size w' X → Ext w w' → w.heap.size ≤ w'.heap.size → K (.returned (.slice X.p X.n X.c)) w') : ∀ e w', Gv (.c l) w e w' → K e w' := fun _ _ g => by
  obtain ⟨X, rfl, h1, h2, h3⟩ := Gv.c g
  exact h X _ h1 h2 h3 h3.size
theorem Gv.onC0 {l : List Nat} {w : World} {K : Ending → World → Prop} (h : ∀ (X : Wh) (w' : World), UW w' X l → Ext w w' → w.heap.size ≤ w'.heap.size → K (.returned (.slice X.p X.n X.c)) w') : ∀ e w', Gv (.c0 l) w e w' → K e w' := fun _ _ g => by
  obtain ⟨X, rfl, h1, h3⟩ := Gv.c0 g
  exact h X _ h1 h3 h3.size
end Go.Proofs.YtndgaecfeaedeaaGreat

namespace Go.Proofs.YtndgaecfeaedeaaGreat
set_option linter.unusedSimpArgs false
set_option linter.unusedVariables false
open Go.RowKit Lex Mth
attribute [local go_sem] run_indexAt_at add_zero_map Oper.semAt_some at_some

theorem Apt.seq' {B n : Nat} {v w' : World} {X Y : Wh} (h : OW B v X) (k : OW n w' Y) (hn : v.heap.size ≤ n) : Apt X Y := fun b h1 h2 => by have := (h.bl b h1).2; have := (k.bl b h2).1; omega
theorem ownsRow_ext {w w' : World} {base : Nat} {e : TypeId} {size : Nat} {v : Value} {n : Nat} {xs : List Value} (h : w.ownsRow base e size v n xs) (x : Ext w w') : w'.ownsRow base e size v n xs := by
  obtain ⟨h1, h2⟩ := h
  refine ⟨h1, h2.imp id ?_⟩
  rintro ⟨g, cap, cur, hv, hb, hg, h3⟩
  exact ⟨g, cap, cur, hv, hb, (x.block g (Array.getElem?_eq_some_iff.1 hg).1).trans hg, h3⟩

set_option maxRecDepth 100000 in
theorem cCopyLimbs_any (p : Option Addr) (n cap : Nat) (l : List Nat) (w : World) (h : U16 w p n cap l) :
    Calls Tryz.prog 196 #[.slice p n cap] w fun e w' => ∃ p' c', e = .returned (.slice p' n c') ∧ U16 w' p' n c' l ∧ Own w.heap.size w' p' c' ∧ Ext w w' := by
  obtain ⟨i0, hi, hz0, hz1, hz2⟩ := info_parts Tryz.info16
  cases p with
  | none =>
    have h0 : n = 0 := by have := h.has; unfold Has at this; simpa using this
    subst h0
    go_enter Tryz.func196, Tryz.ntmps196
    go_wp2
    go_ret
    refine ⟨_, _, rfl, ⟨h.len, Nat.le_refl _, by omega, ?_, h.lim, fun j hj => absurd hj (Nat.not_lt_zero _)⟩, .inl rfl, Below.refl _ _⟩
    unfold Has; exact .inl rfl
  | some ad =>
    have hr := h.reach
    have hlen := h.len
    have hcell := h.cell
    go_enter Tryz.func196, Tryz.ntmps196
    have hlt : ∀ j u, (u16s l)[j]? = some u → w.cell? (ad.add j) = some u := by
      intro j u hj
      rw [List.getElem?_map, Option.map_eq_some_iff] at hj
      obtain ⟨x, hx, rfl⟩ := hj
      obtain ⟨hjl, hx'⟩ := List.getElem?_eq_some_iff.1 hx
      have hc := hcell j (by omega)
      have e : at_ (some ad) j = ad.add j := by unfold at_; rfl
      rw [e] at hc
      have hd : dig l j = x := by unfold dig; rw [List.getD_eq_getElem?_getD, hx]; rfl
      rw [hd] at hc
      exact hc
    go_wp2_with (at_builtin; refine wpList_append_own _ rfl (.tmp 4) (.tmp 5) 36 rfl w.heap.size 153 i0 (.int .u16 0) 1 2 Tryz.underlying36 hi hz0 hz1 hz2 rfl (by omega) (.slice none 0 0) 0 [] rfl (World.ownsRow_nil _ _ _ _) ad n cap (u16s l) rfl (by simp [hlen]) hlt (by intro u hu; obtain ⟨x, _, rfl⟩ := List.mem_map.1 hu; rfl) (by unfold maxLen; omega) (by omega) (by simp) ?_)
    intro v' w' hown hgrow hnil
    have he : Below w.heap.size w w' := (Below.refl _ w).grown hgrow (by simp) (fun b hb => by simp [Value.ownBlock] at hb)
    clear hnil
    go_wp2
    go_ret
    obtain ⟨p', c', rfl, hU, hO⟩ := U16.of_owns hown h.lim hr
    exact ⟨p', c', rfl, hU, hO, he⟩
theorem cCopyLimbs (X : Wh) (l : List Nat) (w : World) (h : U16 w X.p X.n X.c l) : Calls Tryz.prog 196 #[.slice X.p X.n X.c] w (Gv (.c l) w) :=
  (cCopyLimbs_any X.p X.n X.c l w h).mono fun _ _ ⟨p', c', he, h1, h2, h3⟩ => by subst he; exact Gv.of_c (X := ⟨false, p', X.n, c'⟩) h1 h2 h3
end Go.Proofs.YtndgaecfeaedeaaGreat
