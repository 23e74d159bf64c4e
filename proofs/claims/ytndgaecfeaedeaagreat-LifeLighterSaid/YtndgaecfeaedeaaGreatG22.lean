/- What is read as data lies in memory as the walks want it: limbs, whole numbers, fractions, rows, tables. No condition: laws on the form's readings. What the last texts of the laws on lives share: a table and a life that come as arguments. No condition: words. The walk of LifeLighter: what comes ahead of the loops. The walk of LifeLighter. -/
import Derived.SizedLaws
import Derived.Deep.Slices
import Derived.Lib.SmallJoins
import Derived.ProofKit
import Derived.OpenShut
import Derived.ChangeOld
import Derived.Below
import Derived.Test.YtndgaecfeaedeaaGreatG16
import Derived.Test.YtndgaecfeaedeaaGreatG21
namespace Go.Proofs.YtndgaecfeaedeaaGreat
set_option linter.unusedSimpArgs false
set_option linter.unusedVariables false
open Go.RowKit Lex Mth Go.ChangeShapes

section
variable {H : Type} {enc : TypeId × Value → H} {w : World} {base : Nat} {held : Bool}
/-- Nothing that is read takes more than the reach. -/
def WB (t : TypeId) (d : DataW H) : Prop := ∀ n ∈ d.weights Tryz.prog t, n ≤ reachBytes
theorem at_eq (a : Addr) (k : Nat) : at_ (some a) k = a.add k := by unfold at_; rfl

theorem weights_all {e : TypeId} : ∀ {l : List (DataW H)} {d : DataW H}, d ∈ l → ∀ n ∈ d.weights Tryz.prog e, n ∈ DataW.weightsAll Tryz.prog e l
  | x :: l, d, hd, n, hn => by
    simp only [DataW.weightsAll, List.mem_append]
    rcases List.mem_cons.1 hd with rfl | h
    · exact .inl hn
    · exact .inr (weights_all h n hn)
theorem WB.slice {t e : TypeId} {l r : List (DataW H)} (ht : Tryz.prog.underlying t = some (.slice e)) (h : WB t (.slice l r)) : (l.length + r.length) * Tryz.prog.bytesOf e ≤ reachBytes ∧ ∀ d ∈ l, WB e d := by
  unfold WB at h
  simp only [DataW.weights, ht] at h
  exact ⟨h _ (by simp), fun d hd n hn => h n (List.mem_cons_of_mem _ (List.mem_append_left _ (weights_all hd n hn)))⟩

theorem open_u16 {t : TypeId} {fuel : Nat} {cs : List Value} {x : DataW H × List MemPlace} (ht : t = 36) (h : DataW.trod enc Tryz.prog w base (fun _ => true) held fuel t cs = some x) (hw : WB t x.1) : ∃ X : Wh, ∃ l, cs = [.slice X.p X.n X.c] ∧ UW w X l := by
  subst ht
  rcases open_ints Tryz.underlying36 Tryz.underlying153 (by kernel_rfl) h with ⟨rfl, rfl⟩ | ⟨a, len, cap, zs, rfl, _, hl, hm, hz, rfl, hcell, hwz⟩
  · exact ⟨⟨false, none, 0, 0⟩, [], rfl, ⟨rfl, Nat.le_refl _, by simp, by unfold Has; exact .inl rfl, Lim.nil, fun j hj => absurd hj (Nat.not_lt_zero _)⟩⟩
  · have hr := (WB.slice Tryz.underlying36 hw).1
    rw [show Tryz.prog.bytesOf 153 = 2 from by kernel_rfl] at hr
    simp only [lits, List.length_map, List.length_take, List.length_drop, reachBytes] at hr
    simp only [if_true] at hz
    have hu : ∀ z ∈ zs, 0 ≤ z ∧ z ≤ 65535 := fun z hz => by
      have := hwz z hz
      simpa [Lit.wf, IntKind.min, IntKind.max, IntKind.bits, IntKind.signed] using this
    refine ⟨⟨false, some a, len, cap⟩, (zs.take len).map Int.toNat, rfl, ⟨by simp; omega, hl, by simp only; omega, Has.some _ _, ?_, fun j hj => ?_⟩⟩
    · intro y hy
      obtain ⟨z, hz1, rfl⟩ := List.mem_map.1 hy
      have := hu z (List.mem_of_mem_take hz1)
      omega
    · have hj2 : j < zs.length := by simp only at hj; omega
      rw [at_eq, hcell j hj2]
      have h3 := hu _ (List.getElem_mem hj2)
      have e : dig ((zs.take len).map Int.toNat) j = (zs[j]).toNat := by
        simp only at hj
        simp [dig, List.getD_eq_getElem?_getD, hj, hj2]
      rw [e]
      simp only [List.getD_eq_getElem?_getD, List.getElem?_eq_getElem hj2, Option.getD_some, Option.some.injEq, Value.int.injEq, true_and]
      omega

set_option maxRecDepth 100000 in
theorem open_whole {fuel : Nat} {cs : List Value} {x : DataW H × List MemPlace} (h : DataW.trod enc Tryz.prog w base (fun _ => true) held fuel 38 cs = some x) (hw : WB 38 x.1) : ∃ X : Wh, ∃ l, cs = [.bool X.b, .slice X.p X.n X.c] ∧ UW w X l := by
  obtain ⟨y0, y1, n, rfl, hl, h0, h1⟩ := trod_struct2 Tryz.underlying38 h
  rw [show Tryz.prog.cellsOf 38 = 2 from by kernel_rfl] at hl
  match cs, hl with
  | [a, b], _ =>
    rw [show Tryz.prog.cellsOf 4 = 1 from by kernel_rfl] at h0
    rw [show Tryz.prog.cellsOf 36 = 1 from by kernel_rfl] at h1
    simp only [List.drop_succ_cons, List.drop_zero, List.take_succ_cons, List.take_zero] at h0 h1
    obtain ⟨bb, e0, rfl⟩ := DataW.trod_bool Tryz.underlying4 h0
    have hw1 : WB 36 y1.1 := fun m hm => hw m (by
      simp only [DataW.weights, Tryz.underlying38, DataW.weightsEach, List.map_cons, List.map_nil, List.mem_append]
      exact .inr (.inl hm))
    obtain ⟨X, l, e1, hU⟩ := open_u16 rfl h1 hw1
    simp only [List.cons.injEq, and_true] at e0 e1
    subst e0 e1
    exact ⟨⟨bb, X.p, X.n, X.c⟩, l, rfl, hU⟩

set_option maxRecDepth 100000 in
theorem open_frac {fuel : Nat} {cs : List Value} {x : DataW H × List MemPlace} (h : DataW.trod enc Tryz.prog w base (fun _ => true) held fuel 40 cs = some x) (hw : WB 40 x.1) :
    ∃ X : Fr, ∃ l m, cs = [.bool X.N.b, .slice X.N.p X.N.n X.N.c, .bool X.D.b, .slice X.D.p X.D.n X.D.c] ∧ UF w X l m := by
  obtain ⟨y0, y1, n, rfl, hl, h0, h1⟩ := trod_struct2 Tryz.underlying40 h
  rw [show Tryz.prog.cellsOf 40 = 4 from by kernel_rfl] at hl
  match cs, hl with
  | [a, b, c, d], _ =>
    rw [show Tryz.prog.cellsOf 38 = 2 from by kernel_rfl] at h0 h1
    simp only [List.drop_succ_cons, List.drop_zero, List.take_succ_cons, List.take_zero] at h0 h1
    have hw0 : WB 38 y0.1 := fun m hm => hw m (by
      simp only [DataW.weights, Tryz.underlying40, DataW.weightsEach, List.map_cons, List.map_nil, List.mem_append]
      exact .inl hm)
    have hw1 : WB 38 y1.1 := fun m hm => hw m (by
      simp only [DataW.weights, Tryz.underlying40, DataW.weightsEach, List.map_cons, List.map_nil, List.mem_append]
      exact .inr (.inl hm))
    obtain ⟨X, l, e0, hX⟩ := open_whole h0 hw0
    obtain ⟨Y, m, e1, hY⟩ := open_whole h1 hw1
    simp only [List.cons.injEq, and_true] at e0 e1
    obtain ⟨rfl, rfl⟩ := e0
    obtain ⟨rfl, rfl⟩ := e1
    exact ⟨⟨X, Y⟩, l, m, rfl, hX, hY⟩

theorem FA.of {a : Addr} {i : Nat} {X : Fr} (h : w.cells? base (a.add (i * 4)) 4 = some [.bool X.N.b, .slice X.N.p X.N.n X.N.c, .bool X.D.b, .slice X.D.p X.D.n X.D.c]) : FA w (some a) i X := by
  obtain ⟨_, _, hc⟩ := World.cells?_some h
  have g := fun k hk => (Go.Deep.add_add a (i * 4) k) ▸ hc k hk
  exact ⟨by rw [at_eq]; exact g 0 (by omega), by rw [at_eq]; exact g 1 (by omega), by rw [at_eq]; exact g 2 (by omega), by rw [at_eq]; exact g 3 (by omega)⟩

instance : Inhabited Wh := ⟨⟨false, none, 0, 0⟩⟩
instance : Inhabited Fr := ⟨⟨default, default⟩⟩
set_option maxRecDepth 100000 in
theorem open_row {fuel : Nat} {v : Value} {x : DataW H × List MemPlace} (h : DataW.trod enc Tryz.prog w base (fun _ => true) held fuel 47 [v] = some x) (hw : WB 47 x.1) :
    ∃ p n c, ∃ X : Nat → Fr, ∃ l m : Nat → List Nat, v = .slice p n c ∧ FRow w p n c X ∧ ∀ j, j < n → UF w (X j) (l j) (m j) := by
  rcases Go.Deep.open_slice Tryz.underlying47 h with ⟨e, rfl⟩ | ⟨a, len, cap, m, n, D, Pl, e, _, hl, hm, hmm, rfl, hx⟩
  · simp only [List.cons.injEq, and_true] at e
    subst e
    exact ⟨none, 0, 0, default, fun _ => [], fun _ => [], rfl, ⟨by unfold Has; exact .inl rfl, Nat.le_refl _, by omega, fun j hj => absurd hj (Nat.not_lt_zero _)⟩, fun j hj => absurd hj (Nat.not_lt_zero _)⟩
  · simp only [List.cons.injEq, and_true] at e
    subst e
    simp only [if_true] at hmm
    obtain ⟨hr, hel⟩ := WB.slice Tryz.underlying47 hw
    rw [show Tryz.prog.bytesOf 40 = 64 from by kernel_rfl] at hr
    simp only [List.length_map, List.length_range, reachBytes] at hr
    rw [show Tryz.prog.cellsOf 40 = 4 from by kernel_rfl] at hx
    have key : ∀ i, i < len → ∃ q : Fr × List Nat × List Nat, FA w (some a) i q.1 ∧ UF w q.1 q.2.1 q.2.2 := fun i hi => by
      obtain ⟨cs', h1, h2⟩ := hx i (by omega)
      obtain ⟨X, l, m, rfl, hU⟩ := open_frac h2 (hel (D i) (by
        rw [List.mem_map]
        exact ⟨i, List.mem_range.2 hi, rfl⟩))
      exact ⟨(X, l, m), FA.of h1, hU⟩
    obtain ⟨q, hq⟩ := Go.Deep.choose_lt key
    exact ⟨some a, len, cap, fun i => (q i).1, fun i => (q i).2.1, fun i => (q i).2.2, rfl, ⟨Has.some _ _, hl, by omega, fun i hi => (hq i hi).1⟩, fun i hi => (hq i hi).2⟩

set_option maxRecDepth 100000 in
theorem open_table {fuel : Nat} {f s v : Value} {x0 x1 x2 : DataW H × List MemPlace} (h0 : DataW.trod enc Tryz.prog w base (fun _ => true) held fuel 3 [f] = some x0) (h1 : DataW.trod enc Tryz.prog w base (fun _ => true) held fuel 3 [s] = some x1) (h2 : DataW.trod enc Tryz.prog w base (fun _ => true) held fuel 22 [v] = some x2) (hw : WB 22 x2.1) :
    ∃ T : Tb, f = .int .i64 T.first ∧ s = .int .i64 T.sel ∧ v = .slice T.P T.N T.C ∧ TW w T := by
  obtain ⟨n0, e0, _, w0⟩ := DataW.trod_int Tryz.underlying3 h0
  obtain ⟨n1, e1, _, w1⟩ := DataW.trod_int Tryz.underlying3 h1
  simp only [List.cons.injEq, and_true] at e0 e1
  subst e0 e1
  have b0 : -9223372036854775808 ≤ n0 ∧ n0 ≤ 9223372036854775807 := by simpa [Lit.wf, IntKind.min, IntKind.max, IntKind.bits, IntKind.signed] using w0
  have b1 : -9223372036854775808 ≤ n1 ∧ n1 ≤ 9223372036854775807 := by simpa [Lit.wf, IntKind.min, IntKind.max, IntKind.bits, IntKind.signed] using w1
  rcases Go.Deep.open_slice1 Tryz.underlying22 (by kernel_rfl) h2 with ⟨e, rfl⟩ | ⟨a, len, cap, m, n, Vv, D, Pl, e, _, hl, hm, hmm, rfl, hx⟩
  · simp only [List.cons.injEq, and_true] at e
    subst e
    exact ⟨⟨n0, n1, none, 0, 0, fun _ => none, fun _ => 0, fun _ => 0, default, fun _ _ => [], fun _ _ => []⟩, rfl, rfl, rfl, ⟨b0.1, b0.2, b1.1, b1.2, by unfold Has; exact .inl rfl, Nat.le_refl _, by simp, fun k hk => absurd hk (Nat.not_lt_zero _), fun k hk => absurd hk (Nat.not_lt_zero _), fun k hk => absurd hk (Nat.not_lt_zero _)⟩⟩
  · simp only [List.cons.injEq, and_true] at e
    subst e
    simp only [if_true] at hmm
    obtain ⟨hr, hel⟩ := WB.slice Tryz.underlying22 hw
    rw [show Tryz.prog.bytesOf 47 = 24 from by kernel_rfl] at hr
    simp only [List.length_map, List.length_range, reachBytes] at hr
    have key : ∀ i, i < len → ∃ q : (Option Addr × Nat × Nat) × (Nat → Fr) × (Nat → List Nat) × (Nat → List Nat), w.cell? (a.add i) = some (.slice q.1.1 q.1.2.1 q.1.2.2) ∧ FRow w q.1.1 q.1.2.1 q.1.2.2 q.2.1 ∧ ∀ j, j < q.1.2.1 → UF w (q.2.1 j) (q.2.2.1 j) (q.2.2.2 j) := fun i hi => by
      obtain ⟨g1, g2⟩ := hx i (by omega)
      obtain ⟨p, k, c, X, l, m', e, hR, hU⟩ := open_row g2 (hel (D i) (by rw [List.mem_map]; exact ⟨i, List.mem_range.2 hi, rfl⟩))
      exact ⟨((p, k, c), X, l, m'), by rw [g1, e], hR, hU⟩
    obtain ⟨q, hq⟩ := Go.Deep.choose_lt key
    exact ⟨⟨n0, n1, some a, len, cap, fun i => (q i).1.1, fun i => (q i).1.2.1, fun i => (q i).1.2.2, fun i => (q i).2.1, fun i => (q i).2.2.1, fun i => (q i).2.2.2⟩, rfl, rfl, rfl,
      ⟨b0.1, b0.2, b1.1, b1.2, Has.some _ _, hl, by simp only; omega, fun i hi => by rw [at_eq]; exact (hq i hi).1, fun i hi => (hq i hi).2.1, fun i hi => (hq i hi).2.2⟩⟩
end
end Go.Proofs.YtndgaecfeaedeaaGreat

namespace Go.Proofs.YtndgaecfeaedeaaGreat
set_option linter.unusedSimpArgs false
set_option linter.unusedVariables false
open Go.RowKit Lex Mth Go.ChangeShapes Go.WideShapes Go.ChangeAt

theorem own_knob : ownKnob Tryz.prog.godebug = none := by kernel_rfl
theorem laid_out : laidOutB Tryz.prog = true := by kernel_rfl
theorem i64_of {n : Int} (h : (Lit.int .i64 n).wf = true) : -9223372036854775808 ≤ n ∧ n ≤ 9223372036854775807 := by simpa [Lit.wf, IntKind.min, IntKind.max, IntKind.bits, IntKind.signed] using h
theorem u8_of {n : Int} (h : (Lit.int .u8 n).wf = true) : 0 ≤ n ∧ n ≤ 255 := by simpa [Lit.wf, IntKind.min, IntKind.max, IntKind.bits, IntKind.signed] using h

set_option maxRecDepth 100000 in
theorem arg_table {H : Type} {enc : TypeId × Value → H} {W : World} {base : Nat} {v : Value} {d : DataW H} {p : List MemPlace} (hv : Value.okWide Tryz.prog W .any base 24 v) (h : DataW.Trod enc Tryz.prog W 0 (fun _ => true) true 24 v d p) (hw : WB 24 d) :
    ∃ T : Tb, v = .agg #[.int .i64 T.first, .int .i64 T.sel, .slice T.P T.N T.C] ∧ TW W T := by
  obtain ⟨v0, v1, v2, y0, y1, y2, n, rfl, rfl, rfl, h0, h1, h2⟩ := Go.Joins.open_agg3 Tryz.underlying24 (by kernel_rfl) (by kernel_rfl) hv h
  have hw2 : WB 22 y2.1 := fun m hm => hw m (by
    simp only [DataW.weights, Tryz.underlying24, DataW.weightsEach, List.map_cons, List.map_nil, List.mem_append]
    exact .inr (.inr (.inl hm)))
  obtain ⟨T, rfl, rfl, rfl, hT⟩ := open_table h0 h1 h2 hw2
  exact ⟨T, rfl, hT⟩
set_option maxRecDepth 100000 in
theorem arg_life {H : Type} {enc : TypeId × Value → H} {W : World} {base : Nat} {v : Value} {d : DataW H} {p : List MemPlace} (hv : Value.okWide Tryz.prog W .any base 26 v) (h : DataW.Trod enc Tryz.prog W 0 (fun _ => true) true 26 v d p) :
    ∃ e y : Int, v = .agg #[.int .i64 e, .int .i64 y] ∧ -9223372036854775808 ≤ e ∧ e ≤ 9223372036854775807 ∧ -9223372036854775808 ≤ y ∧ y ≤ 9223372036854775807 := by
  obtain ⟨v0, v1, y0, y1, n, rfl, rfl, rfl, h0, h1⟩ := Go.Joins.open_agg2 Tryz.underlying26 (by kernel_rfl) (by kernel_rfl) hv h
  obtain ⟨n0, e0, _, w0⟩ := DataW.trod_int Tryz.underlying3 h0
  obtain ⟨n1, e1, _, w1⟩ := DataW.trod_int Tryz.underlying3 h1
  simp only [List.cons.injEq, and_true] at e0 e1
  subst e0 e1
  exact ⟨n0, n1, rfl, (i64_of w0).1, (i64_of w0).2, (i64_of w1).1, (i64_of w1).2⟩
theorem wb_each {H : Type} {ts : List TypeId} {ds : List (DataW H)} {j : Nat} {t : TypeId} {d : DataW H} (h : (DataW.weightsEach Tryz.prog ts ds).all (· ≤ reachBytes) = true) (ht : ts[j]? = some t) (hd : ds[j]? = some d) : WB t d := fun n hn => by
  have := List.all_eq_true.1 h n (DataW.weights_mem_each ht hd n hn)
  simpa using this
end Go.Proofs.YtndgaecfeaedeaaGreat

namespace Go.Proofs.YtndgaecfeaedeaaGreat
set_option linter.unusedSimpArgs false
set_option linter.unusedVariables false
open Go.RowKit Lex Mth
attribute [local go_sem] run_indexAt_at add_zero_map Oper.semAt_some at_zero at_add at_mk1 at_mk2 at_mk3
set_option linter.unusedSimpArgs false
set_option linter.unusedVariables false

theorem OT.mono {B B' : Nat} {w : World} {T : Tb} {g : Nat} {rb rc : Nat → Nat} {E : Nat → Nat → Fr} (h : OT B w T g rb rc E) (e : B' ≤ B) : OT B' w T g rb rc E :=
  ⟨Nat.le_trans e h.gB, h.gt, h.sl, h.le, fun k hk => Nat.le_trans e (h.rB k hk), h.row, h.inj⟩
theorem OQ.mono {B B' : Nat} {w : World} {T : Tb} {g : Nat} {rb rc : Nat → Nat} {Q : Nat → Nat → Rat} (h : OQ B w T g rb rc Q) (e : B' ≤ B) : OQ B' w T g rb rc Q :=
  let ⟨E, h1, h2⟩ := h; ⟨E, h1.mono e, fun k hk l hl => ⟨(h2 k hk l hl).1, (h2 k hk l hl).2.mono e⟩⟩
theorem OQ.sl {B : Nat} {w : World} {T : Tb} {g : Nat} {rb rc : Nat → Nat} {Q : Nat → Nat → Rat} (h : OQ B w T g rb rc Q) {k : Nat} (hk : k < T.N) : w.cell? ⟨g, k, none⟩ = some (.slice (some ⟨rb k, 0, none⟩) (T.rn k) (rc k)) :=
  let ⟨_, h1, _⟩ := h; h1.sl k hk
theorem OQ.at {B : Nat} {w : World} {T : Tb} {g : Nat} {rb rc : Nat → Nat} {Q : Nat → Nat → Rat} (h : OQ B w T g rb rc Q) {k j : Nat} (hk : k < T.N) (hj : j < T.rn k) : ∃ X : Fr, w.cell? ⟨rb k, j * 4, none⟩ = some (.bool X.N.b) ∧ w.cell? ⟨rb k, j * 4 + 1, none⟩ = some (.slice X.N.p X.N.n X.N.c) ∧ w.cell? ⟨rb k, j * 4 + 2, none⟩ = some (.bool X.D.b) ∧ w.cell? ⟨rb k, j * 4 + 3, none⟩ = some (.slice X.D.p X.D.n X.D.c) ∧ FR w X (Q k j) :=
  let ⟨E, h1, h2⟩ := h
  let ⟨c0, c1, c2, c3⟩ := h1.cells hk hj
  ⟨E k j, c0, c1, c2, c3, (h2 k hk j hj).1⟩
theorem OQ.free {B : Nat} {w : World} {T : Tb} {g : Nat} {rb rc : Nat → Nat} {Q : Nat → Nat → Rat} (h : OQ B w T g rb rc Q) {k : Nat} (hk : k < T.N) (j : Nat) : w.frozen? ⟨rb k, j, none⟩ = false :=
  let ⟨_, h1, _⟩ := h; h1.free hk j
theorem OQ.rB {B : Nat} {w : World} {T : Tb} {g : Nat} {rb rc : Nat → Nat} {Q : Nat → Nat → Rat} (h : OQ B w T g rb rc Q) {k : Nat} (hk : k < T.N) : B ≤ rb k :=
  let ⟨_, h1, _⟩ := h; h1.rB k hk
/-- A box of another type is kept over a store in a row. -/
theorem OQ.kb {B : Nat} {w w' : World} {T : Tb} {g : Nat} {rb rc : Nat → Nat} {Q : Nat → Nat → Rat} (h : OQ B w T g rb rc Q) {k : Nat} (hk : k < T.N) (kp : Keeps (fun x => x = rb k) w w') {b : Nat} {t : TypeId} {c : Array Value} (hC : Cells w b t c) (ht : 40 ≠ t) : Cells w' b t c := by
  obtain ⟨E, h1, _⟩ := h
  obtain ⟨cur, c1, _⟩ := h1.row k hk
  refine hC.kb kp fun e => ?_
  have e1 : w.heap[rb k]? = some (.cells cur 40 (0, 0)) := c1
  have e2 : w.heap[b]? = some (.cells c t (0, 0)) := hC
  rw [e, e1] at e2
  simp only [Option.some.injEq, Obj.cells.injEq] at e2
  exact ht e2.2.1
theorem Qs_zero {p : Rat} {R : Nat → Nat → Rat} (k l : Nat) : R k l = Qs p R 0 0 k l := by
  unfold Qs; rw [if_neg (by omega)]
theorem Qs_row {p : Rat} {R : Nat → Nat → Rat} {i n k l : Nat} (h : k = i → l < n) : Qs p R i n k l = Qs p R (i + 1) 0 k l := by
  unfold Qs
  by_cases hk : k < i ∨ (k = i ∧ l < n)
  · rw [if_pos hk, if_pos (by omega)]
  · rw [if_neg hk, if_neg (by omega)]
theorem Qs_here {p : Rat} {R : Nat → Nat → Rat} {i j : Nat} : Qs p R i j i j = R i j := by
  unfold Qs; rw [if_neg (by omega)]
theorem Qs_next {p : Rat} {R : Nat → Nat → Rat} {i j k l : Nat} (h : ¬ (k = i ∧ l = j)) : Qs p R i j k l = Qs p R i (j + 1) k l := by
  unfold Qs
  by_cases hk : k < i ∨ (k = i ∧ l < j)
  · rw [if_pos hk, if_pos (by omega)]
  · rw [if_neg hk, if_neg (by omega)]
theorem Qs_done {p : Rat} {R : Nat → Nat → Rat} {i j : Nat} : Qs p R i (j + 1) i j = upR p (R i j) := by
  unfold Qs; rw [if_pos (by omega)]
theorem Qs_skip {p : Rat} {R : Nat → Nat → Rat} {i j : Nat} (h : shQ (upQ p (R i j)) = false) (k l : Nat) : Qs p R i j k l = Qs p R i (j + 1) k l := by
  by_cases hk : k = i ∧ l = j
  · rw [hk.1, hk.2, Qs_here, Qs_done]
    unfold upR
    rw [h]; rfl
  · exact Qs_next hk
theorem shQ_n {w : World} {X : Fr} {q : Rat} (h : FR w X q) : shQ q = (decide (X.N.n ≤ 1) && decide (X.D.n ≤ 1)) := by
  unfold shQ
  rw [h.1.n, h.2.n, Int.natAbs_natCast]

set_option maxRecDepth 100000 in
theorem nLighter0 (T : Tb) (e y : Int) (m n d : Int) (w : World) (hT : TW w T) (ey : -9223372036854775808 ≤ e ∧ e ≤ 9223372036854775807 ∧ -9223372036854775808 ≤ y ∧ y ≤ 9223372036854775807) (hu : okU T e y = false) :
    Calls Tryz.prog 7 #[.agg #[.int .i64 T.first, .int .i64 T.sel, .slice T.P T.N T.C], .agg #[.int .i64 e, .int .i64 y], .int .u8 m, .int .u8 n, .int .u8 d] w (Gv (.v (.bool true)) w) := by
  have HU := Lib.hid hu
  clear hu
  obtain ⟨w1, hww1, ew1, B1, zw1⟩ := alloc_at w (w.heap.size) (by omega) #[.int .i64 T.first, .int .i64 T.sel, .slice T.P T.N T.C] 24
  obtain ⟨w2, hww2, ew2, B2, zw2⟩ := alloc_at w1 (w.heap.size + 1) (by omega) #[.int .i64 e, .int .i64 y] 26
  have xw_w2 := eg ew1 ew2
  go_enter Tryz.func7, Tryz.ntmps7
  go_wp2_with fail
  clear hww1 hww2
  replace zw1 := le2 zw1
  replace zw2 := le2 zw2
  refine (nawake  _).mono (Gv.onV fun w3 ew3 zw3 => ?_)
  have xw1_w3 := eg ew2 ew3
  replace B1 := B1.ext xw1_w3
  have b1_w3 := B1.c3
  replace B2 := B2.ext ew3
  have b2_w3 := B2.c2
  have xw_w3 := eg xw_w2 ew3
  go_wp2_with fail
  refine (nusable T e y _ (hT.ext xw_w3) ey HU.out).mono (Gv.onV fun w4 ew4 zw4 => ?_)
  have xw_w4 := eg xw_w3 ew4
  go_wp2_with fail
  clear b1_w3 b2_w3
  refine bodyPost_ret (v := .bool true) (by simp [results, Tryz.results7, go_sem]) rfl ?_
  exact Gv.of_v xw_w4

set_option maxRecDepth 100000 in
theorem nLighter1 (T : Tb) (e y : Int) (m n d : Int) (w : World) (hT : TW w T) (ey : -9223372036854775808 ≤ e ∧ e ≤ 9223372036854775807 ∧ -9223372036854775808 ≤ y ∧ y ≤ 9223372036854775807) (hu : okU T e y = true) (hg : decide (d < n) = true) :
    Calls Tryz.prog 7 #[.agg #[.int .i64 T.first, .int .i64 T.sel, .slice T.P T.N T.C], .agg #[.int .i64 e, .int .i64 y], .int .u8 m, .int .u8 n, .int .u8 d] w (Gv (.v (.bool true)) w) := by
  have HU := Lib.hid hu
  clear hu
  obtain ⟨w1, hww1, ew1, B1, zw1⟩ := alloc_at w (w.heap.size) (by omega) #[.int .i64 T.first, .int .i64 T.sel, .slice T.P T.N T.C] 24
  obtain ⟨w2, hww2, ew2, B2, zw2⟩ := alloc_at w1 (w.heap.size + 1) (by omega) #[.int .i64 e, .int .i64 y] 26
  have xw_w2 := eg ew1 ew2
  go_enter Tryz.func7, Tryz.ntmps7
  go_wp2_with fail
  clear hww1 hww2
  replace zw1 := le2 zw1
  replace zw2 := le2 zw2
  refine (nawake  _).mono (Gv.onV fun w3 ew3 zw3 => ?_)
  have xw1_w3 := eg ew2 ew3
  replace B1 := B1.ext xw1_w3
  have b1_w3 := B1.c3
  replace B2 := B2.ext ew3
  have b2_w3 := B2.c2
  have xw_w3 := eg xw_w2 ew3
  go_wp2_with fail
  refine (nusable T e y _ (hT.ext xw_w3) ey HU.out).mono (Gv.onV fun w4 ew4 zw4 => ?_)
  have xw_w4 := eg xw_w3 ew4
  go_wp2_with fail
  clear b1_w3 b2_w3
  refine bodyPost_ret (v := .bool true) (by simp [results, Tryz.results7, go_sem]) rfl ?_
  exact Gv.of_v xw_w4

set_option maxRecDepth 100000 in
theorem nLighter2 (T : Tb) (e y : Int) (m n d : Int) (w : World) (hT : TW w T) (ey : -9223372036854775808 ≤ e ∧ e ≤ 9223372036854775807 ∧ -9223372036854775808 ≤ y ∧ y ≤ 9223372036854775807) (hu : okU T e y = true) (hg : decide (d < n) = false) (hz : ((d : Int) == 0) = true) :
    Calls Tryz.prog 7 #[.agg #[.int .i64 T.first, .int .i64 T.sel, .slice T.P T.N T.C], .agg #[.int .i64 e, .int .i64 y], .int .u8 m, .int .u8 n, .int .u8 d] w (Gv (.v (.bool true)) w) := by
  have HU := Lib.hid hu
  clear hu
  obtain ⟨w1, hww1, ew1, B1, zw1⟩ := alloc_at w (w.heap.size) (by omega) #[.int .i64 T.first, .int .i64 T.sel, .slice T.P T.N T.C] 24
  obtain ⟨w2, hww2, ew2, B2, zw2⟩ := alloc_at w1 (w.heap.size + 1) (by omega) #[.int .i64 e, .int .i64 y] 26
  have xw_w2 := eg ew1 ew2
  go_enter Tryz.func7, Tryz.ntmps7
  go_wp2_with fail
  clear hww1 hww2
  replace zw1 := le2 zw1
  replace zw2 := le2 zw2
  refine (nawake  _).mono (Gv.onV fun w3 ew3 zw3 => ?_)
  have xw1_w3 := eg ew2 ew3
  replace B1 := B1.ext xw1_w3
  have b1_w3 := B1.c3
  replace B2 := B2.ext ew3
  have b2_w3 := B2.c2
  have xw_w3 := eg xw_w2 ew3
  go_wp2_with fail
  refine (nusable T e y _ (hT.ext xw_w3) ey HU.out).mono (Gv.onV fun w4 ew4 zw4 => ?_)
  have xw_w4 := eg xw_w3 ew4
  go_wp2_with fail
  clear b1_w3 b2_w3
  refine bodyPost_ret (v := .bool true) (by simp [results, Tryz.results7, go_sem]) rfl ?_
  exact Gv.of_v xw_w4
end Go.Proofs.YtndgaecfeaedeaaGreat

namespace Go.Proofs.YtndgaecfeaedeaaGreat
set_option linter.unusedSimpArgs false
set_option linter.unusedVariables false
open Go.RowKit Lex Mth
attribute [local go_sem] run_indexAt_at add_zero_map Oper.semAt_some at_zero at_add at_mk1 at_mk2 at_mk3
set_option linter.unusedSimpArgs false
set_option linter.unusedVariables false

def lvA (v : Value) : List Value := match v with | .agg l => l.toList | _ => []
theorem Rq.of {w : World} {T : Tb} {R : Nat → Nat → Rat} (hT : TQ w T R) {k j : Nat} (hk : k < T.N) (hj : j < T.rn k) : Rq (R k j) := ⟨(hT.sz k hk j hj).1, (hT.sz k hk j hj).2.1, (hT.sz k hk j hj).2.2.1, (hT.sz k hk j hj).2.2.2⟩
theorem Qs_all {p : Rat} {R : Nat → Nat → Rat} {i k l : Nat} (h : k < i) : Qs p R i 0 k l = upR p (R k l) := by
  unfold Qs; rw [if_pos (by omega)]
theorem OQ.second {B : Nat} {w0 w : World} {T : Tb} {R : Nat → Nat → Rat} {g c : Nat} {rb rc : Nat → Nat} {p : Rat} (hT : TQ w0 T R) (ok : okT T = true) (hp : Rq p) (h : OQ B w T g rb rc (Qs p R T.N 0)) (hc : T.N ≤ c) :
    ∃ T' Q, T'.val = .agg #[.int .i64 T.first, .int .i64 T.sel, .slice (some ⟨g, 0, none⟩) T.N c] ∧ TQ w T' Q ∧ Worse T T' R Q ∧ okT T' = true := by
  have hb := hT.b
  unfold boundsOk at hb
  obtain ⟨T', h1, h2, h3, h4⟩ := OQ.table hT h hc (fun k hk j hj => by rw [Qs_all hk]; exact (upR_rq hp (Rq.of hT hk hj)).1) (by rw [Qs_all (by omega), hT.last ok, upR_one]) (fun k hk j hj => by rw [Qs_all hk]; exact (upR_rq hp (Rq.of hT hk hj)).2)
  exact ⟨T', _, h1, h2, h3, h4⟩
theorem okL_worse {T T' : Tb} {R Q : Nat → Nat → Rat} (h : Worse T T' R Q) (ok : okT T' = true) {e y : Int} (h0 : okL T e y = true) : okL T' e y = true := by
  unfold okL at h0 ⊢
  simp only [Bool.and_eq_true, decide_eq_true_eq] at h0 ⊢
  rw [h.first, h.N]
  exact ⟨⟨⟨⟨ok, h0.1.1.1.2⟩, h0.1.1.2⟩, h0.1.2⟩, h0.2⟩
theorem lAlive_v (T : Tb) (R : Nat → Nat → Rat) {v : Value} (hv : T.val = v) (e y n : Int) (w : World) (hT : TQ w T R) (hok : okL T e y = true) (hn : 0 ≤ n) : Calls Tryz.prog 17 #[v, .agg #[.int .i64 e, .int .i64 y], .int .i64 n] w (Gv (.fe (lal T R e y n.toNat) 0) w) := by
  subst hv
  exact lAlive T R e y n w hT hok hn
theorem lExpect_v (T : Tb) (R : Nat → Nat → Rat) {v : Value} (hv : T.val = v) (e y : Int) (w : World) (hT : TQ w T R) (hok : okL T e y = true) : Calls Tryz.prog 19 #[v, .agg #[.int .i64 e, .int .i64 y]] w (Gv (.fe (lex T R e y) 0) w) := by
  subst hv
  exact lExpect T R e y w hT hok
/-- What the end needs. -/
structure LtE (T : Tb) (R : Nat → Nat → Rat) (e y n : Int) : Prop where
  sa : Sz (lal T R e y n.toNat)
  a0 : 0 ≤ lal T R e y n.toNat
  a1 : lal T R e y n.toNat ≤ 1
  sx : Sz (lex T R e y)
theorem LtE.of {w : World} {T : Tb} {R : Nat → Nat → Rat} {e y : Int} (hT : TQ w T R) (hok : okL T e y = true) (n : Int) : LtE T R e y n := by
  obtain ⟨h1, h2, h3, h4⟩ := okL_q4 hok
  have rs := rs_rt hT h1 h2 h3
  have hA := yN_le hT h1 h3
  exact ⟨al_sz rs hA _, al_nonneg rs _, al_le rs _, es_sz rs hA _ (by omega)⟩

theorem okU_t {T : Tb} {e y : Int} (h : okL T e y = true) : okT T = true := by
  unfold okL at h
  simp only [Bool.and_eq_true] at h
  exact h.1.1.1.1

set_option maxRecDepth 100000 in
set_option maxHeartbeats 8000000 in
theorem nLighterQ (T : Tb) (R : Nat → Nat → Rat) (e y : Int) (m n d : Int) (w : World) (hT : TQ w T R) (ey : -9223372036854775808 ≤ e ∧ e ≤ 9223372036854775807 ∧ -9223372036854775808 ≤ y ∧ y ≤ 9223372036854775807) (hu : okU T e y = true) (hm0 : 0 ≤ m) (hm1 : m ≤ 255) (hn0 : 0 ≤ n) (hn1 : n ≤ 255) (hd0 : 0 ≤ d) (hd1 : d ≤ 255) (hg : decide (d < n) = false) (hz : ((d : Int) == 0) = false) :
    Calls Tryz.prog 7 #[.agg #[.int .i64 T.first, .int .i64 T.sel, .slice T.P T.N T.C], .agg #[.int .i64 e, .int .i64 y], .int .u8 m, .int .u8 n, .int .u8 d] w (Gv (.v (.bool true)) w) := by
  have hW := hT.tw
  have Hok := Lib.hid (okU_l hu)
  obtain ⟨q1, q2, q3, q4⟩ := okL_q4 (okU_l hu)
  obtain ⟨b1, b2, b3, b4, b5, b6⟩ := id hT.b
  have HN : Hid (T.N ≤ 1000) := Lib.hid (by omega)
  have HBr : Hid (∀ k, k < T.N → T.rn k ≤ 1000) := Lib.hid (fun k hk => by have := hT.rn k hk; omega)
  have hdn : ¬ d < n := of_decide_eq_false hg
  have hdz : d ≠ 0 := by simpa using hz
  have Hp : Hid (Rq (Rat.divInt n d)) := Lib.hid (quick_rq hn0 (by omega) (by omega) hd1)
  have Hd0 := Lib.hid hdz
  clear hdz
  have HU := Lib.hid hu
  clear hu
  obtain ⟨w1, hww1, ew1, B1, zw1⟩ := alloc_at w (w.heap.size) (by omega) #[.int .i64 T.first, .int .i64 T.sel, .slice T.P T.N T.C] 24
  obtain ⟨w2, hww2, ew2, B2, zw2⟩ := alloc_at w1 (w.heap.size + 1) (by omega) #[.int .i64 e, .int .i64 y] 26
  have xw_w2 := eg ew1 ew2
  go_enter Tryz.func7, Tryz.ntmps7
  go_wp2_with fail
  clear hww1 hww2
  replace zw1 := le2 zw1
  replace zw2 := le2 zw2
  refine (nawake  _).mono (Gv.onV fun w3 ew3 zw3 => ?_)
  have xw1_w3 := eg ew2 ew3
  replace B1 := B1.ext xw1_w3
  have b1_w3 := B1.c3
  replace B2 := B2.ext ew3
  have b2_w3 := B2.c2
  have xw_w3 := eg xw_w2 ew3
  go_wp2_with fail
  refine (nusable T e y _ (hW.ext xw_w3) ey HU.out).mono (Gv.onV fun w4 ew4 zw4 => ?_)
  replace B1 := B1.ext ew4
  have b1_w4 := B1.c3
  have xw_w4 := eg xw_w3 ew4
  go_wp2_with fail
  clear b1_w3 b2_w3
  refine (nCopied T _ (hW.ext xw_w4) HN.out HBr.out).mono ?_
  intro ee w5 gg
  obtain ⟨pZ, cZ, vsZ, rfl, hlenZ, hCZ, hOZ, ew5⟩ := gg
  have zw5 := ew5.size
  obtain ⟨g, rb, rc, rfl, hNc, hQ0⟩ := OQ.of_copy hT hlenZ hCZ hOZ
  replace hQ0 := hQ0.mono xw_w4.size
  clear hlenZ hCZ hOZ
  obtain ⟨w6, hww6, ew6, B3, zw6⟩ := alloc_at w5 (w5.heap.size) (by omega) #[.int .i64 T.first, .int .i64 T.sel, .slice (some ⟨g, 0, none⟩) T.N cZ] 24
  have xw4_w6 := eg ew5 ew6
  replace B1 := B1.ext xw4_w6
  have xw3_w6 := eg (eg ew4 ew5) ew6
  replace B2 := B2.ext xw3_w6
  have xw_w6 := eg (eg xw_w4 ew5) ew6
  replace hQ0 := hQ0.ext ew6
  go_wp2_with fail
  clear hww6
  clear b1_w4
  replace zw6 := le2 zw6
  go_loopw [12] (fun v12 r7 => ∃ (i : Nat), v12 = .int .i64 (i : Nat) ∧ i ≤ T.N ∧ OQ w.heap.size r7 T g rb rc (Qs (Rat.divInt n d) R i 0) ∧ Cells r7 (w.heap.size) 24 #[.int .i64 T.first, .int .i64 T.sel, .slice T.P T.N T.C] ∧ Cells r7 (w.heap.size + 1) 26 #[.int .i64 e, .int .i64 y] ∧ Cells r7 (w5.heap.size) 24 #[.int .i64 T.first, .int .i64 T.sel, .slice (some ⟨g, 0, none⟩) T.N cZ] ∧ Ext w r7) (fun v12 _ => (T.N - intOf v12).toNat)
  case atStart => exact ⟨0, rfl, by omega, OQ.cast (hQ0) (fun k _ l _ => Qs_zero k l), B1, B2, B3, xw_w6⟩
  case round =>
    obtain ⟨r7, hqr7⟩ : ∃ r, r = wr := ⟨_, rfl⟩
    subst hqr7
    clear B1 B2 hQ0 B3
    obtain ⟨i, rfl, hi, hQ, B1, B2, B3, xw_r7⟩ := hrel
    have zr7 := xw_r7.size
    have lB1_r7 := B1.lt
    have lB2_r7 := B2.lt
    have lB3_r7 := B3.lt
    skip
    have b3_r7 := B3.c3
    by_cases hi2 : i < T.N
    · skip
      go_wp2_with fail
      go_loopw [13] (fun v13 r10 => ∃ (j : Nat), v13 = .int .i64 (j : Nat) ∧ j ≤ T.rn i ∧ OQ w.heap.size r10 T g rb rc (Qs (Rat.divInt n d) R i j) ∧ Cells r10 (w.heap.size) 24 #[.int .i64 T.first, .int .i64 T.sel, .slice T.P T.N T.C] ∧ Cells r10 (w.heap.size + 1) 26 #[.int .i64 e, .int .i64 y] ∧ Cells r10 (w5.heap.size) 24 #[.int .i64 T.first, .int .i64 T.sel, .slice (some ⟨g, 0, none⟩) T.N cZ] ∧ Ext w r10) (fun v13 _ => (T.rn i - intOf v13).toNat)
      case atStart => exact ⟨0, rfl, by omega, hQ, B1, B2, B3, xw_r7⟩
      case round =>
        obtain ⟨r10, hqr10⟩ : ∃ r, r = wr := ⟨_, rfl⟩
        subst hqr10
        clear B1 B2 B3 hQ
        clear b3_r7
        obtain ⟨j, rfl, hj, hQi, B1, B2, B3, xw_r10⟩ := hrel
        have zr10 := xw_r10.size
        have lB1_r10 := B1.lt
        have lB2_r10 := B2.lt
        have lB3_r10 := B3.lt
        skip
        have hsl := OQ.sl hQi hi2
        have b3_r10 := B3.c3
        by_cases hj2 : j < T.rn i
        · skip
          have hrn6 : T.rn i ≤ 6 := by have := hT.rn i hi2; omega
          have hus := Lib.hid (up_sz Hp.out (Rq.of hT hi2 hj2))
          obtain ⟨X, x0, x1, x2, x3, hX⟩ := OQ.at hQi hi2 hj2
          rw [Qs_here] at hX
          skip
          obtain ⟨w7, hww7, ew7, B4, zw7⟩ := alloc_at r10 (r10.heap.size) (by omega) #[.bool X.N.b, .slice X.N.p X.N.n X.N.c, .bool X.D.b, .slice X.D.p X.D.n X.D.c] 40
          have b4_w7 := B4.c4
          replace hX := hX.ext ew7
          have xw_w7 := eg xw_r10 ew7
          go_wp2_with fail
          clear hww7
          clear b3_r10
          replace zw7 := le2 zw7
          refine regionS ⟨11, 10, 9, 40, 4, lvA⟩ 12 (fun kk => match kk with | 2 => some (.f (1 - (R i j))) | 7 => some (.f0 (Rat.divInt (n) (d))) | 8 => some (.f ((1 - (R i j)) * (Rat.divInt (n) (d)))) | 9 => some (.f ((R i j) + ((1 - (R i j)) * (Rat.divInt (n) (d))))) | 10 => some (.boxS 40 4) | _ => none) (by as_aux_lemma => kernel_rfl) (head_of (by as_aux_lemma => kernel_rfl)) (by decide) ?hT13 rfl (pred_of (by as_aux_lemma => kernel_rfl)) (pred_of (by as_aux_lemma => kernel_rfl)) ?_
          case hT13 =>
            intro k t h
            split at h <;> first | (cases h; first | exact st_f _ | exact st_fe _ _ | exact st_bs _ _ | exact st_v _ | exact st_w _ | exact st_we _ _ | exact st_f0 _ | exact st_w0 _ | exact st_fn _ _ | exact st_ro _) | cases h
          iterate 2
            refine Walk.one (x := ?_) rfl rfl (fun w1 hI hL K hK => ?_) ?_
            rotate_left
            · obtain ⟨hc, hf⟩ := bcell hI
              go_simp
              repeat (first | (go_ints; try go_simp) | (simp only [↓IntWalk.iteOmega]; try go_simp))
              exact hK
            simp only [Act.put, List.setIfInBounds_toArray, List.set_cons_zero, List.set_cons_succ]
          refine Walk.tellS rfl rfl (.inl (by simp)) rfl (fun w1 hI hL K hK => ?_) ?_
          · go_simp
            exact (nnot X _ w1 ((hX).ext hI) (hus.out.sq) (hus.out.sn)).mono (tell hK)
          rintro _ ⟨Z68, rfl⟩
          simp only [Act.put, List.setIfInBounds_toArray, List.set_cons_zero, List.set_cons_succ]
          iterate 4
            refine Walk.one (x := ?_) rfl rfl (fun w1 hI hL K hK => ?_) ?_
            rotate_left
            · obtain ⟨hc, hf⟩ := bcell hI
              go_simp
              repeat (first | (go_ints; try go_simp) | (simp only [↓IntWalk.iteOmega]; try go_simp))
              exact hK
            simp only [Act.put, List.setIfInBounds_toArray, List.set_cons_zero, List.set_cons_succ]
          refine Walk.tellS rfl rfl (.inl (by simp)) rfl (fun w1 hI hL K hK => ?_) ?_
          · go_simp
            exact (nquick (n) (d) w1 (Hd0.out) ((by omega)) ((by omega))).mono (tell hK)
          rintro _ ⟨Z73, rfl⟩
          simp only [Act.put, List.setIfInBounds_toArray, List.set_cons_zero, List.set_cons_succ]
          refine Walk.tellS rfl rfl (.inl (by simp)) rfl (fun w1 hI hL K hK => ?_) ?_
          · go_simp
            exact (nproduct Z68 Z73 _ _ w1 ((Tl.getF (knS (i := 2) (v := .agg #[.bool Z68.N.b, .slice Z68.N.p Z68.N.n Z68.N.c, .bool Z68.D.b, .slice Z68.D.p Z68.D.n Z68.D.c]) rfl rfl (by simp) (pred_of (by as_aux_lemma => kernel_rfl)) hL)).1) ((Tl.getF0 (knS (i := 7) (v := .agg #[.bool Z73.N.b, .slice Z73.N.p Z73.N.n Z73.N.c, .bool Z73.D.b, .slice Z73.D.p Z73.D.n Z73.D.c]) rfl rfl (by simp) (pred_of (by as_aux_lemma => kernel_rfl)) hL))) (hus.out.sn) (hus.out.sp) (hus.out.sm)).mono (tell hK)
          rintro _ ⟨Z74, rfl⟩
          simp only [Act.put, List.setIfInBounds_toArray, List.set_cons_zero, List.set_cons_succ]
          refine Walk.tellS rfl rfl (.inl (by simp)) rfl (fun w1 hI hL K hK => ?_) ?_
          · go_simp
            exact (nsum X Z74 _ _ w1 ((hX).ext hI) ((Tl.getF (knS (i := 8) (v := .agg #[.bool Z74.N.b, .slice Z74.N.p Z74.N.n Z74.N.c, .bool Z74.D.b, .slice Z74.D.p Z74.D.n Z74.D.c]) rfl rfl (by simp) (pred_of (by as_aux_lemma => kernel_rfl)) hL)).1) (hus.out.sq) (hus.out.sm) (hus.out.su)).mono (tell hK)
          rintro _ ⟨Z75, rfl⟩
          simp only [Act.put, List.setIfInBounds_toArray, List.set_cons_zero, List.set_cons_succ]
          refine Walk.tellS rfl rfl (.inl (by simp)) rfl (fun w1 hI hL K hK => ?_) ?_
          · go_simp
            exact tellBS rfl (by simp [NoU]) hK
          rintro _ ⟨g15, rfl⟩
          simp only [Act.put, List.setIfInBounds_toArray, List.set_cons_zero, List.set_cons_succ]
          refine Walk.storeS (g := g15) (vc := .agg #[.bool Z75.N.b, .slice Z75.N.p Z75.N.n Z75.N.c, .bool Z75.D.b, .slice Z75.D.p Z75.D.n Z75.D.c]) rfl rfl rfl rfl rfl (by simp) (pred_of (by as_aux_lemma => kernel_rfl)) (by simp) (by simp) (by simp) (fun c hc => splice4 (.bool Z75.N.b) (.slice Z75.N.p Z75.N.n Z75.N.c) (.bool Z75.D.b) (.slice Z75.D.p Z75.D.n Z75.D.c) c hc) (by simp [NoU, lvA]) (fun w1 c hI hC hc hL K hK => ?_) ?_
          · obtain ⟨u0, c0⟩ := hC.some (k := 0) (by have hc2 : c.size = 4 := hc; omega)
            obtain ⟨u1, c1⟩ := hC.some (k := 1) (by have hc2 : c.size = 4 := hc; omega)
            obtain ⟨u2, c2⟩ := hC.some (k := 2) (by have hc2 : c.size = 4 := hc; omega)
            obtain ⟨u3, c3⟩ := hC.some (k := 3) (by have hc2 : c.size = 4 := hc; omega)
            have f0 := hC.frozen 0
            have f1 := hC.frozen 1
            have f2 := hC.frozen 2
            have f3 := hC.frozen 3
            go_simp
            exact hK
          intro vs
          simp only [Act.put, List.setIfInBounds_toArray, List.set_cons_zero, List.set_cons_succ]
          refine Walk.nilS (g := g15) (vc := .agg #[.bool Z75.N.b, .slice Z75.N.p Z75.N.n Z75.N.c, .bool Z75.D.b, .slice Z75.D.p Z75.D.n Z75.D.c]) (vs := vs) (by simp) (by simp) (by simp) (by decide) (by decide) fun w8 ew8 kzL kzC kzX => ?_
          have zw8 := ew8.size
          obtain ⟨hZ75, oZ75⟩ := Tl.getF (kzS (i := 9) (v := .agg #[.bool Z75.N.b, .slice Z75.N.p Z75.N.n Z75.N.c, .bool Z75.D.b, .slice Z75.D.p Z75.D.n Z75.D.c]) rfl rfl (by simp) kzL)
          replace oZ75 := oZ75.mono xw_w7.size
          obtain ⟨B5, yB5⟩ := kzC
          replace B5 : Cells w8 (g15) 40 #[.bool Z75.N.b, .slice Z75.N.p Z75.N.n Z75.N.c, .bool Z75.D.b, .slice Z75.D.p Z75.D.n Z75.D.c] := B5
          have lB5 := B5.lt
          clear kzL kzX
          simp only [List.drop_succ_cons, List.drop_zero, List.drop_nil]
          rcases (by omega : 1 < Z75.N.n ∨ (Z75.N.n ≤ 1 ∧ 1 < Z75.D.n) ∨ (Z75.N.n ≤ 1 ∧ Z75.D.n ≤ 1)) with n1 | ⟨n1, n2⟩ | ⟨n1, n2⟩
          · skip
            have xr10_w8 := eg ew7 ew8
            replace hQi := hQi.ext xr10_w8
            have b5_w8 := B5.c4
            replace B1 := B1.ext xr10_w8
            replace B2 := B2.ext xr10_w8
            replace B3 := B3.ext xr10_w8
            have xw_w8 := eg xw_w7 ew8
            have hsh : shQ (upQ (Rat.divInt n d) (R i j)) = false := by rw [shQ_n (X := Z75) (q := upQ (Rat.divInt n d) (R i j)) (hZ75)]; simp; omega
            replace hQi := OQ.cast hQi (fun k _ l _ => Qs_skip hsh k l)
            clear hsh
            have dN : decide ((Z75.N.n : Int) ≤ 1) = false := by simp; omega
            go_wp2_with fail
            clear b4_w7
            go_roundw
            case rel => exact ⟨j + 1, rfl, by omega, hQi, B1, B2, B3, xw_w8⟩
            case measure => simp [intOf] <;> omega
          · skip
            have xr10_w8 := eg ew7 ew8
            replace hQi := hQi.ext xr10_w8
            have b5_w8 := B5.c4
            replace B1 := B1.ext xr10_w8
            replace B2 := B2.ext xr10_w8
            replace B3 := B3.ext xr10_w8
            have xw_w8 := eg xw_w7 ew8
            have hsh : shQ (upQ (Rat.divInt n d) (R i j)) = false := by rw [shQ_n (X := Z75) (q := upQ (Rat.divInt n d) (R i j)) (hZ75)]; simp; omega
            replace hQi := OQ.cast hQi (fun k _ l _ => Qs_skip hsh k l)
            clear hsh
            have dN : decide ((Z75.N.n : Int) ≤ 1) = true := by simp; omega
            have dD : decide ((Z75.D.n : Int) ≤ 1) = false := by simp; omega
            go_wp2_with fail
            clear b4_w7
            go_roundw
            case rel => exact ⟨j + 1, rfl, by omega, hQi, B1, B2, B3, xw_w8⟩
            case measure => simp [intOf] <;> omega
          · skip
            have b5_w8 := B5.c4
            have xr10_w8 := eg ew7 ew8
            replace hQi := hQi.ext xr10_w8
            replace B3 := B3.ext xr10_w8
            have b3_w8 := B3.c3
            have xw_w8 := eg xw_w7 ew8
            have hsh : shQ (upQ (Rat.divInt n d) (R i j)) = true := by rw [shQ_n (X := Z75) (q := upQ (Rat.divInt n d) (R i j)) (hZ75)]; simp; omega
            have Hsh := Lib.hid hsh
            clear hsh
            have dN : decide ((Z75.N.n : Int) ≤ 1) = true := by simp; omega
            have dD : decide ((Z75.D.n : Int) ≤ 1) = true := by simp; omega
            go_wp2_with fail
            clear b4_w7
            have hsl5 := OQ.sl hQi hi2
            refine regionT 8 (fun _ => none) (by as_aux_lemma => kernel_rfl) (head_of (by as_aux_lemma => kernel_rfl)) ?_
            iterate 4
              refine Walk.one (x := ?_) rfl rfl (fun w1 hI hL K hK => ?_) ?_
              rotate_left
              · obtain ⟨hc, hf⟩ := bcell hI
                go_simp
                repeat (first | (go_ints; try go_simp) | (simp only [↓IntWalk.iteOmega]; try go_simp))
                exact hK
              simp only [Act.put, List.setIfInBounds_toArray, List.set_cons_zero, List.set_cons_succ]
            refine Walk.one (x := ?_) rfl rfl (fun w1 hI hL K hK => ?_) ?_
            rotate_left
            · have x0 := cell_ext hI hsl5
              go_simp
              repeat (first | (go_ints; try go_simp) | (simp only [↓IntWalk.iteOmega]; try go_simp))
              exact hK
            simp only [Act.put, List.setIfInBounds_toArray, List.set_cons_zero, List.set_cons_succ]
            iterate 3
              refine Walk.one (x := ?_) rfl rfl (fun w1 hI hL K hK => ?_) ?_
              rotate_left
              · obtain ⟨hc, hf⟩ := bcell hI
                go_simp
                repeat (first | (go_ints; try go_simp) | (simp only [↓IntWalk.iteOmega]; try go_simp))
                exact hK
              simp only [Act.put, List.setIfInBounds_toArray, List.set_cons_zero, List.set_cons_succ]
            refine Walk.nilF fun w9 ew9 kzL kzX => ?_
            have zw9 := ew9.size
            clear kzL kzX
            simp only [List.drop_succ_cons, List.drop_zero, List.drop_nil]
            replace hQi := hQi.ext ew9
            replace hZ75 := hZ75.ext ew9
            replace oZ75 := oZ75.ext ew9
            have xr10_w9 := eg xr10_w8 ew9
            replace B1 := B1.ext xr10_w9
            replace B2 := B2.ext xr10_w9
            replace B3 := B3.ext ew9
            have xw_w9 := eg xw_w8 ew9
            obtain ⟨Y, y0, y1, y2, y3, -⟩ := OQ.at hQi hi2 hj2
            have f0 := OQ.free hQi hi2 (j * 4)
            have f1 := OQ.free hQi hi2 (j * 4 + 1)
            have f2 := OQ.free hQi hi2 (j * 4 + 2)
            have f3 := OQ.free hQi hi2 (j * 4 + 3)
            obtain ⟨w10, hww10⟩ : ∃ W, ((((w9).setCell ⟨rb i, j * 4, none⟩ (.bool Z75.N.b)).setCell ⟨rb i, j * 4 + 1, none⟩ (.slice Z75.N.p Z75.N.n Z75.N.c)).setCell ⟨rb i, j * 4 + 2, none⟩ (.bool Z75.D.b)).setCell ⟨rb i, j * 4 + 3, none⟩ (.slice Z75.D.p Z75.D.n Z75.D.c) = W := ⟨_, rfl⟩
            have kw10 : Keeps (fun x => x = rb i) w9 w10 := by rw [← hww10]; exact sets_keeps (rb i) (frV Z75) w9 (j * 4)
            have zw10 : w10.heap.size = w9.heap.size := by rw [← hww10]; exact size_sets (rb i) (frV Z75) w9 (j * 4)
            have Qw10 : OQ w.heap.size w10 T g rb rc (Qs (Rat.divInt n d) R i (j + 1)) := by rw [← hww10]; exact OQ.put hQi hi2 hj2 (q := upQ (Rat.divInt n d) (R i j)) (hZ75) (oZ75) (by rw [Qs_done]; unfold upR; rw [Hsh.out]; rfl) (fun k _ l _ h => Qs_next h)
            replace B1 := OQ.kb hQi hi2 kw10 B1 (by decide)
            replace B2 := OQ.kb hQi hi2 kw10 B2 (by decide)
            replace B3 := OQ.kb hQi hi2 kw10 B3 (by decide)
            have x_w10 := Ext.kb xw_w9 kw10 (hQi.rB hi2)
            replace hQi := Qw10
            clear Qw10 kw10
            go_wp2_with fail
            clear hww10
            clear b5_w8 b3_w8
            replace zw10 := le2 zw10
            go_roundw
            case rel => exact ⟨j + 1, rfl, by omega, hQi, B1, B2, B3, x_w10⟩
            case measure => simp [intOf] <;> omega
        · skip
          obtain rfl : j = T.rn i := by omega
          go_wp2_with fail
          go_roundw
          case rel => exact ⟨i + 1, rfl, by omega, OQ.cast (hQi) (fun k hk l hl => Qs_row (fun e => e ▸ hl)), B1, B2, B3, xw_r10⟩
          case measure => simp [intOf] <;> omega
    · skip
      have b1_r7 := B1.c3
      have b2_r7 := B2.c2
      obtain rfl : i = T.N := by omega
      obtain ⟨T2, R2, hv2, hT2, hWo, ok2⟩ := OQ.second hT (okU_t Hok.out) Hp.out hQ hNc
      have Hv2 := Lib.hid hv2
      have Hok2 := Lib.hid (okL_worse hWo ok2 Hok.out)
      have HE := Lib.hid (LtE.of hT Hok.out m)
      have HE2 := Lib.hid (LtE.of hT2 Hok2.out m)
      have hc1 : decide (0 ≤ cmpQ (lal T R e y m.toNat) (lal T2 R2 e y m.toNat)) = true := decide_eq_true (cmpQ_ge (lal_worse hT hT2 hWo q1 q2 q3 _))
      have hc2 : decide (0 ≤ cmpQ (lex T R e y) (lex T2 R2 e y)) = true := decide_eq_true (cmpQ_ge (lex_worse hT hT2 hWo q1 q2 q3))
      clear hv2 ok2
      go_wp2_with fail
      refine (lAlive T R e y m _ (hT.ext xw_r7) Hok.out hm0).mono (Gv.onFe fun Z101 w11 hZ101 ew11 zw11 => ?_)
      obtain ⟨w12, hww12, ew12, B6, zw12⟩ := alloc_at w11 (w11.heap.size) (by omega) #[.bool Z101.N.b, .slice Z101.N.p Z101.N.n Z101.N.c, .bool Z101.D.b, .slice Z101.D.p Z101.D.n Z101.D.c] 40
      have xr7_w12 := eg ew11 ew12
      replace B3 := B3.ext xr7_w12
      have b3_w12 := B3.c3
      replace B2 := B2.ext xr7_w12
      have b2_w12 := B2.c2
      have xw_w12 := eg (eg xw_r7 ew11) ew12
      go_wp2_with fail
      clear hww12
      clear b3_r7 b1_r7 b2_r7
      replace zw12 := le2 zw12
      refine (lAlive_v T2 R2 Hv2.out e y m _ (hT2.ext xr7_w12) Hok2.out hm0).mono (Gv.onFe fun Z109 w13 hZ109 ew13 zw13 => ?_)
      obtain ⟨w14, hww14, ew14, B7, zw14⟩ := alloc_at w13 (w13.heap.size) (by omega) #[.bool Z109.N.b, .slice Z109.N.p Z109.N.n Z109.N.c, .bool Z109.D.b, .slice Z109.D.p Z109.D.n Z109.D.c] 40
      have xr7_w14 := eg (eg xr7_w12 ew13) ew14
      replace B1 := B1.ext xr7_w14
      have b1_w14 := B1.c3
      have xw12_w14 := eg ew13 ew14
      replace B2 := B2.ext xw12_w14
      have b2_w14 := B2.c2
      have xw_w14 := eg (eg xw_w12 ew13) ew14
      go_wp2_with fail
      clear hww14
      clear b3_w12 b2_w12
      replace zw14 := le2 zw14
      refine (lExpect T R e y _ (hT.ext xw_w14) Hok.out).mono (Gv.onFe fun Z115 w15 hZ115 ew15 zw15 => ?_)
      obtain ⟨w16, hww16, ew16, B8, zw16⟩ := alloc_at w15 (w15.heap.size) (by omega) #[.bool Z115.N.b, .slice Z115.N.p Z115.N.n Z115.N.c, .bool Z115.D.b, .slice Z115.D.p Z115.D.n Z115.D.c] 40
      have xw12_w16 := eg (eg xw12_w14 ew15) ew16
      replace B3 := B3.ext xw12_w16
      have b3_w16 := B3.c3
      have xw14_w16 := eg ew15 ew16
      replace B2 := B2.ext xw14_w16
      have b2_w16 := B2.c2
      have xr7_w16 := eg (eg xr7_w14 ew15) ew16
      have xw_w16 := eg (eg xw_w14 ew15) ew16
      go_wp2_with fail
      clear hww16
      clear b1_w14 b2_w14
      replace zw16 := le2 zw16
      refine (lExpect_v T2 R2 Hv2.out e y _ (hT2.ext xr7_w16) Hok2.out).mono (Gv.onFe fun Z121 w17 hZ121 ew17 zw17 => ?_)
      obtain ⟨w18, hww18, ew18, B9, zw18⟩ := alloc_at w17 (w17.heap.size) (by omega) #[.bool Z121.N.b, .slice Z121.N.p Z121.N.n Z121.N.c, .bool Z121.D.b, .slice Z121.D.p Z121.D.n Z121.D.c] 40
      have xw12_w18 := eg (eg xw12_w16 ew17) ew18
      replace B6 := B6.ext xw12_w18
      have b6_w18 := B6.c4
      have xw11_w18 := eg (eg (eg (eg (eg (eg ew12 ew13) ew14) ew15) ew16) ew17) ew18
      replace hZ101 := hZ101.ext xw11_w18
      have xw_w18 := eg (eg xw_w16 ew17) ew18
      go_upto_region 20 with (fail)
      clear hww18
      clear b3_w16 b2_w16
      replace zw18 := le2 zw18
      refine wp_region_lit ?_
      iterate 16
        refine wpList_one (x := ?_) (by as_aux_lemma => kernel_rfl) (fun K hK => ?_) ?_
        rotate_left
        · go_simp
          repeat (first | (go_ints; try go_simp) | (simp only [↓IntWalk.iteOmega]; try go_simp))
          exact hK
        simp only [Act.put, List.setIfInBounds_toArray, List.set_cons_zero, List.set_cons_succ]
      refine wpList_tell (t := .v (.bool true)) (by as_aux_lemma => kernel_rfl) (fun K hK => ?_) ?_
      · go_simp
        exact (nchance Z101 _ _ (hZ101) HE.out.sa HE.out.a0 HE.out.a1).mono (tell hK)
      rintro _ w19 rfl - ew19
      simp only [Act.put, List.setIfInBounds_toArray, List.set_cons_zero, List.set_cons_succ]
      have zw19 := ew19.size
      have xw14_w19 := eg (eg (eg xw14_w16 ew17) ew18) ew19
      replace B7 := B7.ext xw14_w19
      have b7_w19 := B7.c4
      have xw13_w19 := eg (eg (eg (eg (eg ew14 ew15) ew16) ew17) ew18) ew19
      replace hZ109 := hZ109.ext xw13_w19
      have xw_w19 := eg xw_w18 ew19
      clear b6_w18
      iterate 3
        refine wpList_one (x := ?_) (by as_aux_lemma => kernel_rfl) (fun K hK => ?_) ?_
        rotate_left
        · go_simp
          repeat (first | (go_ints; try go_simp) | (simp only [↓IntWalk.iteOmega]; try go_simp))
          exact hK
        simp only [Act.put, List.setIfInBounds_toArray, List.set_cons_zero, List.set_cons_succ]
      refine wpList_tell (t := .v (.bool true)) (by as_aux_lemma => kernel_rfl) (fun K hK => ?_) ?_
      · go_simp
        exact (nchance Z109 _ _ (hZ109) HE2.out.sa HE2.out.a0 HE2.out.a1).mono (tell hK)
      rintro _ w20 rfl - ew20
      simp only [Act.put, List.setIfInBounds_toArray, List.set_cons_zero, List.set_cons_succ]
      have zw20 := ew20.size
      have xw18_w20 := eg ew19 ew20
      replace B6 := B6.ext xw18_w20
      have b6_w20 := B6.c4
      replace B7 := B7.ext ew20
      have b7_w20 := B7.c4
      replace hZ101 := hZ101.ext xw18_w20
      replace hZ109 := hZ109.ext ew20
      have xw_w20 := eg xw_w19 ew20
      clear b7_w19
      iterate 4
        refine wpList_one (x := ?_) (by as_aux_lemma => kernel_rfl) (fun K hK => ?_) ?_
        rotate_left
        · go_simp
          repeat (first | (go_ints; try go_simp) | (simp only [↓IntWalk.iteOmega]; try go_simp))
          exact hK
        simp only [Act.put, List.setIfInBounds_toArray, List.set_cons_zero, List.set_cons_succ]
      refine wpList_tell (t := .v (.int .i64 (cmpQ (lal T R e y m.toNat) (lal T2 R2 e y m.toNat)))) (by as_aux_lemma => kernel_rfl) (fun K hK => ?_) ?_
      · go_simp
        exact (fCmp Z101 Z109 _ _ _ (hZ101) (hZ109) HE.out.sa HE2.out.sa).mono (tell hK)
      rintro _ w21 rfl - ew21
      simp only [Act.put, List.setIfInBounds_toArray, List.set_cons_zero, List.set_cons_succ]
      have zw21 := ew21.size
      have xw16_w21 := eg (eg (eg (eg ew17 ew18) ew19) ew20) ew21
      replace B8 := B8.ext xw16_w21
      have b8_w21 := B8.c4
      have xw18_w21 := eg xw18_w20 ew21
      replace B9 := B9.ext xw18_w21
      have b9_w21 := B9.c4
      have xw15_w21 := eg (eg (eg (eg (eg ew16 ew17) ew18) ew19) ew20) ew21
      replace hZ115 := hZ115.ext xw15_w21
      have xw17_w21 := eg (eg (eg ew18 ew19) ew20) ew21
      replace hZ121 := hZ121.ext xw17_w21
      have xw_w21 := eg xw_w20 ew21
      clear b6_w20 b7_w20
      iterate 5
        refine wpList_one (x := ?_) (by as_aux_lemma => kernel_rfl) (fun K hK => ?_) ?_
        rotate_left
        · go_simp
          repeat (first | (go_ints; try go_simp) | (simp only [↓IntWalk.iteOmega]; try go_simp))
          exact hK
        simp only [Act.put, List.setIfInBounds_toArray, List.set_cons_zero, List.set_cons_succ]
      refine wpList_tell (t := .v (.int .i64 (cmpQ (lex T R e y) (lex T2 R2 e y)))) (by as_aux_lemma => kernel_rfl) (fun K hK => ?_) ?_
      · go_simp
        exact (fCmp Z115 Z121 _ _ _ (hZ115) (hZ121) HE.out.sx HE2.out.sx).mono (tell hK)
      rintro _ w22 rfl - ew22
      simp only [Act.put, List.setIfInBounds_toArray, List.set_cons_zero, List.set_cons_succ]
      have zw22 := ew22.size
      have xw_w22 := eg xw_w21 ew22
      clear b8_w21 b9_w21
      iterate 3
        refine wpList_one (x := ?_) (by as_aux_lemma => kernel_rfl) (fun K hK => ?_) ?_
        rotate_left
        · go_simp
          repeat (first | (go_ints; try go_simp) | (simp only [↓IntWalk.iteOmega]; try go_simp))
          exact hK
        simp only [Act.put, List.setIfInBounds_toArray, List.set_cons_zero, List.set_cons_succ]
      go_wp2_with fail
      refine bodyPost_ret (v := .bool true) (by simp [results, Tryz.results7, go_sem]) rfl ?_
      exact Gv.of_v xw_w22

theorem nLighter (T : Tb) (e y m n d : Int) (w : World) (hT : TW w T) (ey : -9223372036854775808 ≤ e ∧ e ≤ 9223372036854775807 ∧ -9223372036854775808 ≤ y ∧ y ≤ 9223372036854775807) (hm0 : 0 ≤ m) (hm1 : m ≤ 255) (hn0 : 0 ≤ n) (hn1 : n ≤ 255) (hd0 : 0 ≤ d) (hd1 : d ≤ 255) : Calls Tryz.prog 7 #[.agg #[.int .i64 T.first, .int .i64 T.sel, .slice T.P T.N T.C], .agg #[.int .i64 e, .int .i64 y], .int .u8 m, .int .u8 n, .int .u8 d] w (Gv (.v (.bool true)) w) := by
  cases hu : okU T e y
  · exact nLighter0 T e y m n d w hT ey hu
  · cases hg : decide (d < n)
    · cases hz : ((d : Int) == 0)
      · obtain ⟨R, hR, _⟩ := okL_q hT (okU_l hu)
        exact nLighterQ T R e y m n d w hR ey hu hm0 hm1 hn0 hn1 hd0 hd1 hg hz
      · exact nLighter2 T e y m n d w hT ey hu hg hz
    · exact nLighter1 T e y m n d w hT ey hu hg
end Go.Proofs.YtndgaecfeaedeaaGreat
