/-
  No cell of these rows narrows 'for every input' (looked for: loops, veiled, ifaces, maps, wideKeys, modest, calm, conditions, laid).
  DERIVED. THE GIVEN ROWS OF THIS SEAT. 5 by the template 'for every input the law returns true; each argument reads behind the call as it read before'; 0 by the template 'total and deterministic' (their statements: YtndgaecfeaedeaaGreatTotals.lean).
  GIVEN WITH THE SEED: the statements are not yours to turn. If you find one false, say at which input.
  Laid BY PROGRAM, IN A SANDBOX (cutbox-rows.mjs): the forced cells as the released guide's own fill.sh prints them over the translation 564b2c07126a09c6… (all of the seat's roots in one cut). By AI agents, Wed Nov 11 2026. No macro, syntax, notation, axiom, sorry.
-/
import Derived.Test.YtndgaecfeaedeaaGreatChecked
import GoSem.Claim
import GoSem.ClaimJoined
import GoSem.ClaimMapViews
import Derived.JoinedTies
import Derived.KernelRfl
namespace Go.Proofs.YtndgaecfeaedeaaGreat
/- THE CELL 'sum', in the pinned program and in every row, IS THE sha256 OF THE DUMP (.gsa) THAT YtndgaecfeaedeaaGreatProg.lean LOADS. Nothing in Lean hashes anything: it is a label: what it is worth is what the hold of that sum in a sandbox is worth. -/
noncomputable def Tryz.pinned : Pinned := { name := "ytndgaecfeaedeaagreat", sum := "564b2c07126a09c69da23d55bff6a5a83827706c347a82574dd140387e6f7f73", checked := Tryz.checked }
namespace Rows
def none {H : Type} : Left H := { results := [], args := [] }

/-- 'annuitantlaw30.LifeTells': WHATEVER THE INPUT: true; the input reads as it did. -/
def lifeTellsSpec : ChangeSpec := { name := "lifeTells", fn := fun _ => fun
  | [d1, d2, d3, d4] => { results := [.lit (.bool true)], args := [d1, d2, d3, d4] }
  | _ => none }
def lifeTellsRow : OpenClaim := { program := "ytndgaecfeaedeaagreat", sum := "564b2c07126a09c69da23d55bff6a5a83827706c347a82574dd140387e6f7f73", func := "annuitant/annuitantlaw30.LifeTells", spec := "lifeTells", unfollowed := true, recurses := true, apart := false }
def LifeTellsSaid : Prop := lifeTellsRow.holds Tryz.pinned (OpenSpec.ofChange lifeTellsSpec)

/-- ITS FALSE NEIGHBOUR: 'it returns false'. Refute it at one input. -/
def lifeTellsWrong : ChangeSpec := { name := "lifeTells", fn := fun _ => fun
  | [d1, d2, d3, d4] => { results := [.lit (.bool false)], args := [d1, d2, d3, d4] }
  | _ => none }
def LifeTellsWrongFalsely : Prop := lifeTellsRow.holds Tryz.pinned (OpenSpec.ofChange lifeTellsWrong)

/-- 'annuitantlaw30.LifeApart': WHATEVER THE INPUT: true; the input reads as it did. -/
def lifeApartSpec : ChangeSpec := { name := "lifeApart", fn := fun _ => fun
  | [d1, d2, d3, d4] => { results := [.lit (.bool true)], args := [d1, d2, d3, d4] }
  | _ => none }
def lifeApartRow : OpenClaim := { program := "ytndgaecfeaedeaagreat", sum := "564b2c07126a09c69da23d55bff6a5a83827706c347a82574dd140387e6f7f73", func := "annuitant/annuitantlaw30.LifeApart", spec := "lifeApart", unfollowed := true, recurses := true, apart := false }
def LifeApartSaid : Prop := lifeApartRow.holds Tryz.pinned (OpenSpec.ofChange lifeApartSpec)

/-- ITS FALSE NEIGHBOUR: 'it returns false'. Refute it at one input. -/
def lifeApartWrong : ChangeSpec := { name := "lifeApart", fn := fun _ => fun
  | [d1, d2, d3, d4] => { results := [.lit (.bool false)], args := [d1, d2, d3, d4] }
  | _ => none }
def LifeApartWrongFalsely : Prop := lifeApartRow.holds Tryz.pinned (OpenSpec.ofChange lifeApartWrong)

/-- 'annuitantlaw30.LifeSmall': WHATEVER THE INPUT: true; the input reads as it did. -/
def lifeSmallSpec : ChangeSpec := { name := "lifeSmall", fn := fun _ => fun
  | [] => { results := [.lit (.bool true)], args := [] }
  | _ => none }
def lifeSmallRow : OpenClaim := { program := "ytndgaecfeaedeaagreat", sum := "564b2c07126a09c69da23d55bff6a5a83827706c347a82574dd140387e6f7f73", func := "annuitant/annuitantlaw30.LifeSmall", spec := "lifeSmall", unfollowed := true, recurses := true, apart := false }
def LifeSmallSaid : Prop := lifeSmallRow.holds Tryz.pinned (OpenSpec.ofChange lifeSmallSpec)

/-- ITS FALSE NEIGHBOUR: 'it returns false'. Refute it at one input. -/
def lifeSmallWrong : ChangeSpec := { name := "lifeSmall", fn := fun _ => fun
  | [] => { results := [.lit (.bool false)], args := [] }
  | _ => none }
def LifeSmallWrongFalsely : Prop := lifeSmallRow.holds Tryz.pinned (OpenSpec.ofChange lifeSmallWrong)

/-- 'annuitantlaw30.LifePairs': WHATEVER THE INPUT: true; the input reads as it did. -/
def lifePairsSpec : ChangeSpec := { name := "lifePairs", fn := fun _ => fun
  | [d1, d2, d3, d4] => { results := [.lit (.bool true)], args := [d1, d2, d3, d4] }
  | _ => none }
def lifePairsRow : OpenClaim := { program := "ytndgaecfeaedeaagreat", sum := "564b2c07126a09c69da23d55bff6a5a83827706c347a82574dd140387e6f7f73", func := "annuitant/annuitantlaw30.LifePairs", spec := "lifePairs", unfollowed := true, recurses := true, apart := false }
def LifePairsSaid : Prop := lifePairsRow.holds Tryz.pinned (OpenSpec.ofChange lifePairsSpec)

/-- ITS FALSE NEIGHBOUR: 'it returns false'. Refute it at one input. -/
def lifePairsWrong : ChangeSpec := { name := "lifePairs", fn := fun _ => fun
  | [d1, d2, d3, d4] => { results := [.lit (.bool false)], args := [d1, d2, d3, d4] }
  | _ => none }
def LifePairsWrongFalsely : Prop := lifePairsRow.holds Tryz.pinned (OpenSpec.ofChange lifePairsWrong)

/-- 'annuitantlaw30.LifeLighter': WHATEVER THE INPUT: true; the input reads as it did. -/
def lifeLighterSpec : ChangeSpec := { name := "lifeLighter", fn := fun _ => fun
  | [d1, d2, d3, d4, d5] => { results := [.lit (.bool true)], args := [d1, d2, d3, d4, d5] }
  | _ => none }
def lifeLighterRow : OpenClaim := { program := "ytndgaecfeaedeaagreat", sum := "564b2c07126a09c69da23d55bff6a5a83827706c347a82574dd140387e6f7f73", func := "annuitant/annuitantlaw30.LifeLighter", spec := "lifeLighter", unfollowed := true, recurses := true, apart := false }
def LifeLighterSaid : Prop := lifeLighterRow.holds Tryz.pinned (OpenSpec.ofChange lifeLighterSpec)

/-- ITS FALSE NEIGHBOUR: 'it returns false'. Refute it at one input. -/
def lifeLighterWrong : ChangeSpec := { name := "lifeLighter", fn := fun _ => fun
  | [d1, d2, d3, d4, d5] => { results := [.lit (.bool false)], args := [d1, d2, d3, d4, d5] }
  | _ => none }
def LifeLighterWrongFalsely : Prop := lifeLighterRow.holds Tryz.pinned (OpenSpec.ofChange lifeLighterWrong)

/- THE SECOND FORM. 'bulk': how many values and letters a reading holds, each counted each time it is reached (what is shared counts as often as it is met; a slice's spare places count too). A statement '..UptoSaid' is the law's where the arguments, and the package variables that the reading takes, are together of bulk at most 1048576: NARROWER than '..Said'. Prove '..Said' where nothing that the law and all that it calls make is longer than what came in: it says more and counts as full. Else prove '..UptoSaid'. A law counts once. -/
mutual
def uptoBulk {H : Type} : DataW H → Nat
  | .lit (.string bytes) => bytes.length + 1
  | .lit _ => 1
  | .nil => 1
  | .ptr d => uptoBulk d + 1
  | .slice elems spare => uptoBulkAll elems + uptoBulkAll spare + 1
  | .agg parts => uptoBulkAll parts + 1
  | .iface _ d => uptoBulk d + 1
  | .map entries => uptoBulkEntries entries + 1
  | .held _ => 1
def uptoBulkAll {H : Type} : List (DataW H) → Nat
  | [] => 0
  | d :: r => uptoBulk d + uptoBulkAll r
def uptoBulkEntries {H : Type} : List (Lit × DataW H) → Nat
  | [] => 0
  | x :: r => uptoBulkEntry x + uptoBulkEntries r
def uptoBulkEntry {H : Type} : Lit × DataW H → Nat
  | (.string bytes, d) => bytes.length + uptoBulk d + 1
  | (_, d) => uptoBulk d + 1
 end
def uptoSmall : (H : Type) → List (DataW H) → Bool := fun _ ds => decide (uptoBulkAll ds ≤ 1048576)
def OpenSpec.upto (s : _root_.Go.ChangeSpec) : _root_.Go.OpenSpec := { _root_.Go.OpenSpec.ofChange s with cond := some uptoSmall }

/-- 'annuitantlaw30.LifeTells', WHERE WHAT IT READS IS OF BULK AT MOST 1048576: true; the input reads as it did. -/
def lifeTellsUptoRow : OpenClaim := { program := "ytndgaecfeaedeaagreat", sum := "564b2c07126a09c69da23d55bff6a5a83827706c347a82574dd140387e6f7f73", func := "annuitant/annuitantlaw30.LifeTells", spec := "lifeTells", unfollowed := true, recurses := true, apart := false, narrowed := true }
def LifeTellsUptoSaid : Prop := lifeTellsUptoRow.holds Tryz.pinned (OpenSpec.upto lifeTellsSpec)

/-- 'annuitantlaw30.LifeApart', WHERE WHAT IT READS IS OF BULK AT MOST 1048576: true; the input reads as it did. -/
def lifeApartUptoRow : OpenClaim := { program := "ytndgaecfeaedeaagreat", sum := "564b2c07126a09c69da23d55bff6a5a83827706c347a82574dd140387e6f7f73", func := "annuitant/annuitantlaw30.LifeApart", spec := "lifeApart", unfollowed := true, recurses := true, apart := false, narrowed := true }
def LifeApartUptoSaid : Prop := lifeApartUptoRow.holds Tryz.pinned (OpenSpec.upto lifeApartSpec)

/-- 'annuitantlaw30.LifeSmall', WHERE WHAT IT READS IS OF BULK AT MOST 1048576: true; the input reads as it did. -/
def lifeSmallUptoRow : OpenClaim := { program := "ytndgaecfeaedeaagreat", sum := "564b2c07126a09c69da23d55bff6a5a83827706c347a82574dd140387e6f7f73", func := "annuitant/annuitantlaw30.LifeSmall", spec := "lifeSmall", unfollowed := true, recurses := true, apart := false, narrowed := true }
def LifeSmallUptoSaid : Prop := lifeSmallUptoRow.holds Tryz.pinned (OpenSpec.upto lifeSmallSpec)

/-- 'annuitantlaw30.LifePairs', WHERE WHAT IT READS IS OF BULK AT MOST 1048576: true; the input reads as it did. -/
def lifePairsUptoRow : OpenClaim := { program := "ytndgaecfeaedeaagreat", sum := "564b2c07126a09c69da23d55bff6a5a83827706c347a82574dd140387e6f7f73", func := "annuitant/annuitantlaw30.LifePairs", spec := "lifePairs", unfollowed := true, recurses := true, apart := false, narrowed := true }
def LifePairsUptoSaid : Prop := lifePairsUptoRow.holds Tryz.pinned (OpenSpec.upto lifePairsSpec)

/-- 'annuitantlaw30.LifeLighter', WHERE WHAT IT READS IS OF BULK AT MOST 1048576: true; the input reads as it did. -/
def lifeLighterUptoRow : OpenClaim := { program := "ytndgaecfeaedeaagreat", sum := "564b2c07126a09c69da23d55bff6a5a83827706c347a82574dd140387e6f7f73", func := "annuitant/annuitantlaw30.LifeLighter", spec := "lifeLighter", unfollowed := true, recurses := true, apart := false, narrowed := true }
def LifeLighterUptoSaid : Prop := lifeLighterUptoRow.holds Tryz.pinned (OpenSpec.upto lifeLighterSpec)

end Rows
end Go.Proofs.YtndgaecfeaedeaaGreat
