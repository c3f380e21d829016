/-
  No cell of these rows narrows 'for every input' (looked for: loops, veiled, ifaces, maps, wideKeys, modest, calm, conditions, laid).
  DERIVED. THE GIVEN ROWS OF THIS SEAT. 4 by the template 'for every input the law returns true; each argument reads behind the call as it read before'; 0 by the template 'total and deterministic' (their statements: YtinfpahllbhomaaTotals.lean).
  GIVEN WITH THE SEED: the statements are not yours to turn. If you find one false, say at which input.
  Laid BY PROGRAM, IN A SANDBOX (cutbox-rows.mjs): the forced cells as the released guide's own fill.sh prints them over the translation c1b2bf8a500a3220… (all of the seat's roots in one cut). By AI agents, Wed Nov 11 2026. No macro, syntax, notation, axiom, sorry.
-/
import Derived.Test.YtinfpahllbhomaaChecked
import GoSem.Claim
import GoSem.ClaimJoined
import GoSem.ClaimMapViews
import Derived.JoinedTies
import Derived.KernelRfl
namespace Go.Proofs.Ytinfpahllbhomaa
/- THE CELL 'sum', in the pinned program and in every row, IS THE sha256 OF THE DUMP (.gsa) THAT YtinfpahllbhomaaProg.lean LOADS. Nothing in Lean hashes anything: it is a label: what it is worth is what the hold of that sum in a sandbox is worth. -/
noncomputable def Try.pinned : Pinned := { name := "ytinfpahllbhomaa", sum := "c1b2bf8a500a3220931759e0d75a1e534f4bee2b1d96cef5d712f93443bbe999", checked := Try.checked }
namespace Rows
def none {H : Type} : Left H := { results := [], args := [] }

/-- 'handsellaw21.RaftNumbers': WHATEVER THE INPUT: true; the input reads as it did. -/
def raftNumbersSpec : ChangeSpec := { name := "raftNumbers", fn := fun _ => fun
  | [d1, d2, d3, d4, d5, d6, d7] => { results := [.lit (.bool true)], args := [d1, d2, d3, d4, d5, d6, d7] }
  | _ => none }
def raftNumbersRow : OpenClaim := { program := "ytinfpahllbhomaa", sum := "c1b2bf8a500a3220931759e0d75a1e534f4bee2b1d96cef5d712f93443bbe999", func := "handsel/handsellaw21.RaftNumbers", spec := "raftNumbers", unfollowed := true, recurses := true, apart := false }
def RaftNumbersSaid : Prop := raftNumbersRow.holds Try.pinned (OpenSpec.ofChange raftNumbersSpec)

/-- ITS FALSE NEIGHBOUR: 'it returns false'. Refute it at one input. -/
def raftNumbersWrong : ChangeSpec := { name := "raftNumbers", fn := fun _ => fun
  | [d1, d2, d3, d4, d5, d6, d7] => { results := [.lit (.bool false)], args := [d1, d2, d3, d4, d5, d6, d7] }
  | _ => none }
def RaftNumbersWrongFalsely : Prop := raftNumbersRow.holds Try.pinned (OpenSpec.ofChange raftNumbersWrong)

/-- 'handsellaw21.RaftSafe': WHATEVER THE INPUT: true; the input reads as it did. -/
def raftSafeSpec : ChangeSpec := { name := "raftSafe", fn := fun _ => fun
  | [d1, d2] => { results := [.lit (.bool true)], args := [d1, d2] }
  | _ => none }
def raftSafeRow : OpenClaim := { program := "ytinfpahllbhomaa", sum := "c1b2bf8a500a3220931759e0d75a1e534f4bee2b1d96cef5d712f93443bbe999", func := "handsel/handsellaw21.RaftSafe", spec := "raftSafe", unfollowed := true, recurses := true, apart := false }
def RaftSafeSaid : Prop := raftSafeRow.holds Try.pinned (OpenSpec.ofChange raftSafeSpec)

/-- ITS FALSE NEIGHBOUR: 'it returns false'. Refute it at one input. -/
def raftSafeWrong : ChangeSpec := { name := "raftSafe", fn := fun _ => fun
  | [d1, d2] => { results := [.lit (.bool false)], args := [d1, d2] }
  | _ => none }
def RaftSafeWrongFalsely : Prop := raftSafeRow.holds Try.pinned (OpenSpec.ofChange raftSafeWrong)

/-- 'handsellaw21.RaftElects': WHATEVER THE INPUT: true; the input reads as it did. -/
def raftElectsSpec : ChangeSpec := { name := "raftElects", fn := fun _ => fun
  | [d1, d2] => { results := [.lit (.bool true)], args := [d1, d2] }
  | _ => none }
def raftElectsRow : OpenClaim := { program := "ytinfpahllbhomaa", sum := "c1b2bf8a500a3220931759e0d75a1e534f4bee2b1d96cef5d712f93443bbe999", func := "handsel/handsellaw21.RaftElects", spec := "raftElects", unfollowed := true, recurses := true, apart := false }
def RaftElectsSaid : Prop := raftElectsRow.holds Try.pinned (OpenSpec.ofChange raftElectsSpec)

/-- ITS FALSE NEIGHBOUR: 'it returns false'. Refute it at one input. -/
def raftElectsWrong : ChangeSpec := { name := "raftElects", fn := fun _ => fun
  | [d1, d2] => { results := [.lit (.bool false)], args := [d1, d2] }
  | _ => none }
def RaftElectsWrongFalsely : Prop := raftElectsRow.holds Try.pinned (OpenSpec.ofChange raftElectsWrong)

/-- 'handsellaw21.RaftWrong': WHATEVER THE INPUT: true; the input reads as it did. -/
def raftWrongSpec : ChangeSpec := { name := "raftWrong", fn := fun _ => fun
  | [d1, d2] => { results := [.lit (.bool true)], args := [d1, d2] }
  | _ => none }
def raftWrongRow : OpenClaim := { program := "ytinfpahllbhomaa", sum := "c1b2bf8a500a3220931759e0d75a1e534f4bee2b1d96cef5d712f93443bbe999", func := "handsel/handsellaw21.RaftWrong", spec := "raftWrong", unfollowed := true, recurses := true, apart := false }
def RaftWrongSaid : Prop := raftWrongRow.holds Try.pinned (OpenSpec.ofChange raftWrongSpec)

/-- ITS FALSE NEIGHBOUR: 'it returns false'. Refute it at one input. -/
def raftWrongWrong : ChangeSpec := { name := "raftWrong", fn := fun _ => fun
  | [d1, d2] => { results := [.lit (.bool false)], args := [d1, d2] }
  | _ => none }
def RaftWrongWrongFalsely : Prop := raftWrongRow.holds Try.pinned (OpenSpec.ofChange raftWrongWrong)

/- THE SECOND FORM. 'bulk': how many values and letters a reading holds, each counted each time it is reached (what is shared counts as often as it is met; a slice's spare places count too). A statement '..UptoSaid' is the law's where the arguments, and the package variables that the reading takes, are together of bulk at most 1048576: NARROWER than '..Said'. Prove '..Said' where nothing that the law and all that it calls make is longer than what came in: it says more and counts as full. Else prove '..UptoSaid'. A law counts once. -/
mutual
def uptoBulk {H : Type} : DataW H → Nat
  | .lit (.string bytes) => bytes.length + 1
  | .lit _ => 1
  | .nil => 1
  | .ptr d => uptoBulk d + 1
  | .slice elems spare => uptoBulkAll elems + uptoBulkAll spare + 1
  | .agg parts => uptoBulkAll parts + 1
  | .iface _ d => uptoBulk d + 1
  | .map entries => uptoBulkEntries entries + 1
  | .held _ => 1
def uptoBulkAll {H : Type} : List (DataW H) → Nat
  | [] => 0
  | d :: r => uptoBulk d + uptoBulkAll r
def uptoBulkEntries {H : Type} : List (Lit × DataW H) → Nat
  | [] => 0
  | x :: r => uptoBulkEntry x + uptoBulkEntries r
def uptoBulkEntry {H : Type} : Lit × DataW H → Nat
  | (.string bytes, d) => bytes.length + uptoBulk d + 1
  | (_, d) => uptoBulk d + 1
 end
def uptoSmall : (H : Type) → List (DataW H) → Bool := fun _ ds => decide (uptoBulkAll ds ≤ 1048576)
def OpenSpec.upto (s : _root_.Go.ChangeSpec) : _root_.Go.OpenSpec := { _root_.Go.OpenSpec.ofChange s with cond := some uptoSmall }

/-- 'handsellaw21.RaftNumbers', WHERE WHAT IT READS IS OF BULK AT MOST 1048576: true; the input reads as it did. -/
def raftNumbersUptoRow : OpenClaim := { program := "ytinfpahllbhomaa", sum := "c1b2bf8a500a3220931759e0d75a1e534f4bee2b1d96cef5d712f93443bbe999", func := "handsel/handsellaw21.RaftNumbers", spec := "raftNumbers", unfollowed := true, recurses := true, apart := false, narrowed := true }
def RaftNumbersUptoSaid : Prop := raftNumbersUptoRow.holds Try.pinned (OpenSpec.upto raftNumbersSpec)

/-- 'handsellaw21.RaftSafe', WHERE WHAT IT READS IS OF BULK AT MOST 1048576: true; the input reads as it did. -/
def raftSafeUptoRow : OpenClaim := { program := "ytinfpahllbhomaa", sum := "c1b2bf8a500a3220931759e0d75a1e534f4bee2b1d96cef5d712f93443bbe999", func := "handsel/handsellaw21.RaftSafe", spec := "raftSafe", unfollowed := true, recurses := true, apart := false, narrowed := true }
def RaftSafeUptoSaid : Prop := raftSafeUptoRow.holds Try.pinned (OpenSpec.upto raftSafeSpec)

/-- 'handsellaw21.RaftElects', WHERE WHAT IT READS IS OF BULK AT MOST 1048576: true; the input reads as it did. -/
def raftElectsUptoRow : OpenClaim := { program := "ytinfpahllbhomaa", sum := "c1b2bf8a500a3220931759e0d75a1e534f4bee2b1d96cef5d712f93443bbe999", func := "handsel/handsellaw21.RaftElects", spec := "raftElects", unfollowed := true, recurses := true, apart := false, narrowed := true }
def RaftElectsUptoSaid : Prop := raftElectsUptoRow.holds Try.pinned (OpenSpec.upto raftElectsSpec)

/-- 'handsellaw21.RaftWrong', WHERE WHAT IT READS IS OF BULK AT MOST 1048576: true; the input reads as it did. -/
def raftWrongUptoRow : OpenClaim := { program := "ytinfpahllbhomaa", sum := "c1b2bf8a500a3220931759e0d75a1e534f4bee2b1d96cef5d712f93443bbe999", func := "handsel/handsellaw21.RaftWrong", spec := "raftWrong", unfollowed := true, recurses := true, apart := false, narrowed := true }
def RaftWrongUptoSaid : Prop := raftWrongUptoRow.holds Try.pinned (OpenSpec.upto raftWrongSpec)

end Rows
end Go.Proofs.Ytinfpahllbhomaa
