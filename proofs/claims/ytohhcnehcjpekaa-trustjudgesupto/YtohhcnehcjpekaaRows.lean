/-
  No cell of these rows narrows 'for every input' (looked for: loops, veiled, ifaces, maps, wideKeys, modest, calm, conditions, laid).
  DERIVED. THE GIVEN ROWS OF THIS SEAT. 5 by the template 'for every input the law returns true; each argument reads behind the call as it read before'; 0 by the template 'total and deterministic' (their statements: YtohhcnehcjpekaaTotals.lean).
  GIVEN WITH THE SEED: the statements are not yours to turn. If you find one false, say at which input.
  Laid BY PROGRAM, IN A SANDBOX (cutbox-rows.mjs): the forced cells as the released guide's own fill.sh prints them over the translation f578ec653b9bf12f… (all of the seat's roots in one cut). By AI agents, Wed Nov 11 2026. No macro, syntax, notation, axiom, sorry.
-/
import Derived.Test.YtohhcnehcjpekaaChecked
import GoSem.Claim
import GoSem.ClaimJoined
import GoSem.ClaimMapViews
import Derived.JoinedTies
import Derived.KernelRfl
namespace Go.Proofs.Ytohhcnehcjpekaa
/- THE CELL 'sum', in the pinned program and in every row, IS THE sha256 OF THE DUMP (.gsa) THAT YtohhcnehcjpekaaProg.lean LOADS. Nothing in Lean hashes anything: it is a label: what it is worth is what the hold of that sum in a sandbox is worth. -/
noncomputable def Try.pinned : Pinned := { name := "ytohhcnehcjpekaa", sum := "f578ec653b9bf12faaefbdb62fb917f6623e311259d05954caacee2517180418", checked := Try.checked }
namespace Rows
def none {H : Type} : Left H := { results := [], args := [] }

/-- 'culpritlaw33.TrustClashes': WHATEVER THE INPUT: true; the input reads as it did. -/
def trustClashesSpec : ChangeSpec := { name := "trustClashes", fn := fun _ => fun
  | [d1, d2, d3, d4] => { results := [.lit (.bool true)], args := [d1, d2, d3, d4] }
  | _ => none }
def trustClashesRow : OpenClaim := { program := "ytohhcnehcjpekaa", sum := "f578ec653b9bf12faaefbdb62fb917f6623e311259d05954caacee2517180418", func := "culprit/culpritlaw33.TrustClashes", spec := "trustClashes", unfollowed := true, recurses := true, plainKeys := false, apart := false }
def TrustClashesSaid : Prop := trustClashesRow.holds Try.pinned (OpenSpec.ofChange trustClashesSpec)

/-- ITS FALSE NEIGHBOUR: 'it returns false'. Refute it at one input. -/
def trustClashesWrong : ChangeSpec := { name := "trustClashes", fn := fun _ => fun
  | [d1, d2, d3, d4] => { results := [.lit (.bool false)], args := [d1, d2, d3, d4] }
  | _ => none }
def TrustClashesWrongFalsely : Prop := trustClashesRow.holds Try.pinned (OpenSpec.ofChange trustClashesWrong)

/-- 'culpritlaw33.TrustJudges': WHATEVER THE INPUT: true; the input reads as it did. -/
def trustJudgesSpec : ChangeSpec := { name := "trustJudges", fn := fun _ => fun
  | [d1, d2, d3, d4, d5, d6, d7] => { results := [.lit (.bool true)], args := [d1, d2, d3, d4, d5, d6, d7] }
  | _ => none }
def trustJudgesRow : OpenClaim := { program := "ytohhcnehcjpekaa", sum := "f578ec653b9bf12faaefbdb62fb917f6623e311259d05954caacee2517180418", func := "culprit/culpritlaw33.TrustJudges", spec := "trustJudges", unfollowed := true, recurses := true, plainKeys := false, apart := false }
def TrustJudgesSaid : Prop := trustJudgesRow.holds Try.pinned (OpenSpec.ofChange trustJudgesSpec)

/-- ITS FALSE NEIGHBOUR: 'it returns false'. Refute it at one input. -/
def trustJudgesWrong : ChangeSpec := { name := "trustJudges", fn := fun _ => fun
  | [d1, d2, d3, d4, d5, d6, d7] => { results := [.lit (.bool false)], args := [d1, d2, d3, d4, d5, d6, d7] }
  | _ => none }
def TrustJudgesWrongFalsely : Prop := trustJudgesRow.holds Try.pinned (OpenSpec.ofChange trustJudgesWrong)

/-- 'culpritlaw33.TrustForgers': WHATEVER THE INPUT: true; the input reads as it did. -/
def trustForgersSpec : ChangeSpec := { name := "trustForgers", fn := fun _ => fun
  | [d1, d2] => { results := [.lit (.bool true)], args := [d1, d2] }
  | _ => none }
def trustForgersRow : OpenClaim := { program := "ytohhcnehcjpekaa", sum := "f578ec653b9bf12faaefbdb62fb917f6623e311259d05954caacee2517180418", func := "culprit/culpritlaw33.TrustForgers", spec := "trustForgers", unfollowed := true, recurses := true, plainKeys := false, apart := false }
def TrustForgersSaid : Prop := trustForgersRow.holds Try.pinned (OpenSpec.ofChange trustForgersSpec)

/-- ITS FALSE NEIGHBOUR: 'it returns false'. Refute it at one input. -/
def trustForgersWrong : ChangeSpec := { name := "trustForgers", fn := fun _ => fun
  | [d1, d2] => { results := [.lit (.bool false)], args := [d1, d2] }
  | _ => none }
def TrustForgersWrongFalsely : Prop := trustForgersRow.holds Try.pinned (OpenSpec.ofChange trustForgersWrong)

/-- 'culpritlaw33.TrustLeft': WHATEVER THE INPUT: true; the input reads as it did. -/
def trustLeftSpec : ChangeSpec := { name := "trustLeft", fn := fun _ => fun
  | [d1, d2, d3, d4] => { results := [.lit (.bool true)], args := [d1, d2, d3, d4] }
  | _ => none }
def trustLeftRow : OpenClaim := { program := "ytohhcnehcjpekaa", sum := "f578ec653b9bf12faaefbdb62fb917f6623e311259d05954caacee2517180418", func := "culprit/culpritlaw33.TrustLeft", spec := "trustLeft", unfollowed := true, recurses := true, plainKeys := false, apart := false }
def TrustLeftSaid : Prop := trustLeftRow.holds Try.pinned (OpenSpec.ofChange trustLeftSpec)

/-- ITS FALSE NEIGHBOUR: 'it returns false'. Refute it at one input. -/
def trustLeftWrong : ChangeSpec := { name := "trustLeft", fn := fun _ => fun
  | [d1, d2, d3, d4] => { results := [.lit (.bool false)], args := [d1, d2, d3, d4] }
  | _ => none }
def TrustLeftWrongFalsely : Prop := trustLeftRow.holds Try.pinned (OpenSpec.ofChange trustLeftWrong)

/-- 'culpritlaw33.TrustSure': WHATEVER THE INPUT: true; the input reads as it did. -/
def trustSureSpec : ChangeSpec := { name := "trustSure", fn := fun _ => fun
  | [d1, d2, d3, d4] => { results := [.lit (.bool true)], args := [d1, d2, d3, d4] }
  | _ => none }
def trustSureRow : OpenClaim := { program := "ytohhcnehcjpekaa", sum := "f578ec653b9bf12faaefbdb62fb917f6623e311259d05954caacee2517180418", func := "culprit/culpritlaw33.TrustSure", spec := "trustSure", unfollowed := true, recurses := true, plainKeys := false, apart := false }
def TrustSureSaid : Prop := trustSureRow.holds Try.pinned (OpenSpec.ofChange trustSureSpec)

/-- ITS FALSE NEIGHBOUR: 'it returns false'. Refute it at one input. -/
def trustSureWrong : ChangeSpec := { name := "trustSure", fn := fun _ => fun
  | [d1, d2, d3, d4] => { results := [.lit (.bool false)], args := [d1, d2, d3, d4] }
  | _ => none }
def TrustSureWrongFalsely : Prop := trustSureRow.holds Try.pinned (OpenSpec.ofChange trustSureWrong)

/- THE SECOND FORM. 'bulk': how many values and letters a reading holds, each counted each time it is reached (what is shared counts as often as it is met; a slice's spare places count too). A statement '..UptoSaid' is the law's where the arguments, and the package variables that the reading takes, are together of bulk at most 1048576: NARROWER than '..Said'. Prove '..Said' where nothing that the law and all that it calls make is longer than what came in: it says more and counts as full. Else prove '..UptoSaid'. A law counts once. -/
mutual
def uptoBulk {H : Type} : DataW H → Nat
  | .lit (.string bytes) => bytes.length + 1
  | .lit _ => 1
  | .nil => 1
  | .ptr d => uptoBulk d + 1
  | .slice elems spare => uptoBulkAll elems + uptoBulkAll spare + 1
  | .agg parts => uptoBulkAll parts + 1
  | .iface _ d => uptoBulk d + 1
  | .map entries => uptoBulkEntries entries + 1
  | .held _ => 1
def uptoBulkAll {H : Type} : List (DataW H) → Nat
  | [] => 0
  | d :: r => uptoBulk d + uptoBulkAll r
def uptoBulkEntries {H : Type} : List (Lit × DataW H) → Nat
  | [] => 0
  | x :: r => uptoBulkEntry x + uptoBulkEntries r
def uptoBulkEntry {H : Type} : Lit × DataW H → Nat
  | (.string bytes, d) => bytes.length + uptoBulk d + 1
  | (_, d) => uptoBulk d + 1
 end
def uptoSmall : (H : Type) → List (DataW H) → Bool := fun _ ds => decide (uptoBulkAll ds ≤ 1048576)
def OpenSpec.upto (s : _root_.Go.ChangeSpec) : _root_.Go.OpenSpec := { _root_.Go.OpenSpec.ofChange s with cond := some uptoSmall }

/-- 'culpritlaw33.TrustClashes', WHERE WHAT IT READS IS OF BULK AT MOST 1048576: true; the input reads as it did. -/
def trustClashesUptoRow : OpenClaim := { program := "ytohhcnehcjpekaa", sum := "f578ec653b9bf12faaefbdb62fb917f6623e311259d05954caacee2517180418", func := "culprit/culpritlaw33.TrustClashes", spec := "trustClashes", unfollowed := true, recurses := true, plainKeys := false, apart := false, narrowed := true }
def TrustClashesUptoSaid : Prop := trustClashesUptoRow.holds Try.pinned (OpenSpec.upto trustClashesSpec)

/-- 'culpritlaw33.TrustJudges', WHERE WHAT IT READS IS OF BULK AT MOST 1048576: true; the input reads as it did. -/
def trustJudgesUptoRow : OpenClaim := { program := "ytohhcnehcjpekaa", sum := "f578ec653b9bf12faaefbdb62fb917f6623e311259d05954caacee2517180418", func := "culprit/culpritlaw33.TrustJudges", spec := "trustJudges", unfollowed := true, recurses := true, plainKeys := false, apart := false, narrowed := true }
def TrustJudgesUptoSaid : Prop := trustJudgesUptoRow.holds Try.pinned (OpenSpec.upto trustJudgesSpec)

/-- 'culpritlaw33.TrustForgers', WHERE WHAT IT READS IS OF BULK AT MOST 1048576: true; the input reads as it did. -/
def trustForgersUptoRow : OpenClaim := { program := "ytohhcnehcjpekaa", sum := "f578ec653b9bf12faaefbdb62fb917f6623e311259d05954caacee2517180418", func := "culprit/culpritlaw33.TrustForgers", spec := "trustForgers", unfollowed := true, recurses := true, plainKeys := false, apart := false, narrowed := true }
def TrustForgersUptoSaid : Prop := trustForgersUptoRow.holds Try.pinned (OpenSpec.upto trustForgersSpec)

/-- 'culpritlaw33.TrustLeft', WHERE WHAT IT READS IS OF BULK AT MOST 1048576: true; the input reads as it did. -/
def trustLeftUptoRow : OpenClaim := { program := "ytohhcnehcjpekaa", sum := "f578ec653b9bf12faaefbdb62fb917f6623e311259d05954caacee2517180418", func := "culprit/culpritlaw33.TrustLeft", spec := "trustLeft", unfollowed := true, recurses := true, plainKeys := false, apart := false, narrowed := true }
def TrustLeftUptoSaid : Prop := trustLeftUptoRow.holds Try.pinned (OpenSpec.upto trustLeftSpec)

/-- 'culpritlaw33.TrustSure', WHERE WHAT IT READS IS OF BULK AT MOST 1048576: true; the input reads as it did. -/
def trustSureUptoRow : OpenClaim := { program := "ytohhcnehcjpekaa", sum := "f578ec653b9bf12faaefbdb62fb917f6623e311259d05954caacee2517180418", func := "culprit/culpritlaw33.TrustSure", spec := "trustSure", unfollowed := true, recurses := true, plainKeys := false, apart := false, narrowed := true }
def TrustSureUptoSaid : Prop := trustSureUptoRow.holds Try.pinned (OpenSpec.upto trustSureSpec)

end Rows
end Go.Proofs.Ytohhcnehcjpekaa
