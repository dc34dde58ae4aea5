/-
  NARROWER THAN 'FOR EVERY INPUT', by the rows' own cells (each row's printed sentence says how): ParseSames: loops.
  DERIVED. THE GIVEN ROWS OF THIS SEAT. 9 by the template 'for every input the law returns true; each argument reads behind the call as it read before'; 0 by the template 'total and deterministic' (their statements: YtblgcodkbapccaaTotals.lean).
  GIVEN WITH THE SEED: the statements are not yours to turn. If you find one false, say at which input.
  Laid BY PROGRAM, IN A SANDBOX (cutbox-rows.mjs): the forced cells as the released guide's own fill.sh prints them over the translation 5df4245efeb4914d… (all of the seat's roots in one cut). By AI agents, Wed Nov 11 2026. No macro, syntax, notation, axiom, sorry.
-/
import Derived.Test.YtblgcodkbapccaaChecked
import GoSem.Claim
import GoSem.ClaimJoined
import GoSem.ClaimMapViews
import Derived.JoinedTies
import Derived.KernelRfl
namespace Go.Proofs.Ytblgcodkbapccaa
/- THE CELL 'sum', in the pinned program and in every row, IS THE sha256 OF THE DUMP (.gsa) THAT YtblgcodkbapccaaProg.lean LOADS. Nothing in Lean hashes anything: it is a label: what it is worth is what the hold of that sum in a sandbox is worth. -/
noncomputable def Try.pinned : Pinned := { name := "ytblgcodkbapccaa", sum := "5df4245efeb4914d8bd8a5915904e3edcadec2d7c19403f9de228e5ebba4c12d", checked := Try.checked }
namespace Rows
def none {H : Type} : Left H := { results := [], args := [] }

/-- 'provisolaw10.LexLines': WHATEVER THE INPUT: true; the input reads as it did. -/
def lexLinesSpec : ChangeSpec := { name := "lexLines", fn := fun _ => fun
  | [d1, d2] => { results := [.lit (.bool true)], args := [d1, d2] }
  | _ => none }
def lexLinesRow : OpenClaim := { program := "ytblgcodkbapccaa", sum := "5df4245efeb4914d8bd8a5915904e3edcadec2d7c19403f9de228e5ebba4c12d", func := "proviso/provisolaw10.LexLines", spec := "lexLines", apart := false }
def LexLinesSaid : Prop := lexLinesRow.holds Try.pinned (OpenSpec.ofChange lexLinesSpec)

/-- ITS FALSE NEIGHBOUR: 'it returns false'. Refute it at one input. -/
def lexLinesWrong : ChangeSpec := { name := "lexLines", fn := fun _ => fun
  | [d1, d2] => { results := [.lit (.bool false)], args := [d1, d2] }
  | _ => none }
def LexLinesWrongFalsely : Prop := lexLinesRow.holds Try.pinned (OpenSpec.ofChange lexLinesWrong)

/-- 'provisolaw10.LexWords': WHATEVER THE INPUT: true; the input reads as it did. -/
def lexWordsSpec : ChangeSpec := { name := "lexWords", fn := fun _ => fun
  | [d1, d2] => { results := [.lit (.bool true)], args := [d1, d2] }
  | _ => none }
def lexWordsRow : OpenClaim := { program := "ytblgcodkbapccaa", sum := "5df4245efeb4914d8bd8a5915904e3edcadec2d7c19403f9de228e5ebba4c12d", func := "proviso/provisolaw10.LexWords", spec := "lexWords", apart := false }
def LexWordsSaid : Prop := lexWordsRow.holds Try.pinned (OpenSpec.ofChange lexWordsSpec)

/-- ITS FALSE NEIGHBOUR: 'it returns false'. Refute it at one input. -/
def lexWordsWrong : ChangeSpec := { name := "lexWords", fn := fun _ => fun
  | [d1, d2] => { results := [.lit (.bool false)], args := [d1, d2] }
  | _ => none }
def LexWordsWrongFalsely : Prop := lexWordsRow.holds Try.pinned (OpenSpec.ofChange lexWordsWrong)

/-- 'provisolaw04.CodeWords': WHATEVER THE INPUT: true; the input reads as it did. -/
def codeWordsSpec : ChangeSpec := { name := "codeWords", fn := fun _ => fun
  | [d1, d2] => { results := [.lit (.bool true)], args := [d1, d2] }
  | _ => none }
def codeWordsRow : OpenClaim := { program := "ytblgcodkbapccaa", sum := "5df4245efeb4914d8bd8a5915904e3edcadec2d7c19403f9de228e5ebba4c12d", func := "proviso/provisolaw04.CodeWords", spec := "codeWords", apart := false }
def CodeWordsSaid : Prop := codeWordsRow.holds Try.pinned (OpenSpec.ofChange codeWordsSpec)

/-- ITS FALSE NEIGHBOUR: 'it returns false'. Refute it at one input. -/
def codeWordsWrong : ChangeSpec := { name := "codeWords", fn := fun _ => fun
  | [d1, d2] => { results := [.lit (.bool false)], args := [d1, d2] }
  | _ => none }
def CodeWordsWrongFalsely : Prop := codeWordsRow.holds Try.pinned (OpenSpec.ofChange codeWordsWrong)

/-- 'provisolaw11.ParseSames': WHATEVER THE INPUT: true; the input reads as it did. -/
def parseSamesSpec : ChangeSpec := { name := "parseSames", fn := fun _ => fun
  | [d1, d2] => { results := [.lit (.bool true)], args := [d1, d2] }
  | _ => none }
def parseSamesRow : OpenClaim := { program := "ytblgcodkbapccaa", sum := "5df4245efeb4914d8bd8a5915904e3edcadec2d7c19403f9de228e5ebba4c12d", func := "proviso/provisolaw11.ParseSames", spec := "parseSames", unfollowed := true, recurses := true, loops := true, apart := false }
def ParseSamesSaid : Prop := parseSamesRow.holds Try.pinned (OpenSpec.ofChange parseSamesSpec)

/-- ITS FALSE NEIGHBOUR: 'it returns false'. Refute it at one input. -/
def parseSamesWrong : ChangeSpec := { name := "parseSames", fn := fun _ => fun
  | [d1, d2] => { results := [.lit (.bool false)], args := [d1, d2] }
  | _ => none }
def ParseSamesWrongFalsely : Prop := parseSamesRow.holds Try.pinned (OpenSpec.ofChange parseSamesWrong)

/-- 'provisolaw04.CodeEncodes': WHATEVER THE INPUT: true; the input reads as it did. -/
def codeEncodesSpec : ChangeSpec := { name := "codeEncodes", fn := fun _ => fun
  | [d] => { results := [.lit (.bool true)], args := [d] }
  | _ => none }
def codeEncodesRow : OpenClaim := { program := "ytblgcodkbapccaa", sum := "5df4245efeb4914d8bd8a5915904e3edcadec2d7c19403f9de228e5ebba4c12d", func := "proviso/provisolaw04.CodeEncodes", spec := "codeEncodes", apart := false }
def CodeEncodesSaid : Prop := codeEncodesRow.holds Try.pinned (OpenSpec.ofChange codeEncodesSpec)

/-- ITS FALSE NEIGHBOUR: 'it returns false'. Refute it at one input. -/
def codeEncodesWrong : ChangeSpec := { name := "codeEncodes", fn := fun _ => fun
  | [d] => { results := [.lit (.bool false)], args := [d] }
  | _ => none }
def CodeEncodesWrongFalsely : Prop := codeEncodesRow.holds Try.pinned (OpenSpec.ofChange codeEncodesWrong)

/-- 'provisolaw06.CertChecks': WHATEVER THE INPUT: true; the input reads as it did. -/
def certChecksSpec : ChangeSpec := { name := "certChecks", fn := fun _ => fun
  | [d] => { results := [.lit (.bool true)], args := [d] }
  | _ => none }
def certChecksRow : OpenClaim := { program := "ytblgcodkbapccaa", sum := "5df4245efeb4914d8bd8a5915904e3edcadec2d7c19403f9de228e5ebba4c12d", func := "proviso/provisolaw06.CertChecks", spec := "certChecks", apart := false }
def CertChecksSaid : Prop := certChecksRow.holds Try.pinned (OpenSpec.ofChange certChecksSpec)

/-- ITS FALSE NEIGHBOUR: 'it returns false'. Refute it at one input. -/
def certChecksWrong : ChangeSpec := { name := "certChecks", fn := fun _ => fun
  | [d] => { results := [.lit (.bool false)], args := [d] }
  | _ => none }
def CertChecksWrongFalsely : Prop := certChecksRow.holds Try.pinned (OpenSpec.ofChange certChecksWrong)

/-- 'provisolaw04.CodeDecodes': WHATEVER THE INPUT: true; the input reads as it did. -/
def codeDecodesSpec : ChangeSpec := { name := "codeDecodes", fn := fun _ => fun
  | [d1, d2] => { results := [.lit (.bool true)], args := [d1, d2] }
  | _ => none }
def codeDecodesRow : OpenClaim := { program := "ytblgcodkbapccaa", sum := "5df4245efeb4914d8bd8a5915904e3edcadec2d7c19403f9de228e5ebba4c12d", func := "proviso/provisolaw04.CodeDecodes", spec := "codeDecodes", unfollowed := true, recurses := true, apart := false }
def CodeDecodesSaid : Prop := codeDecodesRow.holds Try.pinned (OpenSpec.ofChange codeDecodesSpec)

/-- ITS FALSE NEIGHBOUR: 'it returns false'. Refute it at one input. -/
def codeDecodesWrong : ChangeSpec := { name := "codeDecodes", fn := fun _ => fun
  | [d1, d2] => { results := [.lit (.bool false)], args := [d1, d2] }
  | _ => none }
def CodeDecodesWrongFalsely : Prop := codeDecodesRow.holds Try.pinned (OpenSpec.ofChange codeDecodesWrong)

/-- 'provisolaw04.CodeAlls': WHATEVER THE INPUT: true; the input reads as it did. -/
def codeAllsSpec : ChangeSpec := { name := "codeAlls", fn := fun _ => fun
  | [d] => { results := [.lit (.bool true)], args := [d] }
  | _ => none }
def codeAllsRow : OpenClaim := { program := "ytblgcodkbapccaa", sum := "5df4245efeb4914d8bd8a5915904e3edcadec2d7c19403f9de228e5ebba4c12d", func := "proviso/provisolaw04.CodeAlls", spec := "codeAlls", apart := false }
def CodeAllsSaid : Prop := codeAllsRow.holds Try.pinned (OpenSpec.ofChange codeAllsSpec)

/-- ITS FALSE NEIGHBOUR: 'it returns false'. Refute it at one input. -/
def codeAllsWrong : ChangeSpec := { name := "codeAlls", fn := fun _ => fun
  | [d] => { results := [.lit (.bool false)], args := [d] }
  | _ => none }
def CodeAllsWrongFalsely : Prop := codeAllsRow.holds Try.pinned (OpenSpec.ofChange codeAllsWrong)

/-- 'provisolaw04.CodeApart': WHATEVER THE INPUT: true; the input reads as it did. -/
def codeApartSpec : ChangeSpec := { name := "codeApart", fn := fun _ => fun
  | [d1, d2] => { results := [.lit (.bool true)], args := [d1, d2] }
  | _ => none }
def codeApartRow : OpenClaim := { program := "ytblgcodkbapccaa", sum := "5df4245efeb4914d8bd8a5915904e3edcadec2d7c19403f9de228e5ebba4c12d", func := "proviso/provisolaw04.CodeApart", spec := "codeApart", apart := false }
def CodeApartSaid : Prop := codeApartRow.holds Try.pinned (OpenSpec.ofChange codeApartSpec)

/-- ITS FALSE NEIGHBOUR: 'it returns false'. Refute it at one input. -/
def codeApartWrong : ChangeSpec := { name := "codeApart", fn := fun _ => fun
  | [d1, d2] => { results := [.lit (.bool false)], args := [d1, d2] }
  | _ => none }
def CodeApartWrongFalsely : Prop := codeApartRow.holds Try.pinned (OpenSpec.ofChange codeApartWrong)

/- THE SECOND FORM. 'bulk': how many values and letters a reading holds, each counted each time it is reached (what is shared counts as often as it is met; a slice's spare places count too). A statement '..UptoSaid' is the law's where the arguments, and the package variables that the reading takes, are together of bulk at most 1048576: NARROWER than '..Said'. Prove '..Said' where nothing that the law and all that it calls make is longer than what came in: it says more and counts as full. Else prove '..UptoSaid'. A law counts once. -/
mutual
def uptoBulk {H : Type} : DataW H → Nat
  | .lit (.string bytes) => bytes.length + 1
  | .lit _ => 1
  | .nil => 1
  | .ptr d => uptoBulk d + 1
  | .slice elems spare => uptoBulkAll elems + uptoBulkAll spare + 1
  | .agg parts => uptoBulkAll parts + 1
  | .iface _ d => uptoBulk d + 1
  | .map entries => uptoBulkEntries entries + 1
  | .held _ => 1
def uptoBulkAll {H : Type} : List (DataW H) → Nat
  | [] => 0
  | d :: r => uptoBulk d + uptoBulkAll r
def uptoBulkEntries {H : Type} : List (Lit × DataW H) → Nat
  | [] => 0
  | x :: r => uptoBulkEntry x + uptoBulkEntries r
def uptoBulkEntry {H : Type} : Lit × DataW H → Nat
  | (.string bytes, d) => bytes.length + uptoBulk d + 1
  | (_, d) => uptoBulk d + 1
 end
def uptoSmall : (H : Type) → List (DataW H) → Bool := fun _ ds => decide (uptoBulkAll ds ≤ 1048576)
def OpenSpec.upto (s : _root_.Go.ChangeSpec) : _root_.Go.OpenSpec := { _root_.Go.OpenSpec.ofChange s with cond := some uptoSmall }

/-- 'provisolaw10.LexLines', WHERE WHAT IT READS IS OF BULK AT MOST 1048576: true; the input reads as it did. -/
def lexLinesUptoRow : OpenClaim := { program := "ytblgcodkbapccaa", sum := "5df4245efeb4914d8bd8a5915904e3edcadec2d7c19403f9de228e5ebba4c12d", func := "proviso/provisolaw10.LexLines", spec := "lexLines", apart := false, narrowed := true }
def LexLinesUptoSaid : Prop := lexLinesUptoRow.holds Try.pinned (OpenSpec.upto lexLinesSpec)

/-- 'provisolaw10.LexWords', WHERE WHAT IT READS IS OF BULK AT MOST 1048576: true; the input reads as it did. -/
def lexWordsUptoRow : OpenClaim := { program := "ytblgcodkbapccaa", sum := "5df4245efeb4914d8bd8a5915904e3edcadec2d7c19403f9de228e5ebba4c12d", func := "proviso/provisolaw10.LexWords", spec := "lexWords", apart := false, narrowed := true }
def LexWordsUptoSaid : Prop := lexWordsUptoRow.holds Try.pinned (OpenSpec.upto lexWordsSpec)

/-- 'provisolaw04.CodeWords', WHERE WHAT IT READS IS OF BULK AT MOST 1048576: true; the input reads as it did. -/
def codeWordsUptoRow : OpenClaim := { program := "ytblgcodkbapccaa", sum := "5df4245efeb4914d8bd8a5915904e3edcadec2d7c19403f9de228e5ebba4c12d", func := "proviso/provisolaw04.CodeWords", spec := "codeWords", apart := false, narrowed := true }
def CodeWordsUptoSaid : Prop := codeWordsUptoRow.holds Try.pinned (OpenSpec.upto codeWordsSpec)

/-- 'provisolaw11.ParseSames', WHERE WHAT IT READS IS OF BULK AT MOST 1048576: true; the input reads as it did. -/
def parseSamesUptoRow : OpenClaim := { program := "ytblgcodkbapccaa", sum := "5df4245efeb4914d8bd8a5915904e3edcadec2d7c19403f9de228e5ebba4c12d", func := "proviso/provisolaw11.ParseSames", spec := "parseSames", unfollowed := true, recurses := true, loops := true, apart := false, narrowed := true }
def ParseSamesUptoSaid : Prop := parseSamesUptoRow.holds Try.pinned (OpenSpec.upto parseSamesSpec)

/-- 'provisolaw04.CodeEncodes', WHERE WHAT IT READS IS OF BULK AT MOST 1048576: true; the input reads as it did. -/
def codeEncodesUptoRow : OpenClaim := { program := "ytblgcodkbapccaa", sum := "5df4245efeb4914d8bd8a5915904e3edcadec2d7c19403f9de228e5ebba4c12d", func := "proviso/provisolaw04.CodeEncodes", spec := "codeEncodes", apart := false, narrowed := true }
def CodeEncodesUptoSaid : Prop := codeEncodesUptoRow.holds Try.pinned (OpenSpec.upto codeEncodesSpec)

/-- 'provisolaw06.CertChecks', WHERE WHAT IT READS IS OF BULK AT MOST 1048576: true; the input reads as it did. -/
def certChecksUptoRow : OpenClaim := { program := "ytblgcodkbapccaa", sum := "5df4245efeb4914d8bd8a5915904e3edcadec2d7c19403f9de228e5ebba4c12d", func := "proviso/provisolaw06.CertChecks", spec := "certChecks", apart := false, narrowed := true }
def CertChecksUptoSaid : Prop := certChecksUptoRow.holds Try.pinned (OpenSpec.upto certChecksSpec)

/-- 'provisolaw04.CodeDecodes', WHERE WHAT IT READS IS OF BULK AT MOST 1048576: true; the input reads as it did. -/
def codeDecodesUptoRow : OpenClaim := { program := "ytblgcodkbapccaa", sum := "5df4245efeb4914d8bd8a5915904e3edcadec2d7c19403f9de228e5ebba4c12d", func := "proviso/provisolaw04.CodeDecodes", spec := "codeDecodes", unfollowed := true, recurses := true, apart := false, narrowed := true }
def CodeDecodesUptoSaid : Prop := codeDecodesUptoRow.holds Try.pinned (OpenSpec.upto codeDecodesSpec)

/-- 'provisolaw04.CodeAlls', WHERE WHAT IT READS IS OF BULK AT MOST 1048576: true; the input reads as it did. -/
def codeAllsUptoRow : OpenClaim := { program := "ytblgcodkbapccaa", sum := "5df4245efeb4914d8bd8a5915904e3edcadec2d7c19403f9de228e5ebba4c12d", func := "proviso/provisolaw04.CodeAlls", spec := "codeAlls", apart := false, narrowed := true }
def CodeAllsUptoSaid : Prop := codeAllsUptoRow.holds Try.pinned (OpenSpec.upto codeAllsSpec)

/-- 'provisolaw04.CodeApart', WHERE WHAT IT READS IS OF BULK AT MOST 1048576: true; the input reads as it did. -/
def codeApartUptoRow : OpenClaim := { program := "ytblgcodkbapccaa", sum := "5df4245efeb4914d8bd8a5915904e3edcadec2d7c19403f9de228e5ebba4c12d", func := "proviso/provisolaw04.CodeApart", spec := "codeApart", apart := false, narrowed := true }
def CodeApartUptoSaid : Prop := codeApartUptoRow.holds Try.pinned (OpenSpec.upto codeApartSpec)

end Rows
end Go.Proofs.Ytblgcodkbapccaa
