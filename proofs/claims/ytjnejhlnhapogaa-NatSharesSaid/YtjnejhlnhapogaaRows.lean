/-
  No cell of these rows narrows 'for every input' (looked for: loops, veiled, ifaces, maps, wideKeys, modest, calm, conditions, laid).
  DERIVED. THE GIVEN ROWS OF THIS SEAT. 15 by the template 'for every input the law returns true; each argument reads behind the call as it read before'; 0 by the template 'total and deterministic' (their statements: YtjnejhlnhapogaaTotals.lean).
  GIVEN WITH THE SEED: the statements are not yours to turn. If you find one false, say at which input.
  Laid BY PROGRAM, IN A SANDBOX (cutbox-rows.mjs): the forced cells as the released guide's own fill.sh prints them over the translation 9243106d4b761f1f… (all of the seat's roots in one cut). By AI agents, Wed Nov 11 2026. No macro, syntax, notation, axiom, sorry.
-/
import Derived.Test.YtjnejhlnhapogaaChecked
import GoSem.Claim
import GoSem.ClaimJoined
import GoSem.ClaimMapViews
import Derived.JoinedTies
import Derived.KernelRfl
namespace Go.Proofs.Ytjnejhlnhapogaa
/- THE CELL 'sum', in the pinned program and in every row, IS THE sha256 OF THE DUMP (.gsa) THAT YtjnejhlnhapogaaProg.lean LOADS. Nothing in Lean hashes anything: it is a label: what it is worth is what the hold of that sum in a sandbox is worth. -/
noncomputable def Try.pinned : Pinned := { name := "ytjnejhlnhapogaa", sum := "9243106d4b761f1f6c5513fb5da4076092aad83907e099a850577dcd20f17da9", checked := Try.checked }
namespace Rows
def none {H : Type} : Left H := { results := [], args := [] }

/-- 'primroselaw01.NatDivides': WHATEVER THE INPUT: true; the input reads as it did. -/
def natDividesSpec : ChangeSpec := { name := "natDivides", fn := fun _ => fun
  | [d1, d2] => { results := [.lit (.bool true)], args := [d1, d2] }
  | _ => none }
def natDividesRow : OpenClaim := { program := "ytjnejhlnhapogaa", sum := "9243106d4b761f1f6c5513fb5da4076092aad83907e099a850577dcd20f17da9", func := "primrose/primroselaw01.NatDivides", spec := "natDivides", apart := false }
def NatDividesSaid : Prop := natDividesRow.holds Try.pinned (OpenSpec.ofChange natDividesSpec)

/-- ITS FALSE NEIGHBOUR: 'it returns false'. Refute it at one input. -/
def natDividesWrong : ChangeSpec := { name := "natDivides", fn := fun _ => fun
  | [d1, d2] => { results := [.lit (.bool false)], args := [d1, d2] }
  | _ => none }
def NatDividesWrongFalsely : Prop := natDividesRow.holds Try.pinned (OpenSpec.ofChange natDividesWrong)

/-- 'primroselaw01.NatTexts': WHATEVER THE INPUT: true; the input reads as it did. -/
def natTextsSpec : ChangeSpec := { name := "natTexts", fn := fun _ => fun
  | [d] => { results := [.lit (.bool true)], args := [d] }
  | _ => none }
def natTextsRow : OpenClaim := { program := "ytjnejhlnhapogaa", sum := "9243106d4b761f1f6c5513fb5da4076092aad83907e099a850577dcd20f17da9", func := "primrose/primroselaw01.NatTexts", spec := "natTexts", apart := false }
def NatTextsSaid : Prop := natTextsRow.holds Try.pinned (OpenSpec.ofChange natTextsSpec)

/-- ITS FALSE NEIGHBOUR: 'it returns false'. Refute it at one input. -/
def natTextsWrong : ChangeSpec := { name := "natTexts", fn := fun _ => fun
  | [d] => { results := [.lit (.bool false)], args := [d] }
  | _ => none }
def NatTextsWrongFalsely : Prop := natTextsRow.holds Try.pinned (OpenSpec.ofChange natTextsWrong)

/-- 'primroselaw01.NatPlains': WHATEVER THE INPUT: true; the input reads as it did. -/
def natPlainsSpec : ChangeSpec := { name := "natPlains", fn := fun _ => fun
  | [d1, d2] => { results := [.lit (.bool true)], args := [d1, d2] }
  | _ => none }
def natPlainsRow : OpenClaim := { program := "ytjnejhlnhapogaa", sum := "9243106d4b761f1f6c5513fb5da4076092aad83907e099a850577dcd20f17da9", func := "primrose/primroselaw01.NatPlains", spec := "natPlains", apart := false }
def NatPlainsSaid : Prop := natPlainsRow.holds Try.pinned (OpenSpec.ofChange natPlainsSpec)

/-- ITS FALSE NEIGHBOUR: 'it returns false'. Refute it at one input. -/
def natPlainsWrong : ChangeSpec := { name := "natPlains", fn := fun _ => fun
  | [d1, d2] => { results := [.lit (.bool false)], args := [d1, d2] }
  | _ => none }
def NatPlainsWrongFalsely : Prop := natPlainsRow.holds Try.pinned (OpenSpec.ofChange natPlainsWrong)

/-- 'primroselaw01.NatGcds': WHATEVER THE INPUT: true; the input reads as it did. -/
def natGcdsSpec : ChangeSpec := { name := "natGcds", fn := fun _ => fun
  | [d1, d2] => { results := [.lit (.bool true)], args := [d1, d2] }
  | _ => none }
def natGcdsRow : OpenClaim := { program := "ytjnejhlnhapogaa", sum := "9243106d4b761f1f6c5513fb5da4076092aad83907e099a850577dcd20f17da9", func := "primrose/primroselaw01.NatGcds", spec := "natGcds", apart := false }
def NatGcdsSaid : Prop := natGcdsRow.holds Try.pinned (OpenSpec.ofChange natGcdsSpec)

/-- ITS FALSE NEIGHBOUR: 'it returns false'. Refute it at one input. -/
def natGcdsWrong : ChangeSpec := { name := "natGcds", fn := fun _ => fun
  | [d1, d2] => { results := [.lit (.bool false)], args := [d1, d2] }
  | _ => none }
def NatGcdsWrongFalsely : Prop := natGcdsRow.holds Try.pinned (OpenSpec.ofChange natGcdsWrong)

/-- 'primroselaw01.NatMuls': WHATEVER THE INPUT: true; the input reads as it did. -/
def natMulsSpec : ChangeSpec := { name := "natMuls", fn := fun _ => fun
  | [d1, d2] => { results := [.lit (.bool true)], args := [d1, d2] }
  | _ => none }
def natMulsRow : OpenClaim := { program := "ytjnejhlnhapogaa", sum := "9243106d4b761f1f6c5513fb5da4076092aad83907e099a850577dcd20f17da9", func := "primrose/primroselaw01.NatMuls", spec := "natMuls", apart := false }
def NatMulsSaid : Prop := natMulsRow.holds Try.pinned (OpenSpec.ofChange natMulsSpec)

/-- ITS FALSE NEIGHBOUR: 'it returns false'. Refute it at one input. -/
def natMulsWrong : ChangeSpec := { name := "natMuls", fn := fun _ => fun
  | [d1, d2] => { results := [.lit (.bool false)], args := [d1, d2] }
  | _ => none }
def NatMulsWrongFalsely : Prop := natMulsRow.holds Try.pinned (OpenSpec.ofChange natMulsWrong)

/-- 'primroselaw01.NatShifts': WHATEVER THE INPUT: true; the input reads as it did. -/
def natShiftsSpec : ChangeSpec := { name := "natShifts", fn := fun _ => fun
  | [d1, d2] => { results := [.lit (.bool true)], args := [d1, d2] }
  | _ => none }
def natShiftsRow : OpenClaim := { program := "ytjnejhlnhapogaa", sum := "9243106d4b761f1f6c5513fb5da4076092aad83907e099a850577dcd20f17da9", func := "primrose/primroselaw01.NatShifts", spec := "natShifts", apart := false }
def NatShiftsSaid : Prop := natShiftsRow.holds Try.pinned (OpenSpec.ofChange natShiftsSpec)

/-- ITS FALSE NEIGHBOUR: 'it returns false'. Refute it at one input. -/
def natShiftsWrong : ChangeSpec := { name := "natShifts", fn := fun _ => fun
  | [d1, d2] => { results := [.lit (.bool false)], args := [d1, d2] }
  | _ => none }
def NatShiftsWrongFalsely : Prop := natShiftsRow.holds Try.pinned (OpenSpec.ofChange natShiftsWrong)

/-- 'primroselaw01.NatInts': WHATEVER THE INPUT: true; the input reads as it did. -/
def natIntsSpec : ChangeSpec := { name := "natInts", fn := fun _ => fun
  | [d1, d2] => { results := [.lit (.bool true)], args := [d1, d2] }
  | _ => none }
def natIntsRow : OpenClaim := { program := "ytjnejhlnhapogaa", sum := "9243106d4b761f1f6c5513fb5da4076092aad83907e099a850577dcd20f17da9", func := "primrose/primroselaw01.NatInts", spec := "natInts", apart := false }
def NatIntsSaid : Prop := natIntsRow.holds Try.pinned (OpenSpec.ofChange natIntsSpec)

/-- ITS FALSE NEIGHBOUR: 'it returns false'. Refute it at one input. -/
def natIntsWrong : ChangeSpec := { name := "natInts", fn := fun _ => fun
  | [d1, d2] => { results := [.lit (.bool false)], args := [d1, d2] }
  | _ => none }
def NatIntsWrongFalsely : Prop := natIntsRow.holds Try.pinned (OpenSpec.ofChange natIntsWrong)

/-- 'primroselaw01.NatParses': WHATEVER THE INPUT: true; the input reads as it did. -/
def natParsesSpec : ChangeSpec := { name := "natParses", fn := fun _ => fun
  | [d] => { results := [.lit (.bool true)], args := [d] }
  | _ => none }
def natParsesRow : OpenClaim := { program := "ytjnejhlnhapogaa", sum := "9243106d4b761f1f6c5513fb5da4076092aad83907e099a850577dcd20f17da9", func := "primrose/primroselaw01.NatParses", spec := "natParses", apart := false }
def NatParsesSaid : Prop := natParsesRow.holds Try.pinned (OpenSpec.ofChange natParsesSpec)

/-- ITS FALSE NEIGHBOUR: 'it returns false'. Refute it at one input. -/
def natParsesWrong : ChangeSpec := { name := "natParses", fn := fun _ => fun
  | [d] => { results := [.lit (.bool false)], args := [d] }
  | _ => none }
def NatParsesWrongFalsely : Prop := natParsesRow.holds Try.pinned (OpenSpec.ofChange natParsesWrong)

/-- 'primroselaw01.NatBack': WHATEVER THE INPUT: true; the input reads as it did. -/
def natBackSpec : ChangeSpec := { name := "natBack", fn := fun _ => fun
  | [d1, d2] => { results := [.lit (.bool true)], args := [d1, d2] }
  | _ => none }
def natBackRow : OpenClaim := { program := "ytjnejhlnhapogaa", sum := "9243106d4b761f1f6c5513fb5da4076092aad83907e099a850577dcd20f17da9", func := "primrose/primroselaw01.NatBack", spec := "natBack", apart := false }
def NatBackSaid : Prop := natBackRow.holds Try.pinned (OpenSpec.ofChange natBackSpec)

/-- ITS FALSE NEIGHBOUR: 'it returns false'. Refute it at one input. -/
def natBackWrong : ChangeSpec := { name := "natBack", fn := fun _ => fun
  | [d1, d2] => { results := [.lit (.bool false)], args := [d1, d2] }
  | _ => none }
def NatBackWrongFalsely : Prop := natBackRow.holds Try.pinned (OpenSpec.ofChange natBackWrong)

/-- 'primroselaw01.NatShares': WHATEVER THE INPUT: true; the input reads as it did. -/
def natSharesSpec : ChangeSpec := { name := "natShares", fn := fun _ => fun
  | [d1, d2, d3] => { results := [.lit (.bool true)], args := [d1, d2, d3] }
  | _ => none }
def natSharesRow : OpenClaim := { program := "ytjnejhlnhapogaa", sum := "9243106d4b761f1f6c5513fb5da4076092aad83907e099a850577dcd20f17da9", func := "primrose/primroselaw01.NatShares", spec := "natShares", apart := false }
def NatSharesSaid : Prop := natSharesRow.holds Try.pinned (OpenSpec.ofChange natSharesSpec)

/-- ITS FALSE NEIGHBOUR: 'it returns false'. Refute it at one input. -/
def natSharesWrong : ChangeSpec := { name := "natShares", fn := fun _ => fun
  | [d1, d2, d3] => { results := [.lit (.bool false)], args := [d1, d2, d3] }
  | _ => none }
def NatSharesWrongFalsely : Prop := natSharesRow.holds Try.pinned (OpenSpec.ofChange natSharesWrong)

/-- 'primroselaw01.NatOrders': WHATEVER THE INPUT: true; the input reads as it did. -/
def natOrdersSpec : ChangeSpec := { name := "natOrders", fn := fun _ => fun
  | [d1, d2, d3] => { results := [.lit (.bool true)], args := [d1, d2, d3] }
  | _ => none }
def natOrdersRow : OpenClaim := { program := "ytjnejhlnhapogaa", sum := "9243106d4b761f1f6c5513fb5da4076092aad83907e099a850577dcd20f17da9", func := "primrose/primroselaw01.NatOrders", spec := "natOrders", apart := false }
def NatOrdersSaid : Prop := natOrdersRow.holds Try.pinned (OpenSpec.ofChange natOrdersSpec)

/-- ITS FALSE NEIGHBOUR: 'it returns false'. Refute it at one input. -/
def natOrdersWrong : ChangeSpec := { name := "natOrders", fn := fun _ => fun
  | [d1, d2, d3] => { results := [.lit (.bool false)], args := [d1, d2, d3] }
  | _ => none }
def NatOrdersWrongFalsely : Prop := natOrdersRow.holds Try.pinned (OpenSpec.ofChange natOrdersWrong)

/-- 'primroselaw01.NatAdds': WHATEVER THE INPUT: true; the input reads as it did. -/
def natAddsSpec : ChangeSpec := { name := "natAdds", fn := fun _ => fun
  | [d1, d2] => { results := [.lit (.bool true)], args := [d1, d2] }
  | _ => none }
def natAddsRow : OpenClaim := { program := "ytjnejhlnhapogaa", sum := "9243106d4b761f1f6c5513fb5da4076092aad83907e099a850577dcd20f17da9", func := "primrose/primroselaw01.NatAdds", spec := "natAdds", apart := false }
def NatAddsSaid : Prop := natAddsRow.holds Try.pinned (OpenSpec.ofChange natAddsSpec)

/-- ITS FALSE NEIGHBOUR: 'it returns false'. Refute it at one input. -/
def natAddsWrong : ChangeSpec := { name := "natAdds", fn := fun _ => fun
  | [d1, d2] => { results := [.lit (.bool false)], args := [d1, d2] }
  | _ => none }
def NatAddsWrongFalsely : Prop := natAddsRow.holds Try.pinned (OpenSpec.ofChange natAddsWrong)

/-- 'primroselaw01.NatTakes': WHATEVER THE INPUT: true; the input reads as it did. -/
def natTakesSpec : ChangeSpec := { name := "natTakes", fn := fun _ => fun
  | [d1, d2] => { results := [.lit (.bool true)], args := [d1, d2] }
  | _ => none }
def natTakesRow : OpenClaim := { program := "ytjnejhlnhapogaa", sum := "9243106d4b761f1f6c5513fb5da4076092aad83907e099a850577dcd20f17da9", func := "primrose/primroselaw01.NatTakes", spec := "natTakes", apart := false }
def NatTakesSaid : Prop := natTakesRow.holds Try.pinned (OpenSpec.ofChange natTakesSpec)

/-- ITS FALSE NEIGHBOUR: 'it returns false'. Refute it at one input. -/
def natTakesWrong : ChangeSpec := { name := "natTakes", fn := fun _ => fun
  | [d1, d2] => { results := [.lit (.bool false)], args := [d1, d2] }
  | _ => none }
def NatTakesWrongFalsely : Prop := natTakesRow.holds Try.pinned (OpenSpec.ofChange natTakesWrong)

/-- 'primroselaw01.NatRests': WHATEVER THE INPUT: true; the input reads as it did. -/
def natRestsSpec : ChangeSpec := { name := "natRests", fn := fun _ => fun
  | [d1, d2] => { results := [.lit (.bool true)], args := [d1, d2] }
  | _ => none }
def natRestsRow : OpenClaim := { program := "ytjnejhlnhapogaa", sum := "9243106d4b761f1f6c5513fb5da4076092aad83907e099a850577dcd20f17da9", func := "primrose/primroselaw01.NatRests", spec := "natRests", apart := false }
def NatRestsSaid : Prop := natRestsRow.holds Try.pinned (OpenSpec.ofChange natRestsSpec)

/-- ITS FALSE NEIGHBOUR: 'it returns false'. Refute it at one input. -/
def natRestsWrong : ChangeSpec := { name := "natRests", fn := fun _ => fun
  | [d1, d2] => { results := [.lit (.bool false)], args := [d1, d2] }
  | _ => none }
def NatRestsWrongFalsely : Prop := natRestsRow.holds Try.pinned (OpenSpec.ofChange natRestsWrong)

/-- 'primroselaw01.NatHalves': WHATEVER THE INPUT: true; the input reads as it did. -/
def natHalvesSpec : ChangeSpec := { name := "natHalves", fn := fun _ => fun
  | [d1, d2] => { results := [.lit (.bool true)], args := [d1, d2] }
  | _ => none }
def natHalvesRow : OpenClaim := { program := "ytjnejhlnhapogaa", sum := "9243106d4b761f1f6c5513fb5da4076092aad83907e099a850577dcd20f17da9", func := "primrose/primroselaw01.NatHalves", spec := "natHalves", apart := false }
def NatHalvesSaid : Prop := natHalvesRow.holds Try.pinned (OpenSpec.ofChange natHalvesSpec)

/-- ITS FALSE NEIGHBOUR: 'it returns false'. Refute it at one input. -/
def natHalvesWrong : ChangeSpec := { name := "natHalves", fn := fun _ => fun
  | [d1, d2] => { results := [.lit (.bool false)], args := [d1, d2] }
  | _ => none }
def NatHalvesWrongFalsely : Prop := natHalvesRow.holds Try.pinned (OpenSpec.ofChange natHalvesWrong)

/- THE SECOND FORM. 'bulk': how many values and letters a reading holds, each counted each time it is reached (what is shared counts as often as it is met; a slice's spare places count too). A statement '..UptoSaid' is the law's where the arguments, and the package variables that the reading takes, are together of bulk at most 1048576: NARROWER than '..Said'. Prove '..Said' where nothing that the law and all that it calls make is longer than what came in: it says more and counts as full. Else prove '..UptoSaid'. A law counts once. -/
mutual
def uptoBulk {H : Type} : DataW H → Nat
  | .lit (.string bytes) => bytes.length + 1
  | .lit _ => 1
  | .nil => 1
  | .ptr d => uptoBulk d + 1
  | .slice elems spare => uptoBulkAll elems + uptoBulkAll spare + 1
  | .agg parts => uptoBulkAll parts + 1
  | .iface _ d => uptoBulk d + 1
  | .map entries => uptoBulkEntries entries + 1
  | .held _ => 1
def uptoBulkAll {H : Type} : List (DataW H) → Nat
  | [] => 0
  | d :: r => uptoBulk d + uptoBulkAll r
def uptoBulkEntries {H : Type} : List (Lit × DataW H) → Nat
  | [] => 0
  | x :: r => uptoBulkEntry x + uptoBulkEntries r
def uptoBulkEntry {H : Type} : Lit × DataW H → Nat
  | (.string bytes, d) => bytes.length + uptoBulk d + 1
  | (_, d) => uptoBulk d + 1
 end
def uptoSmall : (H : Type) → List (DataW H) → Bool := fun _ ds => decide (uptoBulkAll ds ≤ 1048576)
def OpenSpec.upto (s : _root_.Go.ChangeSpec) : _root_.Go.OpenSpec := { _root_.Go.OpenSpec.ofChange s with cond := some uptoSmall }

/-- 'primroselaw01.NatDivides', WHERE WHAT IT READS IS OF BULK AT MOST 1048576: true; the input reads as it did. -/
def natDividesUptoRow : OpenClaim := { program := "ytjnejhlnhapogaa", sum := "9243106d4b761f1f6c5513fb5da4076092aad83907e099a850577dcd20f17da9", func := "primrose/primroselaw01.NatDivides", spec := "natDivides", apart := false, narrowed := true }
def NatDividesUptoSaid : Prop := natDividesUptoRow.holds Try.pinned (OpenSpec.upto natDividesSpec)

/-- 'primroselaw01.NatTexts', WHERE WHAT IT READS IS OF BULK AT MOST 1048576: true; the input reads as it did. -/
def natTextsUptoRow : OpenClaim := { program := "ytjnejhlnhapogaa", sum := "9243106d4b761f1f6c5513fb5da4076092aad83907e099a850577dcd20f17da9", func := "primrose/primroselaw01.NatTexts", spec := "natTexts", apart := false, narrowed := true }
def NatTextsUptoSaid : Prop := natTextsUptoRow.holds Try.pinned (OpenSpec.upto natTextsSpec)

/-- 'primroselaw01.NatPlains', WHERE WHAT IT READS IS OF BULK AT MOST 1048576: true; the input reads as it did. -/
def natPlainsUptoRow : OpenClaim := { program := "ytjnejhlnhapogaa", sum := "9243106d4b761f1f6c5513fb5da4076092aad83907e099a850577dcd20f17da9", func := "primrose/primroselaw01.NatPlains", spec := "natPlains", apart := false, narrowed := true }
def NatPlainsUptoSaid : Prop := natPlainsUptoRow.holds Try.pinned (OpenSpec.upto natPlainsSpec)

/-- 'primroselaw01.NatGcds', WHERE WHAT IT READS IS OF BULK AT MOST 1048576: true; the input reads as it did. -/
def natGcdsUptoRow : OpenClaim := { program := "ytjnejhlnhapogaa", sum := "9243106d4b761f1f6c5513fb5da4076092aad83907e099a850577dcd20f17da9", func := "primrose/primroselaw01.NatGcds", spec := "natGcds", apart := false, narrowed := true }
def NatGcdsUptoSaid : Prop := natGcdsUptoRow.holds Try.pinned (OpenSpec.upto natGcdsSpec)

/-- 'primroselaw01.NatMuls', WHERE WHAT IT READS IS OF BULK AT MOST 1048576: true; the input reads as it did. -/
def natMulsUptoRow : OpenClaim := { program := "ytjnejhlnhapogaa", sum := "9243106d4b761f1f6c5513fb5da4076092aad83907e099a850577dcd20f17da9", func := "primrose/primroselaw01.NatMuls", spec := "natMuls", apart := false, narrowed := true }
def NatMulsUptoSaid : Prop := natMulsUptoRow.holds Try.pinned (OpenSpec.upto natMulsSpec)

/-- 'primroselaw01.NatShifts', WHERE WHAT IT READS IS OF BULK AT MOST 1048576: true; the input reads as it did. -/
def natShiftsUptoRow : OpenClaim := { program := "ytjnejhlnhapogaa", sum := "9243106d4b761f1f6c5513fb5da4076092aad83907e099a850577dcd20f17da9", func := "primrose/primroselaw01.NatShifts", spec := "natShifts", apart := false, narrowed := true }
def NatShiftsUptoSaid : Prop := natShiftsUptoRow.holds Try.pinned (OpenSpec.upto natShiftsSpec)

/-- 'primroselaw01.NatInts', WHERE WHAT IT READS IS OF BULK AT MOST 1048576: true; the input reads as it did. -/
def natIntsUptoRow : OpenClaim := { program := "ytjnejhlnhapogaa", sum := "9243106d4b761f1f6c5513fb5da4076092aad83907e099a850577dcd20f17da9", func := "primrose/primroselaw01.NatInts", spec := "natInts", apart := false, narrowed := true }
def NatIntsUptoSaid : Prop := natIntsUptoRow.holds Try.pinned (OpenSpec.upto natIntsSpec)

/-- 'primroselaw01.NatParses', WHERE WHAT IT READS IS OF BULK AT MOST 1048576: true; the input reads as it did. -/
def natParsesUptoRow : OpenClaim := { program := "ytjnejhlnhapogaa", sum := "9243106d4b761f1f6c5513fb5da4076092aad83907e099a850577dcd20f17da9", func := "primrose/primroselaw01.NatParses", spec := "natParses", apart := false, narrowed := true }
def NatParsesUptoSaid : Prop := natParsesUptoRow.holds Try.pinned (OpenSpec.upto natParsesSpec)

/-- 'primroselaw01.NatBack', WHERE WHAT IT READS IS OF BULK AT MOST 1048576: true; the input reads as it did. -/
def natBackUptoRow : OpenClaim := { program := "ytjnejhlnhapogaa", sum := "9243106d4b761f1f6c5513fb5da4076092aad83907e099a850577dcd20f17da9", func := "primrose/primroselaw01.NatBack", spec := "natBack", apart := false, narrowed := true }
def NatBackUptoSaid : Prop := natBackUptoRow.holds Try.pinned (OpenSpec.upto natBackSpec)

/-- 'primroselaw01.NatShares', WHERE WHAT IT READS IS OF BULK AT MOST 1048576: true; the input reads as it did. -/
def natSharesUptoRow : OpenClaim := { program := "ytjnejhlnhapogaa", sum := "9243106d4b761f1f6c5513fb5da4076092aad83907e099a850577dcd20f17da9", func := "primrose/primroselaw01.NatShares", spec := "natShares", apart := false, narrowed := true }
def NatSharesUptoSaid : Prop := natSharesUptoRow.holds Try.pinned (OpenSpec.upto natSharesSpec)

/-- 'primroselaw01.NatOrders', WHERE WHAT IT READS IS OF BULK AT MOST 1048576: true; the input reads as it did. -/
def natOrdersUptoRow : OpenClaim := { program := "ytjnejhlnhapogaa", sum := "9243106d4b761f1f6c5513fb5da4076092aad83907e099a850577dcd20f17da9", func := "primrose/primroselaw01.NatOrders", spec := "natOrders", apart := false, narrowed := true }
def NatOrdersUptoSaid : Prop := natOrdersUptoRow.holds Try.pinned (OpenSpec.upto natOrdersSpec)

/-- 'primroselaw01.NatAdds', WHERE WHAT IT READS IS OF BULK AT MOST 1048576: true; the input reads as it did. -/
def natAddsUptoRow : OpenClaim := { program := "ytjnejhlnhapogaa", sum := "9243106d4b761f1f6c5513fb5da4076092aad83907e099a850577dcd20f17da9", func := "primrose/primroselaw01.NatAdds", spec := "natAdds", apart := false, narrowed := true }
def NatAddsUptoSaid : Prop := natAddsUptoRow.holds Try.pinned (OpenSpec.upto natAddsSpec)

/-- 'primroselaw01.NatTakes', WHERE WHAT IT READS IS OF BULK AT MOST 1048576: true; the input reads as it did. -/
def natTakesUptoRow : OpenClaim := { program := "ytjnejhlnhapogaa", sum := "9243106d4b761f1f6c5513fb5da4076092aad83907e099a850577dcd20f17da9", func := "primrose/primroselaw01.NatTakes", spec := "natTakes", apart := false, narrowed := true }
def NatTakesUptoSaid : Prop := natTakesUptoRow.holds Try.pinned (OpenSpec.upto natTakesSpec)

/-- 'primroselaw01.NatRests', WHERE WHAT IT READS IS OF BULK AT MOST 1048576: true; the input reads as it did. -/
def natRestsUptoRow : OpenClaim := { program := "ytjnejhlnhapogaa", sum := "9243106d4b761f1f6c5513fb5da4076092aad83907e099a850577dcd20f17da9", func := "primrose/primroselaw01.NatRests", spec := "natRests", apart := false, narrowed := true }
def NatRestsUptoSaid : Prop := natRestsUptoRow.holds Try.pinned (OpenSpec.upto natRestsSpec)

/-- 'primroselaw01.NatHalves', WHERE WHAT IT READS IS OF BULK AT MOST 1048576: true; the input reads as it did. -/
def natHalvesUptoRow : OpenClaim := { program := "ytjnejhlnhapogaa", sum := "9243106d4b761f1f6c5513fb5da4076092aad83907e099a850577dcd20f17da9", func := "primrose/primroselaw01.NatHalves", spec := "natHalves", apart := false, narrowed := true }
def NatHalvesUptoSaid : Prop := natHalvesUptoRow.holds Try.pinned (OpenSpec.upto natHalvesSpec)

end Rows
end Go.Proofs.Ytjnejhlnhapogaa
